/-
  Contracts and lemmas, joined in one text.
-/
import Derived.Test.YthnilcgmljecdaaDoorCA
import Derived.Test.YthnilcgmljecdaaDoorCB
import Derived.Test.YthnilcgmljecdaaDoorB2
set_option linter.unusedVariables false
set_option linter.unusedSimpArgs false
/-
  A map from words to integers whose values matter only as to whether they are positive; the first part of a slice.
-/
set_option maxRecDepth 100000
set_option maxHeartbeats 16000000
namespace Go.Proofs.YthnilcgmljecdaaDoor
open Go.RowKit
def Res.mv (P:Program) (k e:TypeId) (g:Nat) (L:List Nat):Res where
 own:=true
 arg:=false
 foot j:=j = g
 holds w := ∃ D:DataW Unit,w.ownsMap P k (plainElem P e) g L.length D ∧ ∀ p:Nat,p < 4294967296 → ∃ c:Int,D.atKey (.int .u32 (p:Int)) (.lit (.int .i64 0)) = .lit (.int .i64 c) ∧ decide (c > 0) = decide (p ∈ L)
 lt w h j hj:=by
  obtain ⟨D,h,_⟩:=h
  subst hj
  exact h.lt
 stays w w' he h:=by
  obtain ⟨D,⟨es,clock,hb,r⟩,h2⟩:=h
  exact ⟨D,⟨es,clock,(he g rfl).trans hb,r⟩,h2⟩
section
variable {P:Program} {n d:Nat} {f:Nat → Value} {w0 w:World} {R:List Res} {o:Oper} {K:Act → World → Prop} {Q:Exit → Act → World → Prop} {t k e:TypeId} {g:Nat} {L:List Nat}
theorem omakeMapV (hS:Sep w0 R w) (hop:o.op = .makeMap t none) (ho:o.dst = some d)
  (hK:∀ g w',Sep w0 (.mv P k e g [] :: R) w' → K (act n (upd f d (.map (some g)))) w'):OW P o (act n f) w K Q:=by
 refine ⟨?_⟩
 have h1:(Res.mv P k e w.heap.size []).holds (w.alloc (.map #[] 0)):=⟨.map [],World.ownsMap_made w P k _,fun p _ => ⟨0,rfl,by simp⟩⟩
 have:=hK _ _ (hS.add ((Below.refl _ _).alloc (Nat.le_refl _) _) _ h1 (fun g hg => by have hg':g = w.heap.size:=hg; omega))
 unfold Oper.wp
 simp only [execOp,hop,Option.map_none]
 rw [Sem.run_bind,run_makeMap,Result.andThen_ok,Sem.run_pure,Oper.upon_value,ho,act_put]
 exact this
theorem olookupV {x y:Operand} {p:Nat} (hS:Sep w0 R w) (i:Nat) (hop:o.op = .lookup t x y false) (ho:o.dst = some d) (ht:P.underlying t = some (.map k e)) (hk:P.underlying k = some (.int .u32)) (he:P.underlying e = some (.int .i64))
  (hz:∀ w,(zeroValue e).run P w = .ok (.int .i64 0) w) (hx:(act n f).eval x = .map (some g)) (hy:(act n f).eval y = .int .u32 (p:Int)) (hp:p < 4294967296) (hi:R[i]? = some (.mv P k e g L))
  (hK:∀ c:Int,decide (c > 0) = decide (p ∈ L) → K (act n (upd f d (.int .i64 c))) w):OW P o (act n f) w K Q:=by
 obtain ⟨D,hD,hL⟩:=(hS.get i hi:(Res.mv P k e g L).holds w)
 obtain ⟨c,hrun,hat,_⟩:=hD.lookup_int (Maps.int_keyed hk) ht he (hz w) (Maps.keyOf_int_mk hk (wf_u32 hp))
 obtain ⟨c2,h2,h3⟩:=hL p hp
 obtain rfl:c2 = c:=by
  have h4:=h2.symm.trans hat
  injection h4 with h5
  injection h5
 refine ⟨?_⟩
 have:=hK c2 h3
 unfold Oper.wp
 simp only [execOp,hop,hx,hy]
 rw [Sem.run_bind,hrun,Result.andThen_ok,Sem.run_pure,Oper.upon_value,ho,act_put]
 exact this
theorem omapUpdateV {x y z:Operand} {p c:Nat} (hS:Sep w0 R w) (i:Nat) (hop:o.op = .mapUpdate t x y z) (ho:o.dst = none) (ht:P.underlying t = some (.map k e)) (hk:P.underlying k = some (.int .u32)) (he:P.underlying e = some (.int .i64))
  (hx:(act n f).eval x = .map (some g)) (hy:(act n f).eval y = .int .u32 (p:Int)) (hzv:(act n f).eval z = .int .i64 (c:Int)) (hp:p < 4294967296) (hc0:0 < c) (hc:c < 9223372036854775808) (hl:L.length < maxLen) (hi:R[i]? = some (.mv P k e g L))
  (hK:∀ w',Sep w0 (R.set i (.mv P k e g (L ++ [p]))) w' → K (act n f) w'):OW P o (act n f) w K Q:=by
 obtain ⟨D,hD,hL⟩:=(hS.get i hi:(Res.mv P k e g L).holds w)
 have hkey:keyOf P k (.int .u32 (p:Int)) = some (.int .u32 (p:Int)):=Maps.keyOf_int_mk hk (wf_u32 hp)
 have hcw:(Lit.int .i64 (c:Int)).wf = true:=by
  refine wf_int ?_ ?_
  ·show (-9223372036854775808:Int) ≤ _; omega
  ·show _ ≤ (9223372036854775807:Int); omega
 obtain ⟨w',hrun,hD',es,clock,es',clock',hb,hw'⟩:=hD.store (Maps.int_keyed hk) ht hl hkey (plainElem_int he hcw)
 have hh:(Res.mv P k e g (L ++ [p])).holds w':=⟨_,hD'.mono (by simp),fun q hq => by
  by_cases e':q = p
  ·subst e'
   exact ⟨(c:Int),Maps.atKey_put_same hD.isMap ((Maps.int_keyed hk).key hkey) _ _,by rw [decide_eq_true (by omega),decide_eq_true (by simp)]⟩
  ·obtain ⟨c2,h2,h3⟩:=hL q hq
   exact ⟨c2,(Maps.atKey_put_other (lit_ne e') _ _).trans h2,by rw [h3]; simp [e']⟩⟩
 have:=hK _ (hS.change i hi rfl rfl (fun _ h => h) (by
  rw [hw']
  exact ⟨rfl,rfl,rfl,by simp [ChangeMaps.setBlock],fun j hj => ChangeMaps.heap_setBlock_other hb _ (fun e => hj e)⟩) hh)
 refine ⟨?_⟩
 unfold Oper.wp
 simp only [execOp,hop,hx,hy,hzv]
 rw [Sem.run_bind,hrun,Result.andThen_ok,Sem.run_pure,Oper.upon_skip,ho]
 exact this
end
end Go.Proofs.YthnilcgmljecdaaDoor
/-
  bound's Enough and the document's.
-/
namespace Go.Proofs.YthnilcgmljecdaaDoor
open Go.RowKit
open Classical in
noncomputable def ef:List Nat → List Nat → Int
  | _,[] => 0
  | pre,x :: r => if MR.Pr x then (if x ∈ pre then 60 else ef (pre ++ [x]) r) else 40
theorem ef_at {xs:List Nat} {i:Nat} (h:i < xs.length) {e:Int} (he:ef [] xs = ef (xs.take i) (xs.drop i)) (h2:ef (xs.take i) (nd xs i :: xs.drop (i + 1)) = e):ef [] xs = e:=by
  rw [he,List.drop_eq_getElem_cons h, ← nd_get h,h2]
theorem ef_np {xs:List Nat} {i:Nat} (h:i < xs.length) (he:ef [] xs = ef (xs.take i) (xs.drop i)) (hp:¬ MR.Pr (nd xs i)):ef [] xs = 40:=ef_at h he (by rw [ef,if_neg hp])
theorem ef_tw {xs:List Nat} {i:Nat} (h:i < xs.length) (he:ef [] xs = ef (xs.take i) (xs.drop i)) (hp:MR.Pr (nd xs i)) (hm:nd xs i ∈ xs.take i):ef [] xs = 60:=ef_at h he (by rw [ef,if_pos hp,if_pos hm])
theorem take_snoc {xs:List Nat} {i:Nat} (h:i < xs.length):xs.take (i + 1) = xs.take i ++ [nd xs i]:=by
  rw [List.take_add_one,List.getElem?_eq_getElem h,nd_get h]; rfl
theorem ef_nx {xs:List Nat} {i:Nat} (h:i < xs.length) (he:ef [] xs = ef (xs.take i) (xs.drop i)) (hp:MR.Pr (nd xs i)) (hm:nd xs i ∉ xs.take i):ef [] xs = ef (xs.take (i + 1)) (xs.drop (i + 1)):=ef_at h he (by rw [ef,if_pos hp,if_neg hm,take_snoc h])
theorem ef_end {xs:List Nat} {i:Nat} (h:i = xs.length) (he:ef [] xs = ef (xs.take i) (xs.drop i)):ef [] xs = 0:=by
  rw [he,h,List.drop_length,ef]
def pdn (xs:List Nat):Nat:=xs.foldl (· * ·) 1
theorem pdn_snoc (xs:List Nat) (x:Nat):pdn (xs ++ [x]) = pdn xs * x:=by unfold pdn; rw [List.foldl_append]; rfl
theorem pdn_next {xs:List Nat} {i:Nat} (h:i < xs.length):pdn (xs.take (i + 1)) = pdn (xs.take i) * nd xs i:=by rw [take_snoc h,pdn_snoc]
theorem pdn_le {xs:List Nat} (hx:∀ i,nd xs i < 4294967296):∀ i,i ≤ xs.length → pdn (xs.take i) ≤ 4294967296 ^ i
 | 0,_ => Nat.le_refl 1
 | i + 1,h => by
  rw [pdn_next (by omega),Nat.pow_succ]
  exact Nat.mul_le_mul (pdn_le hx i (by omega)) (Nat.le_of_lt (hx i))
theorem pdn_ll {xs:List Nat} (hx:∀ i,nd xs i < 4294967296) {i:Nat} (h:i ≤ xs.length) (h2:xs.length ≤ 1048576):ll (pdn (xs.take i)) ≤ 1048577:=by
  have h3:ll (pdn (xs.take i)) ≤ i + 1:=ll_le (Nat.lt_of_le_of_lt (pdn_le hx i h) (Nat.pow_lt_pow_right (by decide) (by omega)))
  omega
def lp (xs:List Nat):Nat → Nat
  | 0 => 0
  | i + 1 => pdn (xs.take i)
theorem lp_ll {xs:List Nat} (hx:∀ i,nd xs i < 4294967296) {i:Nat} (h:i ≤ xs.length) (h2:xs.length ≤ 1048576):ll (lp xs i) ≤ 1048577:=by
  cases i with
  | zero => have:=pdn_ll hx (i:=0) (by omega) h2; exact Nat.le_trans (ll_le (k:=0) (by show (0:Nat) < 4294967296 ^ 0; decide)) (by omega)
  | succ i => exact pdn_ll hx (by omega) h2
noncomputable def enX (z:Int) (xs:List Nat):Bool:=decide (0 ≤ z) && (decide (ef [] xs = 0) && decide (z + z < (pdn xs:Int)))
noncomputable def enY (z:Int) (xs:List Nat):Bool:=decide (0 ≤ z) && (decide (ef [] xs = 0) && decide ((lp xs xs.length:Int) ≤ z + z))
noncomputable def enE (z:Int) (xs:List Nat):Int:=if z < 0 then 1 else ef [] xs
noncomputable def enV (z:Int) (xs:List Nat):Value:=.tuple #[.bool (enX z xs),.bool (enY z xs),.int .i64 (enE z xs)]
theorem enV_neg {z:Int} {xs:List Nat} (h:z < 0):Value.tuple #[.bool false,.bool false,.int .i64 1] = enV z xs:=by
  unfold enV enX enY enE; rw [if_pos h,decide_eq_false (show ¬ 0 ≤ z by omega)]; rfl
theorem enV_err {z:Int} {xs:List Nat} {e:Int} (h:¬ z < 0) (he:ef [] xs = e) (h0:e ≠ 0):Value.tuple #[.bool false,.bool false,.int .i64 e] = enV z xs:=by
  unfold enV enX enY enE; rw [if_neg h,he,decide_eq_false h0]; simp
theorem enV_ok {z:Int} {xs:List Nat} (h:¬ z < 0) (he:ef [] xs = 0):Value.tuple #[.bool (enX z xs),.bool (enY z xs),.int .i64 0] = enV z xs:=by
  unfold enV enE; rw [if_neg h,he]
theorem enX_ok {z:Int} {xs:List Nat} (h:¬ z < 0) (he:ef [] xs = 0):decide (z + z < (pdn xs:Int)) = enX z xs:=by
  unfold enX; rw [he,decide_eq_true (show 0 ≤ z by omega)]; simp
theorem enY_ok {z:Int} {xs:List Nat} (h:¬ z < 0) (he:ef [] xs = 0):decide ((lp xs xs.length:Int) ≤ z + z) = enY z xs:=by
  unfold enY; rw [he,decide_eq_true (show 0 ≤ z by omega)]; simp
theorem cmpZ_gtD {a b s:Int} (h:Hid (cmpZ a b = s)):decide (s > 0) = decide (b < a):=by
  have h1:=h.out
  rw [cmpZ_sign] at h1
  by_cases h2:b < a
  · rw [Int.sign_eq_one_of_pos (by omega)] at h1; rw [decide_eq_true h2,decide_eq_true (by omega)]
  · have:=sign_cases (a - b); rw [decide_eq_false h2,decide_eq_false (by omega)]
theorem cmpZ_leD {a b s:Int} (h:Hid (cmpZ a b = s)):decide (s ≤ 0) = decide (a ≤ b):=by
  have h1:=cmpZ_gtD h
  by_cases h2:b < a
  · rw [decide_eq_true h2] at h1; have:=of_decide_eq_true h1; rw [decide_eq_false (by omega),decide_eq_false (by omega)]
  · rw [decide_eq_false h2] at h1; have:=of_decide_eq_false h1; rw [decide_eq_true (by omega),decide_eq_true (by omega)]
theorem cmpN_gtD {a b:Nat} {s:Int} (h:Hid (cmpN a b = s)):decide (s > 0) = decide (b < a):=by
  rw [← h.out]
  by_cases h2:b < a
  · have:=cmpN_above h2; rw [decide_eq_true h2,decide_eq_true (by omega)]
  · have:=cmpN_not_above (show a ≤ b by omega); rw [decide_eq_false h2,decide_eq_false (by omega)]
theorem cmpN_leD {a b:Nat} {s:Int} (h:Hid (cmpN a b = s)):decide (s ≤ 0) = decide (a ≤ b):=by
  have h1:=cmpN_gtD h
  by_cases h2:b < a
  · rw [decide_eq_true h2] at h1; have:=of_decide_eq_true h1; rw [decide_eq_false (by omega),decide_eq_false (by omega)]
  · rw [decide_eq_false h2] at h1; have:=of_decide_eq_false h1; rw [decide_eq_true (by omega),decide_eq_true (by omega)]
theorem sign_neg {z s:Int} (h:Hid (z.sign = s)):s < 0 ↔ z < 0:=by
  rw [← h.out]
  have h1:=sign_cases z
  constructor
  · intro h2; omega
  · intro h2; rw [Int.sign_eq_neg_one_of_neg h2]; decide
theorem wbenough {b0:Bool} {pb pp:Option Addr} {nb cb np cp:Nat} {z0:Int} {xs:List Nat} {w:World} (ht:Tb w) (hb:Zr w b0 pb nb cb z0 1048580) (hx:Sl w pp np cp xs) (hn:np ≤ 1048576) :
  Calls Tryd.prog 20 #[.agg #[.bool b0,.slice pb nb cb],.slice pp np cp] w (Ret (Is (enV z0 xs)) w):=by
 have hlen:=hx.len
 have hlt32:=hx.lim1
 have hS:=Sep.init w
 refine went Tryd.func20 rfl (n:=55) rfl rfl ?_
 refine wseq (wreg (wl rfl (obox [.bool b0,.slice pb nb cb] hS rfl rfl (ev (v:=.agg #[.bool b0,.slice pb nb cb]) rfl rfl) rfl ?_)))
 clear hS; intro g1 w2 hS
 refine wl rfl (oassign (v:=.bool false) rfl rfl evc ?_)
 refine wl rfl (oassign (v:=.bool false) rfl rfl evc ?_)
 refine wl rfl (oassign (v:=.int .i64 0) rfl rfl evc ?_)
 refine wnil (thenN (wseq (wseq (wreg (wl rfl (oload (vs:=[.bool b0,.slice pb nb cb]) aggZ hS 0 rfl rfl (ev rfl rfl) rfl rfl rfl ?_))))))
 obtain ⟨s1,hs1⟩:∃ z:Int,Hid ((z0:Int).sign = z):=⟨_,rfl⟩
 refine wl rfl (ocall rfl rfl Tryd.call37 rfl (wzsign ((hb.at hS).mono (by omega)) hs1) (args1 (ev rfl rfl)) ?_)
 rintro _ w3 ⟨_,_,rfl,⟨rfl,rfl⟩,hN⟩
 refine ⟨_,rfl,?_⟩
 replace hS:=hS.news hN; clear hN
 by_cases hneg:z0 < 0
 ·
  refine wl rfl (obin (u:=.int .i64 s1) (v:=.int .i64 0) (z:=.bool true) rfl rfl (ev rfl rfl) evc (bin_lss (decide_eq_true ((sign_neg hs1).2 hneg))) ?_)
  refine wnil (thenN ?_)
  refine wT (ev rfl rfl) ?_
  refine wseq (wreg (wl rfl (oassign (v:=.bool false) rfl rfl evc ?_)))
  refine wl rfl (oassign (v:=.bool false) rfl rfl evc ?_)
  refine wl rfl (oassign (v:=.int .i64 1) rfl rfl evc ?_)
  refine wnil (thenN ?_)
  refine wleave ?_
  refine thenR ?_
  refine wret3 Tryd.results20 (tellT (v:=.bool false) rfl rfl) (tellT (v:=.bool false) rfl rfl) (tellT (v:=.int .i64 1) rfl rfl) ?_
  exact ⟨_,_,rfl,⟨enV_neg hneg,rfl⟩,hS.new0⟩
 ·
  refine wl rfl (obin (u:=.int .i64 s1) (v:=.int .i64 0) (z:=.bool false) rfl rfl (ev rfl rfl) evc (bin_lss (decide_eq_false (fun h => hneg ((sign_neg hs1).1 h)))) ?_)
  refine wnil (thenN ?_)
  refine wF (ev rfl rfl) ?_
  refine wskip (thenN (wseq (wreg (wl rfl (omakeMapV (P:=Tryd.prog) (k:=34) (e:=3) hS rfl rfl ?_)))))
  clear hS; intro g4 w5 hS
  refine wl rfl (oassign (v:=.map (some g4)) rfl rfl (ev rfl rfl) ?_)
  refine wnil (thenN (wseq (wreg ?_)))
  have hk2:Wd 1 2:=Wd.i64 (by omega) (by omega)
  refine wl rfl (ocall rfl rfl Tryd.call40 rfl (wzof (z:=1) (by omega) (by omega)) (args1 evc) ?_)
  rintro _ w6 ⟨_,_,rfl,⟨p2,n2,c2,rfl,rfl⟩,hN⟩
  refine ⟨_,rfl,?_⟩
  replace hS:=hS.news hN; clear hN
  have hk3:Wd 0 2:=Wd.i64 (by omega) (by omega)
  refine wl rfl (ocall rfl rfl Tryd.call40 rfl (wzof (z:=0) (by omega) (by omega)) (args1 evc) ?_)
  rintro _ w7 ⟨_,_,rfl,⟨p3,n3,c3,rfl,rfl⟩,hN⟩
  refine ⟨_,rfl,?_⟩
  replace hS:=hS.news hN; clear hN
  refine wl rfl (oalloc [.bool false,.slice none 0 0] hS rfl rfl Tryd.zeroValue28 rfl ?_)
  clear hS; intro g8 w9 hS
  refine wl rfl (oalloc [.bool false,.slice none 0 0] hS rfl rfl Tryd.zeroValue28 rfl ?_)
  clear hS; intro g10 w11 hS
  refine wl rfl (ostore [.bool (ng 1),.slice p2 n2 c2] [.bool (ng 1),.slice p2 n2 c2] Tryd.sizeOf28 hS 1 rfl rfl (ev rfl rfl) (ev (v:=.agg #[.bool (ng 1),.slice p2 n2 c2]) rfl rfl) rfl rfl rfl rfl rfl rfl ?_)
  clear hS; intro w12 hS
  refine wl rfl (ostore [.bool (ng 0),.slice p3 n3 c3] [.bool (ng 0),.slice p3 n3 c3] Tryd.sizeOf28 hS 0 rfl rfl (ev rfl rfl) (ev (v:=.agg #[.bool (ng 0),.slice p3 n3 c3]) rfl rfl) rfl rfl rfl rfl rfl rfl ?_)
  clear hS; intro w13 hS
  refine wnil (thenN (wseq (wseq (wreg (wl rfl (omove (v:=.slice pp np cp) rfl rfl (ev rfl rfl) ?_))))))
  refine wl rfl (olen rfl rfl rfl Tryd.runUnderlying25 (p:=pp) (k:=np) (m:=cp) (ev rfl rfl) ?_)
  refine wl rfl (omove (v:=.int .i64 0) rfl rfl evc ?_)
  refine wnil (thenN (wblock ?_))
  refine wloop (σ := Nat) (fun i a9 w' => ∃ (fb:Nat → Value) (pza:Option Addr) (nza:Nat) (cza:Nat) (pla:Option Addr) (nla:Nat) (cla:Nat),a9 = act 55 (sets fb [(2,.pointer (some ⟨g1,0,none⟩)),(7,.map (some g4)),(8,.pointer (some ⟨g8,0,none⟩)),(9,.pointer (some ⟨g10,0,none⟩)),(19,.slice pp np cp),(20,.int .i64 (np:Int)),(21,.int .i64 (i:Int))]) ∧ Sep w [.blk g10 [.bool (ng (((lp xs i:Nat):Int))),.slice pla nla cla] 28,.blk g8 [.bool (ng (((pdn (xs.take i):Nat):Int))),.slice pza nza cza] 28,.row pla nla cla (lim (((lp xs i:Nat):Int)).natAbs),.row pza nza cza (lim (((pdn (xs.take i):Nat):Int)).natAbs),.mv Tryd.prog 34 3 g4 (xs.take i),.blk g1 [.bool b0,.slice pb nb cb] 28] w' ∧ (i ≤ np) ∧ (ef [] xs = ef (xs.take i) (xs.drop i)) ∧ (Wd (((pdn (xs.take i):Nat):Int)) 1048580) ∧ (Wd (((lp xs i:Nat):Int)) 1048580)) (fun i => np - i) (0) ⟨_,_,_,_,_,_,_,act_sets (l:=[(2,.pointer (some ⟨g1,0,none⟩)),(7,.map (some g4)),(8,.pointer (some ⟨g8,0,none⟩)),(9,.pointer (some ⟨g10,0,none⟩)),(19,.slice pp np cp),(20,.int .i64 (np:Int)),(21,.int .i64 0)]) ⟨rfl,rfl,rfl,rfl,rfl,rfl,rfl,trivial⟩,hS,Nat.zero_le _,rfl,(hk2).mono (by omega),(hk3).mono (by omega)⟩ ?_
  clear hS; rintro i _ w14 ⟨fb,pza,nza,cza,pla,nla,cla,rfl,hS,hi,hef,hkza,hkla⟩
  refine wseq (wreg ?_)
  by_cases hlt:i < np
  ·
   obtain ⟨bca,oca,hpca,hcca⟩:=hx.el (show i < np by omega)
   have hlq:=hx.lim1 i
   refine wl rfl (obin (u:=.int .i64 (i:Int)) (v:=.int .i64 (np:Int)) (z:=.bool true) rfl rfl (ev rfl rfl) (ev rfl rfl) (bin_lss (decide_eq_true (by omega))) ?_)
   refine wnil (thenN (wseq ?_))
   refine wT (ev rfl rfl) ?_
   refine wskip (thenN (wseq (wblock (wseq (wreg (wl rfl (omove (v:=.int .i64 (i:Int)) rfl rfl (ev rfl rfl) ?_)))))))
   refine wl rfl (oindex (p:=pp) (g:=bca) (off:=oca) (m:=np) (k:=i) (j:=(oca + i * 1)) rfl rfl Tryd.runUnderlying25 Tryd.sizeOf34 (ev rfl rfl) (hpca) (ev rfl rfl) (by omega) rfl ?_)
   refine wl rfl (oloadc (v:=.int .u32 (((nd xs i:Nat):Int))) one32 rfl rfl (ev (v:=.pointer (some ⟨bca,(oca + i * 1),none⟩)) rfl rfl) (hS.cellAt (hcca 0 _ rfl)) ?_)
   refine wl rfl (oassign (v:=.int .i64 (i:Int)) rfl rfl (ev rfl rfl) ?_)
   refine wl rfl (oassign (v:=.int .u32 (((nd xs i:Nat):Int))) rfl rfl (ev rfl rfl) ?_)
   refine wnil (thenN (wseq (wseq (wreg (wl rfl (omove (v:=.int .u32 (((nd xs i:Nat):Int))) rfl rfl (ev rfl rfl) ?_))))))
   by_cases hpr:MR.Pr (nd xs i)
   ·
    refine wl rfl (ocall rfl rfl Tryd.call56 rfl (wpis (b:=true) (hx.lim1 i) (ht.at hS) ⟨fun _ => hpr,fun _ => rfl⟩) (args1 (ev rfl rfl)) ?_)
    rintro _ w15 ⟨_,_,rfl,⟨rfl,rfl⟩,hN⟩
    refine ⟨_,rfl,?_⟩
    replace hS:=hS.news hN; clear hN
    refine wl rfl (onot (b:=true) rfl rfl (ev rfl rfl) ?_)
    refine wnil (thenN ?_)
    refine wF (ev rfl rfl) ?_
    refine wskip (thenN (wseq (wseq (wreg (wl rfl (omove (v:=.map (some g4)) rfl rfl (ev rfl rfl) ?_))))))
    refine wl rfl (omove (v:=.int .u32 (((nd xs i:Nat):Int))) rfl rfl (ev rfl rfl) ?_)
    refine wl rfl (olookupV (p:=(nd xs i)) hS 4 rfl rfl Tryd.underlying80 Tryd.underlying34 Tryd.underlying3 Tryd.zeroValue3 (ev (v:=.map (some g4)) rfl rfl) (ev (v:=.int .u32 (((nd xs i:Nat):Int))) rfl rfl) (hx.lim1 i) rfl ?_)
    intro c16 hbc16
    by_cases hin:nd xs i ∈ xs.take i
    ·
     refine wl rfl (obin (u:=.int .i64 c16) (v:=.int .i64 0) (z:=.bool true) rfl rfl (ev rfl rfl) evc (bin_gtr (hbc16.trans (decide_eq_true hin))) ?_)
     refine wnil (thenN ?_)
     refine wT (ev rfl rfl) ?_
     refine wseq (wreg (wl rfl (oassign (v:=.bool false) rfl rfl evc ?_)))
     refine wl rfl (oassign (v:=.bool false) rfl rfl evc ?_)
     refine wl rfl (oassign (v:=.int .i64 60) rfl rfl evc ?_)
     refine wnil (thenN ?_)
     refine wleave ?_
     refine thenR ?_
     refine blkR ?_
     refine thenR ?_
     refine thenR ?_
     refine blkR ?_
     refine thenR ?_
     refine wret3 Tryd.results20 (tellT (v:=.bool false) rfl rfl) (tellT (v:=.bool false) rfl rfl) (tellT (v:=.int .i64 60) rfl rfl) ?_
     exact ⟨_,_,rfl,⟨enV_err hneg (ef_tw (by omega) hef hpr hin) (by decide),rfl⟩,hS.new0⟩
    ·
     refine wl rfl (obin (u:=.int .i64 c16) (v:=.int .i64 0) (z:=.bool false) rfl rfl (ev rfl rfl) evc (bin_gtr (hbc16.trans (decide_eq_false hin))) ?_)
     refine wnil (thenN ?_)
     refine wF (ev rfl rfl) ?_
     refine wskip (thenN (wseq (wreg (wl rfl (omove (v:=.map (some g4)) rfl rfl (ev rfl rfl) ?_)))))
     refine wl rfl (omove (v:=.int .u32 (((nd xs i:Nat):Int))) rfl rfl (ev rfl rfl) ?_)
     refine wl rfl (omove (v:=.int .i64 (i:Int)) rfl rfl (ev rfl rfl) ?_)
     refine wl rfl (obin (u:=.int .i64 (i:Int)) (v:=.int .i64 1) (z:=.int .i64 (((i + 1:Nat):Int))) rfl rfl (ev rfl rfl) evc (bin_add (wrap_i64 (by omega) (by omega))) ?_)
     refine wl rfl (omapUpdateV (p:=(nd xs i)) (c:=(i + 1)) hS 4 rfl rfl Tryd.underlying80 Tryd.underlying34 Tryd.underlying3 (ev (v:=.map (some g4)) rfl rfl) (ev (v:=.int .u32 (((nd xs i:Nat):Int))) rfl rfl) (ev (v:=.int .i64 (((i + 1:Nat):Int))) rfl rfl) (hx.lim1 i) (by omega) (by omega) (by rw [List.length_take]; simp only [maxLen]; omega) rfl ?_)
     clear hS; intro w17 hS
     refine wnil (thenN (wseq (wreg (wl rfl (oload (vs:=[.bool (ng (((pdn (xs.take i):Nat):Int))),.slice pza nza cza]) aggZ hS 1 rfl rfl (ev rfl rfl) rfl rfl rfl ?_)))))
     refine wl rfl (ostore [.bool (ng (((pdn (xs.take i):Nat):Int))),.slice pza nza cza] [.bool (ng (((pdn (xs.take i):Nat):Int))),.slice pza nza cza] Tryd.sizeOf28 hS 0 rfl rfl (ev rfl rfl) (ev (v:=.agg #[.bool (ng (((pdn (xs.take i):Nat):Int))),.slice pza nza cza]) rfl rfl) rfl rfl rfl rfl rfl rfl ?_)
     clear hS; intro w18 hS
     refine wnil (thenN ?_)
     rw [← take_snoc (show i < xs.length by omega)] at hS
     have hk4:Wd (((nd xs i:Nat):Int)) 2:=Wd.i64 (by have:=hx.lim1 i; omega) (by have:=hx.lim1 i; omega)
     obtain ⟨z5,hz5⟩:∃ z:Int,Hid ((((pdn (xs.take i):Nat):Int)) * (((nd xs i:Nat):Int)) = z):=⟨_,rfl⟩
     have hk5:Wd z5 1048582:=Wd.mul hkza hk4 hz5 (by omega)
     refine wstage 5 [38,39,40,41,42] [[],[],[1],[2,1],[0,3,1,2]] [[],[],[],[],[]] [] [] (fun i9 => ([fun _ => Is (.agg #[.bool (ng (((pdn (xs.take i):Nat):Int))),.slice pza nza cza]),fun _ => Is (.int .u32 (((nd xs i:Nat):Int))),fun _ => Is (.int .i64 (((nd xs i:Nat):Int))),fun _ => Zt (((nd xs i:Nat):Int)),fun _ => Zt z5]:List (List Value → Tell)).getD i9 (fun _ _ _ => False)) (heldNil) (fun d _ _ _ _ h => (by cases d <;> exact h)) (by kernel_rfl) (by kernel_rfl) (by kernel_rfl) hS ?_ ?_
     ·
      refine stepsCons rfl (fun Q f' w' ρ S ho hT hS hB => ?_) ?_
      ·exact .inl ⟨want_none rfl,oload (vs:=[.bool (ng (((pdn (xs.take i):Nat):Int))),.slice pza nza cza]) aggZ hS 1 rfl rfl (ev rfl (ho 8 rfl)) rfl rfl rfl ⟨_,_,rfl,isI,New.same _⟩⟩
      refine stepsCons rfl (fun Q f' w' ρ S ho hT hS hB => ?_) ?_
      ·exact .inl ⟨want_none rfl,omove (v:=.int .u32 (((nd xs i:Nat):Int))) rfl rfl (ev rfl (ho 11 rfl)) ⟨_,_,rfl,isI,New.same _⟩⟩
      refine stepsCons rfl (fun Q f' w' ρ S ho hT hS hB => ?_) ?_
      ·obtain ⟨hv1,hr1⟩:=(hT 1 39 rfl rfl:(Is (.int .u32 (((nd xs i:Nat):Int)))) _ _)
       obtain hS:=hS.flat1 hr1
       exact .inl ⟨want_none rfl,oconvert (u:=.int .u32 (((nd xs i:Nat):Int))) (v:=.int .i64 (((nd xs i:Nat):Int))) rfl rfl (ev rfl hv1) (convert_int Tryd.runUnderlying34 Tryd.runUnderlying2 (wrap_i64 (by omega) (by omega))) ⟨_,_,rfl,isI,New.same _⟩⟩
      refine stepsCons rfl (fun Q f' w' ρ S ho hT hS hB => ?_) ?_
      ·obtain ⟨hv2,hr2⟩:=(hT 2 40 rfl rfl:(Is (.int .i64 (((nd xs i:Nat):Int)))) _ _)
       obtain hS:=hS.flat1 hr2
       exact .inl ⟨want_none rfl,ocall rfl rfl Tryd.call40 rfl (wzof (z:=((nd xs i:Nat):Int)) (by have:=hx.lim1 i; omega) (by have:=hx.lim1 i; omega)) (args1 (ev rfl hv2)) callN⟩
      refine stepsCons rfl (fun Q f' w' ρ S ho hT hS hB => ?_) ?_
      ·obtain ⟨hv0,hr0⟩:=(hT 0 38 rfl rfl:(Is (.agg #[.bool (ng (((pdn (xs.take i):Nat):Int))),.slice pza nza cza])) _ _)
       obtain ⟨p4,n4,c4,hv3,hr3⟩:=(hT 3 41 rfl rfl:(Zt (((nd xs i:Nat):Int))) _ _)
       obtain hS:=hS.flat2 hr0 hr3
       exact .inl ⟨want_none rfl,ocall rfl rfl Tryd.call44 rfl (wzmul (((hS.sl 3 rfl).zr hkza).mono (by omega)) (((hS.sl 6 rfl).zr hk4).mono (by omega)) hz5) (args2 (ev rfl hv0) (ev rfl hv3)) callN⟩
      exact stepsNil
     ·
      intro vs ρ w19 f' hf hT hS
      obtain ⟨hv0,hr0⟩:=(hT 0 (by decide):(Is (.agg #[.bool (ng (((pdn (xs.take i):Nat):Int))),.slice pza nza cza])) _ _)
      obtain ⟨hv1,hr1⟩:=(hT 1 (by decide):(Is (.int .u32 (((nd xs i:Nat):Int)))) _ _)
      obtain ⟨hv2,hr2⟩:=(hT 2 (by decide):(Is (.int .i64 (((nd xs i:Nat):Int)))) _ _)
      obtain ⟨p4,n4,c4,hv3,hr3⟩:=(hT 3 (by decide):(Zt (((nd xs i:Nat):Int))) _ _)
      obtain ⟨p5,n5,c5,hv4,hr4⟩:=(hT 4 (by decide):(Zt z5) _ _)
      simp only [pool,if_true,hr0,hr1,hr2,hr3,hr4,List.nil_append,List.cons_append,List.append_nil] at hS
      simp only [layf,hv0,hv1,hv2,hv3,hv4] at hf
      subst hf; clear hT hv0 hv1 hv2 hv3 hv4 hr0 hr1 hr2 hr3 hr4
      refine wlate 5 rfl (by kernel_rfl) (ostore [.bool (ng z5),.slice p5 n5 c5] [.bool (ng z5),.slice p5 n5 c5] Tryd.sizeOf28 hS 3 rfl rfl (ev rfl rfl) (ev (v:=.agg #[.bool (ng z5),.slice p5 n5 c5]) rfl rfl) rfl rfl rfl rfl rfl rfl ?_)
      clear hS; intro w20 hS
      refine ⟨heldNil,?_⟩
      refine wdone rfl ?_
      refine blkN (thenN (wreg ?_))
      obtain rfl:((pdn (xs.take (i + 1)):Nat):Int) = z5:=by rw [pdn_next (by omega),Int.natCast_mul]; exact hz5.out
      refine wl rfl (obin (u:=.int .i64 (i:Int)) (v:=.int .i64 1) (z:=.int .i64 (((i + 1:Nat):Int))) rfl rfl (ev rfl rfl) evc (bin_add (wrap_i64 (by omega) (by omega))) ?_)
      refine wl rfl (omove (v:=.int .i64 (((i + 1:Nat):Int))) rfl rfl (ev rfl rfl) ?_)
      refine wnil (thenN ?_)
      exact ⟨(i + 1),⟨_,_,_,_,_,_,_,act_sets (l:=[(2,.pointer (some ⟨g1,0,none⟩)),(7,.map (some g4)),(8,.pointer (some ⟨g8,0,none⟩)),(9,.pointer (some ⟨g10,0,none⟩)),(19,.slice pp np cp),(20,.int .i64 (np:Int)),(21,.int .i64 (((i + 1:Nat):Int)))]) ⟨rfl,rfl,rfl,rfl,rfl,rfl,rfl,trivial⟩,hS.pick [2,3,5,0,6,7] (by decide) rfl,by omega,ef_nx (by omega) hef hpr hin,Wd.ofN (Nat.le_trans (pdn_ll hlt32 (by omega) (by omega)) (by omega)),Wd.ofN (Nat.le_trans (lp_ll hlt32 (by omega) (by omega)) (by omega))⟩,by omega⟩
   ·
    refine wl rfl (ocall rfl rfl Tryd.call56 rfl (wpis (b:=false) (hx.lim1 i) (ht.at hS) ⟨(fun h => by cases h),(fun h => absurd h hpr)⟩) (args1 (ev rfl rfl)) ?_)
    rintro _ w15 ⟨_,_,rfl,⟨rfl,rfl⟩,hN⟩
    refine ⟨_,rfl,?_⟩
    replace hS:=hS.news hN; clear hN
    refine wl rfl (onot (b:=false) rfl rfl (ev rfl rfl) ?_)
    refine wnil (thenN ?_)
    refine wT (ev rfl rfl) ?_
    refine wseq (wreg (wl rfl (oassign (v:=.bool false) rfl rfl evc ?_)))
    refine wl rfl (oassign (v:=.bool false) rfl rfl evc ?_)
    refine wl rfl (oassign (v:=.int .i64 40) rfl rfl evc ?_)
    refine wnil (thenN ?_)
    refine wleave ?_
    refine thenR ?_
    refine blkR ?_
    refine thenR ?_
    refine thenR ?_
    refine blkR ?_
    refine thenR ?_
    refine wret3 Tryd.results20 (tellT (v:=.bool false) rfl rfl) (tellT (v:=.bool false) rfl rfl) (tellT (v:=.int .i64 40) rfl rfl) ?_
    exact ⟨_,_,rfl,⟨enV_err hneg (ef_np (by omega) hef hpr) (by decide),rfl⟩,hS.new0⟩
  ·
   refine wl rfl (obin (u:=.int .i64 (i:Int)) (v:=.int .i64 (np:Int)) (z:=.bool false) rfl rfl (ev rfl rfl) (ev rfl rfl) (bin_lss (decide_eq_false (by omega))) ?_)
   refine wnil (thenN (wseq ?_))
   refine wF (ev rfl rfl) ?_
   refine wexit ?_
   refine thenE ?_
   refine thenE ?_
   refine blkE ?_
   refine thenN (wseq (wreg (wl rfl (oload (vs:=[.bool b0,.slice pb nb cb]) aggZ hS 5 rfl rfl (ev rfl rfl) rfl rfl rfl ?_))))
   refine wl rfl (oload (vs:=[.bool b0,.slice pb nb cb]) aggZ hS 5 rfl rfl (ev rfl rfl) rfl rfl rfl ?_)
   obtain ⟨z4,hz4⟩:∃ z:Int,Hid (z0 + z0 = z):=⟨_,rfl⟩
   have hk4:Wd z4 1048581:=Wd.add hb.wd hb.wd hz4 (by omega)
   refine wl rfl (ocall rfl rfl Tryd.call38 rfl (wzadd ((hb.at hS).mono (by omega)) ((hb.at hS).mono (by omega)) hz4) (args2 (ev rfl rfl) (ev rfl rfl)) ?_)
   rintro _ w15 ⟨_,_,rfl,⟨p4,n4,c4,rfl,rfl⟩,hN⟩
   refine ⟨_,rfl,?_⟩
   replace hS:=hS.news hN; clear hN
   refine wl rfl (oalloc [.bool false,.slice none 0 0] hS rfl rfl Tryd.zeroValue28 rfl ?_)
   clear hS; intro g16 w17 hS
   refine wl rfl (ostore [.bool (ng z4),.slice p4 n4 c4] [.bool (ng z4),.slice p4 n4 c4] Tryd.sizeOf28 hS 0 rfl rfl (ev rfl rfl) (ev (v:=.agg #[.bool (ng z4),.slice p4 n4 c4]) rfl rfl) rfl rfl rfl rfl rfl rfl ?_)
   clear hS; intro w18 hS
   refine wnil (thenN (wseq ?_))
   obtain ⟨s5,hs5⟩:∃ z:Int,Hid (cmpZ (((pdn (xs.take i):Nat):Int)) z4 = z):=⟨_,rfl⟩
   have hef0:=ef_end (by omega) hef
   have htk:xs.take i = xs:=List.take_of_length_le (by omega)
   have hii:i = xs.length:=by omega
   obtain ⟨s6,hs6⟩:∃ z:Int,Hid (cmpZ (((lp xs i:Nat):Int)) z4 = z):=⟨_,rfl⟩
   refine wstage 11 [47,48,49,50,51,52,53,54,4,5,6] [[],[],[0,1],[2,0,1],[],[],[4,5,0,1,2],[6,0,1,2,4,5],[3,0,1,2,4,5,6],[7,0,1,2,3,4,5,6,8],[0,1,2,3,4,5,6,7,8,9]] [[],[],[],[],[],[],[],[],[],[],[]] [] [] (fun i9 => ([fun _ => Is (.agg #[.bool (ng (((pdn (xs.take i):Nat):Int))),.slice pza nza cza]),fun _ => Is (.agg #[.bool (ng z4),.slice p4 n4 c4]),fun _ => Is (.int .i64 s5),fun _ => Is (.bool (enX z0 xs)),fun _ => Is (.agg #[.bool (ng (((lp xs i:Nat):Int))),.slice pla nla cla]),fun _ => Is (.agg #[.bool (ng z4),.slice p4 n4 c4]),fun _ => Is (.int .i64 s6),fun _ => Is (.bool (enY z0 xs)),fun _ => Is (.bool (enX z0 xs)),fun _ => Is (.bool (enY z0 xs)),fun _ => Is (.int .i64 0)]:List (List Value → Tell)).getD i9 (fun _ _ _ => False)) (heldNil) (fun d _ _ _ _ h => (by cases d <;> exact h)) (by kernel_rfl) (by kernel_rfl) (by kernel_rfl) hS ?_ ?_
   ·
    refine stepsCons rfl (fun Q f' w' ρ S ho hT hS hB => ?_) ?_
    ·exact .inl ⟨want_none rfl,oload (vs:=[.bool (ng (((pdn (xs.take i):Nat):Int))),.slice pza nza cza]) aggZ hS 3 rfl rfl (ev rfl (ho 8 rfl)) rfl rfl rfl ⟨_,_,rfl,isI,New.same _⟩⟩
    refine stepsCons rfl (fun Q f' w' ρ S ho hT hS hB => ?_) ?_
    ·exact .inl ⟨want_none rfl,oload (vs:=[.bool (ng z4),.slice p4 n4 c4]) aggZ hS 0 rfl rfl (ev rfl (ho 12 rfl)) rfl rfl rfl ⟨_,_,rfl,isI,New.same _⟩⟩
    refine stepsCons rfl (fun Q f' w' ρ S ho hT hS hB => ?_) ?_
    ·obtain ⟨hv0,hr0⟩:=(hT 0 47 rfl rfl:(Is (.agg #[.bool (ng (((pdn (xs.take i):Nat):Int))),.slice pza nza cza])) _ _)
     obtain ⟨hv1,hr1⟩:=(hT 1 48 rfl rfl:(Is (.agg #[.bool (ng z4),.slice p4 n4 c4])) _ _)
     obtain hS:=hS.flat2 hr0 hr1
     exact .inl ⟨want_none rfl,ocall rfl rfl Tryd.call42 rfl (wzcmp (((hS.sl 5 rfl).zr hkza).mono (by omega)) (((hS.sl 1 rfl).zr hk4).mono (by omega)) hs5) (args2 (ev rfl hv0) (ev rfl hv1)) callN⟩
    refine stepsCons rfl (fun Q f' w' ρ S ho hT hS hB => ?_) ?_
    ·obtain ⟨hv2,hr2⟩:=(hT 2 49 rfl rfl:(Is (.int .i64 s5)) _ _)
     obtain hS:=hS.flat1 hr2
     exact .inl ⟨want_none rfl,obin (u:=.int .i64 s5) (v:=.int .i64 0) (z:=.bool (enX z0 xs)) rfl rfl (ev rfl hv2) evc (bin_gtr ((cmpZ_gtD hs5).trans (by rw [← hz4.out,htk]; exact enX_ok hneg hef0))) ⟨_,_,rfl,isI,New.same _⟩⟩
    refine stepsCons rfl (fun Q f' w' ρ S ho hT hS hB => ?_) ?_
    ·exact .inl ⟨want_none rfl,oload (vs:=[.bool (ng (((lp xs i:Nat):Int))),.slice pla nla cla]) aggZ hS 2 rfl rfl (ev rfl (ho 9 rfl)) rfl rfl rfl ⟨_,_,rfl,isI,New.same _⟩⟩
    refine stepsCons rfl (fun Q f' w' ρ S ho hT hS hB => ?_) ?_
    ·exact .inl ⟨want_none rfl,oload (vs:=[.bool (ng z4),.slice p4 n4 c4]) aggZ hS 0 rfl rfl (ev rfl (ho 12 rfl)) rfl rfl rfl ⟨_,_,rfl,isI,New.same _⟩⟩
    refine stepsCons rfl (fun Q f' w' ρ S ho hT hS hB => ?_) ?_
    ·obtain ⟨hv4,hr4⟩:=(hT 4 51 rfl rfl:(Is (.agg #[.bool (ng (((lp xs i:Nat):Int))),.slice pla nla cla])) _ _)
     obtain ⟨hv5,hr5⟩:=(hT 5 52 rfl rfl:(Is (.agg #[.bool (ng z4),.slice p4 n4 c4])) _ _)
     obtain hS:=hS.flat2 hr4 hr5
     exact .inl ⟨want_none rfl,ocall rfl rfl Tryd.call42 rfl (wzcmp (((hS.sl 4 rfl).zr hkla).mono (by omega)) (((hS.sl 1 rfl).zr hk4).mono (by omega)) hs6) (args2 (ev rfl hv4) (ev rfl hv5)) callN⟩
    refine stepsCons rfl (fun Q f' w' ρ S ho hT hS hB => ?_) ?_
    ·obtain ⟨hv6,hr6⟩:=(hT 6 53 rfl rfl:(Is (.int .i64 s6)) _ _)
     obtain hS:=hS.flat1 hr6
     exact .inl ⟨want_none rfl,obin (u:=.int .i64 s6) (v:=.int .i64 0) (z:=.bool (enY z0 xs)) rfl rfl (ev rfl hv6) evc (bin_leq ((cmpZ_leD hs6).trans (by rw [← hz4.out,hii]; exact enY_ok hneg hef0))) ⟨_,_,rfl,isI,New.same _⟩⟩
    refine stepsCons rfl (fun Q f' w' ρ S ho hT hS hB => ?_) ?_
    ·obtain ⟨hv3,hr3⟩:=(hT 3 50 rfl rfl:(Is (.bool (enX z0 xs))) _ _)
     obtain hS:=hS.flat1 hr3
     exact .inl ⟨want_none rfl,oassign (v:=.bool (enX z0 xs)) rfl rfl (ev rfl hv3) ⟨_,_,rfl,isI,New.same _⟩⟩
    refine stepsCons rfl (fun Q f' w' ρ S ho hT hS hB => ?_) ?_
    ·obtain ⟨hv7,hr7⟩:=(hT 7 54 rfl rfl:(Is (.bool (enY z0 xs))) _ _)
     obtain hS:=hS.flat1 hr7
     exact .inl ⟨want_none rfl,oassign (v:=.bool (enY z0 xs)) rfl rfl (ev rfl hv7) ⟨_,_,rfl,isI,New.same _⟩⟩
    refine stepsCons rfl (fun Q f' w' ρ S ho hT hS hB => ?_) ?_
    ·exact .inl ⟨want_none rfl,oassign (v:=.int .i64 0) rfl rfl evc ⟨_,_,rfl,isI,New.same _⟩⟩
    exact stepsNil
   ·
    intro vs ρ w19 f' hf hT hS
    obtain ⟨hv0,hr0⟩:=(hT 0 (by decide):(Is (.agg #[.bool (ng (((pdn (xs.take i):Nat):Int))),.slice pza nza cza])) _ _)
    obtain ⟨hv1,hr1⟩:=(hT 1 (by decide):(Is (.agg #[.bool (ng z4),.slice p4 n4 c4])) _ _)
    obtain ⟨hv2,hr2⟩:=(hT 2 (by decide):(Is (.int .i64 s5)) _ _)
    obtain ⟨hv3,hr3⟩:=(hT 3 (by decide):(Is (.bool (enX z0 xs))) _ _)
    obtain ⟨hv4,hr4⟩:=(hT 4 (by decide):(Is (.agg #[.bool (ng (((lp xs i:Nat):Int))),.slice pla nla cla])) _ _)
    obtain ⟨hv5,hr5⟩:=(hT 5 (by decide):(Is (.agg #[.bool (ng z4),.slice p4 n4 c4])) _ _)
    obtain ⟨hv6,hr6⟩:=(hT 6 (by decide):(Is (.int .i64 s6)) _ _)
    obtain ⟨hv7,hr7⟩:=(hT 7 (by decide):(Is (.bool (enY z0 xs))) _ _)
    obtain ⟨hv8,hr8⟩:=(hT 8 (by decide):(Is (.bool (enX z0 xs))) _ _)
    obtain ⟨hv9,hr9⟩:=(hT 9 (by decide):(Is (.bool (enY z0 xs))) _ _)
    obtain ⟨hv10,hr10⟩:=(hT 10 (by decide):(Is (.int .i64 0)) _ _)
    simp only [pool,if_true,hr0,hr1,hr2,hr3,hr4,hr5,hr6,hr7,hr8,hr9,hr10,List.nil_append,List.cons_append,List.append_nil] at hS
    simp only [layf,hv0,hv1,hv2,hv3,hv4,hv5,hv6,hv7,hv8,hv9,hv10] at hf
    subst hf; clear hT hv0 hv1 hv2 hv3 hv4 hv5 hv6 hv7 hv8 hv9 hv10 hr0 hr1 hr2 hr3 hr4 hr5 hr6 hr7 hr8 hr9 hr10
    refine wdone rfl ?_
    refine thenN ?_
    refine wleave ?_
    refine wret3 Tryd.results20 (tellT (v:=.bool (enX z0 xs)) rfl rfl) (tellT (v:=.bool (enY z0 xs)) rfl rfl) (tellT (v:=.int .i64 0) rfl rfl) ?_
    exact ⟨_,_,rfl,⟨enV_ok hneg hef0,rfl⟩,hS.new0⟩
end Go.Proofs.YthnilcgmljecdaaDoor
/-
  The document's Enough.
-/
namespace Go.Proofs.YthnilcgmljecdaaDoor
open Go.RowKit
def lq (xs:List Nat) (i:Nat):Nat:=pdn (xs.take (i - 1))
end Go.Proofs.YthnilcgmljecdaaDoor
