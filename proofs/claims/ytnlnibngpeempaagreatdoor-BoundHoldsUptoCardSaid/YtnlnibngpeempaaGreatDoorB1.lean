/-
  Contracts and lemmas, joined in one text.
-/
import Derived.Test.YtnlnibngpeempaaGreatDoorMr
import Derived.Test.YtnlnibngpeempaaGreatDoorMR
import Derived.Test.YtnlnibngpeempaaGreatDoorCB
import Derived.Test.YtnlnibngpeempaaGreatDoorQA
set_option linter.unusedVariables false
set_option linter.unusedSimpArgs false
/-
  Symmetric sums; the primes below a number,falling; plainly.
-/
set_option maxRecDepth 100000
set_option maxHeartbeats 16000000
namespace Go.Proofs.YtnlnibngpeempaaGreatDoor
def esym (l:List Int):Nat → Nat → Int
  | 0,k => if k = 0 then 1 else 0
  | i + 1,k => esym l i k + (if k = 0 then 0 else esym l i (k - 1) * l.getD i 0)
theorem esym_zero {l:List Int}:∀ i,esym l i 0 = 1
  | 0 => rfl
  | i + 1 => by rw [esym,if_pos rfl,esym_zero i]; rfl
theorem esym_far {l:List Int}:∀ i k,i < k → esym l i k = 0
  | 0,k,h => by rw [esym,if_neg (by omega)]
  | i + 1,k,h => by rw [esym,if_neg (by omega),esym_far i k (by omega),esym_far i (k - 1) (by omega),Int.zero_mul]; rfl
theorem esym_next {l:List Int} (i k:Nat):esym l (i + 1) (k + 1) = esym l i (k + 1) + esym l i k * l.getD i 0:=by rw [esym,if_neg (by omega),Nat.add_sub_cancel]
noncomputable def prs:Nat → List Nat
  | 0 => []
  | n + 1 => @ite _ (MR.Pr n) (Classical.propDecidable _) (n :: prs n) (prs n)
theorem prs_skip {n:Nat} (h:¬ MR.Pr n):prs (n + 1) = prs n:=by rw [prs,if_neg h]
theorem prs_take {n:Nat} (h:MR.Pr n):prs (n + 1) = n :: prs n:=by rw [prs,if_pos h]
theorem prs_cons {q:Nat} (hq:MR.Pr q):∀ n,q < n → (∀ r,q < r → r < n → ¬ MR.Pr r) → prs n = q :: prs q
 | 0,h,_ => by omega
 | n + 1,h,hn => by
  by_cases e:q = n
  ·subst e; exact prs_take hq
  rw [prs_skip (hn n (by omega) (by omega))]; exact prs_cons hq n (by omega) (fun r h1 h2 => hn r h1 (by omega))
theorem prs_nil:∀ n,(∀ r,r < n → ¬ MR.Pr r) → prs n = []
  | 0,_ => rfl
  | n + 1,h => by rw [prs_skip (h n (by omega))]; exact prs_nil n (fun r hr => h r (by omega))
theorem last_ex (n:Nat):(∃ q,MR.Pr q ∧ q < n ∧ ∀ r,q < r → r < n → ¬ MR.Pr r) ∨ ∀ r,r < n → ¬ MR.Pr r:=by
 induction n with
 | zero => exact .inr fun r h => by omega
 | succ n ih =>
  by_cases e:MR.Pr n
  ·exact .inl ⟨n,e,by omega,fun r h1 h2 => by omega⟩
  rcases ih with ⟨q,h1,h2,h3⟩ | h
  ·refine .inl ⟨q,h1,by omega,fun r h4 h5 => ?_⟩
   by_cases e2:r = n
   ·rw [e2]; exact e
   exact h3 r h4 (by omega)
  refine .inr fun r hr => ?_
  by_cases e2:r = n
  ·rw [e2]; exact e
  exact h r (by omega)
def ckR (n:Nat):Nat → Nat → Bool
  | a,0 => n % a != 0
  | a,k + 1 => ckR n a k && ckR n (a + 2 ^ k) k
theorem ckR_no {n e:Nat}:∀ {a k:Nat},ckR n a k = true → a ≤ e → e < a + 2 ^ k → ¬ e ∣ n
 | a,0,h,h1,h2 => fun hd => by
  rw [Nat.pow_zero] at h2
  obtain rfl:e = a:=by omega
  rw [ckR,Nat.mod_eq_zero_of_dvd hd] at h
  cases h
 | a,k + 1,h,h1,h2 => by
  rw [ckR,Bool.and_eq_true] at h
  rw [Nat.pow_succ] at h2
  by_cases hk:e < a + 2 ^ k
  ·exact ckR_no h.1 h1 hk
  exact ckR_no h.2 (by omega) (by omega)
theorem pr_big {n:Nat} (h:ckR n 2 16 = true) (h2:2 ≤ n) (hn:n < 4294967296):MR.Pr n :=
  (ld_pr h2).1 (ld_end (d:=65536) h2 (fun e h1 h3 => ckR_no h h1 (by omega)) (by omega))
theorem prTop:MR.Pr 4294967291:=pr_big (by decide +kernel) (by decide) (by decide)
theorem prs_top:prs 4294967295 = 4294967291 :: prs 4294967291:=prs_cons prTop _ (by decide) fun r h1 h2 h => by
  have h3:r = 4294967292 ∨ r = 4294967293 ∨ r = 4294967294:=by omega
  rcases h3 with rfl | rfl | rfl
  · exact absurd (h.2 2 (by decide)) (by decide)
  · exact absurd (h.2 9241 (by decide)) (by decide)
  exact absurd (h.2 2 (by decide)) (by decide)
open Go.RowKit
structure Zw where
  p:Option Addr
  n:Nat
  c:Nat
  z:Int
def zwE (q:Zw):El:=⟨[.bool (ng q.z),.slice q.p q.n q.c],[.rowm q.p q.n q.c (lim q.z.natAbs)]⟩
def zzE (Q:List Zw):List El:=Q.map zwE
def zsq (Q:List Zw):List Int:=Q.map Zw.z
theorem zz_snoc {Q:List Zw} {p:Option Addr} {n c:Nat} {z:Int}:zzE Q ++ [(⟨[.bool (ng z),.slice p n c],[.rowm p n c (lim z.natAbs)]⟩:El)] = zzE (Q ++ [⟨p,n,c,z⟩]):=by simp [zzE,zwE]
theorem zsq_snoc (Q:List Zw) (q:Zw):zsq (Q ++ [q]) = zsq Q ++ [q.z]:=by simp [zsq]
theorem zsq_len (Q:List Zw):(zsq Q).length = Q.length:=List.length_map _
theorem zzE_len (Q:List Zw):(zzE Q).length = Q.length:=List.length_map _
theorem zzE_get {Q:List Zw} {i:Nat} {q:Zw} (h:Q[i]? = some q):(zzE Q)[i]? = some (zwE q):=by simp [zzE,h]
def LIt (n:Nat) (zs:List Int):Tell:=fun v r => ∃ (pp:Option Addr) (c:Nat) (Q:List Zw),zsq Q = zs ∧ v = .slice pp n c ∧ r = [.lst 28 2 pp n c (zzE Q)]
def LIe (n:Nat) (zs:List Int) (e:Int):Tell:=fun v r => ∃ (pp:Option Addr) (c:Nat) (Q:List Zw),zsq Q = zs ∧ v = .tuple #[.slice pp n c,.int .i64 e] ∧ r = [.lst 28 2 pp n c (zzE Q)]
def RwE (xs:List Nat) (e:Int):Tell:=fun v r => ∃ (pp:Option Addr) (c:Nat),v = .tuple #[.slice pp xs.length c,.int .i64 e] ∧ r = [.rowm pp xs.length c xs]
theorem Sep.zll {w0 w:World} {R:List Res} (hS:Sep w0 R w) (k:Nat) {p:Option Addr} {n c K:Nat} {Q:List Zw} (hk:R[k]? = some (.lst 28 2 p n c (zzE Q))) (hn:n ≤ 1048576) (hb:∀ z ∈ zsq Q,Wd z K):ZL w p n ((zsq Q).map fun z => (ng z,lim z.natAbs)) K:=by
 have hl:=hS.lstLen k hk
 rw [zzE_len] at hl
 refine ⟨by rw [List.length_map,zsq_len,hl],hn,fun i e he => ?_⟩
 rw [List.getElem?_map] at he
 obtain ⟨z,hz,rfl⟩:=Option.map_eq_some_iff.1 he
 unfold zsq at hz
 rw [List.getElem?_map] at hz
 obtain ⟨q,hq,rfl⟩:=Option.map_eq_some_iff.1 hz
 obtain ⟨g,h1,h2,h3⟩:=hS.lstCell k hk (zzE_get hq) (by decide)
 have hf:Fr 0 w q.p q.n q.c (lim q.z.natAbs):=h3 _ List.mem_cons_self
 refine ⟨g,0,q.p,q.n,q.c,h1,?_,?_,hf.sl,?_⟩
 ·have:=h2 0 _ rfl; simpa using this
 ·have:=h2 1 _ rfl; simpa using this
 have:=hb q.z (by unfold zsq; exact List.mem_map.2 ⟨q,List.mem_of_getElem? hq,rfl⟩)
 rw [← hf.sl.len,length_lim]; exact this
theorem zvr_ng (z:Int):zvr (ng z,lim z.natAbs) = z:=by
  unfold zvr
  rw [vLm]
  exact zv_ng z
theorem map_zvr (l:List Int):(l.map fun z => (ng z,lim z.natAbs)).map zvr = l:=by
  rw [List.map_map]
  conv => rhs; rw [← List.map_id l]
  exact List.map_congr_left fun z _ => zvr_ng z
theorem Sep.zsl {w0 w:World} {R:List Res} (hS:Sep w0 R w) (k:Nat) {p:Option Addr} {n c K:Nat} {Q:List Zw} (hk:R[k]? = some (.lst 28 2 p n c (zzE Q))) (hn:n ≤ 1048576) (hb:∀ z ∈ zsq Q,Wd z K):Zs w p n (zsq Q) K:=by
  have h:=(hS.zll k hk hn hb).zs
  rwa [map_zvr] at h
def SJ (w:World) (p:Option Addr) (n:Nat) (L:List Int):Prop:=L.length = n ∧ n ≤ 1048576 ∧ (∀ x ∈ L, -9223372036854775808 ≤ x ∧ x ≤ 9223372036854775807) ∧ ∀ i,i < n → ∃ b off,p = some ⟨b,off,none⟩ ∧ ∀ j v,[Value.int .i64 (L.getD i 0)][j]? = some v → w.cell? ⟨b,off + i * 1 + j,none⟩ = some v
theorem SJ.blk {w:World} {g:Nat} {L:List Int} {t:TypeId} (h:w.heap[g]? = some (.cells (L.map fun x => Value.int .i64 x).toArray t)) (hL:∀ x ∈ L, -9223372036854775808 ≤ x ∧ x ≤ 9223372036854775807) (hn:L.length ≤ 1048576):SJ w (some ⟨g,0,none⟩) L.length L:=by
  refine ⟨rfl,hn,hL,fun i hi => ⟨g,0,rfl,fun j v hj => ?_⟩⟩
  have h0:j = 0:=by have:=(List.getElem?_eq_some_iff.1 hj).1; simp at this; omega
  subst h0
  simp at hj
  subst hj
  rw [show 0 + i * 1 + 0 = i by omega]
  exact (blk_cell h i).trans (by rw [List.getElem?_map,List.getElem?_eq_getElem hi]; simp [List.getD,hi])
theorem wlintl {pl:Option Addr} {nl cl:Nat} {L:List Int} {w:World} (hL:SJ w pl nl L) :
  Calls Tryz.prog 28 #[.slice pl nl cl] w (Ret (LIt nl L) w):=by
 have hln:=hL.1
 have hlb:=hL.2.1
 have hS:=Sep.init w
 refine went Tryz.func28 rfl (n:=19) rfl rfl ?_
 refine wsr (wavc ?_)
 refine wn2 (wavc ?_)
 refine wn1 (wSq (wsr (wmv rfl rfl ?_)))
 refine wl rfl (olen rfl rfl rfl Tryz.runUnderlying102 (p:=pl) (k:=nl) (m:=cl) (ev rfl rfl) ?_)
 refine wmvc ?_
 refine wn1 (wBk ?_)
 replace hS:=hS.nilLst 28 2
 refine wLp (σ := Nat) (fun i a9 w' => ∃ (fb:Nat → Value) (Q:List Zw) (pX:Option Addr) (cX:Nat),a9 = act 19 (sets fb [(2,.slice none 0 0),(3,.slice pX i cX),(6,.slice pl nl cl),(7,.int .i64 (nl:Int)),(8,.int .i64 (i:Int))]) ∧ Sep w [.lst 28 2 pX i cX (zzE Q)] w' ∧ (i ≤ nl) ∧ (zsq Q = L.take i)) (fun i => nl - i) (0) ⟨_,[],none,0,aSs ⟨rfl,rfl,rfl,rfl,rfl,trivial⟩,hS,Nat.zero_le _,rfl⟩ ?_
 clear hS; rintro i _ w1 ⟨fb,Q,pX,cX,rfl,hS,hi,hQ⟩
 refine wsr ?_
 by_cases hlt:i < nl
 ·
  refine wbt rfl rfl rfl rfl (bLs (decide_eq_true (by omega))) ?_
  refine wn1 (wSq ?_)
  refine wT (ev rfl rfl) ?_
  refine wk2 ?_
  obtain ⟨bc,oc,hpc,hcc⟩:=hL.2.2.2 i (by omega)
  have hb:=hL.2.2.1 (L.getD i 0) (by rw [List.getD,List.getElem?_eq_getElem (show i < L.length by omega)]; exact List.getElem_mem _)
  refine wl rfl (oIx (p:=pl) (g:=bc) (off:=oc) (m:=nl) (k:=i) (j:=(oc + i * 1)) rfl rfl Tryz.runUnderlying102 Tryz.sizeOf2 (ev rfl rfl) hpc (ev rfl rfl) ((show i < nl by omega)) rfl ?_)
  refine wl rfl (oLc ⟨Tryz.isAgg2,Tryz.sizeOf2⟩ rfl rfl (ev rfl rfl) (hS.cellAt (hcc 0 _ rfl)) ?_)
  refine wav rfl rfl ?_
  refine wn1 (wreg (wmv rfl rfl ?_))
  refine wmv rfl rfl ?_
  have hk1:Wd (L.getD i 0) 2:=Wd.i64 (hb.1) (hb.2)
  refine wcl Tryz.call7 ((wqof (z:=L.getD i 0) (hb.1) (hb.2)).mono Zt.m) (ar1 (ev rfl rfl)) hS ?_
  clear hS; rintro _ _ w2 ⟨p1,n1,c1,rfl,rfl⟩ hS
  refine wl rfl (obslice (ps:=#[(0,.agg #[.bool (ng (L.getD i 0)),.slice p1 n1 c1])]) (z:=.agg #[.bool false,.slice none 0 0]) [.bool (ng (L.getD i 0)),.slice p1 n1 c1] hS rfl rfl Tryz.runUnderlying32 Tryz.sizeOf28 Tryz.zeroValue28 (parts1 (ev (v:=.agg #[.bool (ng (L.getD i 0)),.slice p1 n1 c1]) rfl rfl)) rfl (by decide) fill2_1 ?_)
  clear hS; intro g3 w4 hS
  obtain hS:=(show Sep w [.rowm p1 n1 c1 (lim (L.getD i 0).natAbs),.lst 28 2 pX i cX (zzE Q),.blk g3 [.bool (ng (L.getD i 0)),.slice p1 n1 c1] 28] w4 from hS.pick [1,2,0] (by decide) rfl)
  refine wl rfl (oappendL (p:=pX) (m:=i) (c:=cX) (g2:=g3) (c2:=1) (off:=0) [.bool (ng (L.getD i 0)),.slice p1 n1 c1] [.rowm p1 n1 c1 (lim (L.getD i 0).natAbs)] hS rfl rfl Tryz.underlying32 infoInt rfl (by decide) (ev rfl rfl) (ev rfl rfl) (fun j v hj => by rw [Nat.zero_add]; exact (blk_cell (hS.blkAt 2 rfl) j).trans hj) rfl rfl rfl (by omega) (by omega) ?_)
  clear hS; intro p6 c7 w5 hS
  refine wav rfl rfl ?_
  refine wnil (blkN (tNo (wreg ?_)))
  rw [zz_snoc] at hS
  refine wbc (z:=.int .i64 ((i + 1:Nat):Int)) rfl rfl (bAd (wI6 (by omega) (by omega))) ?_
  refine wmv rfl rfl ?_
  refine wn1 ?_
  exact ⟨(i + 1),⟨_,_,_,_,aSs ⟨rfl,rfl,rfl,rfl,rfl,trivial⟩,hS.pick [0] (by decide) rfl,by omega,by rw [zsq_snoc,hQ,List.take_add_one,List.getElem?_eq_getElem (show i < L.length by omega)]; simp [List.getD,show i < L.length by omega]⟩,by omega⟩
 refine wbt rfl rfl rfl rfl (bLs (decide_eq_false (by omega))) ?_
 refine wn1 (wSq ?_)
 refine wF (ev rfl rfl) ?_
 refine wEx ?_
 refine tEx ?_
 refine tEx ?_
 refine blkE ?_
 refine tNo (wsr (wmv rfl rfl ?_))
 refine wav rfl rfl ?_
 refine wn1 ?_
 refine wLv ?_
 have hin:i = nl:=by omega
 refine wr1 Tryz.results28 (tlT (v:=.slice pX i cX) rfl rfl) ?_
 exact ⟨_,_,rfl,⟨pX,cX,Q,by rw [hQ,List.take_of_length_le (by omega)],by rw [hin],by rw [hin]⟩,hS.newR 0 rfl rfl⟩
theorem wplast {n0 q:Nat} {w:World} (ht:Tb w) (hn0:n0 < 4294967296) (hq:MR.Pr q) (hqn:q < n0) (hno:∀ r,q < r → r < n0 → ¬ MR.Pr r) :
  Calls Tryz.prog 107 #[.int .u32 ((n0:Nat):Int)] w (Ret (Is (.tuple #[.int .u32 ((q:Nat):Int),.bool true])) w):=by
 have hq2:=hq.1
 have hS:=Sep.init w
 refine went Tryz.func107 rfl (n:=11) rfl rfl ?_
 refine wsr (wavc ?_)
 refine wavc ?_
 refine wn1 (wSq (wBk ?_))
 refine wLp (σ := Nat) (fun n a9 w' => ∃ (fb:Nat → Value),a9 = act 11 (sets fb [(0,.int .u32 (n:Int))]) ∧ Sep w [] w' ∧ (n ≤ n0) ∧ (q < n)) (fun n => n) (n0) ⟨_,aSs ⟨rfl,trivial⟩,hS,Nat.le_refl _,hqn⟩ ?_
 clear hS; rintro n _ w1 ⟨fb,rfl,hS,hn,hqn2⟩
 refine wSq (wsr (wmv rfl rfl ?_))
 refine wbc rfl rfl (bin_gtr (decide_eq_true (by omega))) ?_
 refine wn1 ?_
 refine wT (ev rfl rfl) ?_
 refine wSk (tNo (wBk (wsr (wmv rfl rfl ?_))))
 refine wbc (z:=.int .u32 ((n - 1:Nat):Int)) rfl rfl (bin_sub (by rw [show (n:Int) - 1 = ((n - 1:Nat):Int) by omega]; exact wrap_u32 (by omega) (by omega))) ?_
 refine wav rfl rfl ?_
 refine wn2 (wmv rfl rfl ?_)
 by_cases he:n = q + 1
 ·
  refine wcl Tryz.call132 (wpis (b:=true) (by omega) (ht.at hS) ⟨fun _ => by rw [show n - 1 = q by omega]; exact hq,fun _ => rfl⟩) (ar1 (ev rfl rfl)) hS ?_
  clear hS; rintro _ _ w2 ⟨rfl,rfl⟩ hS
  refine wn1 ?_
  refine wT (ev rfl rfl) ?_
  refine wsr (wmv rfl rfl ?_)
  refine wav rfl rfl ?_
  refine wavc ?_
  refine wn1 ?_
  refine wLv ?_
  refine blkR ?_
  refine thenR ?_
  refine blkR ?_
  refine thenR ?_
  refine wret2 Tryz.results107 (tlT (v:=.int .u32 ((n - 1:Nat):Int)) rfl rfl) (tlT (v:=.bool true) rfl rfl) ?_
  exact ⟨_,_,rfl,⟨by rw [show n - 1 = q by omega],rfl⟩,hS.new0⟩
 refine wcl Tryz.call132 (wpis (b:=false) (by omega) (ht.at hS) ⟨(fun h => by cases h),(fun h => absurd h (hno _ (by omega) (by omega)))⟩) (ar1 (ev rfl rfl)) hS ?_
 clear hS; rintro _ _ w2 ⟨rfl,rfl⟩ hS
 refine wn1 ?_
 refine wF (ev rfl rfl) ?_
 refine wSk (blkN (tNo ?_))
 exact ⟨(n - 1),⟨_,aSs ⟨rfl,trivial⟩,hS.pick [] (by decide) rfl,by omega,by omega⟩,by omega⟩
theorem wplastN {n0:Nat} {w:World} (ht:Tb w) (hn0:n0 < 4294967296) (hno:∀ r,r < n0 → ¬ MR.Pr r) :
  Calls Tryz.prog 107 #[.int .u32 ((n0:Nat):Int)] w (Ret (Is (.tuple #[.int .u32 0,.bool false])) w):=by
 have hS:=Sep.init w
 refine went Tryz.func107 rfl (n:=11) rfl rfl ?_
 refine wsr (wavc ?_)
 refine wavc ?_
 refine wn1 (wSq (wBk ?_))
 refine wLp (σ := Nat) (fun n a9 w' => ∃ (fb:Nat → Value),a9 = act 11 (sets fb [(0,.int .u32 (n:Int))]) ∧ Sep w [] w' ∧ (n ≤ n0)) (fun n => n) (n0) ⟨_,aSs ⟨rfl,trivial⟩,hS,Nat.le_refl _⟩ ?_
 clear hS; rintro n _ w1 ⟨fb,rfl,hS,hn⟩
 refine wSq (wsr (wmv rfl rfl ?_))
 by_cases hgt:2 < n
 ·
  refine wbc rfl rfl (bin_gtr (decide_eq_true (by omega))) ?_
  refine wn1 ?_
  refine wT (ev rfl rfl) ?_
  refine wSk (tNo (wBk (wsr (wmv rfl rfl ?_))))
  refine wbc (z:=.int .u32 ((n - 1:Nat):Int)) rfl rfl (bin_sub (by rw [show (n:Int) - 1 = ((n - 1:Nat):Int) by omega]; exact wrap_u32 (by omega) (by omega))) ?_
  refine wav rfl rfl ?_
  refine wn2 (wmv rfl rfl ?_)
  refine wcl Tryz.call132 (wpis (b:=false) (by omega) (ht.at hS) ⟨(fun h => by cases h),(fun h => absurd h (hno _ (by omega)))⟩) (ar1 (ev rfl rfl)) hS ?_
  clear hS; rintro _ _ w2 ⟨rfl,rfl⟩ hS
  refine wn1 ?_
  refine wF (ev rfl rfl) ?_
  refine wSk (blkN (tNo ?_))
  exact ⟨(n - 1),⟨_,aSs ⟨rfl,trivial⟩,hS.pick [] (by decide) rfl,by omega⟩,by omega⟩
 refine wbc rfl rfl (bin_gtr (decide_eq_false (by omega))) ?_
 refine wn1 ?_
 refine wF (ev rfl rfl) ?_
 refine wEx ?_
 refine tEx ?_
 refine tEx ?_
 refine blkE ?_
 refine tNo (wsr (wavc ?_))
 refine wavc ?_
 refine wn1 ?_
 refine wLv ?_
 refine wret2 Tryz.results107 (tlT (v:=.int .u32 0) rfl rfl) (tlT (v:=.bool false) rfl rfl) ?_
 exact ⟨_,_,rfl,isI,hS.new0⟩
theorem wbsize {bx:Bool} {px:Option Addr} {nx cx:Nat} {z0:Int} {w:World} (hx:Zr w bx px nx cx z0 4000000000) :
  Calls Tryz.prog 36 #[.agg #[.bool bx,.slice px nx cx]] w (Ret (Zt ((z0.natAbs:Nat):Int)) w):=by
 have hS:=Sep.init w
 refine went Tryz.func36 rfl (n:=6) rfl rfl ?_
 refine wsr (wl rfl (obox [.bool bx,.slice px nx cx] hS rfl rfl (ev rfl rfl) rfl ?_))
 clear hS; intro g1 w2 hS
 refine wl rfl (oAl [.bool false,.slice none 0 0] hS rfl rfl Tryz.zeroValue75 rfl ?_)
 clear hS; intro g3 w4 hS
 refine wn2 (wl rfl (oLd aggZ hS 1 rfl rfl (ev rfl rfl) rfl rfl rfl ?_))
 obtain ⟨z1,hz1⟩:∃ z:Int,Hid ((Int.natAbs z0:Int) = z):=⟨_,rfl⟩
 have hk1:Wd z1 4000000000:=Wd.nabs hx.wd hz1
 refine wcl Tryz.call76 (wzabs ((hx.at hS).mono (by omega)) hz1) (ar1 (ev rfl rfl)) hS ?_
 clear hS; rintro _ _ w5 ⟨p1,n1,c1,rfl,rfl⟩ hS
 refine wl rfl (obuild (ps:=#[(0,.agg #[.bool (ng z1),.slice p1 n1 c1])]) (v:=.agg #[.bool (ng z1),.slice p1 n1 c1]) rfl rfl (parts1 (ev rfl rfl)) (fun w => by simp [go_sem,Instr.build,Instr.fill]) ?_)
 refine wl rfl (oSt _ _ Tryz.sizeOf75 hS 1 rfl rfl (ev rfl rfl) (ev rfl rfl) rfl rfl rfl rfl rfl rfl ?_)
 clear hS; intro w6 hS
 refine wn1 ?_
 refine wLv ?_
 refine wr1 Tryz.results36 (tellC (cs:=[.bool (ng z1),.slice p1 n1 c1]) ⟨Tryz.isAgg75,Tryz.sizeOf75⟩ hS 1 rfl rfl rfl rfl) ?_
 obtain rfl:=hz1.out
 exact ⟨_,_,rfl,⟨_,_,_,rfl,rfl⟩,hS.new1 0 rfl⟩
open Go.RowKit
theorem zsq_get {Q:List Zw} {i:Nat} {p:Option Addr} {n c:Nat} {z:Int} (h:Q[i]? = some ⟨p,n,c,z⟩):(zsq Q).getD i 0 = z:=by
  unfold zsq; rw [List.getD,List.getElem?_map,h]; rfl
theorem zsq_set (Q:List Zw) (i:Nat) (q:Zw):zsq (Q.set i q) = (zsq Q).set i q.z:=List.map_set
theorem zzE_set {Q:List Zw} {i:Nat} {p:Option Addr} {n c:Nat} {z:Int}:(zzE Q).set i ⟨[.bool (ng z),.slice p n c],[.rowm p n c (lim z.natAbs)]⟩ = zzE (Q.set i ⟨p,n,c,z⟩):=by unfold zzE; rw [List.map_set]; rfl
theorem Sep.zwZr {w0 w:World} {R:List Res} (hS:Sep w0 R w) (k:Nat) {e:TypeId} {p pp:Option Addr} {m c n cc i K:Nat} {z:Int} {Q:List Zw} (hk:R[k]? = some (.lst e 2 p m c (zzE Q))) (hq:Q[i]? = some ⟨pp,n,cc,z⟩) (hw:Wd z K):Zr w (ng z) pp n cc z K:=by
  obtain ⟨g,h1,h2,h3⟩:=hS.lstCell k hk (zzE_get hq) (by decide)
  have hf:Fr 0 w pp n cc (lim z.natAbs):=h3 _ List.mem_cons_self
  exact hf.sl.zr hw
def absA (a b:Int):Int:=a + (b.natAbs:Int)
def rsum (L:List Int):Int:=facc absA 0 L L.length
def rsums (T:List (List Int)):List Int:=T.map rsum
theorem facc_abs_wd {w:World} {p:Option Addr} {m:Nat} {l:List Int} (h:Zs w p m l 67108864):∀ i,i ≤ m → Wd (facc absA 0 l i) (67108864 + i)
 | 0,_ => Wd.zero _
 | i + 1,hi => by
  obtain ⟨ze,ge,oe,be,pe,ne,ce,hle,_,_,hze⟩:=h.el (show i < m by omega)
  rw [facc_succ hle]
  exact Wd.add (facc_abs_wd h i (by omega)) (Wd.nabs hze.wd rfl) rfl (by omega)
theorem TB.at {w w':World} {R:List Res} {p:Option Addr} {n K:Nat} {T:List (List Int)} (h:TB w p n T K) (hS:Sep w R w'):TB w' p n T K:=by
  refine ⟨h.1,h.2.1,fun i L hL => ?_⟩
  obtain ⟨b,off,q,c,hp,hc,hs⟩:=h.2.2 i L hL
  exact ⟨b,off,q,c,hp,fun j v hj => hS.cellAt (hc j v hj),hs.on hS.below (Nat.le_refl _)⟩
theorem wbfit {pt:Option Addr} {nt ct:Nat} {T:List (List Int)} {w:World} (hT:TB w pt nt T 67108864) (hr:∀ L ∈ T,L.length = nt) (h0:nt ≠ 0) (h24:nt ≤ 24) :
  Calls Tryz.prog 38 #[.slice pt nt ct] w (Ret (Is (.int .i64 0)) w):=by
 have hTl:=hT.1
 have hS:=Sep.init w
 refine went Tryz.func38 rfl (n:=34) rfl rfl ?_
 refine wsr (wavc ?_)
 refine wn1 (wSq (wsr (wmv rfl rfl ?_)))
 refine wl rfl (olen rfl rfl rfl Tryz.runUnderlying22 (p:=pt) (k:=nt) (m:=ct) (ev rfl rfl) ?_)
 refine wmvc ?_
 refine wn1 (wBk ?_)
 refine wLp (σ := Nat) (fun i a9 w' => ∃ (fb:Nat → Value),a9 = act 34 (sets fb [(0,.slice pt nt ct),(5,.slice pt nt ct),(6,.int .i64 (nt:Int)),(7,.int .i64 (i:Int))]) ∧ Sep w [] w' ∧ (i ≤ nt)) (fun i => nt - i) (0) ⟨_,aSs ⟨rfl,rfl,rfl,rfl,trivial⟩,hS,Nat.zero_le _⟩ ?_
 clear hS; rintro i _ w1 ⟨fb,rfl,hS,hi⟩
 refine wsr ?_
 by_cases hlt:i < nt
 ·
  refine wbt rfl rfl rfl rfl (bLs (decide_eq_true (by omega))) ?_
  refine wn1 (wSq ?_)
  refine wT (ev rfl rfl) ?_
  refine wk2 ?_
  obtain ⟨xr,hxr⟩:∃ r,(T)[i]? = some r:=⟨_,List.getElem?_eq_getElem (by have:=hT.1; omega)⟩
  obtain ⟨br,ofr,pr,cr,hpr,hcr,hsr⟩:=hT.2.2 i _ hxr
  obtain ⟨xz,hxz⟩:∃ r,(T)[0]? = some r:=⟨_,List.getElem?_eq_getElem (by have:=hT.1; omega)⟩
  obtain ⟨bz,ofz,pz,cz,hpz,hcz,hsz⟩:=hT.2.2 0 _ hxz
  have h1:=hr xr (List.mem_of_getElem? hxr)
  have h2:=hr xz (List.mem_of_getElem? hxz)
  refine wl rfl (oIx (p:=pt) (g:=br) (off:=ofr) (m:=nt) (k:=i) (j:=(ofr + i * 1)) rfl rfl Tryz.runUnderlying22 Tryz.sizeOf32 (ev rfl rfl) hpr (ev rfl rfl) (by omega) rfl ?_)
  refine wl rfl (oLc ⟨Tryz.isAgg32,Tryz.sizeOf32⟩ rfl rfl (ev rfl rfl) (hS.cellAt (hcr 0 _ rfl)) ?_)
  refine wav rfl rfl ?_
  refine wn2 (wmv rfl rfl ?_)
  refine wl rfl (olen rfl rfl rfl Tryz.runUnderlying32 (p:=pr) (k:=xr.length) (m:=cr) (ev rfl rfl) ?_)
  refine wmv rfl rfl ?_
  refine wl rfl (oIx (p:=pt) (g:=bz) (off:=ofz) (m:=nt) (k:=0) (j:=(ofz + 0 * 1)) rfl rfl Tryz.runUnderlying22 Tryz.sizeOf32 (ev rfl rfl) hpz evc (by omega) rfl ?_)
  refine wl rfl (oLc ⟨Tryz.isAgg32,Tryz.sizeOf32⟩ rfl rfl (ev rfl rfl) (hS.cellAt (hcz 0 _ rfl)) ?_)
  refine wl rfl (olen rfl rfl rfl Tryz.runUnderlying32 (p:=pz) (k:=xz.length) (m:=cz) (ev rfl rfl) ?_)
  refine wbt rfl rfl rfl rfl (bNe (neF (by omega))) ?_
  refine wn1 ?_
  refine wF (ev rfl rfl) ?_
  refine wSk (blkN (tNo (wreg (wbc (z:=.int .i64 ((i + 1:Nat):Int)) rfl rfl (bAd (wI6 (by omega) (by omega))) ?_))))
  refine wmv rfl rfl ?_
  refine wn1 ?_
  exact ⟨(i + 1),⟨_,aSs ⟨rfl,rfl,rfl,rfl,trivial⟩,hS.pick [] (by decide) rfl,by omega⟩,by omega⟩
 refine wbt rfl rfl rfl rfl (bLs (decide_eq_false (by omega))) ?_
 refine wn1 (wSq ?_)
 refine wF (ev rfl rfl) ?_
 refine wEx ?_
 refine tEx ?_
 refine tEx ?_
 refine blkE ?_
 refine tNo (wSq (wsr (wmv rfl rfl ?_)))
 refine wl rfl (olen rfl rfl rfl Tryz.runUnderlying22 (p:=pt) (k:=nt) (m:=ct) (ev rfl rfl) ?_)
 refine wbc rfl rfl (bEq (eqF (by omega))) ?_
 refine wmv rfl rfl ?_
 refine wlOn (e:=22) rfl rfl rfl rfl (omove rfl rfl (ev rfl rfl) ?_)
 refine wlOn (e:=22) rfl rfl rfl rfl (olen rfl rfl rfl Tryz.runUnderlying22 (p:=pt) (k:=nt) (m:=ct) (ev rfl rfl) ?_)
 refine wlOn (e:=22) rfl rfl rfl rfl (omove rfl rfl (ev rfl rfl) ?_)
 obtain ⟨xz,hxz⟩:∃ r,(T)[0]? = some r:=⟨_,List.getElem?_eq_getElem (by have:=hT.1; omega)⟩
 obtain ⟨bz,ofz,pz,cz,hpz,hcz,hsz⟩:=hT.2.2 0 _ hxz
 have h2:=hr xz (List.mem_of_getElem? hxz)
 refine wlOn (e:=22) rfl rfl rfl rfl (oIx (p:=pt) (g:=bz) (off:=ofz) (m:=nt) (k:=0) (j:=(ofz + 0 * 1)) rfl rfl Tryz.runUnderlying22 Tryz.sizeOf32 (ev rfl rfl) hpz evc (by omega) rfl ?_)
 refine wlOn (e:=22) rfl rfl rfl rfl (oLc ⟨Tryz.isAgg32,Tryz.sizeOf32⟩ rfl rfl (ev rfl rfl) (hS.cellAt (hcz 0 _ rfl)) ?_)
 refine wlOn (e:=22) rfl rfl rfl rfl (olen rfl rfl rfl Tryz.runUnderlying32 (p:=pz) (k:=xz.length) (m:=cz) (ev rfl rfl) ?_)
 refine wlOn (e:=22) rfl rfl rfl rfl (obin rfl rfl (ev rfl rfl) (ev rfl rfl) (bNe (neF (by omega))) ?_)
 refine wl rfl (opick rfl rfl (ev rfl rfl) (ev rfl rfl) ?_)
 refine wn1 ?_
 refine wF (ev rfl rfl) ?_
 refine wSk (tNo (wSq (wsr (wmv rfl rfl ?_))))
 refine wl rfl (olen rfl rfl rfl Tryz.runUnderlying22 (p:=pt) (k:=nt) (m:=ct) (ev rfl rfl) ?_)
 refine wbc rfl rfl (bin_gtr (decide_eq_false (by omega))) ?_
 refine wn1 ?_
 refine wF (ev rfl rfl) ?_
 refine wSk (tNo (wsr (wavc ?_)))
 refine wn1 ?_
 refine wLv ?_
 refine wr1 Tryz.results38 (tlT (v:=.int .i64 0) rfl rfl) ?_
 exact ⟨_,_,rfl,isI,hS.new0⟩
theorem wbsums {pt:Option Addr} {nt ct:Nat} {T:List (List Int)} {w:World} (hT:TB w pt nt T 67108864) (hr:∀ L ∈ T,L.length = nt) (h0:nt ≠ 0) (h24:nt ≤ 24) :
  Calls Tryz.prog 32 #[.slice pt nt ct] w (Ret (LIe nt (rsums T) 0) w):=by
 have hTl:=hT.1
 have hS:=Sep.init w
 refine went Tryz.func32 rfl (n:=41) rfl rfl ?_
 refine wsr (wavc ?_)
 refine wavc ?_
 refine wn1 (wSq (wsr (wmv rfl rfl ?_)))
 replace hS:=hS.nilLst 28 2
 refine wcl Tryz.call38 (wbfit (hT.at hS) hr h0 h24) (ar1 (ev rfl rfl)) hS ?_
 clear hS; rintro _ _ w1 ⟨rfl,rfl⟩ hS
 refine wav rfl rfl ?_
 refine wn2 (wmv rfl rfl ?_)
 refine wbc (u:=.int .i64 0) (v:=.int .i64 0) (z:=.bool false) rfl rfl (bNe (by decide)) ?_
 refine wn1 ?_
 refine wF (ev rfl rfl) ?_
 refine wSk (tNo (wsr (wavc ?_)))
 refine wn1 (wSq (wsr (wmv rfl rfl ?_)))
 refine wl rfl (olen rfl rfl rfl Tryz.runUnderlying22 (p:=pt) (k:=nt) (m:=ct) (ev rfl rfl) ?_)
 refine wmvc ?_
 refine wn1 (wBk ?_)
 refine wLp (σ := Nat) (fun i a9 w' => ∃ (fb:Nat → Value) (Q:List Zw) (pX:Option Addr) (cX:Nat),a9 = act 41 (sets fb [(2,.slice none 0 0),(3,.int .i64 0),(5,.slice pX i cX),(16,.slice pt nt ct),(17,.int .i64 (nt:Int)),(18,.int .i64 (i:Int))]) ∧ Sep w [.lst 28 2 pX i cX (zzE Q)] w' ∧ (i ≤ nt) ∧ (zsq Q = (rsums T).take i)) (fun i => nt - i) (0) ⟨_,[],none,0,aSs ⟨rfl,rfl,rfl,rfl,rfl,rfl,trivial⟩,hS,Nat.zero_le _,rfl⟩ ?_
 clear hS; rintro i _ w2 ⟨fb,Q,pX,cX,rfl,hS,hi,hQ⟩
 refine wsr ?_
 by_cases hlt:i < nt
 ·
  refine wbt rfl rfl rfl rfl (bLs (decide_eq_true (by omega))) ?_
  refine wn1 (wSq ?_)
  refine wT (ev rfl rfl) ?_
  refine wk2 ?_
  obtain ⟨xr,hxr⟩:∃ r,(T)[i]? = some r:=⟨_,List.getElem?_eq_getElem (by have:=hT.1; omega)⟩
  obtain ⟨br,ofr,pr,cr,hpr,hcr,hsr⟩:=hT.2.2 i _ hxr
  have h1:=hr xr (List.mem_of_getElem? hxr)
  have hWd:=facc_abs_wd hsr
  refine wl rfl (oIx (p:=pt) (g:=br) (off:=ofr) (m:=nt) (k:=i) (j:=(ofr + i * 1)) rfl rfl Tryz.runUnderlying22 Tryz.sizeOf32 (ev rfl rfl) hpr (ev rfl rfl) (by omega) rfl ?_)
  refine wl rfl (oLc ⟨Tryz.isAgg32,Tryz.sizeOf32⟩ rfl rfl (ev rfl rfl) (hS.cellAt (hcr 0 _ rfl)) ?_)
  refine wav rfl rfl ?_
  refine wn2 ?_
  have hk1:Wd 0 2:=Wd.i64 (by omega) (by omega)
  refine wcl Tryz.call33 ((wzof (z:=0) (by omega) (by omega)).mono Zt.m) (ar1 evc) hS ?_
  clear hS; rintro _ _ w3 ⟨p1,n1,c1,rfl,rfl⟩ hS
  refine wl rfl (oAl [.bool false,.slice none 0 0] hS rfl rfl Tryz.zeroValue28 rfl ?_)
  clear hS; intro g4 w5 hS
  refine wl rfl (oSt _ _ Tryz.sizeOf28 hS 0 rfl rfl (ev rfl rfl) (ev rfl rfl) rfl rfl rfl rfl rfl rfl ?_)
  clear hS; intro w6 hS
  refine wn1 (wSq (wsr (wmv rfl rfl ?_)))
  refine wl rfl (olen rfl rfl rfl Tryz.runUnderlying32 (p:=pr) (k:=xr.length) (m:=cr) (ev rfl rfl) ?_)
  refine wmvc ?_
  refine wn1 (wBk ?_)
  refine wLp (σ := Nat) (fun j a9 w' => ∃ (fb:Nat → Value) (pza:Option Addr) (nza:Nat) (cza:Nat),a9 = act 41 (sets fb [(2,.slice none 0 0),(3,.int .i64 0),(5,.slice pX i cX),(8,.pointer (some ⟨g4,0,none⟩)),(16,.slice pt nt ct),(17,.int .i64 (nt:Int)),(18,.int .i64 (i:Int)),(23,.slice pr xr.length cr),(24,.int .i64 (xr.length:Int)),(25,.int .i64 (j:Int))]) ∧ Sep w [.blk g4 [.bool (ng ((facc absA 0 xr j))),.slice pza nza cza] 28,.rowm pza nza cza (lim ((facc absA 0 xr j)).natAbs),.lst 28 2 pX i cX (zzE Q)] w' ∧ (j ≤ xr.length) ∧ (Wd ((facc absA 0 xr j)) 67108890)) (fun j => xr.length - j) (0) ⟨_,_,_,_,aSs ⟨rfl,rfl,rfl,rfl,rfl,rfl,rfl,rfl,rfl,rfl,trivial⟩,hS,Nat.zero_le _,(hk1).mono (by omega)⟩ ?_
  clear hS; rintro j _ w7 ⟨fb,pza,nza,cza,rfl,hS,hj,hkza⟩
  refine wsr ?_
  by_cases hlj:j < xr.length
  ·
   refine wbt rfl rfl rfl rfl (bLs (decide_eq_true (by omega))) ?_
   refine wn1 (wSq ?_)
   refine wT (ev rfl rfl) ?_
   refine wk2 ?_
   obtain ⟨ze,ge,oe,be,pe,ne,ce,hle,hpe,hce,hze⟩:=hsr.el hlj
   refine wl rfl (oIx (p:=pr) (g:=ge) (off:=oe) (m:=xr.length) (k:=j) (j:=(oe + j * 2)) rfl rfl Tryz.runUnderlying32 Tryz.sizeOf28 (ev rfl rfl) hpe (ev rfl rfl) hlj rfl ?_)
   refine wl rfl (oloadA aggZ rfl rfl (ev rfl rfl) (fun j v hj => hS.cellAt (hce j v hj)) rfl ?_)
   refine wl rfl (oAl [.bool false,.slice none 0 0] hS rfl rfl Tryz.zeroValue28 rfl ?_)
   clear hS; intro g8 w9 hS
   refine wl rfl (oSt _ _ Tryz.sizeOf28 hS 0 rfl rfl (ev rfl rfl) (ev rfl rfl) rfl rfl rfl rfl rfl rfl ?_)
   clear hS; intro w10 hS
   refine wn1 ?_
   obtain ⟨z2,hz2⟩:∃ z:Int,Hid (((ze:Int).natAbs:Int) = z):=⟨_,rfl⟩
   have hk2:Wd z2 67108864:=Wd.nabs hze.wd hz2
   obtain ⟨z3,hz3⟩:∃ z:Int,Hid (((facc absA 0 xr j)) + z2 = z):=⟨_,rfl⟩
   have hk3:Wd z3 67108891:=Wd.add hkza hk2 hz3 (by omega)
   refine wSg 5 [29,30,31,32,33] [[],[],[1],[2,1],[0,2,3,1]] [[],[],[],[2],[]] [] [] (fun i9 => ([iSv (.agg #[.bool (ng ((facc absA 0 xr j))),.slice pza nza cza]),iSv (.agg #[.bool be,.slice pe ne ce]),fun _ => Zt z2,fun us => Is (.agg #[.bool (ng z2),(vat (us.getD 0 undef) [1])]),fun _ => Zm z3]:List (List Value → Tell)).getD i9 (fun _ _ _ => False)) hNi (fun d _ _ _ _ h => (by cases d <;> exact h)) (by kernel_rfl) (by kernel_rfl) (by kernel_rfl) hS ?_ ?_
   ·
    refine stH rfl (fun ho hS=>?_) ?_
    ·exact inNo rfl (oLd aggZ hS 1 rfl rfl (ev rfl (ho 8 rfl)) rfl rfl rfl (nSm rfl isI))
    refine stH rfl (fun ho hS=>?_) ?_
    ·exact inNo rfl (oLd aggZ hS 0 rfl rfl (ev rfl (ho 10 rfl)) rfl rfl rfl (nSm rfl isI))
    refine stT rfl (fun hT hS=>?_) ?_
    ·obtain ⟨hv1,hr1⟩:=hT 1 30 rfl rfl
     obtain hS:=hS.flat1 hr1
     exact .inl ⟨wNo rfl,oCl rfl rfl Tryz.call36 rfl ((show Calls _ _ _ _ (Ret (Zt z2) _) from by rw [← hz2.out]; exact wbsize ((hze.at hS).mono (by omega)))) (ar1 (ev rfl hv1)) cNw⟩
    refine stC rfl (fun _ f' _ _ _ _ hT hS _=>?_) ?_
    ·obtain ⟨p2,n2,c2,hv2,hr2⟩:=(hT 2 31 rfl rfl:(Zt z2) _ _)
     obtain hS:=hS.flat1 hr2
     have hQ:(.agg #[.bool (ng z2),.slice p2 n2 c2]:Value) = (fun (us:List Value) => (.agg #[.bool (ng z2),(vat (us.getD 0 undef) [1])]:Value)) [f' 31]:=by show _ = (.agg #[.bool (ng z2),(vat (f' 31) [1])]:Value); rw [hv2]; rfl
     exact .inl ⟨wNo rfl,ofield (sz:=0) (vs:=[]) (fs:=#[]) (fd:=default) (cs:=[.bool (ng z2),.slice p2 n2 c2]) (v:=.agg #[.bool (ng z2),.slice p2 n2 c2]) rfl rfl (ev rfl hv2) (run_field_agg Tryz.runUnderlying75 rfl aggZ rfl) ⟨_,_,rfl,⟨hQ,rfl⟩,New.same _⟩⟩
    refine stC rfl (fun _ f' _ _ _ _ hT hS _=>?_) ?_
    ·obtain ⟨hv0,hr0⟩:=hT 0 29 rfl rfl
     obtain ⟨p2,n2,c2,hv2,hr2⟩:=(hT 2 31 rfl rfl:(Zt z2) _ _)
     obtain ⟨hv3,hr3⟩:=(hT 3 32 rfl rfl:(fun (us:List Value) => Is (.agg #[.bool (ng z2),(vat (us.getD 0 undef) [1])])) [f' 31] _ _)
     replace hv3:f' 32 = .agg #[.bool (ng z2),.slice p2 n2 c2]:=hv3.trans (by show (.agg #[.bool (ng z2),(vat (f' 31) [1])]:Value) = _; rw [hv2]; rfl)
     obtain hS:=hS.flat3 hr0 hr2 hr3
     exact .inl ⟨wNo rfl,oCl rfl rfl Tryz.call34 rfl ((wzadd (((hS.slm 2 rfl).zr hkza).mono (by omega)) (((hS.sl 4 rfl).zr hk2).mono (by omega)) hz3).mono Zt.m) (ar2 (ev rfl hv0) (ev rfl hv3)) cNw⟩
    exact sNi
   intro vs ρ w11 f' hf hT hS
   obtain ⟨hv0,hr0⟩:=hT 0 (by decide)
   obtain ⟨hv1,hr1⟩:=hT 1 (by decide)
   obtain ⟨p2,n2,c2,hv2,hr2⟩:=(hT 2 (by decide):(Zt z2) _ _)
   obtain ⟨hv3,hr3⟩:=(hT 3 (by decide):(fun (us:List Value) => Is (.agg #[.bool (ng z2),(vat (us.getD 0 undef) [1])])) [vs 2] _ _)
   replace hv3:vs 3 = .agg #[.bool (ng z2),.slice p2 n2 c2]:=hv3.trans (by show (.agg #[.bool (ng z2),(vat (vs 2) [1])]:Value) = _; rw [hv2]; rfl)
   obtain ⟨p3,n3,c3,hv4,hr4⟩:=(hT 4 (by decide):(Zm z3) _ _)
   simp only [pool,if_true,hr0,hr1,hr2,hr3,hr4,List.nil_append,List.cons_append,List.append_nil] at hS
   simp only [layf,hv0,hv1,hv2,hv3,hv4] at hf
   subst hf; clear hT hv0 hv1 hv2 hv3 hv4 hr0 hr1 hr2 hr3 hr4
   refine wLt 5 rfl (by kernel_rfl) (oSt _ _ Tryz.sizeOf28 hS 3 rfl rfl (ev rfl rfl) (ev rfl rfl) rfl rfl rfl rfl rfl rfl ?_)
   clear hS; intro w12 hS
   refine ⟨hNi,?_⟩
   refine wdone rfl ?_
   refine blkN (tNo (wreg ?_))
   obtain rfl:(facc absA 0 xr (j + 1)) = z3:=(facc_succ hle).trans (by show _ + _ = _; rw [hz2.out]; exact hz3.out)
   refine wbc (z:=.int .i64 ((j + 1:Nat):Int)) rfl rfl (bAd (wI6 (by omega) (by omega))) ?_
   refine wmv rfl rfl ?_
   refine wn1 ?_
   exact ⟨(j + 1),⟨_,_,_,_,aSs ⟨rfl,rfl,rfl,rfl,rfl,rfl,rfl,rfl,rfl,rfl,trivial⟩,hS.pick [3,0,5] (by decide) rfl,by omega,(hWd _ (by omega)).mono (by omega)⟩,by omega⟩
  refine wbt rfl rfl rfl rfl (bLs (decide_eq_false (by omega))) ?_
  refine wn1 (wSq ?_)
  refine wF (ev rfl rfl) ?_
  refine wEx ?_
  refine tEx ?_
  refine tEx ?_
  refine blkE ?_
  refine tNo (wreg (wmv rfl rfl ?_))
  refine wl rfl (oLd aggZ hS 0 rfl rfl (ev rfl rfl) rfl rfl rfl ?_)
  refine wl rfl (obslice (ps:=#[(0,.agg #[.bool (ng ((facc absA 0 xr j))),.slice pza nza cza])]) (z:=.agg #[.bool false,.slice none 0 0]) [.bool (ng ((facc absA 0 xr j))),.slice pza nza cza] hS rfl rfl Tryz.runUnderlying32 Tryz.sizeOf28 Tryz.zeroValue28 (parts1 (ev (v:=.agg #[.bool (ng ((facc absA 0 xr j))),.slice pza nza cza]) rfl rfl)) rfl (by decide) fill2_1 ?_)
  clear hS; intro g8 w9 hS
  obtain rfl:j = xr.length:=by omega
  obtain hS:=(show Sep w [.rowm pza nza cza (lim ((facc absA 0 xr xr.length)).natAbs),.lst 28 2 pX i cX (zzE Q),.blk g8 [.bool (ng ((facc absA 0 xr xr.length))),.slice pza nza cza] 28,.blk g4 [.bool (ng ((facc absA 0 xr xr.length))),.slice pza nza cza] 28] w9 from hS.pick [2,3,0,1] (by decide) rfl)
  refine wl rfl (oappendL (p:=pX) (m:=i) (c:=cX) (g2:=g8) (c2:=1) (off:=0) [.bool (ng ((facc absA 0 xr xr.length))),.slice pza nza cza] [.rowm pza nza cza (lim ((facc absA 0 xr xr.length)).natAbs)] hS rfl rfl Tryz.underlying32 infoInt rfl (by decide) (ev rfl rfl) (ev rfl rfl) (fun j v hj => by rw [Nat.zero_add]; exact (blk_cell (hS.blkAt 2 rfl) j).trans hj) rfl rfl rfl (by omega) (by omega) ?_)
  clear hS; intro p11 c12 w10 hS
  refine wav rfl rfl ?_
  refine wnil (blkN (tNo (wreg ?_)))
  rw [zz_snoc] at hS
  refine wbc (z:=.int .i64 ((i + 1:Nat):Int)) rfl rfl (bAd (wI6 (by omega) (by omega))) ?_
  refine wmv rfl rfl ?_
  refine wn1 ?_
  exact ⟨(i + 1),⟨_,_,_,_,aSs ⟨rfl,rfl,rfl,rfl,rfl,rfl,trivial⟩,hS.pick [0] (by decide) rfl,by omega,by rw [zsq_snoc,hQ,List.take_add_one,show (rsums T)[i]? = some (rsum xr) by unfold rsums; rw [List.getElem?_map,hxr]; rfl]; rfl⟩,by omega⟩
 refine wbt rfl rfl rfl rfl (bLs (decide_eq_false (by omega))) ?_
 refine wn1 (wSq ?_)
 refine wF (ev rfl rfl) ?_
 refine wEx ?_
 refine tEx ?_
 refine tEx ?_
 refine blkE ?_
 refine tNo (wsr (wmv rfl rfl ?_))
 refine wav rfl rfl ?_
 refine wavc ?_
 refine wn1 ?_
 refine wLv ?_
 have hin:i = nt:=by omega
 refine wret2 Tryz.results32 (tlT (v:=.slice pX i cX) rfl rfl) (tlT (v:=.int .i64 0) rfl rfl) ?_
 exact ⟨_,_,rfl,⟨pX,cX,Q,by rw [hQ,List.take_of_length_le (by unfold rsums; rw [List.length_map]; omega)],by rw [hin],by rw [hin]⟩,hS.newR 0 rfl rfl⟩
open Go.RowKit
theorem flatC_app2 (a b:List El):flatC (a ++ b) = flatC a ++ flatC b:=by simp [flatC]
theorem flatR_app2 (a b:List El):flatR (a ++ b) = flatR a ++ flatR b:=by simp [flatR]
theorem Sep.nilZ {w0 w:World} {R:List Res} (h:Sep w0 R w):∀ n,Sep w0 (flatR (zzE (List.replicate n ⟨none,0,0,0⟩)) ++ R) w
 | 0 => h
 | n + 1 => by
  have h1:=(Sep.nilZ h n).nilRowm
  have e:flatR (zzE (List.replicate (n + 1) ⟨none,0,0,0⟩)) = .rowm none 0 0 [] :: flatR (zzE (List.replicate n ⟨none,0,0,0⟩)):=by
   rw [List.replicate_succ]; unfold zzE flatR; rw [List.map_cons,List.flatMap_cons]; rfl
  rw [e]; exact h1
theorem els_zzE (Q:List Zw):Els 2 (zzE Q):=fun el hel => by
  obtain ⟨q,_,rfl⟩:=List.mem_map.1 hel
  exact ⟨rfl,rfl,fun r hr => by rw [List.mem_singleton.1 hr]; exact ⟨rfl,rfl⟩⟩
theorem Sep.arr {w0 w:World} {R:List Res} {g n:Nat} {cs:List Value} {t:TypeId} (h:Sep w0 (.blk g cs t :: R) w) (hc:flatC (zzE (List.replicate n ⟨none,0,0,0⟩)) = cs) (hl:cs.length = n * 2) (hn:n ≤ 1048576):Sep w0 (.lst t 2 (some ⟨g,0,none⟩) n n (zzE (List.replicate n ⟨none,0,0,0⟩)) :: R) w:=by
  have h1:=h.ofBlk (sz:=2) (m:=n) (cap:=n) (Nat.le_refl _) (by simp only [maxLen]; omega) hl
  rw [List.take_of_length_le (by omega), ← hc] at h1
  refine Sep.closeL (els_zzE _) (by rw [zzE_len,List.length_replicate]) ?_
  have h2:Sep w0 (flatR (zzE (List.replicate n ⟨none,0,0,0⟩)) ++ (.own' t 2 (some ⟨g,0,none⟩) n n (flatC (zzE (List.replicate n ⟨none,0,0,0⟩))) :: R)) w:=h1.nilZ n
  exact h2.perm List.perm_middle
section
variable {P:Program} {o:Oper} {n:Nat} {f:Nat → Value} {w w0:World} {R:List Res} {K:Act → World → Prop} {Q':Exit → Act → World → Prop} {d:Nat}
theorem osliceA {t e:TypeId} {x hi:Operand} {g m h sz:Nat} (hop:o.op = .slice t x none (some hi) none) (ho:o.dst = some d) (ht:P.underlying t = some (.array m e)) (hs:∀ w,(sizeOf e).run P w = .ok sz w)
  (hx:(act n f).eval x = .pointer (some ⟨g,0,none⟩)) (hh:(act n f).eval hi = .int .i64 (h:Int)) (hle:h ≤ m)
  (hK:K (act n (upd f d (.slice (some ⟨g,0,none⟩) h m))) w):OW P o (act n f) w K Q':=by
 refine oval ho ?_ rfl hK
 have h1:(0:Int) ≤ (h:Int):=by omega
 have h2:(h:Int) ≤ (m:Int):=by omega
 have e0:(⟨g,0,none⟩:Addr).add 0 = ⟨g,0,none⟩:=rfl
 simp [execOp,hop,hx,hh,Instr.sliceAt,run_underlying ht,Instr.sliceBounds,run_sliceBound,h1,h2,hs,Instr.sureAddr,e0]
theorem oappendN {t e e2:TypeId} {x y:Operand} {z:Value} {sz by':Nat} {g m c k c2:Nat} {es2:List El}
  (hS:Sep w0 (.lst e2 sz (some ⟨g,0,none⟩) m c es2 :: R) w) (hop:o.op = .call { callee:=.builtin .append,args:=#[x,y],argTypes:=#[t,t] }) (ho:o.dst = some d) (ht:P.underlying t = some (.slice e)) (hi:(P.info? e).map (fun i => (i.zero,i.size,i.bytes)) = some (some z,sz,by')) (hzs:z.cells.size = sz) (hsz:0 < sz)
  (hx:(act n f).eval x = .slice none 0 0) (hy:(act n f).eval y = .slice (some ⟨g,0,none⟩) k c2) (h0:0 < k) (hkm:k ≤ m) (hb:k * by' ≤ 140737488355328) (hm2:k ≤ 1073741824)
  (hK:∀ p' c' w',Sep w0 (.lst e sz p' k c' (es2.take k) :: R) w' → K (act n (upd f d (.slice p' k c'))) w'):OW P o (act n f) w K Q':=by
 rcases hi':P.info? e with _ | i
 ·rw [hi'] at hi; cases hi
 rw [hi'] at hi
 simp only [Option.map_some,Option.some.injEq,Prod.mk.injEq] at hi
 obtain ⟨hi1,hi2,hi3⟩:=hi
 have hS1:=hS.nilLst e sz
 obtain ⟨hE2,hl2,_⟩:=hS.openL
 obtain ⟨_,_,hS'⟩:=hS1.openL
 have hown:=(show (Res.own' e sz none 0 0 (flatC [])).holds w from hS'.holds _ List.mem_cons_self)
 have hown2:w.ownsRow 0 e2 sz (.slice (some ⟨g,0,none⟩) m c) m (flatC es2):=by
  obtain ⟨_,_,h3,_⟩:=(show (Res.lst e2 sz (some ⟨g,0,none⟩) m c es2).holds w from hS.get 0 rfl)
  exact h3 _ List.mem_cons_self
 have hEt:Els sz (es2.take k):=fun el h => hE2 el (List.mem_of_mem_take h)
 have hcl:∀ {l:List El},Els sz l → (flatC l).length = l.length * sz:=fun {l} hl => by
  induction l with
  | nil => simp [flatC]
  | cons a l ih =>
   have h1:=ih (fun el h => hl el (List.mem_cons_of_mem _ h))
   have h2:=(hl a List.mem_cons_self).1
   unfold flatC at h1 ⊢
   rw [List.flatMap_cons,List.length_append,h1,h2,List.length_cons,Nat.succ_mul]; omega
 have hsplit:flatC es2 = flatC (es2.take k) ++ flatC (es2.drop k):=by rw [← flatC_app2,List.take_append_drop]
 have hlt:(es2.take k).length = k:=by rw [List.length_take,hl2,Nat.min_eq_left hkm]
 obtain ⟨p',c',w',hrun,ho',hg,hp'⟩:=run_appendAt (P:=P) (w:=w) (ty:=o.type) (c2:=c2) ht hi' hi1 hi2 hi3 hzs hsz hown (a:=⟨g,0,none⟩) (k:=k) (news:=flatC (es2.take k)) (by rw [hcl hEt,hlt]) (fun j u hu => by
  refine hown2.cells (g:=g) rfl j u ?_
  rw [hsplit]
  have hj:=(List.getElem?_eq_some_iff.1 hu).1
  rw [List.getElem?_append_left hj]; exact hu) (fun u hu => by
   unfold flatC at hu
   obtain ⟨el,hel,hu2⟩:=List.mem_flatMap.1 hu
   exact List.all_eq_true.1 (hEt el hel).2.1 u hu2) h0 (by simp only [maxLen]; omega) (by rw [Nat.zero_add]; exact hb)
 have hS2:=hS'.grownL hg ho' hp'
 rw [Nat.zero_add] at hrun hS2
 have hfin:Sep w0 (.lst e sz p' k c' (es2.take k) :: R) w':=by
  refine Sep.closeL hEt hlt ?_
  have h3:Sep w0 (.lst e2 sz (some ⟨g,0,none⟩) m c es2 :: (.own' e sz p' k c' (flatC [] ++ flatC (es2.take k)) :: R)) w':=hS2.perm (List.Perm.swap _ _ _)
  obtain ⟨_,_,h4⟩:=h3.openL
  have h5:=h4.sub (List.sublist_cons_self _ _)
  have h6:Sep w0 (flatR (es2.take k) ++ (.own' e sz p' k c' (flatC (es2.take k)) :: R)) w':=h5.sub (by
   refine List.Sublist.append ?_ (List.Sublist.refl _)
   conv => rhs; rw [← List.take_append_drop k es2]
   rw [flatR_app2]
   exact List.sublist_append_left _ _)
  exact h6.perm List.perm_middle
 refine ⟨?_⟩
 have:=hK _ _ _ hfin
 unfold Oper.wp execOp
 simp only [hop,resolve,invoke,builtin,Sem.run_bind,Sem.run_pure,Result.andThen_ok,List.map_toArray,List.map_cons,List.map_nil,hx,hy,hrun]
 show K ((act n f).put o.dst _) w'
 rw [ho,act_put]
 exact this
end
def coefs (T:List (List Int)):List Int:=(List.range (T.length + 1)).map (esym (rsums T) T.length)
theorem esym_wd {l:List Int} {K:Nat} (hl:∀ i,Wd (l.getD i 0) K):∀ i k,Wd (esym l i k) ((K + 2) * i + 2)
 | 0,k => by
  rw [esym]
  split
  ·exact (Wd.i64 (z:=1) (by omega) (by omega)).mono (by omega)
  exact Wd.zero _
 | i + 1,k => by
  have h1:=esym_wd hl i k
  rw [esym]
  have e:(K + 2) * (i + 1) + 2 = (K + 2) * i + 2 + (K + 2):=by rw [Nat.mul_add]; omega
  rw [e]
  split
  ·rw [Int.add_zero]; exact h1.mono (by omega)
  exact Wd.add h1 (Wd.mul (esym_wd hl i (k - 1)) (hl i) rfl (Nat.le_refl _)) rfl (by omega)
theorem sweep {l:List Int} {i k:Nat} {Q:List Zw} {q:Zw} (hk:k ≠ 0) (hk2:k < 25) (hl:Q.length = 25) (h:∀ j,j < 25 → (zsq Q).getD j 0 = if k < j then esym l (i + 1) j else esym l i j) (hz:q.z = esym l (i + 1) k) :
  ∀ j,j < 25 → (zsq (Q.set k q)).getD j 0 = if k - 1 < j then esym l (i + 1) j else esym l i j:=fun j hj => by
 rw [zsq_set]
 by_cases e:j = k
 ·subst e
  rw [if_pos (by omega),List.getD,List.getElem?_set_self (by rw [zsq_len]; omega)]; exact hz
 rw [List.getD,List.getElem?_set_ne (fun h => e h.symm)]
 have h9:=h j hj
 rw [List.getD] at h9
 rw [h9]
 by_cases e2:k < j
 ·rw [if_pos e2,if_pos (by omega)]
 rw [if_neg e2,if_neg (by omega)]
theorem wbcoeffs {pt:Option Addr} {nt ct:Nat} {T:List (List Int)} {w:World} (hT:TB w pt nt T 67108864) (hr:∀ L ∈ T,L.length = nt) (h0:nt ≠ 0) (h24:nt ≤ 24) :
  Calls Tryz.prog 8 #[.slice pt nt ct] w (Ret (LIe (nt + 1) (coefs T) 0) w):=by
 have hTl:=hT.1
 obtain ⟨l,hl⟩:∃ l,rsums T = l:=⟨_,rfl⟩
 have hll:l.length = nt:=by rw [← hl]; unfold rsums; rw [List.length_map]; exact hTl
 have hWl:∀ i,Wd (l.getD i 0) 67108890:=fun i => by
  rw [← hl]
  unfold rsums
  rw [List.getD,List.getElem?_map]
  cases hx:T[i]? with
  | none => exact Wd.zero _
  | some L =>
   obtain ⟨b,off,q,c,_,_,hz⟩:=hT.2.2 i L hx
   have h1:=hr L (List.mem_of_getElem? hx)
   exact (facc_abs_wd hz L.length (Nat.le_refl _)).mono (by omega)
 have hWe:∀ i k,i ≤ 24 → Wd (esym l i k) 2000000000:=fun i k hi => (esym_wd hWl i k).mono (by omega)
 have hS:=Sep.init w
 refine went Tryz.func8 rfl (n:=51) rfl rfl ?_
 refine wsr (wavc ?_)
 refine wavc ?_
 refine wn2 (wmv rfl rfl ?_)
 refine wcl Tryz.call32 ((show Calls _ _ _ _ (Ret (LIe nt l 0) _) from by have h9:=wbsums (ct:=ct) (hT.at hS) hr h0 h24; rwa [hl] at h9)) (ar1 (ev rfl rfl)) hS ?_
 clear hS; rintro _ _ w1 ⟨pS,cS,QS,hQS,rfl,rfl⟩ hS
 refine wmv rfl rfl ?_
 refine wl rfl (oEx rfl rfl (ev rfl rfl) rfl ?_)
 refine wl rfl (oEx rfl rfl (ev rfl rfl) rfl ?_)
 refine wav rfl rfl ?_
 refine wav rfl rfl ?_
 refine wn1 (wSq (wsr (wmv rfl rfl ?_)))
 refine wbc (u:=.int .i64 0) (v:=.int .i64 0) (z:=.bool false) rfl rfl (bNe (by decide)) ?_
 refine wn1 ?_
 refine wF (ev rfl rfl) ?_
 refine wSk (tNo (wsr (wl rfl (oAl [.bool false,.slice none 0 0,.bool false,.slice none 0 0,.bool false,.slice none 0 0,.bool false,.slice none 0 0,.bool false,.slice none 0 0,.bool false,.slice none 0 0,.bool false,.slice none 0 0,.bool false,.slice none 0 0,.bool false,.slice none 0 0,.bool false,.slice none 0 0,.bool false,.slice none 0 0,.bool false,.slice none 0 0,.bool false,.slice none 0 0,.bool false,.slice none 0 0,.bool false,.slice none 0 0,.bool false,.slice none 0 0,.bool false,.slice none 0 0,.bool false,.slice none 0 0,.bool false,.slice none 0 0,.bool false,.slice none 0 0,.bool false,.slice none 0 0,.bool false,.slice none 0 0,.bool false,.slice none 0 0,.bool false,.slice none 0 0,.bool false,.slice none 0 0] hS rfl rfl Tryz.zeroValue72 rfl ?_))))
 clear hS; intro g2 w3 hS
 refine wn2 ?_
 replace hS:=hS.arr (n:=25) rfl rfl (by decide)
 have hk1:Wd 1 2:=Wd.i64 (by omega) (by omega)
 refine wcl Tryz.call33 ((wzof (z:=1) (by omega) (by omega)).mono Zt.m) (ar1 evc) hS ?_
 clear hS; rintro _ _ w4 ⟨p1,n1,c1,rfl,rfl⟩ hS
 refine wl rfl (oindexA (g:=g2) (off:=0) (m:=25) (k:=0) (j:=(0 + 0 * 2)) rfl rfl Tryz.runUnderlying72 Tryz.sizeOf28 (ev rfl rfl) evc (by omega) rfl ?_)
 refine wl rfl (ostoreL (i:=0) (g:=g2) [.bool (ng 1),.slice p1 n1 c1] [.rowm p1 n1 c1 (lim (1:Int).natAbs)] Tryz.sizeOf28 hS rfl rfl (ev rfl rfl) (ev rfl rfl) (rfl) rfl rfl rfl rfl (by omega) rfl ?_)
 clear hS; intro w5 hS
 refine wn1 (wSq (wsr (wmv rfl rfl ?_)))
 refine wl rfl (olen rfl rfl rfl Tryz.runUnderlying32 (p:=pS) (k:=nt) (m:=cS) (ev rfl rfl) ?_)
 refine wmvc ?_
 refine wn1 (wBk ?_)
 rw [zzE_set] at hS
 refine wLp (σ := Nat) (fun i a9 w' => ∃ (fb:Nat → Value) (QA:List Zw),a9 = act 51 (sets fb [(2,.slice none 0 0),(3,.int .i64 0),(4,.slice pS nt cS),(6,.pointer (some ⟨g2,0,none⟩)),(20,.slice pS nt cS),(21,.int .i64 (nt:Int)),(22,.int .i64 (i:Int))]) ∧ Sep w [.lst 72 2 (some ⟨g2,0,none⟩) 25 25 (zzE QA),.lst 28 2 pS nt cS (zzE QS)] w' ∧ (i ≤ nt) ∧ (∀ j,j < 25 → (zsq QA).getD j 0 = esym l i j) ∧ (QA.length = 25)) (fun i => nt - i) (0) ⟨_,_,aSs ⟨rfl,rfl,rfl,rfl,rfl,rfl,rfl,trivial⟩,hS,Nat.zero_le _,fun j hj => by rw [zsq_set,esym]; match j with | 0 => rfl | j + 1 => rw [if_neg (by omega)]; unfold zsq; rw [List.map_replicate,List.getD,List.getElem?_set_ne (by omega),List.getElem?_replicate]; split <;> rfl,by rw [List.length_set,List.length_replicate]⟩ ?_
 clear hS; rintro i _ w6 ⟨fb,QA,rfl,hS,hi,hA,hAl⟩
 refine wsr ?_
 by_cases hlt:i < nt
 ·
  refine wbt rfl rfl rfl rfl (bLs (decide_eq_true (by omega))) ?_
  refine wn1 (wSq ?_)
  refine wT (ev rfl rfl) ?_
  refine wk2 (wmv rfl rfl ?_)
  have hSl:QS.length = nt:=by rw [← zsq_len,hQS]; exact hll
  obtain ⟨gS,hgS⟩:=hS.lstPtr 1 rfl (by omega)
  obtain ⟨⟨px,nx,cx,zx⟩,hqx⟩:∃ q,(QS)[i]? = some q:=⟨_,List.getElem?_eq_getElem (by omega)⟩
  have hzx:(zsq (QS)).getD i 0 = zx:=zsq_get hqx
  have hwx:Wd zx 67108890:=by rw [← hzx,hQS]; exact hWl i
  refine wl rfl (oIx (p:=pS) (g:=gS) (off:=0) (m:=nt) (k:=i) (j:=(0 + i * 2)) rfl rfl Tryz.runUnderlying32 Tryz.sizeOf28 (ev rfl rfl) hgS (ev rfl rfl) (by omega) rfl ?_)
  refine wl rfl (oloadA aggZ rfl rfl (ev (v:=.pointer (some ⟨gS,(0 + i * 2),none⟩)) rfl rfl) (hS.lstAtA 1 rfl hgS i (zzE_get hqx) (by decide) (by omega)) rfl ?_)
  refine wl rfl (oAl [.bool false,.slice none 0 0] hS rfl rfl Tryz.zeroValue28 rfl ?_)
  clear hS; intro g7 w8 hS
  refine wav rfl rfl ?_
  refine wl rfl (oSt _ _ Tryz.sizeOf28 hS 0 rfl rfl (ev rfl rfl) (ev rfl rfl) rfl rfl rfl rfl rfl rfl ?_)
  clear hS; intro w9 hS
  refine wn2 (wmv rfl rfl ?_)
  refine wbc (z:=.int .i64 ((i + 1:Nat):Int)) rfl rfl (bAd (wI6 (by omega) (by omega))) ?_
  refine wav rfl rfl ?_
  refine wn1 (wBk ?_)
  refine wLp (σ := Nat) (fun k a9 w' => ∃ (fb:Nat → Value) (QB:List Zw),a9 = act 51 (sets fb [(2,.slice none 0 0),(3,.int .i64 0),(4,.slice pS nt cS),(6,.pointer (some ⟨g2,0,none⟩)),(8,.pointer (some ⟨g7,0,none⟩)),(9,.int .i64 (k:Int)),(20,.slice pS nt cS),(21,.int .i64 (nt:Int)),(22,.int .i64 (i:Int))]) ∧ Sep w [.blk g7 [.bool (ng zx),.slice px nx cx] 28,.lst 72 2 (some ⟨g2,0,none⟩) 25 25 (zzE QB),.lst 28 2 pS nt cS (zzE QS)] w' ∧ (k ≤ i + 1) ∧ (∀ j,j < 25 → (zsq QB).getD j 0 = if k < j then esym l (i + 1) j else esym l i j) ∧ (QB.length = 25)) (fun k => k) ((i + 1)) ⟨_,_,aSs ⟨rfl,rfl,rfl,rfl,rfl,rfl,rfl,rfl,rfl,trivial⟩,hS,Nat.le_refl _,fun j hj => by rw [hA j hj]; split; rw [esym_far (i + 1) j (by omega),esym_far i j (by omega)]; rfl,hAl⟩ ?_
  clear hS; rintro k _ w10 ⟨fb,QB,rfl,hS,hk,hB,hBl⟩
  refine wSq (wsr (wmv rfl rfl ?_))
  by_cases hk0:k = 0
  ·
   refine wbc rfl rfl (bin_gtr (decide_eq_false (by omega))) ?_
   refine wn1 ?_
   refine wF (ev rfl rfl) ?_
   refine wEx ?_
   refine tEx ?_
   refine tEx ?_
   refine blkE ?_
   refine blkN (tNo (wreg (wbc (z:=.int .i64 ((i + 1:Nat):Int)) rfl rfl (bAd (wI6 (by omega) (by omega))) ?_)))
   refine wmv rfl rfl ?_
   refine wn1 ?_
   exact ⟨(i + 1),⟨_,_,aSs ⟨rfl,rfl,rfl,rfl,rfl,rfl,rfl,trivial⟩,hS.pick [1,2] (by decide) rfl,by omega,fun j hj => by rw [hB j hj,hk0]; by_cases e:0 < j; rw [if_pos e]; rw [if_neg e,show j = 0 by omega,esym_zero,esym_zero],hBl⟩,by omega⟩
  refine wbc rfl rfl (bin_gtr (decide_eq_true (by omega))) ?_
  refine wn1 ?_
  refine wT (ev rfl rfl) ?_
  refine wSk (tNo (wSq (wBk ?_)))
  obtain ⟨⟨pa,na,ca,za⟩,hqa⟩:∃ q,(QB)[k]? = some q:=⟨_,List.getElem?_eq_getElem (by omega)⟩
  have hza:(zsq (QB)).getD k 0 = za:=zsq_get hqa
  have hwa:Wd za 2000000000:=by rw [← hza,hB k (by omega),if_neg (by omega)]; exact hWe i k (by omega)
  obtain ⟨⟨pb,nb,cb,zb⟩,hqb⟩:∃ q,(QB)[(k - 1)]? = some q:=⟨_,List.getElem?_eq_getElem (by omega)⟩
  have hzb:(zsq (QB)).getD ((k - 1)) 0 = zb:=zsq_get hqb
  have hwb:Wd zb 2000000000:=by rw [← hzb,hB (k - 1) (by omega),if_neg (by omega)]; exact hWe i (k - 1) (by omega)
  obtain ⟨z2,hz2⟩:∃ z:Int,Hid (zb * zx = z):=⟨_,rfl⟩
  have hk2:Wd z2 2067108890:=Wd.mul hwb hwx hz2 (by omega)
  obtain ⟨z3,hz3⟩:∃ z:Int,Hid (za + z2 = z):=⟨_,rfl⟩
  have hk3:Wd z3 2067108891:=Wd.add hwa hk2 hz3 (by omega)
  refine wSg 12 [33,34,35,36,37,38,39,40,41,42,43,44] [[],[],[1],[2,1],[],[4],[5,4],[6,4,5],[],[7,8,4,5,6],[3,9,1,2,4,5,6,7,8],[0,1,2,3,4,5,6,7,8,9,10]] [] [] [] (fun i9 => ([iSv (.int .i64 (k:Int)),iSv (.int .i64 (k:Int)),iSv (.pointer (some ⟨g2,(0 + k * 2),none⟩)),iSv (.agg #[.bool (ng za),.slice pa na ca]),iSv (.int .i64 (k:Int)),iSv (.int .i64 ((k - 1:Nat):Int)),iSv (.pointer (some ⟨g2,(0 + ((k - 1)) * 2),none⟩)),iSv (.agg #[.bool (ng zb),.slice pb nb cb]),iSv (.agg #[.bool (ng zx),.slice px nx cx]),fun _ => Zt z2,fun _ => Zm z3,iSv (.pointer (some ⟨g2,(0 + k * 2),none⟩))]:List (List Value → Tell)).getD i9 (fun _ _ _ => False)) hNi (fun d _ _ _ _ h => (by cases d <;> exact h)) (by kernel_rfl) (by kernel_rfl) (by kernel_rfl) hS ?_ ?_
  ·
   refine stM rfl rfl rfl rfl rfl (fun _=>isI) ?_
   refine stM rfl rfl rfl rfl rfl (fun _=>isI) ?_
   refine stC rfl (fun _ _ _ _ _ ho hT hS _=>?_) ?_
   ·obtain ⟨hv1,hr1⟩:=hT 1 34 rfl rfl
    obtain hS:=hS.flat1 hr1
    exact inNo rfl (oindexA (g:=g2) (off:=0) (m:=25) (k:=k) (j:=(0 + k * 2)) rfl rfl Tryz.runUnderlying72 Tryz.sizeOf28 (ev rfl (ho 6 rfl)) (ev rfl hv1) (by omega) rfl (nSm rfl isI))
   refine stT rfl (fun hT hS=>?_) ?_
   ·obtain ⟨hv2,hr2⟩:=hT 2 35 rfl rfl
    obtain hS:=hS.flat1 hr2
    exact inNo rfl (oloadA aggZ rfl rfl (ev (v:=.pointer (some ⟨g2,(0 + k * 2),none⟩)) rfl hv2) (hS.lstAtA 1 rfl rfl k (zzE_get hqa) (by decide) (by omega)) rfl (nSm rfl isI))
   refine stM rfl rfl rfl rfl rfl (fun _=>isI) ?_
   refine stT rfl (fun hT hS=>?_) ?_
   ·obtain ⟨hv4,hr4⟩:=hT 4 37 rfl rfl
    obtain hS:=hS.flat1 hr4
    exact inNo rfl (obin (z:=.int .i64 ((k - 1:Nat):Int)) rfl rfl (ev rfl hv4) evc (bin_sub (by rw [show (k:Int) - 1 = ((k - 1:Nat):Int) by omega]; exact wI6 (by omega) (by omega))) (nSm rfl isI))
   refine stC rfl (fun _ _ _ _ _ ho hT hS _=>?_) ?_
   ·obtain ⟨hv5,hr5⟩:=hT 5 38 rfl rfl
    obtain hS:=hS.flat1 hr5
    exact inNo rfl (oindexA (g:=g2) (off:=0) (m:=25) (k:=(k - 1)) (j:=(0 + ((k - 1)) * 2)) rfl rfl Tryz.runUnderlying72 Tryz.sizeOf28 (ev rfl (ho 6 rfl)) (ev rfl hv5) (by omega) rfl (nSm rfl isI))
   refine stT rfl (fun hT hS=>?_) ?_
   ·obtain ⟨hv6,hr6⟩:=hT 6 39 rfl rfl
    obtain hS:=hS.flat1 hr6
    exact inNo rfl (oloadA aggZ rfl rfl (ev (v:=.pointer (some ⟨g2,(0 + ((k - 1)) * 2),none⟩)) rfl hv6) (hS.lstAtA 1 rfl rfl ((k - 1)) (zzE_get hqb) (by decide) (by omega)) rfl (nSm rfl isI))
   refine stH rfl (fun ho hS=>?_) ?_
   ·exact inNo rfl (oLd aggZ hS 0 rfl rfl (ev rfl (ho 8 rfl)) rfl rfl rfl (nSm rfl isI))
   refine stT rfl (fun hT hS=>?_) ?_
   ·obtain ⟨hv7,hr7⟩:=hT 7 40 rfl rfl
    obtain ⟨hv8,hr8⟩:=hT 8 41 rfl rfl
    obtain hS:=hS.flat2 hr7 hr8
    exact .inl ⟨wNo rfl,oCl rfl rfl Tryz.call35 rfl (wzmul ((hS.zwZr 1 rfl hqb hwb).mono (by omega)) ((hS.zwZr 2 rfl hqx hwx).mono (by omega)) hz2) (ar2 (ev rfl hv7) (ev rfl hv8)) cNw⟩
   refine stT rfl (fun hT hS=>?_) ?_
   ·obtain ⟨hv3,hr3⟩:=hT 3 36 rfl rfl
    obtain ⟨p2,n2,c2,hv9,hr9⟩:=(hT 9 42 rfl rfl:(Zt z2) _ _)
    obtain hS:=hS.flat2 hr3 hr9
    exact .inl ⟨wNo rfl,oCl rfl rfl Tryz.call34 rfl ((wzadd ((hS.zwZr 1 rfl hqa hwa).mono (by omega)) (((hS.sl 3 rfl).zr hk2).mono (by omega)) hz3).mono Zt.m) (ar2 (ev rfl hv3) (ev rfl hv9)) cNw⟩
   refine stC rfl (fun _ _ _ _ _ ho hT hS _=>?_) ?_
   ·obtain ⟨hv0,hr0⟩:=hT 0 33 rfl rfl
    obtain hS:=hS.flat1 hr0
    exact inNo rfl (oindexA (g:=g2) (off:=0) (m:=25) (k:=k) (j:=(0 + k * 2)) rfl rfl Tryz.runUnderlying72 Tryz.sizeOf28 (ev rfl (ho 6 rfl)) (ev rfl hv0) (by omega) rfl (nSm rfl isI))
   exact sNi
  intro vs ρ w11 f' hf hT hS
  obtain ⟨hv0,hr0⟩:=hT 0 (by decide)
  obtain ⟨hv1,hr1⟩:=hT 1 (by decide)
  obtain ⟨hv2,hr2⟩:=hT 2 (by decide)
  obtain ⟨hv3,hr3⟩:=hT 3 (by decide)
  obtain ⟨hv4,hr4⟩:=hT 4 (by decide)
  obtain ⟨hv5,hr5⟩:=hT 5 (by decide)
  obtain ⟨hv6,hr6⟩:=hT 6 (by decide)
  obtain ⟨hv7,hr7⟩:=hT 7 (by decide)
  obtain ⟨hv8,hr8⟩:=hT 8 (by decide)
  obtain ⟨p2,n2,c2,hv9,hr9⟩:=(hT 9 (by decide):(Zt z2) _ _)
  obtain ⟨p3,n3,c3,hv10,hr10⟩:=(hT 10 (by decide):(Zm z3) _ _)
  obtain ⟨hv11,hr11⟩:=hT 11 (by decide)
  simp only [pool,if_true,hr0,hr1,hr2,hr3,hr4,hr5,hr6,hr7,hr8,hr9,hr10,hr11,List.nil_append,List.cons_append,List.append_nil] at hS
  simp only [layf,hv0,hv1,hv2,hv3,hv4,hv5,hv6,hv7,hv8,hv9,hv10,hv11] at hf
  subst hf; clear hT hv0 hv1 hv2 hv3 hv4 hv5 hv6 hv7 hv8 hv9 hv10 hv11 hr0 hr1 hr2 hr3 hr4 hr5 hr6 hr7 hr8 hr9 hr10 hr11
  obtain hS:=(show Sep w [.rowm p3 n3 c3 (lim z3.natAbs),.lst 72 2 (some ⟨g2,0,none⟩) 25 25 (zzE QB),.row p2 n2 c2 (lim z2.natAbs),.blk g7 [.bool (ng zx),.slice px nx cx] 28,.lst 28 2 pS nt cS (zzE QS)] w11 from hS.pick [0,3,1,2,4] (by decide) rfl)
  refine wLt 12 rfl (by kernel_rfl) (ostoreL (i:=k) (g:=g2) [.bool (ng z3),.slice p3 n3 c3] [.rowm p3 n3 c3 (lim z3.natAbs)] Tryz.sizeOf28 hS rfl rfl (ev rfl rfl) (ev rfl rfl) (rfl) rfl rfl rfl rfl (by omega) rfl ?_)
  clear hS; intro w12 hS
  refine ⟨hNi,?_⟩
  refine wdone rfl ?_
  refine blkN (tNo (wreg (wmv rfl rfl ?_)))
  rw [zzE_set] at hS
  have hz9:z3 = esym l (i + 1) k:=by rw [show k = (k - 1) + 1 by omega,esym_next,show k - 1 + 1 = k by omega, ← hz3.out, ← hz2.out, ← hzx,hQS, ← hza, ← hzb,hB k (by omega),hB (k - 1) (by omega),if_neg (by omega),if_neg (by omega)]
  refine wbc (z:=.int .i64 ((k - 1:Nat):Int)) rfl rfl (bin_sub (by rw [show (k:Int) - 1 = ((k - 1:Nat):Int) by omega]; exact wI6 (by omega) (by omega))) ?_
  refine wav rfl rfl ?_
  refine wn1 ?_
  exact ⟨(k - 1),⟨_,_,aSs ⟨rfl,rfl,rfl,rfl,rfl,rfl,rfl,rfl,rfl,trivial⟩,hS.pick [2,0,3] (by decide) rfl,by omega,sweep hk0 (by omega) hBl hB hz9,by rw [List.length_set]; exact hBl⟩,by omega⟩
 refine wbt rfl rfl rfl rfl (bLs (decide_eq_false (by omega))) ?_
 refine wn1 (wSq ?_)
 refine wF (ev rfl rfl) ?_
 refine wEx ?_
 refine tEx ?_
 refine tEx ?_
 refine blkE ?_
 refine tNo (wsr (wmv rfl rfl ?_))
 refine wl rfl (olen rfl rfl rfl Tryz.runUnderlying32 (p:=pS) (k:=nt) (m:=cS) (ev rfl rfl) ?_)
 have hin:i = nt:=by omega
 refine wbc (z:=.int .i64 ((nt + 1:Nat):Int)) rfl rfl (bAd (wI6 (by omega) (by omega))) ?_
 refine wl rfl (osliceA (g:=g2) (m:=25) (h:=((nt + 1))) rfl rfl Tryz.underlying72 Tryz.sizeOf28 (ev rfl rfl) (ev rfl rfl) (by omega) ?_)
 refine wl rfl (oappendN (g:=g2) (k:=((nt + 1))) (c2:=25) hS rfl rfl Tryz.underlying32 infoInt rfl (by decide) (evc (v:=.slice none 0 0)) (ev rfl rfl) (by omega) (by omega) (by omega) (by omega) ?_)
 clear hS; intro p8 c9 w7 hS
 refine wav rfl rfl ?_
 refine wavc ?_
 refine wn1 ?_
 refine wLv ?_
 refine wret2 Tryz.results8 (tlT (v:=.slice p8 ((nt + 1)) c9) rfl rfl) (tlT (v:=.int .i64 0) rfl rfl) ?_
 rw [show (zzE QA).take (nt + 1) = zzE (QA.take (nt + 1)) from by unfold zzE; rw [List.map_take]] at hS
 exact ⟨_,_,rfl,⟨_,_,QA.take (nt + 1),by unfold coefs; rw [hTl,hl]; apply List.ext_getElem?; intro j; by_cases e:j < nt + 1; have h9:=hA j (by omega); rw [hin] at h9; unfold zsq; rw [List.map_take,List.getElem?_take,if_pos e,List.getElem?_map,List.getElem?_map,List.getElem?_range e,Option.map_some, ← h9]; unfold zsq; rw [List.getD,List.getElem?_map,List.getElem?_eq_getElem (by omega)]; rfl; rw [List.getElem?_eq_none (by rw [zsq_len,List.length_take]; omega),List.getElem?_eq_none (by rw [List.length_map,List.length_range]; omega)],rfl,rfl⟩,hS.newR 0 rfl rfl⟩
end Go.Proofs.YtnlnibngpeempaaGreatDoor
