
/-
  The walk of nat.long.
-/
import Derived.Test.YtnlnibngpeempaaGreatDoorBB
import Derived.Test.YtnlnibngpeempaaGreatDoorBA
import Derived.BigGuardPart
set_option linter.unusedVariables false
set_option linter.unusedSimpArgs false
set_option maxRecDepth 100000
set_option maxHeartbeats 16000000
namespace Go.Proofs.YtnlnibngpeempaaGreatDoor
open Go.RowKit
theorem Fr.takeN {B:Nat} {w:World} {p:Option Addr} {n c:Nat} {xs:List Nat} (h:Fr B w p n c xs) {k:Nat} (hk:k ≤ n):Fr B w p k c (xs.take k):=by
 refine ⟨by simp [h.len]; omega,h.lims.take k,by simp [h.len]; omega,?_⟩
 rcases h.own.2 with ⟨h1,h2⟩ | ⟨g,cap,cur,h1,hb,hg,hnc,hcm,hcs,ht⟩
 ·simp only [Value.slice.injEq] at h1
  obtain ⟨rfl,rfl,rfl⟩:=h1
  obtain rfl:k = 0:=by omega
  exact .inl ⟨rfl,rfl⟩
 simp only [Value.slice.injEq,true_and] at h1
 obtain ⟨rfl,rfl⟩:=h1
 refine .inr ⟨g,c,cur,rfl,hb,hg,by omega,hcm,hcs,?_⟩
 rw [List.map_take, ← ht,List.take_take,Nat.mul_one,Nat.mul_one,Nat.min_eq_left hk]
theorem u64_wrap_nat {n:Nat} (h:n < 18446744073709551616):IntKind.u64.wrap (n:Int) = (n:Int):=by
  rw [IntKind.wrap_u64]; omega
theorem long_top {vs:List Nat} {n V top:Nat} (hl:vs.length = n) (ht:nd vs (n - 1) = top) (hv:Lims vs) (hV:val vs = V) (hn:1 ≤ n) (h:2147483648 * 4294967296 ^ (n - 1) ≤ V):2147483648 ≤ top:=by
  obtain ⟨k,rfl⟩:∃ k,n = k + 1:=⟨n - 1,by omega⟩
  rw [Nat.add_sub_cancel] at *
  have h1:V = sm (nd vs) k + nd vs k * 4294967296 ^ k:=by rw [← hV]; unfold val; rw [hl]; rfl
  have h2:=sm_lt (f:=nd vs) (k:=k) (fun i _ => hv.all i)
  rw [ht] at h1
  have h3:2147483648 * 4294967296 ^ k < (top + 1) * 4294967296 ^ k:=by rw [Nat.add_mul]; omega
  have:=Nat.lt_of_mul_lt_mul_right h3
  omega
theorem long_guess {us vs:List Nat} {j n V top next t W u2:Nat} (hu:Lims us) (hv:Lims vs) (hl:vs.length = n) (hV:val vs = V) (htp:nd vs (n - 1) = top) (hnx:nd vs (n - 2) = next) (hn:2 ≤ n)
  (ht:t = nd us (j + n) * 4294967296 + nd us (j + n - 1)) (hW:W = sm (fun k => nd us (j + k)) (n + 1)) (hu2:u2 = nd us (j + n - 2)) (htop:2147483648 ≤ top) :
  (∀ q r,q * top + r = t → r * 4294967296 + u2 < q * next → W < q * V) ∧ (∀ q r,q * top + r = t → q * next ≤ r * 4294967296 + u2 → q < 4294967296 → 0 < q → (q - 1) * V ≤ W) ∧ W / V ≤ t / top:=by
 have h1:=top2 (f:=nd vs) (n:=n) hv.all hn
 rw [htp,hnx] at h1
 have hV2:sm (nd vs) n = V:=by rw [← hV, ← hl]; rfl
 rw [hV2] at h1
 have h2:=top3 (g:=fun k => nd us (j + k)) (n:=n) (fun i => hu.all _) hn
 rw [← hW] at h2
 rw [show j + (n - 1) = j + n - 1 by omega,show j + (n - 2) = j + n - 2 by omega, ← ht, ← hu2] at h2
 refine ⟨fun q r hq h => guess_down h2.2 h1.1 rfl rfl hq h,fun q r hq h hqB hq0 => guess_up h2.1 h1.2 rfl rfl hq h hqB htop hq0,?_⟩
 rw [Nat.le_div_iff_mul_le (by omega)]
 have hub:u2 < 4294967296:=by rw [hu2]; exact hu.all _
 have hp:=pos_pow (n - 2)
 generalize 4294967296 ^ (n - 2) = P at *
 have h3:top * 4294967296 * P ≤ V:=by
  have:=h1.1
  rw [Nat.add_mul] at this; omega
 have h4:W < (t + 1) * 4294967296 * P:=by
  have h5:(t * 4294967296 + u2 + 1) * P ≤ (t + 1) * 4294967296 * P:=Nat.mul_le_mul_right _ (by omega)
  omega
 have h6:=Nat.div_mul_le_self W V
 generalize W / V = Q at *
 have h7:Q * (top * 4294967296 * P) ≤ Q * V:=Nat.mul_le_mul_left _ h3
 have h8:Q * top * 4294967296 * P < (t + 1) * 4294967296 * P:=by
  have:Q * (top * 4294967296 * P) = Q * top * 4294967296 * P:=by rw [← Nat.mul_assoc, ← Nat.mul_assoc]
  omega
 have h9:=Nat.lt_of_mul_lt_mul_right h8
 omega
theorem guess_end {qq Qn r top t:Nat} (hq:qq = Qn + 1) (h:qq * top + r = t) (hr:4294967296 ≤ r + top) (ht:t < (top + 1) * 4294967296) (_htop:0 < top):Qn < 4294967296 ∧ Qn * top + (r + top) = t:=by
  subst hq
  rw [Nat.add_mul,Nat.one_mul] at h
  refine ⟨?_,by omega⟩
  rw [Nat.add_mul] at ht
  have h2:Qn * top < 4294967296 * top:=by omega
  exact Nat.lt_of_mul_lt_mul_right h2
def LongIn (w:World) (gu gv go n m cu cv:Nat) (us2 vs zs:List Nat) (j q i b c:Nat) (wx:World):Prop :=
 ∃ us,Fr w.heap.size wx (some ⟨gu,0,none⟩) (n + m + 1) cu us ∧ Fr w.heap.size wx (some ⟨gv,0,none⟩) n cv vs ∧ Fr w.heap.size wx (some ⟨go,0,none⟩) (m + 1) (m + 1) zs ∧ Below w.heap.size w wx ∧
  Hid (sm (fun k => nd us (j + k)) i + q * sm (nd vs) i = sm (fun k => nd us2 (j + k)) i + 4294967296 ^ i * (c + b) ∧ ∀ x,(x < j ∨ j + i ≤ x) → nd us x = nd us2 x)
def RetTwo (w:World) (Q R:Nat) (e:Ending) (w':World):Prop :=
  ∃ p n c q m d,e = .returned (.tuple #[.slice p n c,.slice q m d]) ∧ Fr w.heap.size w' p n c (lim Q) ∧ Fr w.heap.size w' q m d (lim R) ∧ Below w.heap.size w w'
theorem long_final {A C s U Z:Nat} (h:U + C * 2 ^ s * Z = A * 2 ^ s) (hlt:U < C * 2 ^ s):Z = A / C ∧ U / 2 ^ s = A % C:=by
 have hp:=Nat.two_pow_pos s
 have e:C * 2 ^ s * Z = 2 ^ s * (C * Z):=by rw [Nat.mul_comm C,Nat.mul_assoc]
 rw [e,Nat.mul_comm A] at h
 rw [Nat.mul_comm C] at hlt
 have h1:C * Z ≤ A:=by
  have:2 ^ s * (C * Z) ≤ 2 ^ s * A:=by omega
  exact Nat.le_of_mul_le_mul_left this hp
 obtain ⟨R,rfl⟩:=Nat.exists_eq_add_of_le h1
 rw [Nat.mul_add] at h
 have hU:U = 2 ^ s * R:=by omega
 rw [hU] at hlt
 have hR:R < C:=Nat.lt_of_mul_lt_mul_left hlt
 have hC:0 < C:=by omega
 refine ⟨?_,?_⟩
 ·rw [Nat.add_comm,Nat.add_mul_div_left _ _ hC,Nat.div_eq_of_lt hR,Nat.zero_add]
 rw [hU,Nat.mul_div_cancel_left _ hp,Nat.add_comm,Nat.add_mul_mod_self_left,Nat.mod_eq_of_lt hR]
theorem long_start {A C s n m:Nat} (hA:ll A = n + m) (hC:ll C = n) (hs:s ≤ 31) (hn:1 ≤ n):A * 2 ^ s < 4294967296 ^ (n + m + 1) ∧ A * 2 ^ s < C * 2 ^ s * 4294967296 ^ (m + 1):=by
 have h1:=lt_ll A
 rw [hA] at h1
 have h2:4294967296 ^ (n - 1) ≤ C:=by
  rcases Nat.lt_or_ge C (4294967296 ^ (n - 1)) with h3 | h3
  ·have:=ll_le h3; omega
  exact h3
 have hp:=Nat.two_pow_pos s
 have hps:2 ^ s ≤ 2 ^ 31:=Nat.pow_le_pow_right (by omega) hs
 constructor
 ·rw [Nat.pow_succ]
  have h3:A * 2 ^ s ≤ A * 4294967296:=Nat.mul_le_mul_left _ (by omega)
  have h4:A * 4294967296 < 4294967296 ^ (n + m) * 4294967296:=Nat.mul_lt_mul_of_pos_right h1 (by omega)
  omega
 have h3:4294967296 ^ (n - 1) * 4294967296 ^ (m + 1) ≤ C * 4294967296 ^ (m + 1):=Nat.mul_le_mul_right _ h2
 rw [← Nat.pow_add,show n - 1 + (m + 1) = n + m by omega] at h3
 have h4:A < C * 4294967296 ^ (m + 1):=by omega
 have h5:=Nat.mul_lt_mul_of_pos_right h4 hp
 rw [Nat.mul_assoc,Nat.mul_comm (4294967296 ^ (m + 1)), ← Nat.mul_assoc] at h5
 exact h5
theorem wrap_twice (x b:Int):IntKind.u64.wrap (IntKind.u64.wrap x - b) = (x - b) % 18446744073709551616:=by
  rw [IntKind.wrap_u64,IntKind.wrap_u64]; omega
theorem owes_wrap {X c b:Nat} (_hX:X < 4294967296) (h:c + b = X + 1) (_hb:b ≤ 1):∃ dd:Nat,IntKind.u64.wrap (IntKind.u64.wrap ((X:Int) - (c:Int)) - (b:Int)) = (dd:Int) ∧ (dd:Int) / 9223372036854775808 = 1 ∧ (dd:Int) % 4294967296 = 4294967295 ∧ dd < 18446744073709551616:=by
  refine ⟨18446744073709551615,?_,by decide,by decide,by decide⟩
  rw [wrap_twice]
  have:(X:Int) - (c:Int) - (b:Int) = -1:=by omega
  rw [this]; decide
def LongBack (w:World) (gu gv go n m cu cv:Nat) (us3 vs zs:List Nat) (j i c:Nat) (wx:World):Prop :=
 ∃ us,Fr w.heap.size wx (some ⟨gu,0,none⟩) (n + m + 1) cu us ∧ Fr w.heap.size wx (some ⟨gv,0,none⟩) n cv vs ∧ Fr w.heap.size wx (some ⟨go,0,none⟩) (m + 1) (m + 1) zs ∧ Below w.heap.size w wx ∧
  Hid (sm (fun k => nd us (j + k)) i + 4294967296 ^ i * c = sm (fun k => nd us3 (j + k)) i + sm (nd vs) i ∧ ∀ x,(x < j ∨ j + i ≤ x) → nd us x = nd us3 x)
theorem window_set {us:List Nat} {j n d:Nat} (h:j + n < us.length):sm (fun k => nd (us.set (j + n) d) (j + k)) (n + 1) = sm (fun k => nd us (j + k)) n + d * 4294967296 ^ n:=by
  show sm _ n + nd _ (j + n) * _ = _
  rw [nd_set _ _ _ _ h,if_pos rfl]
  congr 1
  exact sm_congr fun k hk => by show nd (us.set (j + n) d) (j + k) = _; rw [nd_set _ _ _ _ h,if_neg (by omega)]
theorem and_mask {p:Nat} (h:p < 18446744073709551616):bits BinOp.and IntKind.u64 (p:Int) 4294967295 = ((p % 4294967296:Nat):Int):=by
  have e:(4294967295:Int) = ((4294967295:Nat):Int):=rfl
  rw [e,u64_and_nat _ _ h (by omega)]
  congr 1
  exact Nat.and_two_pow_sub_one_eq_mod p 32
def LongAt (w:World) (gu gv go n m cu cv V T:Nat) (vs:List Nat) (k:Nat) (wr:World):Prop :=
 ∃ us zs,Fr w.heap.size wr (some ⟨gu,0,none⟩) (n + m + 1) cu us ∧ Fr w.heap.size wr (some ⟨gv,0,none⟩) n cv vs ∧ Fr w.heap.size wr (some ⟨go,0,none⟩) (m + 1) (m + 1) zs ∧ Below w.heap.size w wr ∧
  Hid (val us + V * 4294967296 ^ k * val (zs.drop k) = T ∧ val us < V * 4294967296 ^ k)
theorem long_at0 {us zs:List Nat} {V T k:Nat} (h1:val us = T) (h2:val (zs.drop k) = 0) (h3:T < V * 4294967296 ^ k):Hid (val us + V * 4294967296 ^ k * val (zs.drop k) = T ∧ val us < V * 4294967296 ^ k):=by
  show _ ∧ _
  rw [h1,h2,Nat.mul_zero,Nat.add_zero]
  exact ⟨rfl,h3⟩
theorem long_any {p q:Option Addr} {n m c d:Nat} {xs ys:List Nat} {w:World} (hx:Sl w p (n + m) c xs) (hy:Sl w q n d ys) (hl:n + m ≤ 1099511627776) (hn:2 ≤ n)
  (hA:Hid (ll (val xs) = n + m)) (hC:Hid (ll (val ys) = n)) :
  Calls Tryz.prog 113 #[.slice p (n + m) c,.slice q n d] w (RetTwo w (val xs / val ys) (val xs % val ys)):=by
 have hcap:=hx.cap
 have hle:=hx.le
 have hcap2:=hy.cap
 have hle2:=hy.le
 unfold maxLen at hcap hcap2
 obtain ⟨b1,o1,rfl,hyc⟩:=hy.cell (n - 1) (by omega)
 have hY:=hy.lim1 (n - 1)
 obtain ⟨s,hs⟩:∃ s,s = 32 - blen (nd ys (n - 1)):=⟨_,rfl⟩
 have HNM:=Lib.hid (long_norm (N:=val ys) (s:=s) (by omega) hC.out (by rw [hs,nd_of_val hy.lims rfl]))
 have HS:=Lib.hid hs
 have hs31:s ≤ 31:=HNM.out.1
 clear hs
 go_enter Tryz.func113,Tryz.ntmps113
 go_wp2_with fail
 refine (lz32_any rfl hY).mono ?_
 rw [← HS.out]
 rintro e w1 ⟨rfl,rfl⟩
 go_wp2_with fail
 refine (left_any hy (by omega) (by omega)).mono ?_
 rintro e w2 ⟨pv,nv,cv,vs,rfl,hfv,hb2,HV,hv1,hv2,HV2⟩
 obtain rfl:nv = n:=by
  rw [hC.out] at hv1 hv2
  have h0:s / 32 = 0:=by omega
  rw [h0] at hv1 hv2
  rcases Nat.lt_or_ge n nv with h1 | h1
  ·have h2:=HV2.out (by rw [hC.out,h0]; omega)
   rw [hC.out,h0,Nat.zero_add] at h2
   have:=HNM.out.2.1
   omega
  omega
 clear hv1 hv2 HV2
 go_wp2_with fail
 refine (left_any (hx.below hb2 (Nat.le_refl _)) (by omega) (by omega)).mono ?_
 rintro e w3 ⟨pu,nu,cu,us,rfl,hfu,hb3,HU,hu1,hu2,_⟩
 have hL3:=Fr.below hfu ((Below.refl w3.heap.size w3).alloc (Nat.le_refl _) (.cells ([0,0].map fun x:Nat => Value.int .u32 (x:Int)).toArray 63)) (Nat.le_refl _)
 have hz3:=Sl.lit w3 [0,0] (lims_pair (by omega) (by omega))
 have hb33:=hb3.alloc hb3.size (.cells ([0,0].map fun x:Nat => Value.int .u32 (x:Int)).toArray 63)
 have hsz3:=hb3.size
 have hfuL:=Lib.hid hfu.len
 have hfuM:=Lib.hid hfu.lims
 have hsz2:=hb2.size
 have hll1:nu ≤ nv + m + 1:=by rw [hA.out] at hu2; omega
 have hll2:nv + m ≤ nu:=by rw [hA.out] at hu1; omega
 have HLL2:=Lib.hid hll2
 clear hu1 hu2
 have hnm:(nv:Int) + (m:Int) - (nv:Int) = (m:Int):=by omega
 obtain ⟨gv,rfl,hgv1,hgv2⟩:=hfv.pos (by omega)
 go_wp2_with (first | (at_builtin; refine wp_append32 _ rfl _ _ _ rfl Tryz.underlying26 w2.heap.size _ nu _ us rfl hL3 _ 2 _ [0,0] rfl hz3 (by omega) hb33 (Nat.le_refl _) (by simp; omega) ?_; intro p4 c4 w4 hf4 hg4 hb4; have h4l:nv + m + 1 ≤ c4:=(by have:=hf4.sl.le; omega); have h4m:=hf4.sl.cap; unfold maxLen at h4m; obtain ⟨gu,rfl,hgu1,hgu2⟩:=hf4.pos (by omega)) | (at_make; refine wp_make32 _ rfl _ _ _ rfl Tryz.underlying26 _ _ _ _ (m + 1) rfl rfl rfl rfl (by omega) w.heap.size w (hb2.trans (hb4.mono hsz2)) (by have:=hb4.size; omega) ?_; intro w5 hf5 hb5 hb6 hsz5))
 have hfv5:=Fr.below (Fr.below hfv (hb4.mono (Nat.le_refl w2.heap.size)) (Nat.le_refl _)) hb5 (Nat.le_refl _)
 have hfu5:=((hf4.below hb5 (Nat.le_refl _)).takeN (k:=nv + m + 1) (by omega)).mono hsz2
 have hb25:=hb4.trans (hb5.mono hb4.size)
 have hgo:w4.heap.size = w4.heap.size:=rfl
 obtain ⟨go,hgoe⟩:∃ go,go = w4.heap.size:=⟨_,rfl⟩
 rw [← hgoe] at hf5 hgu2 hsz5
 have hguv:gv < gu:=by omega
 have hguo:gu < go:=hgu2
 have HGO:=Lib.hid hgoe
 rw [← HGO.out]
 clear hL3 hz3 hb33 hsz3 hll1 hll2 hfv hf4 hg4 hb5 hb6 hgo hgoe hfu hb4 hyc hY hnm
 have hvc1:=hfv5.cellAt (i:=nv - 1) (by omega)
 have hvc2:=hfv5.cellAt (i:=nv - 2) (by omega)
 have hvl1:=hfv5.sl.lim1 (nv - 1)
 have hvl2:=hfv5.sl.lim1 (nv - 2)
 generalize hTop:nd vs (nv - 1) = top at *
 generalize hNext:nd vs (nv - 2) = next at *
 have HTop:=Lib.hid hTop
 have HNext:=Lib.hid hNext
 clear hTop hNext
 have hw1:IntKind.i64.wrap ((nv:Int) - 1) = (nv:Int) - 1:=IntWalk.i64_in _ (by omega)
 have hw2:IntKind.i64.wrap ((nv:Int) - 2) = (nv:Int) - 2:=IntWalk.i64_in _ (by omega)
 have hw3:((nv:Int) - 1).toNat = nv - 1:=by omega
 have hw4:((nv:Int) - 2).toNat = nv - 2:=by omega
 have hw5:0 ≤ (nv:Int) - 1:=by omega
 have hw6:0 ≤ (nv:Int) - 2:=by omega
 have hw7:(nv:Int) - 1 < (nv:Int):=by omega
 have hw8:(nv:Int) - 2 < (nv:Int):=by omega
 go_quiet (fail)
 clear hw1 hw2 hw3 hw4 hw5 hw6 hw7 hw8
 go_wp2_with fail
 obtain ⟨T,hT⟩:∃ T,T = val xs * 2 ^ s:=⟨_,rfl⟩
 obtain ⟨V,hV⟩:∃ V,V = val ys * 2 ^ s:=⟨_,rfl⟩
 rw [← hV] at HV HNM
 rw [← hT] at HU
 have H0:LongAt w gu gv go nv m c4 cv V T vs (m + 1) (w5.drewN nq):=by
  have hbd:=below_drewN (Below.refl w5.heap.size w5) nq
  refine ⟨_,_,hfu5.below hbd (Nat.le_refl _),hfv5.below hbd (Nat.le_refl _),(hf5.below hbd (Nat.le_refl _)),(hb2.trans (hb25.mono hsz2)).trans (hbd.mono (Nat.le_trans hsz2 hb25.size)),?_⟩
  have hst:=long_start hA.out hC.out hs31 (by omega)
  rw [← hT, ← hV] at hst
  have hv:val ((us ++ [0,0]).take (nv + m + 1)) = T:=by
   rw [val_take _ _ (by have h9:=HLL2.out; rw [List.length_append,hfuL.out]; show _ ≤ nu + 2; omega),sm_mod (hfuM.out.append (lims_pair (by omega) (by omega))),val_append,HU.out,val_pair]
   show (T + 4294967296 ^ us.length * 0) % _ = T
   rw [Nat.mul_zero,Nat.add_zero]
   exact Nat.mod_eq_of_lt hst.1
  exact long_at0 hv (val_drop_len (Nat.le_of_eq (List.length_replicate ..))) hst.2
 have HVT:=Lib.hid hT
 have HVV:=Lib.hid hV
 clear hT hV hfu5 hfv5 hf5 hvc1 hvc2 hb25 hsz5
 go_loopw [14] (fun v wr => ∃ k:Nat,k ≤ m + 1 ∧ v = .int .i64 ((k:Int) - 1) ∧ LongAt w gu gv go nv m c4 cv V T vs k wr) (fun v _ => (intOf v + 1).toNat)
 case atStart => exact ⟨m + 1,Nat.le_refl _,by go_num,H0⟩
 case round =>
  clear H0
  obtain ⟨k,hk,rfl,us2,zs,hfu,hfv,hfz,hbr,HH⟩:=hrel
  rcases k with _ | j
  ·go_wp2_with fail
   have hsl:=hfu.sl.take (k:=nv) (by omega)
   go_wp2_with fail
   refine (right_any hsl (by omega) (by omega)).mono ?_
   have hF:=HH.out
   rw [Nat.pow_zero,Nat.mul_one,List.drop_zero] at hF
   have hVn:V < 4294967296 ^ nv:=HNM.out.2.1
   have htk:val (us2.take nv) = val us2:=by
    rw [val_take _ _ (by rw [hfu.len]; omega),sm_mod hfu.lims,Nat.mod_eq_of_lt (by omega)]
   rw [htk]
   rw [HVT.out,HVV.out] at hF
   have hFF:=long_final hF.1 hF.2
   rw [hFF.2]
   rintro e w8 ⟨p8,n8,c8,rfl,hf8,hb8⟩
   go_wp2_with fail
   refine (own_any (hfz.below hb8 (Nat.le_refl _)).sl (by omega)).mono ?_
   rw [hFF.1]
   rintro e w9 ⟨p9,n9,c9,rfl,hf9,hb9⟩
   go_wp2_with fail
   go_ret2
   have hb89:=hbr.trans (hb8.mono hbr.size)
   exact ⟨_,_,_,_,_,_,rfl,hf9.mono hb89.size,(hf8.below hb9 (Nat.le_refl _)).mono hbr.size,hb89.trans (hb9.mono hb89.size)⟩
  have ej:((j + 1:Nat):Int) - 1 = (j:Int):=by omega
  rw [ej]
  clear ej
  have hwin:=window hfu.lims hfv.lims hfu.len hfv.len HV.out (by omega) (by omega) HH.out.2
  obtain ⟨W,hW⟩:∃ W,W = sm (fun k => nd us2 (j + k)) (nv + 1):=⟨_,rfl⟩
  have hu0:=hfu.cellAt (i:=j + nv) (by omega)
  have hu1:=hfu.cellAt (i:=j + nv - 1) (by omega)
  have hu2:=hfu.cellAt (i:=j + nv - 2) (by omega)
  have hl0:=hfu.sl.lim1 (j + nv)
  have hl1:=hfu.sl.lim1 (j + nv - 1)
  have hl2:=hfu.sl.lim1 (j + nv - 2)
  have hor:=or64 hl0 hl1
  obtain ⟨t,ht⟩:∃ t,t = nd us2 (j + nv) * 4294967296 + nd us2 (j + nv - 1):=⟨_,rfl⟩
  rw [← ht] at hor
  have htop:=long_top hfv.len HTop.out hfv.lims HV.out (by omega) HNM.out.2.2
  have hG:=long_guess hfu.lims hfv.lims hfv.len HV.out HTop.out HNext.out (by omega) (j:=j) ht hW rfl htop
  have ht2:t < (top + 1) * 4294967296:=by
   have:=hwin.2.1
   rw [HTop.out,show j + (nv - 1) = j + nv - 1 by omega, ← ht] at this
   exact this
  have htb:t < 18446744073709551616:=by
   have:=hfv.sl.lim1 (nv - 1)
   rw [HTop.out] at this
   omega
  have hWV:=hwin.1
  rw [← hW] at hWV
  have HW:=Lib.hid hW
  have HT2:=Lib.hid ht2
  have HUL:=Lib.hid hfu.len
  have HULL:=Lib.hid hfu.lims
  have hV0:0 < V:=by
   rcases Nat.eq_zero_or_pos V with h0 | h0
   ·rw [h0,Nat.zero_mul] at hWV; omega
   exact h0
  have HWV:=Lib.hid hWV
  have HG:=Lib.hid hG
  clear hW ht2 hWV hG hwin ht
  have hw1:IntKind.i64.wrap ((j:Int) + (nv:Int)) = (j:Int) + (nv:Int):=IntWalk.i64_in _ (by omega)
  have hw2:IntKind.i64.wrap ((j:Int) + (nv:Int) - 1) = (j:Int) + (nv:Int) - 1:=IntWalk.i64_in _ (by omega)
  have hw3:((j:Int) + (nv:Int)).toNat = j + nv:=by omega
  have hw4:((j:Int) + (nv:Int) - 1).toNat = j + nv - 1:=by omega
  have hw5:0 ≤ (j:Int) + (nv:Int):=by omega
  have hw6:0 ≤ (j:Int) + (nv:Int) - 1:=by omega
  have hw7:(j:Int) + (nv:Int) < ((nv + m + 1:Nat):Int):=by omega
  have hw8:(j:Int) + (nv:Int) - 1 < ((nv + m + 1:Nat):Int):=by omega
  go_wp2_with fail
  go_step3
  go_wp2_with fail
  go_quiet (fail)
  clear hw1 hw2 hw3 hw4 hw5 hw6 hw7 hw8 hor hu0 hu1
  go_wp2_with fail
  have hq0:IntKind.u64.wrap ((t:Int) / (top:Int)) = ((t / top:Nat):Int):=by
   rw [← Int.natCast_ediv]
   have:t / top ≤ t:=Nat.div_le_self _ _
   exact u64_wrap_nat (by omega)
  have hr0:(t:Int) % (top:Int) = ((t % top:Nat):Int):=(Int.natCast_emod _ _).symm
  go_quiet (fail)
  clear hq0 hr0
  go_wp2_with fail
  trace "11"
  go_step3
  go_wp2_with fail
  go_loopw [16,17] (fun qv rv wg => ∃ qq r:Nat,qv = .int .u64 (qq:Int) ∧ rv = .int .u64 (r:Int) ∧ r < 4294967296 ∧ Below wr.heap.size wr wg ∧ Hid (qq < 4294967300) ∧ Hid (qq * top + r = t) ∧ Hid (W / V ≤ qq)) (fun qv _ _ => (intOf qv).toNat)
  case atStart =>
   refine ⟨t / top,t % top,rfl,rfl,?_,below_drewN (below_drewN (Below.refl _ _) _) _,?_,?_,?_⟩
   ·have:=Nat.mod_lt t (show 0 < top by omega)
    omega
   ·have h1:=HT2.out
    show t / top < 4294967300
    rw [Nat.div_lt_iff_lt_mul (by omega)]
    omega
   ·show _ = _
    rw [Nat.mul_comm]; exact Nat.div_add_mod t top
   exact HG.out.2.2
  case round =>
   obtain ⟨qq,r,rfl,rfl,hr,hbg,HQB,HQR,HQW⟩:=hrel
   have hug:=(hfu.below hbg (Nat.le_refl _)).cellAt (i:=j + nv - 2) (by omega)
   have hor:=or64 hr hl2
   have hqb:qq < 4294967300:=HQB.out
   have hdr1:4294967296 ≤ r + top → decide ((4294967296:Int) ≤ (r:Int) + (top:Int)) = true:=by intro h; simp; omega
   have hdr0:¬ 4294967296 ≤ r + top → decide ((4294967296:Int) ≤ (r:Int) + (top:Int)) = false:=by intro h; simp; omega
   by_cases hbig:4294967296 ≤ qq
   ·have hd1:decide ((4294967296:Int) ≤ (qq:Int)) = true:=by simp; omega
    by_cases hrt:4294967296 ≤ r + top
    ·have hd2:=hdr1 hrt
     have HRT:=Lib.hid hrt
     clear hdr1 hdr0 hrt
     go_wp2_with fail
     obtain ⟨Qn,hQn⟩:∃ Qn:Nat,(qq:Int) - 1 = (Qn:Int):=⟨qq - 1,by omega⟩
     rw [hQn]
     have HQE:Hid (qq = Qn + 1):=by show _ = _; omega
     have hE:=guess_end HQE.out HQR.out HRT.out HT2.out (by omega)
     have hQlt:Qn < 4294967296:=hE.1
     have HQ1:Hid (W / V ≤ Qn):=by
      have h1:W / V < 4294967296:=by rw [Nat.div_lt_iff_lt_mul hV0,Nat.mul_comm]; exact HWV.out
      show _ ≤ _
      omega
     have HQ2:Hid (0 < Qn → (Qn - 1) * V ≤ W):=fun h0 => HG.out.2.1 Qn (r + top) hE.2 (by have:=mul_bd hQlt hvl2; have:=HRT.out; omega) hQlt h0
     clear hQn hE hd1 hd2 hbig hqb hor hug hl0 hl1 hl2 HRT HQE HQW HQR HQB htb htop hvl1 hvl2
     have hfu6:=hfu.below hbg (Nat.le_refl _)
     have hfv6:=hfv.below hbg (Nat.le_refl _)
     have hfz6:=hfz.below hbg (Nat.le_refl _)
     have hb6:=hbr.trans (hbg.mono hbr.size)
     have H1:LongIn w gu gv go nv m c4 cv us2 vs zs j Qn 0 0 0 wr:=⟨us2,hfu6,hfv6,hfz6,hb6,by show _ = _; simp [sm],fun x _ => rfl⟩
     clear hfu hfv hfz hbg hbr hfu6 hfv6 hfz6 hb6
     go_loopw [18,19,125] (fun bv cvv iv wx => ∃ b cc i:Nat,bv = .int .u64 (b:Int) ∧ cvv = .int .u64 (cc:Int) ∧ iv = .int .i64 (i:Int) ∧ i ≤ nv ∧ b ≤ 1 ∧ cc < 4294967296 ∧ LongIn w gu gv go nv m c4 cv us2 vs zs j Qn i b cc wx) (fun _ _ iv _ => nv - (intOf iv).toNat)
     case atStart => exact ⟨0,0,0,rfl,rfl,rfl,by omega,by omega,by omega,H1⟩
     case round =>
      clear H1
      obtain ⟨b,cc,i,rfl,rfl,rfl,hi,hb,hcc,us3,hfu,hfv,hfz,hbr,HI⟩:=hrel
      by_cases hin:i < nv
      ·have hvc:=hfv.cellAt hin
       have huc:=hfu.cellAt (i:=i + j) (by omega)
       have huf:=hfu.frozenAt (i + j)
       have hX:=hfv.sl.lim1 i
       have hU:=hfu.sl.lim1 (i + j)
       have hN:=take_num hU hX hQlt hcc hb
       obtain ⟨PP,hPP⟩:∃ PP,PP = Qn * nd vs i:=⟨_,rfl⟩
       have hP2:((Qn:Nat):Int) * ((nd vs i:Nat):Int) = ((PP:Nat):Int):=by rw [hPP,Int.natCast_mul]
       rw [← hPP] at hN
       have hP1:PP + cc < 18446744073709551616:=hN.2.1
       have hP3:=and_mask hP1
       have hP4:((PP + cc:Nat):Int) = (PP:Int) + (cc:Int):=Int.natCast_add _ _
       rw [hP4] at hP3
       clear hP4
       obtain ⟨PL,hPL⟩:∃ PL,PL = (PP + cc) % 4294967296:=⟨_,rfl⟩
       rw [← hPL] at hP3 hN
       have HN:=Lib.hid hN
       have HPP:=Lib.hid hPP
       have hPLb:PL < 4294967296:=by rw [hPL]; exact Nat.mod_lt _ (by omega)
       clear hN hPP hPL
       go_wp2_with fail
       rw [wrap_twice]
       obtain ⟨dn,bn,hbn,hdn,heq,hm,hq⟩:=HN.out.2.2
       rw [hm,hq,Nat.add_comm i j]
       rw [HPP.out,Nat.add_comm i j] at heq
       have hij:j + i < nv + m + 1:=by omega
       refine ⟨⟨bn,(PP + cc) / 4294967296,i + 1,rfl,rfl,by go_num,by omega,hbn,HN.out.1,us3.set (j + i) dn,hfu.set (j + i) hdn,hfv.setOther (a:=⟨gu,j + i,none⟩) (by intro g hg; simp at hg; subst hg; show _ ≠ gu; omega) _,hfz.setOther (a:=⟨gu,j + i,none⟩) (by intro g hg; simp at hg; subst hg; show _ ≠ gu; omega) _,hbr.setCell (p:=⟨gu,j + i,none⟩) (by show _ ≤ gu; omega) _,?_,?_⟩,by simp [intOf]; omega⟩
       ·rw [HPP.out]
        have hst:=take_step hij hfu.len HI.out.1 heq
        rw [HI.out.2 (j + i) (Or.inr (Nat.le_refl _))] at hst
        exact hst
       intro x hx2
       rw [nd_set _ _ _ _ (by rw [hfu.len]; exact hij),if_neg (by omega)]
       exact HI.out.2 x (by omega)
      obtain rfl:i = nv:=by omega
      have hVn:V < 4294967296 ^ i:=by rw [← HV.out, ← hfv.len]; exact val_lt hfv.lims
      have hsv:sm (nd vs) i = V:=by rw [← HV.out, ← hfv.len]; rfl
      have hI1:=HI.out.1
      rw [hsv] at hI1
      have hXe:nd us3 (j + i) = nd us2 (j + i):=HI.out.2 _ (Or.inr (Nat.le_refl _))
      have hWX:W = sm (fun k => nd us2 (j + k)) i + 4294967296 ^ i * nd us3 (j + i):=by rw [HW.out,hXe,Nat.mul_comm]; rfl
      have hSl:sm (fun k => nd us3 (j + k)) i < 4294967296 ^ i:=sm_lt fun k _ => hfu.lims.all _
      obtain ⟨X,hXX⟩:∃ X,X = nd us3 (j + i):=⟨_,rfl⟩
      rw [← hXX] at hWX
      have hXl:X < 4294967296:=by rw [hXX]; exact hfu.sl.lim1 _
      have hxc:=hfu.cellAt (i:=j + i) (by omega)
      rw [← hXX] at hxc
      have hxf:=hfu.frozenAt (j + i)
      by_cases hfit:cc + b ≤ X
      ·have hF:=take_fits hWX hI1 hfit hSl hVn hV0 HQ1.out
       have hA:(X:Int) - (cc:Int) - (b:Int) = 0:=by have:=hF.2.1; omega
       have HF:=Lib.hid hF
       clear hF hI1 hWX hXX hXe hsv hSl hVn
       have hne1:go ≠ gu:=by omega
       have hne2:gu ≠ go:=by omega
       have hzc:=hfz.cellAt (i:=j) (by omega)
       have hzf:=hfz.frozenAt j
       go_wp2_with fail
       rw [Exit.noGoto_normal]
       go_wp2_with fail
       refine ⟨⟨j,by omega,rfl,us3.set (j + i) 0,zs.set j Qn,(hfu.set (j + i) (v:=0) (by omega)).setOther (a:=⟨go,j,none⟩) (by intro g hg; simp at hg; subst hg; show _ ≠ go; omega) _,(hfv.setOther (a:=⟨gu,j + i,none⟩) (by intro g hg; simp at hg; subst hg; show _ ≠ gu; omega) _).setOther (a:=⟨go,j,none⟩) (by intro g hg; simp at hg; subst hg; show _ ≠ go; omega) _,(hfz.setOther (a:=⟨gu,j + i,none⟩) (by intro g hg; simp at hg; subst hg; show _ ≠ gu; omega) _).set j hQlt,(hbr.setCell (p:=⟨gu,j + i,none⟩) (by show _ ≤ gu; omega) _).setCell (p:=⟨go,j,none⟩) (by show _ ≤ go; omega) _,?_⟩,by simp [intOf]⟩
       have hlu:us2.length = i + m + 1:=HUL.out
       refine long_next (us:=us2) HULL.out (hfu.lims.set _ (by omega)) hfv.lims hlu (by rw [List.length_set]; exact hfu.len) hfv.len HV.out (by omega) (by omega) hfz.len HH.out.2 HH.out.1 (by rw [← HW.out]; exact HF.out.1) ?_ ?_
       ·rw [window_set (by rw [hfu.len]; omega),Nat.zero_mul,Nat.add_zero, ← HW.out]
        exact HF.out.2.2
       intro x hx2
       rw [nd_set _ _ _ _ (by rw [hfu.len]; omega),if_neg (by omega)]
       exact HI.out.2 x (by omega)
      have hQn0:0 < Qn:=by
       rcases Nat.eq_zero_or_pos Qn with h0 | h0
       ·rw [h0,Nat.zero_mul,Nat.add_zero] at hI1
        have h1:4294967296 ^ i * 1 ≤ 4294967296 ^ i * (cc + b):=Nat.mul_le_mul_left _ (by omega)
        omega
       exact h0
      have howe:=take_owes hWX hI1 (by omega) hSl hVn hV0 HQ1.out hQn0 (HQ2.out hQn0)
      have HOWE:=Lib.hid howe
      obtain ⟨dd,hE1,hE2,hE3,hE4⟩:=owes_wrap hXl howe.2.1 hb
      have hE5:((dd:Int) / 9223372036854775808 == 1) = true:=by rw [hE2]; rfl
      clear howe hI1 hWX hXX hXe hsv hSl hVn hE4 hE2
      have hne1:go ≠ gu:=by omega
      have hne2:gu ≠ go:=by omega
      have hne3:gv ≠ gu:=by omega
      have hne4:gu ≠ gv:=by omega
      have hxlt:X < cc + b:=by omega
      clear hfit
      obtain ⟨Qm,hQm⟩:∃ Qm:Nat,Qm = Qn - 1:=⟨_,rfl⟩
      have hQm1:(Qn:Int) - 1 = (Qm:Int):=by omega
      have hQm2:Qm < 4294967296:=by omega
      have HQM:=Lib.hid hQm
      clear hQm
      have HB0:LongBack w gu gv go i m c4 cv (us3.set (j + i) 4294967295) vs zs j 0 0 (wr.setCell ⟨gu,j + i,none⟩ (.int .u32 4294967295)) :=
       ⟨us3.set (j + i) 4294967295,hfu.set (j + i) (v:=4294967295) (by omega),hfv.setOther (a:=⟨gu,j + i,none⟩) (by intro g hg; simp at hg; subst hg; show _ ≠ gu; omega) _,hfz.setOther (a:=⟨gu,j + i,none⟩) (by intro g hg; simp at hg; subst hg; show _ ≠ gu; omega) _,hbr.setCell (p:=⟨gu,j + i,none⟩) (by show _ ≤ gu; omega) _,by show _ = _; simp [sm],fun x _ => rfl⟩
      have HUL3:=Lib.hid hfu.len
      go_wp2_with fail
      clear hE1 hE3 hE5 hxc hxf hfv hfz hbr
      go_loopw [24,185] (fun cv2 iv wx => ∃ c2 k2:Nat,cv2 = .int .u64 (c2:Int) ∧ iv = .int .i64 (k2:Int) ∧ k2 ≤ i ∧ c2 ≤ 1 ∧ LongBack w gu gv go i m c4 cv (us3.set (j + i) 4294967295) vs zs j k2 c2 wx) (fun _ iv _ => i - (intOf iv).toNat)
      case atStart => exact ⟨0,0,rfl,rfl,by omega,by omega,HB0⟩
      case round =>
       clear HB0
       obtain ⟨c2,k2,rfl,rfl,hk2,hc2,us4,hfu4,hfv4,hfz4,hbr4,HB⟩:=hrel
       by_cases hki:k2 < i
       ·have hvc:=hfv4.cellAt hki
        have huc:=hfu4.cellAt (i:=k2 + j) (by omega)
        have huf:=hfu4.frozenAt (k2 + j)
        have hX:=hfv4.sl.lim1 k2
        have hU:=hfu4.sl.lim1 (k2 + j)
        have hw1:IntKind.i64.wrap ((k2:Int) + (j:Int)) = (k2:Int) + (j:Int):=IntWalk.i64_in _ (by omega)
        have hw3:((k2:Int) + (j:Int)).toNat = k2 + j:=by omega
        have hw5:0 ≤ (k2:Int) + (j:Int):=by omega
        have hw7:(k2:Int) + (j:Int) < ((i + m + 1:Nat):Int):=by omega
        have hw8:(k2:Int) < (i:Int):=by omega
        go_wp2_with fail
        go_quiet (fail)
        clear hw1 hw3 hw5 hw7 hw8
        go_wp2_with fail
        have hbd:=below_drewN (Below.refl wr.heap.size wr) nq
        have hjk:j + k2 < i + m + 1:=by omega
        rw [Nat.add_comm k2 j]
        refine ⟨⟨(nd us4 (j + k2) + nd vs k2 + c2) / 4294967296,k2 + 1,rfl,by go_num,by omega,by rw [Nat.add_comm k2 j] at hU; omega,us4.set (j + k2) ((nd us4 (j + k2) + nd vs k2 + c2) % 4294967296),(hfu4.below hbd (Nat.le_refl _)).set (j + k2) (Nat.mod_lt _ (by omega)),(hfv4.below hbd (Nat.le_refl _)).setOther (a:=⟨gu,j + k2,none⟩) (by intro g hg; simp at hg; subst hg; show _ ≠ gu; omega) _,(hfz4.below hbd (Nat.le_refl _)).setOther (a:=⟨gu,j + k2,none⟩) (by intro g hg; simp at hg; subst hg; show _ ≠ gu; omega) _,(hbr4.trans (hbd.mono hbr4.size)).setCell (p:=⟨gu,j + k2,none⟩) (by show _ ≤ gu; omega) _,?_,?_⟩,by simp [intOf]; omega⟩
        ·have hst:=back_step (vs:=vs) (c:=c2) hjk hfu4.len HB.out.1
         rw [HB.out.2 (j + k2) (Or.inr (Nat.le_refl _))] at hst ⊢
         exact hst
        intro x hx2
        rw [nd_set _ _ _ _ (by rw [hfu4.len]; exact hjk),if_neg (by omega)]
        exact HB.out.2 x (by omega)
       obtain rfl:k2 = i:=by omega
       have hB1:=HB.out.1
       have hw3:sm (fun k => nd (us3.set (j + k2) 4294967295) (j + k)) k2 = sm (fun k => nd us3 (j + k)) k2 :=
        sm_congr fun k hk => by show nd (us3.set (j + k2) 4294967295) (j + k) = _; rw [nd_set _ _ _ _ (by rw [HUL3.out]; omega),if_neg (by omega)]
       have hsv:sm (nd vs) k2 = V:=by rw [← HV.out, ← hfv4.len]; rfl
       have hVn:V < 4294967296 ^ k2:=by rw [← HV.out, ← hfv4.len]; exact val_lt hfv4.lims
       rw [hw3,hsv,HOWE.out.2.2] at hB1
       have hSl4:sm (fun k => nd us4 (j + k)) k2 < 4294967296 ^ k2:=sm_lt fun k _ => hfu4.lims.all _
       have hmod:=Nat.mod_lt W hV0
       have hc21:c2 = 1:=by
        rcases Nat.eq_zero_or_pos c2 with h0 | h0
        ·rw [h0,Nat.mul_zero,Nat.add_zero] at hB1
         omega
        omega
       subst hc21
       have hS4:sm (fun k => nd us4 (j + k)) k2 = W % V:=by rw [Nat.mul_one] at hB1; omega
       have HS4:=Lib.hid hS4
       have hx4:nd us4 (j + k2) = 4294967295:=by
        rw [HB.out.2 _ (Or.inr (Nat.le_refl _)),nd_set _ _ _ _ (by rw [HUL3.out]; omega),if_pos rfl]
       have hxc:=hfu4.cellAt (i:=j + k2) (by omega)
       rw [hx4] at hxc
       have hxc2:wr.cell? ⟨gu,j + k2,none⟩ = some (.int .u32 4294967295):=hxc
       have hxf:=hfu4.frozenAt (j + k2)
       have hzc:=hfz4.cellAt (i:=j) (by omega)
       have hzf:=hfz4.frozenAt j
       clear hB1 hw3 hsv hVn hSl4 hmod hS4 hx4 hxc
       go_wp2_with fail
       rw [Exit.noGoto_normal]
       go_wp2_with fail
       refine ⟨⟨j,by omega,rfl,us4.set (j + k2) 0,zs.set j Qm,(hfu4.set (j + k2) (v:=0) (by omega)).setOther (a:=⟨go,j,none⟩) (by intro g hg; simp at hg; subst hg; show _ ≠ go; omega) _,(hfv4.setOther (a:=⟨gu,j + k2,none⟩) (by intro g hg; simp at hg; subst hg; show _ ≠ gu; omega) _).setOther (a:=⟨go,j,none⟩) (by intro g hg; simp at hg; subst hg; show _ ≠ go; omega) _,(hfz4.setOther (a:=⟨gu,j + k2,none⟩) (by intro g hg; simp at hg; subst hg; show _ ≠ gu; omega) _).set j hQm2,(hbr4.setCell (p:=⟨gu,j + k2,none⟩) (by show _ ≤ gu; omega) _).setCell (p:=⟨go,j,none⟩) (by show _ ≤ go; omega) _,?_⟩,by simp [intOf]⟩
       refine long_next (us:=us2) HULL.out (hfu4.lims.set _ (by omega)) hfv4.lims HUL.out (by rw [List.length_set]; exact hfu4.len) hfv4.len HV.out (by omega) (by omega) hfz4.len HH.out.2 HH.out.1 (by rw [← HW.out,HQM.out]; exact HOWE.out.1) ?_ ?_
       ·rw [window_set (by rw [hfu4.len]; omega),Nat.zero_mul,Nat.add_zero, ← HW.out]
        exact HS4.out
       intro x hx2
       rw [nd_set _ _ _ _ (by rw [hfu4.len]; omega),if_neg (by omega),HB.out.2 x (by omega),nd_set _ _ _ _ (by rw [HUL3.out]; omega),if_neg (by omega)]
       exact HI.out.2 x (by omega)
    have hd2:=hdr0 hrt
    clear hdr1 hdr0
    go_wp2_with fail
    refine ⟨⟨qq - 1,r + top,congrArg (Value.int IntKind.u64) (by omega),rfl,by omega,hbg,by show _ < _; omega,?_,?_⟩,by simp [intOf]; omega⟩
    ·obtain ⟨pp,rfl⟩:∃ pp,qq = pp + 1:=⟨qq - 1,by omega⟩
     show _ = _
     have:=HQR.out
     rw [Nat.add_mul] at this
     rw [Nat.add_sub_cancel]
     omega
    have h1:W / V < 4294967296:=by rw [Nat.div_lt_iff_lt_mul hV0,Nat.mul_comm]; exact HWV.out
    show _ ≤ _
    omega
   have hd1:decide ((4294967296:Int) ≤ (qq:Int)) = false:=by simp; omega
   obtain ⟨PP,hPP⟩:∃ PP,PP = qq * next:=⟨_,rfl⟩
   have hP1:PP ≤ 18446744065119617025:=by rw [hPP]; exact mul_bd (by omega) hvl2
   have hP2:((qq:Nat):Int) * ((next:Nat):Int) = ((PP:Nat):Int):=by rw [hPP,Int.natCast_mul]
   have HPP:=Lib.hid hPP
   clear hPP
   obtain ⟨RU,hRU⟩:∃ RU,RU = r * 4294967296 + nd us2 (j + nv - 2):=⟨_,rfl⟩
   rw [← hRU] at hor
   have HRU:=Lib.hid hRU
   have hRUb:RU < 18446744073709551616:=by omega
   by_cases hcmp:RU < PP
   ·have hd3:decide ((RU:Int) < (PP:Int)) = true:=by simp; omega
    have hq0:0 < qq:=by
     rcases Nat.eq_zero_or_pos qq with h0 | h0
     ·have:=HPP.out
      rw [h0,Nat.zero_mul] at this
      omega
     exact h0
    by_cases hrt:4294967296 ≤ r + top
    ·have hd2:=hdr1 hrt
     have HRT:=Lib.hid hrt
     clear hdr1 hdr0 hrt hRU
     go_wp2_with fail
     obtain ⟨Qn,hQn⟩:∃ Qn:Nat,(qq:Int) - 1 = (Qn:Int):=⟨qq - 1,by omega⟩
     rw [hQn]
     have HQE:Hid (qq = Qn + 1):=by show _ = _; omega
     have hE:=guess_end HQE.out HQR.out HRT.out HT2.out (by omega)
     have hQlt:Qn < 4294967296:=hE.1
     have HQ1:Hid (W / V ≤ Qn):=by
      have h2:=HG.out.1 qq r HQR.out (by rw [← HPP.out, ← HRU.out]; exact hcmp)
      have h1:W / V < qq:=by rw [Nat.div_lt_iff_lt_mul hV0]; exact h2
      show _ ≤ _
      omega
     have HQ2:Hid (0 < Qn → (Qn - 1) * V ≤ W):=fun h0 => HG.out.2.1 Qn (r + top) hE.2 (by have:=mul_bd hQlt hvl2; have:=HRT.out; omega) hQlt h0
     clear hQn hE hd1 hd2 hd3 hbig hqb hor hug hl0 hl1 hl2 HRT HQE HQW HQR HQB htb htop hvl1 hvl2 hcmp hP1 hP2 HPP HRU hRUb hq0
     have hfu6:=hfu.below hbg (Nat.le_refl _)
     have hfv6:=hfv.below hbg (Nat.le_refl _)
     have hfz6:=hfz.below hbg (Nat.le_refl _)
     have hb6:=hbr.trans (hbg.mono hbr.size)
     have H1:LongIn w gu gv go nv m c4 cv us2 vs zs j Qn 0 0 0 wr:=⟨us2,hfu6,hfv6,hfz6,hb6,by show _ = _; simp [sm],fun x _ => rfl⟩
     clear hfu hfv hfz hbg hbr hfu6 hfv6 hfz6 hb6
     go_loopw [18,19,125] (fun bv cvv iv wx => ∃ b cc i:Nat,bv = .int .u64 (b:Int) ∧ cvv = .int .u64 (cc:Int) ∧ iv = .int .i64 (i:Int) ∧ i ≤ nv ∧ b ≤ 1 ∧ cc < 4294967296 ∧ LongIn w gu gv go nv m c4 cv us2 vs zs j Qn i b cc wx) (fun _ _ iv _ => nv - (intOf iv).toNat)
     case atStart => exact ⟨0,0,0,rfl,rfl,rfl,by omega,by omega,by omega,H1⟩
     case round =>
      clear H1
      obtain ⟨b,cc,i,rfl,rfl,rfl,hi,hb,hcc,us3,hfu,hfv,hfz,hbr,HI⟩:=hrel
      by_cases hin:i < nv
      ·have hvc:=hfv.cellAt hin
       have huc:=hfu.cellAt (i:=i + j) (by omega)
       have huf:=hfu.frozenAt (i + j)
       have hX:=hfv.sl.lim1 i
       have hU:=hfu.sl.lim1 (i + j)
       have hN:=take_num hU hX hQlt hcc hb
       obtain ⟨PP,hPP⟩:∃ PP,PP = Qn * nd vs i:=⟨_,rfl⟩
       have hP2:((Qn:Nat):Int) * ((nd vs i:Nat):Int) = ((PP:Nat):Int):=by rw [hPP,Int.natCast_mul]
       rw [← hPP] at hN
       have hP1:PP + cc < 18446744073709551616:=hN.2.1
       have hP3:=and_mask hP1
       have hP4:((PP + cc:Nat):Int) = (PP:Int) + (cc:Int):=Int.natCast_add _ _
       rw [hP4] at hP3
       clear hP4
       obtain ⟨PL,hPL⟩:∃ PL,PL = (PP + cc) % 4294967296:=⟨_,rfl⟩
       rw [← hPL] at hP3 hN
       have HN:=Lib.hid hN
       have HPP:=Lib.hid hPP
       have hPLb:PL < 4294967296:=by rw [hPL]; exact Nat.mod_lt _ (by omega)
       clear hN hPP hPL
       go_wp2_with fail
       rw [wrap_twice]
       obtain ⟨dn,bn,hbn,hdn,heq,hm,hq⟩:=HN.out.2.2
       rw [hm,hq,Nat.add_comm i j]
       rw [HPP.out,Nat.add_comm i j] at heq
       have hij:j + i < nv + m + 1:=by omega
       refine ⟨⟨bn,(PP + cc) / 4294967296,i + 1,rfl,rfl,by go_num,by omega,hbn,HN.out.1,us3.set (j + i) dn,hfu.set (j + i) hdn,hfv.setOther (a:=⟨gu,j + i,none⟩) (by intro g hg; simp at hg; subst hg; show _ ≠ gu; omega) _,hfz.setOther (a:=⟨gu,j + i,none⟩) (by intro g hg; simp at hg; subst hg; show _ ≠ gu; omega) _,hbr.setCell (p:=⟨gu,j + i,none⟩) (by show _ ≤ gu; omega) _,?_,?_⟩,by simp [intOf]; omega⟩
       ·rw [HPP.out]
        have hst:=take_step hij hfu.len HI.out.1 heq
        rw [HI.out.2 (j + i) (Or.inr (Nat.le_refl _))] at hst
        exact hst
       intro x hx2
       rw [nd_set _ _ _ _ (by rw [hfu.len]; exact hij),if_neg (by omega)]
       exact HI.out.2 x (by omega)
      obtain rfl:i = nv:=by omega
      have hVn:V < 4294967296 ^ i:=by rw [← HV.out, ← hfv.len]; exact val_lt hfv.lims
      have hsv:sm (nd vs) i = V:=by rw [← HV.out, ← hfv.len]; rfl
      have hI1:=HI.out.1
      rw [hsv] at hI1
      have hXe:nd us3 (j + i) = nd us2 (j + i):=HI.out.2 _ (Or.inr (Nat.le_refl _))
      have hWX:W = sm (fun k => nd us2 (j + k)) i + 4294967296 ^ i * nd us3 (j + i):=by rw [HW.out,hXe,Nat.mul_comm]; rfl
      have hSl:sm (fun k => nd us3 (j + k)) i < 4294967296 ^ i:=sm_lt fun k _ => hfu.lims.all _
      obtain ⟨X,hXX⟩:∃ X,X = nd us3 (j + i):=⟨_,rfl⟩
      rw [← hXX] at hWX
      have hXl:X < 4294967296:=by rw [hXX]; exact hfu.sl.lim1 _
      have hxc:=hfu.cellAt (i:=j + i) (by omega)
      rw [← hXX] at hxc
      have hxf:=hfu.frozenAt (j + i)
      by_cases hfit:cc + b ≤ X
      ·have hF:=take_fits hWX hI1 hfit hSl hVn hV0 HQ1.out
       have hA:(X:Int) - (cc:Int) - (b:Int) = 0:=by have:=hF.2.1; omega
       have HF:=Lib.hid hF
       clear hF hI1 hWX hXX hXe hsv hSl hVn
       have hne1:go ≠ gu:=by omega
       have hne2:gu ≠ go:=by omega
       have hzc:=hfz.cellAt (i:=j) (by omega)
       have hzf:=hfz.frozenAt j
       go_wp2_with fail
       rw [Exit.noGoto_normal]
       go_wp2_with fail
       refine ⟨⟨j,by omega,rfl,us3.set (j + i) 0,zs.set j Qn,(hfu.set (j + i) (v:=0) (by omega)).setOther (a:=⟨go,j,none⟩) (by intro g hg; simp at hg; subst hg; show _ ≠ go; omega) _,(hfv.setOther (a:=⟨gu,j + i,none⟩) (by intro g hg; simp at hg; subst hg; show _ ≠ gu; omega) _).setOther (a:=⟨go,j,none⟩) (by intro g hg; simp at hg; subst hg; show _ ≠ go; omega) _,(hfz.setOther (a:=⟨gu,j + i,none⟩) (by intro g hg; simp at hg; subst hg; show _ ≠ gu; omega) _).set j hQlt,(hbr.setCell (p:=⟨gu,j + i,none⟩) (by show _ ≤ gu; omega) _).setCell (p:=⟨go,j,none⟩) (by show _ ≤ go; omega) _,?_⟩,by simp [intOf]⟩
       have hlu:us2.length = i + m + 1:=HUL.out
       refine long_next (us:=us2) HULL.out (hfu.lims.set _ (by omega)) hfv.lims hlu (by rw [List.length_set]; exact hfu.len) hfv.len HV.out (by omega) (by omega) hfz.len HH.out.2 HH.out.1 (by rw [← HW.out]; exact HF.out.1) ?_ ?_
       ·rw [window_set (by rw [hfu.len]; omega),Nat.zero_mul,Nat.add_zero, ← HW.out]
        exact HF.out.2.2
       intro x hx2
       rw [nd_set _ _ _ _ (by rw [hfu.len]; omega),if_neg (by omega)]
       exact HI.out.2 x (by omega)
      have hQn0:0 < Qn:=by
       rcases Nat.eq_zero_or_pos Qn with h0 | h0
       ·rw [h0,Nat.zero_mul,Nat.add_zero] at hI1
        have h1:4294967296 ^ i * 1 ≤ 4294967296 ^ i * (cc + b):=Nat.mul_le_mul_left _ (by omega)
        omega
       exact h0
      have howe:=take_owes hWX hI1 (by omega) hSl hVn hV0 HQ1.out hQn0 (HQ2.out hQn0)
      have HOWE:=Lib.hid howe
      obtain ⟨dd,hE1,hE2,hE3,hE4⟩:=owes_wrap hXl howe.2.1 hb
      have hE5:((dd:Int) / 9223372036854775808 == 1) = true:=by rw [hE2]; rfl
      clear howe hI1 hWX hXX hXe hsv hSl hVn hE4 hE2
      have hne1:go ≠ gu:=by omega
      have hne2:gu ≠ go:=by omega
      have hne3:gv ≠ gu:=by omega
      have hne4:gu ≠ gv:=by omega
      have hxlt:X < cc + b:=by omega
      clear hfit
      obtain ⟨Qm,hQm⟩:∃ Qm:Nat,Qm = Qn - 1:=⟨_,rfl⟩
      have hQm1:(Qn:Int) - 1 = (Qm:Int):=by omega
      have hQm2:Qm < 4294967296:=by omega
      have HQM:=Lib.hid hQm
      clear hQm
      have HB0:LongBack w gu gv go i m c4 cv (us3.set (j + i) 4294967295) vs zs j 0 0 (wr.setCell ⟨gu,j + i,none⟩ (.int .u32 4294967295)) :=
       ⟨us3.set (j + i) 4294967295,hfu.set (j + i) (v:=4294967295) (by omega),hfv.setOther (a:=⟨gu,j + i,none⟩) (by intro g hg; simp at hg; subst hg; show _ ≠ gu; omega) _,hfz.setOther (a:=⟨gu,j + i,none⟩) (by intro g hg; simp at hg; subst hg; show _ ≠ gu; omega) _,hbr.setCell (p:=⟨gu,j + i,none⟩) (by show _ ≤ gu; omega) _,by show _ = _; simp [sm],fun x _ => rfl⟩
      have HUL3:=Lib.hid hfu.len
      go_wp2_with fail
      clear hE1 hE3 hE5 hxc hxf hfv hfz hbr
      go_loopw [24,185] (fun cv2 iv wx => ∃ c2 k2:Nat,cv2 = .int .u64 (c2:Int) ∧ iv = .int .i64 (k2:Int) ∧ k2 ≤ i ∧ c2 ≤ 1 ∧ LongBack w gu gv go i m c4 cv (us3.set (j + i) 4294967295) vs zs j k2 c2 wx) (fun _ iv _ => i - (intOf iv).toNat)
      case atStart => exact ⟨0,0,rfl,rfl,by omega,by omega,HB0⟩
      case round =>
       clear HB0
       obtain ⟨c2,k2,rfl,rfl,hk2,hc2,us4,hfu4,hfv4,hfz4,hbr4,HB⟩:=hrel
       by_cases hki:k2 < i
       ·have hvc:=hfv4.cellAt hki
        have huc:=hfu4.cellAt (i:=k2 + j) (by omega)
        have huf:=hfu4.frozenAt (k2 + j)
        have hX:=hfv4.sl.lim1 k2
        have hU:=hfu4.sl.lim1 (k2 + j)
        have hw1:IntKind.i64.wrap ((k2:Int) + (j:Int)) = (k2:Int) + (j:Int):=IntWalk.i64_in _ (by omega)
        have hw3:((k2:Int) + (j:Int)).toNat = k2 + j:=by omega
        have hw5:0 ≤ (k2:Int) + (j:Int):=by omega
        have hw7:(k2:Int) + (j:Int) < ((i + m + 1:Nat):Int):=by omega
        have hw8:(k2:Int) < (i:Int):=by omega
        go_wp2_with fail
        go_quiet (fail)
        clear hw1 hw3 hw5 hw7 hw8
        go_wp2_with fail
        have hbd:=below_drewN (Below.refl wr.heap.size wr) nq
        have hjk:j + k2 < i + m + 1:=by omega
        rw [Nat.add_comm k2 j]
        refine ⟨⟨(nd us4 (j + k2) + nd vs k2 + c2) / 4294967296,k2 + 1,rfl,by go_num,by omega,by rw [Nat.add_comm k2 j] at hU; omega,us4.set (j + k2) ((nd us4 (j + k2) + nd vs k2 + c2) % 4294967296),(hfu4.below hbd (Nat.le_refl _)).set (j + k2) (Nat.mod_lt _ (by omega)),(hfv4.below hbd (Nat.le_refl _)).setOther (a:=⟨gu,j + k2,none⟩) (by intro g hg; simp at hg; subst hg; show _ ≠ gu; omega) _,(hfz4.below hbd (Nat.le_refl _)).setOther (a:=⟨gu,j + k2,none⟩) (by intro g hg; simp at hg; subst hg; show _ ≠ gu; omega) _,(hbr4.trans (hbd.mono hbr4.size)).setCell (p:=⟨gu,j + k2,none⟩) (by show _ ≤ gu; omega) _,?_,?_⟩,by simp [intOf]; omega⟩
        ·have hst:=back_step (vs:=vs) (c:=c2) hjk hfu4.len HB.out.1
         rw [HB.out.2 (j + k2) (Or.inr (Nat.le_refl _))] at hst ⊢
         exact hst
        intro x hx2
        rw [nd_set _ _ _ _ (by rw [hfu4.len]; exact hjk),if_neg (by omega)]
        exact HB.out.2 x (by omega)
       obtain rfl:k2 = i:=by omega
       have hB1:=HB.out.1
       have hw3:sm (fun k => nd (us3.set (j + k2) 4294967295) (j + k)) k2 = sm (fun k => nd us3 (j + k)) k2 :=
        sm_congr fun k hk => by show nd (us3.set (j + k2) 4294967295) (j + k) = _; rw [nd_set _ _ _ _ (by rw [HUL3.out]; omega),if_neg (by omega)]
       have hsv:sm (nd vs) k2 = V:=by rw [← HV.out, ← hfv4.len]; rfl
       have hVn:V < 4294967296 ^ k2:=by rw [← HV.out, ← hfv4.len]; exact val_lt hfv4.lims
       rw [hw3,hsv,HOWE.out.2.2] at hB1
       have hSl4:sm (fun k => nd us4 (j + k)) k2 < 4294967296 ^ k2:=sm_lt fun k _ => hfu4.lims.all _
       have hmod:=Nat.mod_lt W hV0
       have hc21:c2 = 1:=by
        rcases Nat.eq_zero_or_pos c2 with h0 | h0
        ·rw [h0,Nat.mul_zero,Nat.add_zero] at hB1
         omega
        omega
       subst hc21
       have hS4:sm (fun k => nd us4 (j + k)) k2 = W % V:=by rw [Nat.mul_one] at hB1; omega
       have HS4:=Lib.hid hS4
       have hx4:nd us4 (j + k2) = 4294967295:=by
        rw [HB.out.2 _ (Or.inr (Nat.le_refl _)),nd_set _ _ _ _ (by rw [HUL3.out]; omega),if_pos rfl]
       have hxc:=hfu4.cellAt (i:=j + k2) (by omega)
       rw [hx4] at hxc
       have hxc2:wr.cell? ⟨gu,j + k2,none⟩ = some (.int .u32 4294967295):=hxc
       have hxf:=hfu4.frozenAt (j + k2)
       have hzc:=hfz4.cellAt (i:=j) (by omega)
       have hzf:=hfz4.frozenAt j
       clear hB1 hw3 hsv hVn hSl4 hmod hS4 hx4 hxc
       go_wp2_with fail
       rw [Exit.noGoto_normal]
       go_wp2_with fail
       refine ⟨⟨j,by omega,rfl,us4.set (j + k2) 0,zs.set j Qm,(hfu4.set (j + k2) (v:=0) (by omega)).setOther (a:=⟨go,j,none⟩) (by intro g hg; simp at hg; subst hg; show _ ≠ go; omega) _,(hfv4.setOther (a:=⟨gu,j + k2,none⟩) (by intro g hg; simp at hg; subst hg; show _ ≠ gu; omega) _).setOther (a:=⟨go,j,none⟩) (by intro g hg; simp at hg; subst hg; show _ ≠ go; omega) _,(hfz4.setOther (a:=⟨gu,j + k2,none⟩) (by intro g hg; simp at hg; subst hg; show _ ≠ gu; omega) _).set j hQm2,(hbr4.setCell (p:=⟨gu,j + k2,none⟩) (by show _ ≤ gu; omega) _).setCell (p:=⟨go,j,none⟩) (by show _ ≤ go; omega) _,?_⟩,by simp [intOf]⟩
       refine long_next (us:=us2) HULL.out (hfu4.lims.set _ (by omega)) hfv4.lims HUL.out (by rw [List.length_set]; exact hfu4.len) hfv4.len HV.out (by omega) (by omega) hfz4.len HH.out.2 HH.out.1 (by rw [← HW.out,HQM.out]; exact HOWE.out.1) ?_ ?_
       ·rw [window_set (by rw [hfu4.len]; omega),Nat.zero_mul,Nat.add_zero, ← HW.out]
        exact HS4.out
       intro x hx2
       rw [nd_set _ _ _ _ (by rw [hfu4.len]; omega),if_neg (by omega),HB.out.2 x (by omega),nd_set _ _ _ _ (by rw [HUL3.out]; omega),if_neg (by omega)]
       exact HI.out.2 x (by omega)
    have hd2:=hdr0 hrt
    clear hdr1 hdr0 hRU
    go_wp2_with fail
    refine ⟨⟨qq - 1,r + top,congrArg (Value.int IntKind.u64) (by omega),rfl,by omega,hbg,by show _ < _; omega,?_,?_⟩,by simp [intOf]; omega⟩
    ·obtain ⟨pp,rfl⟩:∃ pp,qq = pp + 1:=⟨qq - 1,by omega⟩
     show _ = _
     have:=HQR.out
     rw [Nat.add_mul] at this
     rw [Nat.add_sub_cancel]
     omega
    have h2:=HG.out.1 qq r HQR.out (by rw [← HPP.out, ← HRU.out]; exact hcmp)
    have h1:W / V < qq:=by rw [Nat.div_lt_iff_lt_mul hV0]; exact h2
    show _ ≤ _
    omega
   have hd3:decide ((RU:Int) < (PP:Int)) = false:=by simp; omega
   clear hdr1 hdr0 hRU
   go_wp2_with fail
   obtain ⟨Qn,rfl⟩:∃ Qn:Nat,Qn = qq:=⟨_,rfl⟩
   have hQlt:Qn < 4294967296:=by omega
   have HQ1:Hid (W / V ≤ Qn):=HQW
   have HQ2:Hid (0 < Qn → (Qn - 1) * V ≤ W):=fun h0 => HG.out.2.1 Qn r HQR.out (by rw [← HPP.out, ← HRU.out]; omega) hQlt h0
   clear hd1 hd3 hbig hqb hor hug hl0 hl1 hl2 HQW HQR HQB htb htop hvl1 hvl2 hcmp hP1 hP2 HPP HRU hRUb
   have hfu6:=hfu.below hbg (Nat.le_refl _)
   have hfv6:=hfv.below hbg (Nat.le_refl _)
   have hfz6:=hfz.below hbg (Nat.le_refl _)
   have hb6:=hbr.trans (hbg.mono hbr.size)
   have H1:LongIn w gu gv go nv m c4 cv us2 vs zs j Qn 0 0 0 wr:=⟨us2,hfu6,hfv6,hfz6,hb6,by show _ = _; simp [sm],fun x _ => rfl⟩
   clear hfu hfv hfz hbg hbr hfu6 hfv6 hfz6 hb6
   go_loopw [18,19,125] (fun bv cvv iv wx => ∃ b cc i:Nat,bv = .int .u64 (b:Int) ∧ cvv = .int .u64 (cc:Int) ∧ iv = .int .i64 (i:Int) ∧ i ≤ nv ∧ b ≤ 1 ∧ cc < 4294967296 ∧ LongIn w gu gv go nv m c4 cv us2 vs zs j Qn i b cc wx) (fun _ _ iv _ => nv - (intOf iv).toNat)
   case atStart => exact ⟨0,0,0,rfl,rfl,rfl,by omega,by omega,by omega,H1⟩
   case round =>
    clear H1
    obtain ⟨b,cc,i,rfl,rfl,rfl,hi,hb,hcc,us3,hfu,hfv,hfz,hbr,HI⟩:=hrel
    by_cases hin:i < nv
    ·have hvc:=hfv.cellAt hin
     have huc:=hfu.cellAt (i:=i + j) (by omega)
     have huf:=hfu.frozenAt (i + j)
     have hX:=hfv.sl.lim1 i
     have hU:=hfu.sl.lim1 (i + j)
     have hN:=take_num hU hX hQlt hcc hb
     obtain ⟨PP,hPP⟩:∃ PP,PP = Qn * nd vs i:=⟨_,rfl⟩
     have hP2:((Qn:Nat):Int) * ((nd vs i:Nat):Int) = ((PP:Nat):Int):=by rw [hPP,Int.natCast_mul]
     rw [← hPP] at hN
     have hP1:PP + cc < 18446744073709551616:=hN.2.1
     have hP3:=and_mask hP1
     have hP4:((PP + cc:Nat):Int) = (PP:Int) + (cc:Int):=Int.natCast_add _ _
     rw [hP4] at hP3
     clear hP4
     obtain ⟨PL,hPL⟩:∃ PL,PL = (PP + cc) % 4294967296:=⟨_,rfl⟩
     rw [← hPL] at hP3 hN
     have HN:=Lib.hid hN
     have HPP:=Lib.hid hPP
     have hPLb:PL < 4294967296:=by rw [hPL]; exact Nat.mod_lt _ (by omega)
     clear hN hPP hPL
     go_wp2_with fail
     rw [wrap_twice]
     obtain ⟨dn,bn,hbn,hdn,heq,hm,hq⟩:=HN.out.2.2
     rw [hm,hq,Nat.add_comm i j]
     rw [HPP.out,Nat.add_comm i j] at heq
     have hij:j + i < nv + m + 1:=by omega
     refine ⟨⟨bn,(PP + cc) / 4294967296,i + 1,rfl,rfl,by go_num,by omega,hbn,HN.out.1,us3.set (j + i) dn,hfu.set (j + i) hdn,hfv.setOther (a:=⟨gu,j + i,none⟩) (by intro g hg; simp at hg; subst hg; show _ ≠ gu; omega) _,hfz.setOther (a:=⟨gu,j + i,none⟩) (by intro g hg; simp at hg; subst hg; show _ ≠ gu; omega) _,hbr.setCell (p:=⟨gu,j + i,none⟩) (by show _ ≤ gu; omega) _,?_,?_⟩,by simp [intOf]; omega⟩
     ·rw [HPP.out]
      have hst:=take_step hij hfu.len HI.out.1 heq
      rw [HI.out.2 (j + i) (Or.inr (Nat.le_refl _))] at hst
      exact hst
     intro x hx2
     rw [nd_set _ _ _ _ (by rw [hfu.len]; exact hij),if_neg (by omega)]
     exact HI.out.2 x (by omega)
    obtain rfl:i = nv:=by omega
    have hVn:V < 4294967296 ^ i:=by rw [← HV.out, ← hfv.len]; exact val_lt hfv.lims
    have hsv:sm (nd vs) i = V:=by rw [← HV.out, ← hfv.len]; rfl
    have hI1:=HI.out.1
    rw [hsv] at hI1
    have hXe:nd us3 (j + i) = nd us2 (j + i):=HI.out.2 _ (Or.inr (Nat.le_refl _))
    have hWX:W = sm (fun k => nd us2 (j + k)) i + 4294967296 ^ i * nd us3 (j + i):=by rw [HW.out,hXe,Nat.mul_comm]; rfl
    have hSl:sm (fun k => nd us3 (j + k)) i < 4294967296 ^ i:=sm_lt fun k _ => hfu.lims.all _
    obtain ⟨X,hXX⟩:∃ X,X = nd us3 (j + i):=⟨_,rfl⟩
    rw [← hXX] at hWX
    have hXl:X < 4294967296:=by rw [hXX]; exact hfu.sl.lim1 _
    have hxc:=hfu.cellAt (i:=j + i) (by omega)
    rw [← hXX] at hxc
    have hxf:=hfu.frozenAt (j + i)
    by_cases hfit:cc + b ≤ X
    ·have hF:=take_fits hWX hI1 hfit hSl hVn hV0 HQ1.out
     have hA:(X:Int) - (cc:Int) - (b:Int) = 0:=by have:=hF.2.1; omega
     have HF:=Lib.hid hF
     clear hF hI1 hWX hXX hXe hsv hSl hVn
     have hne1:go ≠ gu:=by omega
     have hne2:gu ≠ go:=by omega
     have hzc:=hfz.cellAt (i:=j) (by omega)
     have hzf:=hfz.frozenAt j
     go_wp2_with fail
     rw [Exit.noGoto_normal]
     go_wp2_with fail
     refine ⟨⟨j,by omega,rfl,us3.set (j + i) 0,zs.set j Qn,(hfu.set (j + i) (v:=0) (by omega)).setOther (a:=⟨go,j,none⟩) (by intro g hg; simp at hg; subst hg; show _ ≠ go; omega) _,(hfv.setOther (a:=⟨gu,j + i,none⟩) (by intro g hg; simp at hg; subst hg; show _ ≠ gu; omega) _).setOther (a:=⟨go,j,none⟩) (by intro g hg; simp at hg; subst hg; show _ ≠ go; omega) _,(hfz.setOther (a:=⟨gu,j + i,none⟩) (by intro g hg; simp at hg; subst hg; show _ ≠ gu; omega) _).set j hQlt,(hbr.setCell (p:=⟨gu,j + i,none⟩) (by show _ ≤ gu; omega) _).setCell (p:=⟨go,j,none⟩) (by show _ ≤ go; omega) _,?_⟩,by simp [intOf]⟩
     have hlu:us2.length = i + m + 1:=HUL.out
     refine long_next (us:=us2) HULL.out (hfu.lims.set _ (by omega)) hfv.lims hlu (by rw [List.length_set]; exact hfu.len) hfv.len HV.out (by omega) (by omega) hfz.len HH.out.2 HH.out.1 (by rw [← HW.out]; exact HF.out.1) ?_ ?_
     ·rw [window_set (by rw [hfu.len]; omega),Nat.zero_mul,Nat.add_zero, ← HW.out]
      exact HF.out.2.2
     intro x hx2
     rw [nd_set _ _ _ _ (by rw [hfu.len]; omega),if_neg (by omega)]
     exact HI.out.2 x (by omega)
    have hQn0:0 < Qn:=by
     rcases Nat.eq_zero_or_pos Qn with h0 | h0
     ·rw [h0,Nat.zero_mul,Nat.add_zero] at hI1
      have h1:4294967296 ^ i * 1 ≤ 4294967296 ^ i * (cc + b):=Nat.mul_le_mul_left _ (by omega)
      omega
     exact h0
    have howe:=take_owes hWX hI1 (by omega) hSl hVn hV0 HQ1.out hQn0 (HQ2.out hQn0)
    have HOWE:=Lib.hid howe
    obtain ⟨dd,hE1,hE2,hE3,hE4⟩:=owes_wrap hXl howe.2.1 hb
    have hE5:((dd:Int) / 9223372036854775808 == 1) = true:=by rw [hE2]; rfl
    clear howe hI1 hWX hXX hXe hsv hSl hVn hE4 hE2
    have hne1:go ≠ gu:=by omega
    have hne2:gu ≠ go:=by omega
    have hne3:gv ≠ gu:=by omega
    have hne4:gu ≠ gv:=by omega
    have hxlt:X < cc + b:=by omega
    clear hfit
    obtain ⟨Qm,hQm⟩:∃ Qm:Nat,Qm = Qn - 1:=⟨_,rfl⟩
    have hQm1:(Qn:Int) - 1 = (Qm:Int):=by omega
    have hQm2:Qm < 4294967296:=by omega
    have HQM:=Lib.hid hQm
    clear hQm
    have HB0:LongBack w gu gv go i m c4 cv (us3.set (j + i) 4294967295) vs zs j 0 0 (wr.setCell ⟨gu,j + i,none⟩ (.int .u32 4294967295)) :=
     ⟨us3.set (j + i) 4294967295,hfu.set (j + i) (v:=4294967295) (by omega),hfv.setOther (a:=⟨gu,j + i,none⟩) (by intro g hg; simp at hg; subst hg; show _ ≠ gu; omega) _,hfz.setOther (a:=⟨gu,j + i,none⟩) (by intro g hg; simp at hg; subst hg; show _ ≠ gu; omega) _,hbr.setCell (p:=⟨gu,j + i,none⟩) (by show _ ≤ gu; omega) _,by show _ = _; simp [sm],fun x _ => rfl⟩
    have HUL3:=Lib.hid hfu.len
    go_wp2_with fail
    clear hE1 hE3 hE5 hxc hxf hfv hfz hbr
    go_loopw [24,185] (fun cv2 iv wx => ∃ c2 k2:Nat,cv2 = .int .u64 (c2:Int) ∧ iv = .int .i64 (k2:Int) ∧ k2 ≤ i ∧ c2 ≤ 1 ∧ LongBack w gu gv go i m c4 cv (us3.set (j + i) 4294967295) vs zs j k2 c2 wx) (fun _ iv _ => i - (intOf iv).toNat)
    case atStart => exact ⟨0,0,rfl,rfl,by omega,by omega,HB0⟩
    case round =>
     clear HB0
     obtain ⟨c2,k2,rfl,rfl,hk2,hc2,us4,hfu4,hfv4,hfz4,hbr4,HB⟩:=hrel
     by_cases hki:k2 < i
     ·have hvc:=hfv4.cellAt hki
      have huc:=hfu4.cellAt (i:=k2 + j) (by omega)
      have huf:=hfu4.frozenAt (k2 + j)
      have hX:=hfv4.sl.lim1 k2
      have hU:=hfu4.sl.lim1 (k2 + j)
      have hw1:IntKind.i64.wrap ((k2:Int) + (j:Int)) = (k2:Int) + (j:Int):=IntWalk.i64_in _ (by omega)
      have hw3:((k2:Int) + (j:Int)).toNat = k2 + j:=by omega
      have hw5:0 ≤ (k2:Int) + (j:Int):=by omega
      have hw7:(k2:Int) + (j:Int) < ((i + m + 1:Nat):Int):=by omega
      have hw8:(k2:Int) < (i:Int):=by omega
      go_wp2_with fail
      go_quiet (fail)
      clear hw1 hw3 hw5 hw7 hw8
      go_wp2_with fail
      have hbd:=below_drewN (Below.refl wr.heap.size wr) nq
      have hjk:j + k2 < i + m + 1:=by omega
      rw [Nat.add_comm k2 j]
      refine ⟨⟨(nd us4 (j + k2) + nd vs k2 + c2) / 4294967296,k2 + 1,rfl,by go_num,by omega,by rw [Nat.add_comm k2 j] at hU; omega,us4.set (j + k2) ((nd us4 (j + k2) + nd vs k2 + c2) % 4294967296),(hfu4.below hbd (Nat.le_refl _)).set (j + k2) (Nat.mod_lt _ (by omega)),(hfv4.below hbd (Nat.le_refl _)).setOther (a:=⟨gu,j + k2,none⟩) (by intro g hg; simp at hg; subst hg; show _ ≠ gu; omega) _,(hfz4.below hbd (Nat.le_refl _)).setOther (a:=⟨gu,j + k2,none⟩) (by intro g hg; simp at hg; subst hg; show _ ≠ gu; omega) _,(hbr4.trans (hbd.mono hbr4.size)).setCell (p:=⟨gu,j + k2,none⟩) (by show _ ≤ gu; omega) _,?_,?_⟩,by simp [intOf]; omega⟩
      ·have hst:=back_step (vs:=vs) (c:=c2) hjk hfu4.len HB.out.1
       rw [HB.out.2 (j + k2) (Or.inr (Nat.le_refl _))] at hst ⊢
       exact hst
      intro x hx2
      rw [nd_set _ _ _ _ (by rw [hfu4.len]; exact hjk),if_neg (by omega)]
      exact HB.out.2 x (by omega)
     obtain rfl:k2 = i:=by omega
     have hB1:=HB.out.1
     have hw3:sm (fun k => nd (us3.set (j + k2) 4294967295) (j + k)) k2 = sm (fun k => nd us3 (j + k)) k2 :=
      sm_congr fun k hk => by show nd (us3.set (j + k2) 4294967295) (j + k) = _; rw [nd_set _ _ _ _ (by rw [HUL3.out]; omega),if_neg (by omega)]
     have hsv:sm (nd vs) k2 = V:=by rw [← HV.out, ← hfv4.len]; rfl
     have hVn:V < 4294967296 ^ k2:=by rw [← HV.out, ← hfv4.len]; exact val_lt hfv4.lims
     rw [hw3,hsv,HOWE.out.2.2] at hB1
     have hSl4:sm (fun k => nd us4 (j + k)) k2 < 4294967296 ^ k2:=sm_lt fun k _ => hfu4.lims.all _
     have hmod:=Nat.mod_lt W hV0
     have hc21:c2 = 1:=by
      rcases Nat.eq_zero_or_pos c2 with h0 | h0
      ·rw [h0,Nat.mul_zero,Nat.add_zero] at hB1
       omega
      omega
     subst hc21
     have hS4:sm (fun k => nd us4 (j + k)) k2 = W % V:=by rw [Nat.mul_one] at hB1; omega
     have HS4:=Lib.hid hS4
     have hx4:nd us4 (j + k2) = 4294967295:=by
      rw [HB.out.2 _ (Or.inr (Nat.le_refl _)),nd_set _ _ _ _ (by rw [HUL3.out]; omega),if_pos rfl]
     have hxc:=hfu4.cellAt (i:=j + k2) (by omega)
     rw [hx4] at hxc
     have hxc2:wr.cell? ⟨gu,j + k2,none⟩ = some (.int .u32 4294967295):=hxc
     have hxf:=hfu4.frozenAt (j + k2)
     have hzc:=hfz4.cellAt (i:=j) (by omega)
     have hzf:=hfz4.frozenAt j
     clear hB1 hw3 hsv hVn hSl4 hmod hS4 hx4 hxc
     go_wp2_with fail
     rw [Exit.noGoto_normal]
     go_wp2_with fail
     refine ⟨⟨j,by omega,rfl,us4.set (j + k2) 0,zs.set j Qm,(hfu4.set (j + k2) (v:=0) (by omega)).setOther (a:=⟨go,j,none⟩) (by intro g hg; simp at hg; subst hg; show _ ≠ go; omega) _,(hfv4.setOther (a:=⟨gu,j + k2,none⟩) (by intro g hg; simp at hg; subst hg; show _ ≠ gu; omega) _).setOther (a:=⟨go,j,none⟩) (by intro g hg; simp at hg; subst hg; show _ ≠ go; omega) _,(hfz4.setOther (a:=⟨gu,j + k2,none⟩) (by intro g hg; simp at hg; subst hg; show _ ≠ gu; omega) _).set j hQm2,(hbr4.setCell (p:=⟨gu,j + k2,none⟩) (by show _ ≤ gu; omega) _).setCell (p:=⟨go,j,none⟩) (by show _ ≤ go; omega) _,?_⟩,by simp [intOf]⟩
     refine long_next (us:=us2) HULL.out (hfu4.lims.set _ (by omega)) hfv4.lims HUL.out (by rw [List.length_set]; exact hfu4.len) hfv4.len HV.out (by omega) (by omega) hfz4.len HH.out.2 HH.out.1 (by rw [← HW.out,HQM.out]; exact HOWE.out.1) ?_ ?_
     ·rw [window_set (by rw [hfu4.len]; omega),Nat.zero_mul,Nat.add_zero, ← HW.out]
      exact HS4.out
     intro x hx2
     rw [nd_set _ _ _ _ (by rw [hfu4.len]; omega),if_neg (by omega),HB.out.2 x (by omega),nd_set _ _ _ _ (by rw [HUL3.out]; omega),if_neg (by omega)]
     exact HI.out.2 x (by omega)
end Go.Proofs.YtnlnibngpeempaaGreatDoor
