/-
  Contracts and lemmas, joined in one text.
-/
import Derived.Test.YtnlnibngpeempaaGreatDoorNatH
import Derived.Test.YtnlnibngpeempaaGreatDoorBB
import Derived.Deep.LoopGhost
import Derived.Test.YtnlnibngpeempaaGreatDoorBA
import Derived.Laws.BitsAllLaws
set_option linter.unusedVariables false
set_option linter.unusedSimpArgs false
/-
  The walk of nat.Div.
-/
namespace Go.Proofs.YtnlnibngpeempaaGreatDoor
open Go.RowKit
set_option maxHeartbeats 2000000 in
theorem div_any {p q:Option Addr} {n m c d:Nat} {xs ys:List Nat} {w:World} (hx:Sl w p n c xs) (hy:Sl w q m d ys) (hn:n ≤ 1099511627776) (hm:m ≤ 1099511627776) (h0:val ys ≠ 0) :
  Calls Tryz.prog 80 #[.slice p n c,.slice q m d] w (RetTE w (val xs / val ys) (val xs % val ys) 0):=by
 go_enter Tryz.func80,Tryz.ntmps80
 go_wp2_with fail
 refine (trim_any hx).mono ?_
 rintro e w1 ⟨n1,rfl,hx1,hn1,rfl⟩
 go_wp2_with fail
 refine (trim_any hy).mono ?_
 rintro e w1 ⟨m1,rfl,hy1,hm1,rfl⟩
 have hn2:n1 ≤ 1099511627776:=by omega
 have hm2:m1 ≤ 1099511627776:=by omega
 have HXL:Hid (ll (val xs) = n1):=by show _ = _; rw [← hx1.len,length_lim]
 have HYL:Hid (ll (val ys) = m1):=by show _ = _; rw [← hy1.len,length_lim]
 have hm0:0 < m1:=by rw [← HYL.out]; exact ll_pos h0
 have HX:Hid (val (lim (val xs)) = val xs):=vLm _
 have HY:Hid (val (lim (val ys)) = val ys):=vLm _
 have HONE:Hid (ll (val ys) = 1 → nd (lim (val ys)) 0 = val ys):=one_limb
 have HNO:=Lib.hid lim_none
 generalize lim (val xs) = us at *
 generalize lim (val ys) = vs at *
 generalize val xs = A at *
 generalize val ys = C at *
 have hz:((m1:Int) == 0) = false:=by simp; omega
 clear hn1 hm1 hn hm
 go_wp2_with fail
 refine (cmp_any hx1 hy1).mono ?_
 rw [HX.out,HY.out]
 rcases Nat.lt_or_ge A C with hlt | hge
 ·rw [cmpN_lt hlt]
  rintro e w2 ⟨rfl,hb2⟩
  go_wp2_with fail
  refine (own_any (hx1.below hb2 (Nat.le_refl _)) (by omega)).mono ?_
  rw [HX.out]
  rintro e w3 ⟨p3,n3,c3,rfl,hf3,hb3⟩
  go_wp2_with fail
  go_ret3
  rw [Nat.div_eq_of_lt hlt,Nat.mod_eq_of_lt hlt]
  exact ⟨none,0,0,_,_,_,rfl,by rw [HNO.out]; exact Fr.nil _ _,hf3.mono hb2.size,hb2.trans (hb3.mono hb2.size)⟩
 have hcg:=cmpN_ge0 hge
 generalize cmpN A C = z at *
 have hz2:decide (z < 0) = false:=by simp; omega
 rintro e w2 ⟨rfl,hb2⟩
 clear hcg
 by_cases h1:m1 = 1
 ·have hz3:((m1:Int) == 1) = true:=by simp; omega
  obtain ⟨b1,o1,rfl,hyc⟩:=(hy1.below hb2 (Nat.le_refl _)).cell 0 (by omega)
  rw [Nat.add_zero] at hyc
  have hY:=hy1.lim1 0
  have hbv:=HONE.out (by rw [HYL.out,h1])
  rw [hbv] at hyc hY
  clear hbv h1
  go_wp2_with fail
  refine (short_any (hx1.below hb2 (Nat.le_refl _)) hY (by omega) (by omega)).mono ?_
  rw [HX.out]
  rintro e w3 ⟨p3,n3,c3,r,rfl,hf3,hb3,HR,hr⟩
  go_wp2_with fail
  refine (of_any (N:=r) rfl (by omega)).mono ?_
  rw [HR.out]
  rintro e w4 ⟨p4,n4,c4,rfl,hf4,hb4⟩
  go_wp2_with fail
  go_ret3
  have hb23:=hb2.trans (hb3.mono hb2.size)
  exact ⟨_,_,_,_,_,_,rfl,(hf3.below hb4 (Nat.le_refl _)).mono hb2.size,hf4.mono hb23.size,hb23.trans (hb4.mono hb23.size)⟩
 have hz3:((m1:Int) == 1) = false:=by simp; omega
 obtain ⟨k,hk⟩:∃ k,n1 = m1 + k:=⟨n1 - m1,by have h2:=ll_mono hge; rw [HXL.out,HYL.out] at h2; omega⟩
 have hm3:2 ≤ m1:=by omega
 clear h1
 subst hk
 go_wp2_with fail
 refine (long_any (hx1.below hb2 (Nat.le_refl _)) (hy1.below hb2 (Nat.le_refl _)) hn2 hm3 (by rw [HX.out]; exact HXL) (by rw [HY.out]; exact HYL)).mono ?_
 rw [HX.out,HY.out]
 rintro e w3 ⟨p3,n3,c3,p4,n4,c4,rfl,hf3,hf4,hb3⟩
 go_wp2_with fail
 go_ret3
 exact ⟨_,_,_,_,_,_,rfl,hf3.mono hb2.size,hf4.mono hb2.size,hb2.trans (hb3.mono hb2.size)⟩
open Go.RowKit
open Go.RowKit
def RootAt (w:World) (L N k:Nat) (x:Value) (wr:World):Prop :=
  ∃ p n c X,x = .slice p n c ∧ Fr w.heap.size wr p n c (lim X) ∧ Below w.heap.size w wr ∧ n ≤ L ∧ 0 < X ∧ rt N ≤ X ∧ Hid (X = k)
set_option maxHeartbeats 2000000 in
theorem sqrt_any {p:Option Addr} {n c:Nat} {xs:List Nat} {w:World} (hx:Sl w p n c xs) (hn:n ≤ 1048576000) :
  Calls Tryz.prog 39 #[.slice p n c] w (RetN w (lim (rt (val xs)))):=by
 have hN:=val_lt hx.lims
 rw [hx.len] at hN
 have HN:=Lib.hid hN
 clear hN
 have hx0:=hx
 go_enter Tryz.func39,Tryz.ntmps39
 go_wp2_with fail
 go_step3
 go_wp2_with fail
 refine (len_any hx (by omega)).mono ?_
 rintro e w1 ⟨rfl,rfl⟩
 by_cases h0:val xs = 0
 ·have hz:((blen (val xs):Int) == 0) = true:=by rw [h0]; rfl
  go_wp2_with fail
  rw [Exit.noGoto_ret]
  go_ret
  rw [h0]
  exact ⟨_,_,_,rfl,Fr.nil _ _,Below.refl _ _⟩
 have hz:((blen (val xs):Int) == 0) = false:=by
  have:blen (val xs) ≠ 0:=by unfold blen; rw [if_neg h0]; omega
  simp; omega
 have hbl:=blen_len hx.lims
 rw [hx.len] at hbl
 have hr1:=rt_start (lt_blen (val xs))
 have hr2:=rt_pos h0
 generalize hNx:val xs = N at *
 have HNX:=Lib.hid hNx
 clear hNx h0
 generalize hBx:blen N = B at *
 have HBX:=Lib.hid hBx
 clear hBx
 have HR1:=Lib.hid hr1
 clear hr1
 go_wp2_with fail
 refine (of_any (N:=1) rfl (by omega)).mono ?_
 rintro e w2 ⟨p2,n2,c2,rfl,hf2,hb2⟩
 have hl2:n2 ≤ 1:=by rw [hf2.sl.lln]; exact ll_le (by omega)
 replace hx:=hx.below hb2 (Nat.le_refl _)
 go_wp2_with fail
 refine (len_any hx (by omega)).mono ?_
 rw [HNX.out,HBX.out]
 rintro e w3 ⟨rfl,rfl⟩
 go_wp2_with fail
 rw [show ((B:Int) + 1) / 2 = (((B + 1) / 2:Nat):Int) by omega]
 refine (left_any hf2.sl (by omega) (by omega)).mono ?_
 rw [vLm]
 rintro e w4 ⟨p4,n4,c4,zs,rfl,hf4,hb4,hv4,_,hn4,_⟩
 have hv5:val zs = 2 ^ ((B + 1) / 2):=by rw [hv4.out,Nat.one_mul]
 have HV:=Lib.hid hv5
 have hn5:n4 ≤ 1048576002:=by
  have e1:ll 1 ≤ 1:=ll_le (by omega)
  omega
 clear hv5
 replace hx:=hx.below hb4 (Nat.le_refl _)
 replace hb2:=hb2.trans (hb4.mono hb2.size)
 clear hb4 hf2 hl2
 go_wp2_with fail
 refine (own_any hf4.sl (by omega)).mono ?_
 rw [HV.out]
 rintro e w5 ⟨p5,n5,c5,rfl,hf5,hb5⟩
 have hn6:n5 ≤ 1048576002:=by rw [hf5.sl.lln,ll_two]; omega
 replace hx:=hx.below hb5 (Nat.le_refl _)
 have HB4:=Lib.hid hb2.size
 replace hb2:=hb2.trans (hb5.mono hb2.size)
 have HR:=HR1.out
 have hp2:=Nat.two_pow_pos ((B + 1) / 2)
 have H0:RootAt w 1048576002 N (2 ^ ((B + 1) / 2)) (.slice p5 n5 c5) w5:=⟨p5,n5,c5,_,rfl,hf5.mono HB4.out,hb2,hn6,hp2,HR,rfl⟩
 clear HR hp2 hf5 hf4 hb5 HB4
 generalize 2 ^ ((B + 1) / 2) = K at *
 go_wp2_with fail
 clear hx hb2
 go_step3
 go_wp2_with fail
 go_loopg [3] K (fun k x wr => RootAt w 1048576002 N k x wr)
 case atStart => exact H0
 case round =>
  clear H0
  obtain ⟨p,n,c,X,rfl,hf,hb,hn,hX,hR,HK⟩:=hrel
  have hx:=hx0.below hb (Nat.le_refl _)
  go_wp2_with fail
  refine (div_any hx hf.sl (by omega) (by omega) (by rw [vLm]; omega)).mono ?_
  rw [vLm,HNX.out]
  rintro e w6 ⟨p6,n6,c6,p7,n7,c7,rfl,hf6,hf7,hb6⟩
  clear hx hf7
  replace hf:=hf.below hb6 (Nat.le_refl _)
  replace hb:=hb.trans (hb6.mono hb.size)
  have hn6:n6 ≤ 1048576002:=by
   rw [hf6.sl.lln]
   have h1:=ll_mono (Nat.div_le_self N X)
   have h2:=val_ll hx0.lims
   rw [HNX.out,hx0.len] at h2
   omega
  clear hb6
  go_wp2_with fail
  refine (add_any hf.sl hf6.sl (by omega) (by omega)).mono ?_
  rw [vLm,vLm]
  rintro e w8 ⟨p8,n8,c8,rfl,hf8,hb8⟩
  have hn8:n8 ≤ 1048576003:=by
   rw [hf8.sl.lln]
   exact ll_add (by rw [← hf.sl.lln]; exact hn) (by rw [← hf6.sl.lln]; exact hn6)
  replace hf:=hf.below hb8 (Nat.le_refl _)
  replace hb:=hb.trans (hb8.mono hb.size)
  clear hf6 hb8
  go_wp2_with fail
  refine (right_any (s:=1) hf8.sl (by omega) (by omega)).mono ?_
  rw [vLm,Nat.pow_one]
  rintro e w9 ⟨p9,n9,c9,rfl,hf9,hb9⟩
  have HB9:=Lib.hid hb.size
  replace hf:=hf.below hb9 (Nat.le_refl _)
  replace hb:=hb.trans (hb9.mono hb.size)
  clear hb9 hf8
  have hge:=newton_ge (N:=N) hX
  have hst:=newton_stop (N:=N) hX hR
  have HST:=Lib.hid hst
  clear hst
  generalize (X + N / X) / 2 = Y at *
  go_wp2_with fail
  refine (cmp_any hf9.sl hf.sl).mono ?_
  rw [vLm,vLm]
  rintro e w10 ⟨rfl,hb10⟩
  replace hf9:=hf9.below hb10 (Nat.le_refl _)
  replace hf:=hf.below hb10 (Nat.le_refl _)
  replace hb:=hb.trans (hb10.mono hb.size)
  clear hb10
  rcases Nat.lt_or_ge Y X with hYX | hYX
  ·obtain ⟨cc,hcc,hcc0⟩:∃ cc:Int,cmpN Y X = cc ∧ cc < 0:=⟨_,rfl,cmpN_below hYX⟩
   rw [hcc]
   have hz8:decide ((0:Int) ≤ cc) = false:=by simp; omega
   clear hcc
   have hn9:n9 ≤ n:=by rw [hf9.sl.lln,hf.sl.lln]; exact ll_mono (Nat.le_of_lt hYX)
   go_wp2_with fail
   go_roundg Y
   case measure => rw [← HK.out]; exact hYX
   case rel => exact ⟨p9,n9,c9,Y,rfl,hf9.mono HB9.out,hb,by omega,Nat.lt_of_lt_of_le hr2 hge,hge,rfl⟩
  obtain ⟨cc,hcc,hcc0⟩:∃ cc:Int,cmpN Y X = cc ∧ 0 ≤ cc:=⟨_,rfl,cmpN_not_below hYX⟩
  rw [hcc]
  have hz8:decide ((0:Int) ≤ cc) = true:=by simp; omega
  clear hcc
  have hXr:X = rt N:=HST.out hYX
  have HXR:=Lib.hid hXr
  clear hXr
  go_wp2_with fail
  rw [Exit.noGoto_ret]
  go_ret
  rw [← HXR.out]
  exact ⟨_,_,_,rfl,hf,hb⟩
open Go.RowKit
open Go.RowKit
def zv (b:Bool) (n:Nat):Int:=if b then -(n:Int) else (n:Int)
def ng (z:Int):Bool:=decide (z < 0)
theorem zv_ng (z:Int):zv (ng z) z.natAbs = z:=by
  unfold zv ng
  by_cases h:z < 0
  · rw [decide_eq_true h]; simp; omega
  rw [decide_eq_false h]; simp; omega
theorem natAbs_zv (b:Bool) (n:Nat):(zv b n).natAbs = n:=by
  unfold zv; cases b <;> simp
theorem ng_zv (b:Bool) (n:Nat):ng (zv b n) = (b && decide (0 < n)):=by
  unfold zv ng
  cases b
  · simp
  simp
theorem ng_nat (n:Nat):ng (n:Int) = false:=by unfold ng; simp
theorem zv_zero (b:Bool):zv b 0 = 0:=by unfold zv; cases b <;> rfl
theorem zv_false (n:Nat):zv false n = n:=rfl
theorem zv_true (n:Nat):zv true n = -(n:Int):=rfl
theorem zv_eq_zero {b:Bool} {n:Nat}:zv b n = 0 ↔ n = 0:=by
  unfold zv; cases b <;> simp
theorem zv_add_same (b:Bool) (m n:Nat):zv b (m + n) = zv b m + zv b n:=by
  unfold zv; cases b <;> simp <;> omega
theorem zv_add_le {b c:Bool} (h:b ≠ c) {m n:Nat} (hmn:n ≤ m):zv b (m - n) = zv b m + zv c n:=by
  unfold zv; cases b <;> cases c <;> simp at h ⊢ <;> omega
theorem zv_add_lt {b c:Bool} (h:b ≠ c) {m n:Nat} (hmn:m ≤ n):zv c (n - m) = zv b m + zv c n:=by
  unfold zv; cases b <;> cases c <;> simp at h ⊢ <;> omega
theorem zv_neg (b:Bool) (n:Nat):zv (!b) n = - zv b n:=by unfold zv; cases b <;> simp
theorem zv_mul (b c:Bool) (m n:Nat):zv (b != c) (m * n) = zv b m * zv c n:=by
  unfold zv; cases b <;> cases c <;> simp [Int.neg_mul,Int.mul_neg]
theorem zv_tdiv (b c:Bool) (m n:Nat):zv (b != c) (m / n) = (zv b m).tdiv (zv c n):=by
  unfold zv; cases b <;> cases c <;> simp [Int.neg_tdiv,Int.tdiv_neg]
theorem zv_tmod (b c:Bool) (m n:Nat):zv b (m % n) = (zv b m).tmod (zv c n):=by
  unfold zv; cases b <;> cases c <;> simp [Int.neg_tmod,Int.tmod_neg] <;> rfl
theorem euclid_unique {a b q r:Int} (h:a = b * q + r) (h0:0 ≤ r) (h1:r < b.natAbs):q = a / b ∧ r = a % b:=by
 have hb:b ≠ 0:=by intro e; subst e; simp at h1; omega
 have h2:=Int.emod_add_mul_ediv a b
 have h3:=Int.emod_nonneg a hb
 have h4:=Int.emod_lt a hb
 have h5:b * (q - a / b) = a % b - r:=by rw [Int.mul_sub]; omega
 have h6:q - a / b = 0:=by
  rcases Int.lt_trichotomy (q - a / b) 0 with h7 | h7 | h7
  ·exfalso
   have h8:(b.natAbs:Int) * 1 ≤ (b * (q - a / b)).natAbs:=by
    rw [Int.natAbs_mul,Int.natCast_mul]
    exact Int.mul_le_mul_of_nonneg_left (by omega) (by omega)
   omega
  ·exact h7
  exfalso
  have h8:(b.natAbs:Int) * 1 ≤ (b * (q - a / b)).natAbs:=by
   rw [Int.natAbs_mul,Int.natCast_mul]
   exact Int.mul_le_mul_of_nonneg_left (by omega) (by omega)
  omega
 rw [h6,Int.mul_zero] at h5
 omega
theorem euclid_low {a b:Int} (hb:b ≠ 0) (h:a.tmod b < 0):a.tdiv b - b.sign = a / b ∧ a.tmod b + b.natAbs = a % b:=by
 have h1:=Int.tmod_add_mul_tdiv a b
 have h2 : -(b.natAbs:Int) < a.tmod b:=by
  have:=Int.natAbs_tmod a b
  have h3:a.natAbs % b.natAbs < b.natAbs:=Nat.mod_lt _ (by omega)
  omega
 have h4:b * b.sign = b.natAbs:=Int.mul_sign_self b
 exact euclid_unique (by rw [Int.mul_sub]; omega) (by omega) (by omega)
theorem euclid_high {a b:Int} (hb:b ≠ 0) (h:0 ≤ a.tmod b):a.tdiv b = a / b ∧ a.tmod b = a % b:=by
 have h1:=Int.tmod_add_mul_tdiv a b
 have h2:a.tmod b < (b.natAbs:Int):=by
  have:=Int.natAbs_tmod a b
  have h3:a.natAbs % b.natAbs < b.natAbs:=Nat.mod_lt _ (by omega)
  omega
 exact euclid_unique (by omega) h h2
def cmpZ (a b:Int):Int:=if a < b then -1 else if a = b then 0 else 1
theorem cmpZ_sub (a b:Int):(a - b).sign = cmpZ a b:=by
  unfold cmpZ
  rcases Int.lt_trichotomy a b with h | h | h
  · rw [if_pos h,Int.sign_eq_neg_one_of_neg (by omega)]
  · rw [if_neg (by omega),if_pos h,h,Int.sub_self]; rfl
  rw [if_neg (by omega),if_neg (by omega),Int.sign_eq_one_of_pos (by omega)]
theorem sign_cases (z:Int):z.sign = -1 ∧ z < 0 ∨ z.sign = 0 ∧ z = 0 ∨ z.sign = 1 ∧ 0 < z:=by
  rcases Int.lt_trichotomy z 0 with h | h | h
  · exact Or.inl ⟨Int.sign_eq_neg_one_of_neg h,h⟩
  · exact Or.inr (Or.inl ⟨by rw [h]; rfl,h⟩)
  exact Or.inr (Or.inr ⟨Int.sign_eq_one_of_pos h,h⟩)
theorem cmpZ_sign_lt {a b:Int} (h:a.sign < b.sign):cmpZ a b = -1:=by
  have h1:=sign_cases a
  have h2:=sign_cases b
  unfold cmpZ; rw [if_pos (by omega)]
theorem cmpZ_sign_gt {a b:Int} (h:b.sign < a.sign):cmpZ a b = 1:=by
  have h1:=sign_cases a
  have h2:=sign_cases b
  unfold cmpZ; rw [if_neg (by omega),if_neg (by omega)]
theorem cmpZ_of {a b:Int} {m n:Nat} (h1:a < b ↔ m < n) (h2:a = b ↔ m = n):cmpZ a b = cmpN m n:=by
 unfold cmpZ cmpN
 by_cases k1:m < n
 ·rw [if_pos (h1.2 k1),if_pos k1]
 rw [if_neg (fun h => k1 (h1.1 h)),if_neg k1]
 by_cases k2:m = n
 ·rw [if_pos (h2.2 k2),if_pos k2]
 rw [if_neg (fun h => k2 (h2.1 h)),if_neg k2]
theorem zv_below {b:Bool} {m:Nat} (h:zv b m < 0):zv b m = -(m:Int):=by
  cases b
  · rw [zv_false] at h; omega
  rfl
theorem zv_not_below {b:Bool} {m:Nat} (h:0 ≤ zv b m):zv b m = (m:Int):=by
  cases b
  · rfl
  rw [zv_true] at h ⊢; omega
theorem cmpZ_both_neg {b c:Bool} {m n:Nat} (h1:zv b m < 0) (h2:zv c n < 0):cmpZ (zv b m) (zv c n) = cmpN n m:=by
  rw [zv_below h1,zv_below h2]
  exact cmpZ_of (by omega) (by omega)
theorem cmpZ_both_pos {b c:Bool} {m n:Nat} (h1:0 ≤ zv b m) (h2:0 ≤ zv c n):cmpZ (zv b m) (zv c n) = cmpN m n:=by
  rw [zv_not_below h1,zv_not_below h2]
  exact cmpZ_of (by omega) (by omega)
end Go.Proofs.YtnlnibngpeempaaGreatDoor
