/-
  Contracts and lemmas, joined in one text.
-/
import Derived.Test.YtjnpdpcldmjdjaaGreatDoorNatH
import Derived.Test.YtjnpdpcldmjdjaaGreatDoorBB
import Derived.Deep.LoopGhost
import Derived.Test.YtjnpdpcldmjdjaaGreatDoorBA
import Derived.Laws.BitsAllLaws
set_option linter.unusedVariables false
set_option linter.unusedSimpArgs false
/-
  The walk of nat.Div.
-/
namespace Go.Proofs.YtjnpdpcldmjdjaaGreatDoor
open Go.RowKit
set_option maxHeartbeats 2000000 in
theorem div_any {p q:Option Addr} {n m c d:Nat} {xs ys:List Nat} {w:World} (hx:Sl w p n c xs) (hy:Sl w q m d ys) (hn:n ≤ 1099511627776) (hm:m ≤ 1099511627776) (h0:val ys ≠ 0) :
  Calls Tryz.prog 104 #[.slice p n c,.slice q m d] w (RetTE w (val xs / val ys) (val xs % val ys) 0):=by
 go_enter Tryz.func104,Tryz.ntmps104
 go_wp2_with fail
 refine (trim_any hx).mono ?_
 rintro e w1 ⟨n1,rfl,hx1,hn1,rfl⟩
 go_wp2_with fail
 refine (trim_any hy).mono ?_
 rintro e w1 ⟨m1,rfl,hy1,hm1,rfl⟩
 have hn2:n1 ≤ 1099511627776:=by omega
 have hm2:m1 ≤ 1099511627776:=by omega
 have HXL:Hid (ll (val xs) = n1):=by show _ = _; rw [← hx1.len,length_lim]
 have HYL:Hid (ll (val ys) = m1):=by show _ = _; rw [← hy1.len,length_lim]
 have hm0:0 < m1:=by rw [← HYL.out]; exact ll_pos h0
 have HX:Hid (val (lim (val xs)) = val xs):=vLm _
 have HY:Hid (val (lim (val ys)) = val ys):=vLm _
 have HONE:Hid (ll (val ys) = 1 → nd (lim (val ys)) 0 = val ys):=one_limb
 have HNO:=Lib.hid lim_none
 generalize lim (val xs) = us at *
 generalize lim (val ys) = vs at *
 generalize val xs = A at *
 generalize val ys = C at *
 have hz:((m1:Int) == 0) = false:=by simp; omega
 clear hn1 hm1 hn hm
 go_wp2_with fail
 refine (cmp_any hx1 hy1).mono ?_
 rw [HX.out,HY.out]
 rcases Nat.lt_or_ge A C with hlt | hge
 ·rw [cmpN_lt hlt]
  rintro e w2 ⟨rfl,hb2⟩
  go_wp2_with fail
  refine (own_any (hx1.below hb2 (Nat.le_refl _)) (by omega)).mono ?_
  rw [HX.out]
  rintro e w3 ⟨p3,n3,c3,rfl,hf3,hb3⟩
  go_wp2_with fail
  go_ret3
  rw [Nat.div_eq_of_lt hlt,Nat.mod_eq_of_lt hlt]
  exact ⟨none,0,0,_,_,_,rfl,by rw [HNO.out]; exact Fr.nil _ _,hf3.mono hb2.size,hb2.trans (hb3.mono hb2.size)⟩
 have hcg:=cmpN_ge0 hge
 generalize cmpN A C = z at *
 have hz2:decide (z < 0) = false:=by simp; omega
 rintro e w2 ⟨rfl,hb2⟩
 clear hcg
 by_cases h1:m1 = 1
 ·have hz3:((m1:Int) == 1) = true:=by simp; omega
  obtain ⟨b1,o1,rfl,hyc⟩:=(hy1.below hb2 (Nat.le_refl _)).cell 0 (by omega)
  rw [Nat.add_zero] at hyc
  have hY:=hy1.lim1 0
  have hbv:=HONE.out (by rw [HYL.out,h1])
  rw [hbv] at hyc hY
  clear hbv h1
  go_wp2_with fail
  refine (short_any (hx1.below hb2 (Nat.le_refl _)) hY (by omega) (by omega)).mono ?_
  rw [HX.out]
  rintro e w3 ⟨p3,n3,c3,r,rfl,hf3,hb3,HR,hr⟩
  go_wp2_with fail
  refine (of_any (N:=r) rfl (by omega)).mono ?_
  rw [HR.out]
  rintro e w4 ⟨p4,n4,c4,rfl,hf4,hb4⟩
  go_wp2_with fail
  go_ret3
  have hb23:=hb2.trans (hb3.mono hb2.size)
  exact ⟨_,_,_,_,_,_,rfl,(hf3.below hb4 (Nat.le_refl _)).mono hb2.size,hf4.mono hb23.size,hb23.trans (hb4.mono hb23.size)⟩
 have hz3:((m1:Int) == 1) = false:=by simp; omega
 obtain ⟨k,hk⟩:∃ k,n1 = m1 + k:=⟨n1 - m1,by have h2:=ll_mono hge; rw [HXL.out,HYL.out] at h2; omega⟩
 have hm3:2 ≤ m1:=by omega
 clear h1
 subst hk
 go_wp2_with fail
 refine (long_any (hx1.below hb2 (Nat.le_refl _)) (hy1.below hb2 (Nat.le_refl _)) hn2 hm3 (by rw [HX.out]; exact HXL) (by rw [HY.out]; exact HYL)).mono ?_
 rw [HX.out,HY.out]
 rintro e w3 ⟨p3,n3,c3,p4,n4,c4,rfl,hf3,hf4,hb3⟩
 go_wp2_with fail
 go_ret3
 exact ⟨_,_,_,_,_,_,rfl,hf3.mono hb2.size,hf4.mono hb2.size,hb2.trans (hb3.mono hb2.size)⟩
open Go.RowKit
def GcdAt (w:World) (L G k:Nat) (a b:Value) (wr:World):Prop :=
  ∃ p n c q m d A C,a = .slice p n c ∧ b = .slice q m d ∧ Fr w.heap.size wr p n c (lim A) ∧ Fr w.heap.size wr q m d (lim C) ∧ Below w.heap.size w wr ∧ n ≤ L ∧ m ≤ L ∧ Hid (Nat.gcd A C = G) ∧ Hid (C = k)
set_option maxHeartbeats 2000000 in
theorem gcd_any {p q:Option Addr} {n m c d:Nat} {xs ys:List Nat} {w:World} (hx:Sl w p n c xs) (hy:Sl w q m d ys) (hn:n ≤ 1099511627776) (hm:m ≤ 1099511627776) :
  Calls Tryz.prog 107 #[.slice p n c,.slice q m d] w (RetN w (lim (Nat.gcd (val xs) (val ys)))):=by
 go_enter Tryz.func107,Tryz.ntmps107
 go_wp2_with fail
 refine (own_any hx (by omega)).mono ?_
 rintro e w1 ⟨p1,n1,c1,rfl,hf1,hb1⟩
 go_wp2_with fail
 refine (own_any (hy.below hb1 (Nat.le_refl _)) (by omega)).mono ?_
 rintro e w2 ⟨q1,m1,d1,rfl,hg2,hb2⟩
 have hl1:=norm_len hx hf1
 have hl2:=norm_len (hy.below hb1 (Nat.le_refl _)) hg2
 have hb12:=hb1.trans (hb2.mono hb1.size)
 have H0:GcdAt w 1099511627776 (Nat.gcd (val xs) (val ys)) (val ys) (.slice p1 n1 c1) (.slice q1 m1 d1) w2:=⟨p1,n1,c1,q1,m1,d1,_,_,rfl,rfl,hf1.below hb2 (Nat.le_refl _),hg2.mono hb1.size,hb12,by omega,by omega,rfl,rfl⟩
 clear hf1 hg2 hb1 hb2 hb12 hl1 hl2
 generalize Nat.gcd (val xs) (val ys) = G at *
 generalize val ys = Y at *
 go_wp2_with fail
 go_loopg [0,1] Y (fun k a b wr => GcdAt w 1099511627776 G k a b wr)
 case atStart => exact H0
 case round =>
  clear H0
  obtain ⟨p,n,c,q,m,d,A,C,rfl,rfl,hf,hg,hb,hln,hlm,HG,HK⟩:=hrel
  rcases Nat.eq_zero_or_pos m with hm0 | hm0
  ·have hz:decide ((0:Int) < (m:Int)) = false:=by simp; omega
   go_wp2_with fail
   refine (own_any hf.sl (by omega)).mono ?_
   rw [vLm]
   rintro e w5 ⟨p5,n5,c5,rfl,hf5,hb5⟩
   go_wp2_with fail
   go_ret
   have hC:C = 0:=by
    rcases Nat.eq_zero_or_pos C with h | h
    ·exact h
    have:=ll_pos (Nat.ne_of_gt h); rw [← hg.sl.lln] at this; omega
   have hG:=HG.out
   rw [hC,Nat.gcd_zero_right] at hG
   rw [hG] at hf5
   exact ⟨_,_,_,rfl,hf5.mono hb.size,hb.trans (hb5.mono hb.size)⟩
  have hz:decide ((0:Int) < (m:Int)) = true:=by simp; omega
  have hC:C ≠ 0:=by
   intro h
   have h1:=hg.sl.lln
   rw [h] at h1
   have h2:ll 0 = 0:=rfl
   omega
  go_wp2_with fail
  refine (div_any hf.sl hg.sl (by omega) (by omega) (by rw [vLm]; exact hC)).mono ?_
  rw [vLm,vLm]
  rintro e w5 ⟨p5,n5,c5,q5,m5,d5,rfl,hf5,hg5,hb5⟩
  go_wp2_with fail
  have hlt:A % C < gk:=by rw [← HK.out]; exact Nat.mod_lt _ (by omega)
  have hb2:=hb.trans (hb5.mono hb.size)
  have hl5:m5 ≤ m:=by rw [hg5.sl.lln,hg.sl.lln]; exact ll_mono (Nat.le_of_lt (Nat.mod_lt _ (by omega)))
  have hgc:Nat.gcd C (A % C) = G:=by rw [← HG.out,Nat.gcd_comm, ← Nat.gcd_rec,Nat.gcd_comm]
  go_roundg (A % C)
  case measure => exact hlt
  case rel => exact ⟨q,m,d,q5,m5,d5,C,A % C,rfl,rfl,hg.below hb5 (Nat.le_refl _),hg5.mono hb.size,hb2,hlm,by omega,hgc,rfl⟩
open Go.RowKit
def RootAt (w:World) (L N k:Nat) (x:Value) (wr:World):Prop :=
  ∃ p n c X,x = .slice p n c ∧ Fr w.heap.size wr p n c (lim X) ∧ Below w.heap.size w wr ∧ n ≤ L ∧ 0 < X ∧ rt N ≤ X ∧ Hid (X = k)
open Go.RowKit
open Go.RowKit
def RetNB (w:World) (xs:List Nat) (b:Bool) (e:Ending) (w':World):Prop :=
  ∃ p n c,e = .returned (.tuple #[.slice p n c,.bool b]) ∧ Fr w.heap.size w' p n c xs ∧ Below w.heap.size w w'
def zv (b:Bool) (n:Nat):Int:=if b then -(n:Int) else (n:Int)
def ng (z:Int):Bool:=decide (z < 0)
theorem zv_ng (z:Int):zv (ng z) z.natAbs = z:=by
  unfold zv ng
  by_cases h:z < 0
  · rw [decide_eq_true h]; simp; omega
  rw [decide_eq_false h]; simp; omega
theorem natAbs_zv (b:Bool) (n:Nat):(zv b n).natAbs = n:=by
  unfold zv; cases b <;> simp
theorem ng_zv (b:Bool) (n:Nat):ng (zv b n) = (b && decide (0 < n)):=by
  unfold zv ng
  cases b
  · simp
  simp
theorem zv_zero (b:Bool):zv b 0 = 0:=by unfold zv; cases b <;> rfl
theorem zv_false (n:Nat):zv false n = n:=rfl
theorem zv_true (n:Nat):zv true n = -(n:Int):=rfl
theorem zv_eq_zero {b:Bool} {n:Nat}:zv b n = 0 ↔ n = 0:=by
  unfold zv; cases b <;> simp
theorem ng_false {z:Int} (h:0 ≤ z):ng z = false:=decide_eq_false (by omega)
theorem zv_add_same (b:Bool) (m n:Nat):zv b (m + n) = zv b m + zv b n:=by
  unfold zv; cases b <;> simp <;> omega
theorem zv_add_le {b c:Bool} (h:b ≠ c) {m n:Nat} (hmn:n ≤ m):zv b (m - n) = zv b m + zv c n:=by
  unfold zv; cases b <;> cases c <;> simp at h ⊢ <;> omega
theorem zv_add_lt {b c:Bool} (h:b ≠ c) {m n:Nat} (hmn:m ≤ n):zv c (n - m) = zv b m + zv c n:=by
  unfold zv; cases b <;> cases c <;> simp at h ⊢ <;> omega
theorem zv_neg (b:Bool) (n:Nat):zv (!b) n = - zv b n:=by unfold zv; cases b <;> simp
theorem zv_mul (b c:Bool) (m n:Nat):zv (b != c) (m * n) = zv b m * zv c n:=by
  unfold zv; cases b <;> cases c <;> simp [Int.neg_mul,Int.mul_neg]
theorem zv_tdiv (b c:Bool) (m n:Nat):zv (b != c) (m / n) = (zv b m).tdiv (zv c n):=by
  unfold zv; cases b <;> cases c <;> simp [Int.neg_tdiv,Int.tdiv_neg]
theorem zv_tmod (b c:Bool) (m n:Nat):zv b (m % n) = (zv b m).tmod (zv c n):=by
  unfold zv; cases b <;> cases c <;> simp [Int.neg_tmod,Int.tmod_neg] <;> rfl
theorem euclid_unique {a b q r:Int} (h:a = b * q + r) (h0:0 ≤ r) (h1:r < b.natAbs):q = a / b ∧ r = a % b:=by
 have hb:b ≠ 0:=by intro e; subst e; simp at h1; omega
 have h2:=Int.emod_add_mul_ediv a b
 have h3:=Int.emod_nonneg a hb
 have h4:=Int.emod_lt a hb
 have h5:b * (q - a / b) = a % b - r:=by rw [Int.mul_sub]; omega
 have h6:q - a / b = 0:=by
  rcases Int.lt_trichotomy (q - a / b) 0 with h7 | h7 | h7
  ·exfalso
   have h8:(b.natAbs:Int) * 1 ≤ (b * (q - a / b)).natAbs:=by
    rw [Int.natAbs_mul,Int.natCast_mul]
    exact Int.mul_le_mul_of_nonneg_left (by omega) (by omega)
   omega
  ·exact h7
  exfalso
  have h8:(b.natAbs:Int) * 1 ≤ (b * (q - a / b)).natAbs:=by
   rw [Int.natAbs_mul,Int.natCast_mul]
   exact Int.mul_le_mul_of_nonneg_left (by omega) (by omega)
  omega
 rw [h6,Int.mul_zero] at h5
 omega
theorem euclid_low {a b:Int} (hb:b ≠ 0) (h:a.tmod b < 0):a.tdiv b - b.sign = a / b ∧ a.tmod b + b.natAbs = a % b:=by
 have h1:=Int.tmod_add_mul_tdiv a b
 have h2 : -(b.natAbs:Int) < a.tmod b:=by
  have:=Int.natAbs_tmod a b
  have h3:a.natAbs % b.natAbs < b.natAbs:=Nat.mod_lt _ (by omega)
  omega
 have h4:b * b.sign = b.natAbs:=Int.mul_sign_self b
 exact euclid_unique (by rw [Int.mul_sub]; omega) (by omega) (by omega)
theorem euclid_high {a b:Int} (hb:b ≠ 0) (h:0 ≤ a.tmod b):a.tdiv b = a / b ∧ a.tmod b = a % b:=by
 have h1:=Int.tmod_add_mul_tdiv a b
 have h2:a.tmod b < (b.natAbs:Int):=by
  have:=Int.natAbs_tmod a b
  have h3:a.natAbs % b.natAbs < b.natAbs:=Nat.mod_lt _ (by omega)
  omega
 exact euclid_unique (by omega) h h2
def cmpZ (a b:Int):Int:=if a < b then -1 else if a = b then 0 else 1
theorem sign_cases (z:Int):z.sign = -1 ∧ z < 0 ∨ z.sign = 0 ∧ z = 0 ∨ z.sign = 1 ∧ 0 < z:=by
  rcases Int.lt_trichotomy z 0 with h | h | h
  · exact Or.inl ⟨Int.sign_eq_neg_one_of_neg h,h⟩
  · exact Or.inr (Or.inl ⟨by rw [h]; rfl,h⟩)
  exact Or.inr (Or.inr ⟨Int.sign_eq_one_of_pos h,h⟩)
theorem cmpZ_sign_lt {a b:Int} (h:a.sign < b.sign):cmpZ a b = -1:=by
  have h1:=sign_cases a
  have h2:=sign_cases b
  unfold cmpZ; rw [if_pos (by omega)]
theorem cmpZ_sign_gt {a b:Int} (h:b.sign < a.sign):cmpZ a b = 1:=by
  have h1:=sign_cases a
  have h2:=sign_cases b
  unfold cmpZ; rw [if_neg (by omega),if_neg (by omega)]
theorem cmpZ_of {a b:Int} {m n:Nat} (h1:a < b ↔ m < n) (h2:a = b ↔ m = n):cmpZ a b = cmpN m n:=by
 unfold cmpZ cmpN
 by_cases k1:m < n
 ·rw [if_pos (h1.2 k1),if_pos k1]
 rw [if_neg (fun h => k1 (h1.1 h)),if_neg k1]
 by_cases k2:m = n
 ·rw [if_pos (h2.2 k2),if_pos k2]
 rw [if_neg (fun h => k2 (h2.1 h)),if_neg k2]
theorem zv_below {b:Bool} {m:Nat} (h:zv b m < 0):zv b m = -(m:Int):=by
  cases b
  · rw [zv_false] at h; omega
  rfl
theorem zv_not_below {b:Bool} {m:Nat} (h:0 ≤ zv b m):zv b m = (m:Int):=by
  cases b
  · rfl
  rw [zv_true] at h ⊢; omega
theorem cmpZ_both_neg {b c:Bool} {m n:Nat} (h1:zv b m < 0) (h2:zv c n < 0):cmpZ (zv b m) (zv c n) = cmpN n m:=by
  rw [zv_below h1,zv_below h2]
  exact cmpZ_of (by omega) (by omega)
theorem cmpZ_both_pos {b c:Bool} {m n:Nat} (h1:0 ≤ zv b m) (h2:0 ≤ zv c n):cmpZ (zv b m) (zv c n) = cmpN m n:=by
  rw [zv_not_below h1,zv_not_below h2]
  exact cmpZ_of (by omega) (by omega)
def nearP (a b:Int):Int:=if b < a % b + a % b ∨ b = a % b + a % b ∧ (a / b).natAbs % 2 = 1 then a / b + 1 else a / b
def nearZ (a b:Int):Int:=if b < 0 then nearP (-a) (-b) else nearP a b
end Go.Proofs.YtjnpdpcldmjdjaaGreatDoor
