/-
  Contracts and lemmas, joined in one text.
-/
import Derived.Test.YtcfcdbeemhjhgaaDoorNatH
import Derived.Test.YtcfcdbeemhjhgaaDoorBB
import Derived.Deep.LoopGhost
import Derived.Test.YtcfcdbeemhjhgaaDoorBA
import Derived.Laws.BitsAllLaws
set_option linter.unusedVariables false
set_option linter.unusedSimpArgs false
/-
  The walk of nat.Div.
-/
namespace Go.Proofs.YtcfcdbeemhjhgaaDoor
open Go.RowKit
set_option maxHeartbeats 2000000 in
theorem div_any {p q:Option Addr} {n m c d:Nat} {xs ys:List Nat} {w:World} (hx:Sl w p n c xs) (hy:Sl w q m d ys) (hn:n ≤ 1099511627776) (hm:m ≤ 1099511627776) (h0:val ys ≠ 0) :
  Calls Tryd.prog 103 #[.slice p n c,.slice q m d] w (RetTE w (val xs / val ys) (val xs % val ys) 0):=by
 go_enter Tryd.func103,Tryd.ntmps103
 go_wp2_with fail
 refine (trim_any hx).mono ?_
 rintro e w1 ⟨n1,rfl,hx1,hn1,rfl⟩
 go_wp2_with fail
 refine (trim_any hy).mono ?_
 rintro e w1 ⟨m1,rfl,hy1,hm1,rfl⟩
 have hn2:n1 ≤ 1099511627776:=by omega
 have hm2:m1 ≤ 1099511627776:=by omega
 have HXL:Hid (ll (val xs) = n1):=by show _ = _; rw [← hx1.len,length_lim]
 have HYL:Hid (ll (val ys) = m1):=by show _ = _; rw [← hy1.len,length_lim]
 have hm0:0 < m1:=by rw [← HYL.out]; exact ll_pos h0
 have HX:Hid (val (lim (val xs)) = val xs):=val_lim _
 have HY:Hid (val (lim (val ys)) = val ys):=val_lim _
 have HONE:Hid (ll (val ys) = 1 → nd (lim (val ys)) 0 = val ys):=one_limb
 have HNO:=Lib.hid lim_none
 generalize lim (val xs) = us at *
 generalize lim (val ys) = vs at *
 generalize val xs = A at *
 generalize val ys = C at *
 have hz:((m1:Int) == 0) = false:=by simp; omega
 clear hn1 hm1 hn hm
 go_wp2_with fail
 refine (cmp_any hx1 hy1).mono ?_
 rw [HX.out,HY.out]
 rcases Nat.lt_or_ge A C with hlt | hge
 ·rw [cmpN_lt hlt]
  rintro e w2 ⟨rfl,hb2⟩
  go_wp2_with fail
  refine (own_any (hx1.below hb2 (Nat.le_refl _)) (by omega)).mono ?_
  rw [HX.out]
  rintro e w3 ⟨p3,n3,c3,rfl,hf3,hb3⟩
  go_wp2_with fail
  go_ret3
  rw [Nat.div_eq_of_lt hlt,Nat.mod_eq_of_lt hlt]
  exact ⟨none,0,0,_,_,_,rfl,by rw [HNO.out]; exact Fr.nil _ _,hf3.mono hb2.size,hb2.trans (hb3.mono hb2.size)⟩
 ·have hcg:=cmpN_ge0 hge
  generalize cmpN A C = z at *
  have hz2:decide (z < 0) = false:=by simp; omega
  rintro e w2 ⟨rfl,hb2⟩
  clear hcg
  by_cases h1:m1 = 1
  ·have hz3:((m1:Int) == 1) = true:=by simp; omega
   obtain ⟨b1,o1,rfl,hyc⟩:=(hy1.below hb2 (Nat.le_refl _)).cell 0 (by omega)
   rw [Nat.add_zero] at hyc
   have hY:=hy1.lim1 0
   have hbv:=HONE.out (by rw [HYL.out,h1])
   rw [hbv] at hyc hY
   clear hbv h1
   go_wp2_with fail
   refine (short_any (hx1.below hb2 (Nat.le_refl _)) hY (by omega) (by omega)).mono ?_
   rw [HX.out]
   rintro e w3 ⟨p3,n3,c3,r,rfl,hf3,hb3,HR,hr⟩
   go_wp2_with fail
   refine (of_any (N:=r) rfl (by omega)).mono ?_
   rw [HR.out]
   rintro e w4 ⟨p4,n4,c4,rfl,hf4,hb4⟩
   go_wp2_with fail
   go_ret3
   have hb23:=hb2.trans (hb3.mono hb2.size)
   exact ⟨_,_,_,_,_,_,rfl,(hf3.below hb4 (Nat.le_refl _)).mono hb2.size,hf4.mono hb23.size,hb23.trans (hb4.mono hb23.size)⟩
  ·have hz3:((m1:Int) == 1) = false:=by simp; omega
   obtain ⟨k,hk⟩:∃ k,n1 = m1 + k:=⟨n1 - m1,by have h2:=ll_mono hge; rw [HXL.out,HYL.out] at h2; omega⟩
   have hm3:2 ≤ m1:=by omega
   clear h1
   subst hk
   go_wp2_with fail
   refine (long_any (hx1.below hb2 (Nat.le_refl _)) (hy1.below hb2 (Nat.le_refl _)) hn2 hm3 (by rw [HX.out]; exact HXL) (by rw [HY.out]; exact HYL)).mono ?_
   rw [HX.out,HY.out]
   rintro e w3 ⟨p3,n3,c3,p4,n4,c4,rfl,hf3,hf4,hb3⟩
   go_wp2_with fail
   go_ret3
   exact ⟨_,_,_,_,_,_,rfl,hf3.mono hb2.size,hf4.mono hb2.size,hb2.trans (hb3.mono hb2.size)⟩
end Go.Proofs.YtcfcdbeemhjhgaaDoor
/-
  The walk of nat.Gcd.
-/
namespace Go.Proofs.YtcfcdbeemhjhgaaDoor
open Go.RowKit
def GcdAt (w:World) (L G k:Nat) (a b:Value) (wr:World):Prop :=
  ∃ p n c q m d A C,a = .slice p n c ∧ b = .slice q m d ∧ Fr w.heap.size wr p n c (lim A) ∧ Fr w.heap.size wr q m d (lim C) ∧ Below w.heap.size w wr ∧ n ≤ L ∧ m ≤ L ∧ Hid (Nat.gcd A C = G) ∧ Hid (C = k)
end Go.Proofs.YtcfcdbeemhjhgaaDoor
/-
  The walk of nat.Sqrt.
-/
namespace Go.Proofs.YtcfcdbeemhjhgaaDoor
open Go.RowKit
def RootAt (w:World) (L N k:Nat) (x:Value) (wr:World):Prop :=
  ∃ p n c X,x = .slice p n c ∧ Fr w.heap.size wr p n c (lim X) ∧ Below w.heap.size w wr ∧ n ≤ L ∧ 0 < X ∧ rt N ≤ X ∧ Hid (X = k)
end Go.Proofs.YtcfcdbeemhjhgaaDoor
/-
  The walk of nat.Pow.
-/
namespace Go.Proofs.YtcfcdbeemhjhgaaDoor
open Go.RowKit
end Go.Proofs.YtcfcdbeemhjhgaaDoor
/-
  The walk of simileref01: Pow.
-/
namespace Go.Proofs.YtcfcdbeemhjhgaaDoor
open Go.RowKit
def RetNB (w:World) (xs:List Nat) (b:Bool) (e:Ending) (w':World):Prop :=
  ∃ p n c,e = .returned (.tuple #[.slice p n c,.bool b]) ∧ Fr w.heap.size w' p n c xs ∧ Below w.heap.size w w'
end Go.Proofs.YtcfcdbeemhjhgaaDoor
/-
  Plain facts on integers by sign and size.
-/
namespace Go.Proofs.YtcfcdbeemhjhgaaDoor
def zv (b:Bool) (n:Nat):Int:=if b then -(n:Int) else (n:Int)
def ng (z:Int):Bool:=decide (z < 0)
theorem zv_ng (z:Int):zv (ng z) z.natAbs = z:=by
  unfold zv ng
  by_cases h:z < 0
  · rw [decide_eq_true h]; simp; omega
  · rw [decide_eq_false h]; simp; omega
theorem natAbs_zv (b:Bool) (n:Nat):(zv b n).natAbs = n:=by
  unfold zv; cases b <;> simp
theorem ng_zv (b:Bool) (n:Nat):ng (zv b n) = (b && decide (0 < n)):=by
  unfold zv ng
  cases b
  · simp
  · simp
theorem zv_zero (b:Bool):zv b 0 = 0:=by unfold zv; cases b <;> rfl
theorem zv_false (n:Nat):zv false n = n:=rfl
theorem zv_true (n:Nat):zv true n = -(n:Int):=rfl
theorem zv_eq_zero {b:Bool} {n:Nat}:zv b n = 0 ↔ n = 0:=by
  unfold zv; cases b <;> simp
theorem ng_true {z:Int} (h:z < 0):ng z = true:=decide_eq_true h
theorem ng_false {z:Int} (h:0 ≤ z):ng z = false:=decide_eq_false (by omega)
theorem zv_add_same (b:Bool) (m n:Nat):zv b (m + n) = zv b m + zv b n:=by
  unfold zv; cases b <;> simp <;> omega
theorem zv_add_le {b c:Bool} (h:b ≠ c) {m n:Nat} (hmn:n ≤ m):zv b (m - n) = zv b m + zv c n:=by
  unfold zv; cases b <;> cases c <;> simp at h ⊢ <;> omega
theorem zv_add_lt {b c:Bool} (h:b ≠ c) {m n:Nat} (hmn:m ≤ n):zv c (n - m) = zv b m + zv c n:=by
  unfold zv; cases b <;> cases c <;> simp at h ⊢ <;> omega
theorem zv_neg (b:Bool) (n:Nat):zv (!b) n = - zv b n:=by unfold zv; cases b <;> simp
theorem zv_tdiv (b c:Bool) (m n:Nat):zv (b != c) (m / n) = (zv b m).tdiv (zv c n):=by
  unfold zv; cases b <;> cases c <;> simp [Int.neg_tdiv,Int.tdiv_neg]
theorem zv_tmod (b c:Bool) (m n:Nat):zv b (m % n) = (zv b m).tmod (zv c n):=by
  unfold zv; cases b <;> cases c <;> simp [Int.neg_tmod,Int.tmod_neg] <;> rfl
theorem euclid_unique {a b q r:Int} (h:a = b * q + r) (h0:0 ≤ r) (h1:r < b.natAbs):q = a / b ∧ r = a % b:=by
 have hb:b ≠ 0:=by intro e; subst e; simp at h1; omega
 have h2:=Int.emod_add_mul_ediv a b
 have h3:=Int.emod_nonneg a hb
 have h4:=Int.emod_lt a hb
 have h5:b * (q - a / b) = a % b - r:=by rw [Int.mul_sub]; omega
 have h6:q - a / b = 0:=by
  rcases Int.lt_trichotomy (q - a / b) 0 with h7 | h7 | h7
  ·exfalso
   have h8:(b.natAbs:Int) * 1 ≤ (b * (q - a / b)).natAbs:=by
    rw [Int.natAbs_mul,Int.natCast_mul]
    exact Int.mul_le_mul_of_nonneg_left (by omega) (by omega)
   omega
  ·exact h7
  ·exfalso
   have h8:(b.natAbs:Int) * 1 ≤ (b * (q - a / b)).natAbs:=by
    rw [Int.natAbs_mul,Int.natCast_mul]
    exact Int.mul_le_mul_of_nonneg_left (by omega) (by omega)
   omega
 rw [h6,Int.mul_zero] at h5
 omega
theorem euclid_low {a b:Int} (hb:b ≠ 0) (h:a.tmod b < 0):a.tdiv b - b.sign = a / b ∧ a.tmod b + b.natAbs = a % b:=by
 have h1:=Int.tmod_add_mul_tdiv a b
 have h2 : -(b.natAbs:Int) < a.tmod b:=by
  have:=Int.natAbs_tmod a b
  have h3:a.natAbs % b.natAbs < b.natAbs:=Nat.mod_lt _ (by omega)
  omega
 have h4:b * b.sign = b.natAbs:=Int.mul_sign_self b
 exact euclid_unique (by rw [Int.mul_sub]; omega) (by omega) (by omega)
theorem euclid_high {a b:Int} (hb:b ≠ 0) (h:0 ≤ a.tmod b):a.tdiv b = a / b ∧ a.tmod b = a % b:=by
 have h1:=Int.tmod_add_mul_tdiv a b
 have h2:a.tmod b < (b.natAbs:Int):=by
  have:=Int.natAbs_tmod a b
  have h3:a.natAbs % b.natAbs < b.natAbs:=Nat.mod_lt _ (by omega)
  omega
 exact euclid_unique (by omega) h h2
def cmpZ (a b:Int):Int:=if a < b then -1 else if a = b then 0 else 1
theorem sign_cases (z:Int):z.sign = -1 ∧ z < 0 ∨ z.sign = 0 ∧ z = 0 ∨ z.sign = 1 ∧ 0 < z:=by
  rcases Int.lt_trichotomy z 0 with h | h | h
  · exact Or.inl ⟨Int.sign_eq_neg_one_of_neg h,h⟩
  · exact Or.inr (Or.inl ⟨by rw [h]; rfl,h⟩)
  · exact Or.inr (Or.inr ⟨Int.sign_eq_one_of_pos h,h⟩)
def nearP (a b:Int):Int:=if b < a % b + a % b ∨ b = a % b + a % b ∧ (a / b).natAbs % 2 = 1 then a / b + 1 else a / b
def nearZ (a b:Int):Int:=if b < 0 then nearP (-a) (-b) else nearP a b
end Go.Proofs.YtcfcdbeemhjhgaaDoor
