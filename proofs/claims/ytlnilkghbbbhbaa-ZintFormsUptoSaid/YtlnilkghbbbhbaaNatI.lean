
/-
  The walk of nat.Div: by nothing, and by one limb.
-/
import Derived.Test.YtlnilkghbbbhbaaNatG
import Derived.Test.YtlnilkghbbbhbaaNatD
import Derived.OwnWalk
namespace Go.Proofs.Ytlnilkghbbbhbaa
open Go.RowKit

/-- What a function leaves that tells two numbers and an error. -/
def RetTE (w : World) (Q R : Nat) (E : Int) (e : Ending) (w' : World) : Prop :=
  ∃ p n c q m d, e = .returned (.tuple #[.slice p n c, .slice q m d, .int .i64 E]) ∧ Fr w.heap.size w' p n c (lim Q) ∧ Fr w.heap.size w' q m d (lim R) ∧ Below w.heap.size w w'

theorem lim_none : lim 0 = [] := List.eq_nil_of_length_eq_zero (by rw [length_lim]; rfl)

theorem cmpN_ge0 {a b : Nat} (h : b ≤ a) : 0 ≤ cmpN a b := by unfold cmpN; rw [if_neg (by omega)]; split <;> omega

theorem one_limb {N : Nat} (h : ll N = 1) : nd (lim N) 0 = N := by
  have h1 := val_lim N
  have h2 : (lim N).length = 1 := by rw [length_lim, h]
  obtain ⟨x, hx⟩ := List.length_eq_one_iff.1 h2
  rw [hx, val_single] at h1
  rw [hx]
  exact h1

set_option maxHeartbeats 1000000 in
theorem div_zero {p q : Option Addr} {n m c d : Nat} {xs ys : List Nat} {w : World} (hx : Sl w p n c xs) (hy : Sl w q m d ys) (h0 : val ys = 0) :
    Calls Try.prog 75 #[.slice p n c, .slice q m d] w (RetTE w 0 0 5) := by
  go_enter Try.func75, Try.ntmps75
  go_wp2_with fail
  refine (trim_any hx).mono ?_
  rintro e w1 ⟨n1, rfl, hx1, hn1, rfl⟩
  go_wp2_with fail
  refine (trim_any hy).mono ?_
  rintro e w1 ⟨m1, rfl, hy1, hm1, rfl⟩
  have hm0 : m1 = 0 := by rw [← hy1.len, length_lim, h0]; rfl
  have hz : ((m1 : Int) == 0) = true := by simp [hm0]
  have H0 := Lib.hid hm0
  clear hm0 h0
  go_wp2_with fail
  go_ret3
  exact ⟨none, 0, 0, none, 0, 0, rfl, by rw [lim_none]; exact Fr.nil _ _, by rw [lim_none]; exact Fr.nil _ _, Below.refl _ _⟩

set_option maxHeartbeats 2000000 in
theorem div_one {p q : Option Addr} {n m c d : Nat} {xs ys : List Nat} {w : World} (hx : Sl w p n c xs) (hy : Sl w q m d ys) (hn : n ≤ 1099511627776) (hm : m ≤ 1099511627776) (h0 : val ys ≠ 0) (h1b : ll (val ys) = 1) (hge : val ys ≤ val xs) :
    Calls Try.prog 75 #[.slice p n c, .slice q m d] w (RetTE w (val xs / val ys) (val xs % val ys) 0) := by
  go_enter Try.func75, Try.ntmps75
  go_wp2_with fail
  refine (trim_any hx).mono ?_
  rintro e w1 ⟨n1, rfl, hx1, hn1, rfl⟩
  go_wp2_with fail
  refine (trim_any hy).mono ?_
  rintro e w1 ⟨m1, rfl, hy1, hm1, rfl⟩
  have hn2 : n1 ≤ 1099511627776 := by omega
  have hm2 : m1 ≤ 1099511627776 := by omega
  have HXL : Hid (ll (val xs) = n1) := by show _ = _; rw [← hx1.len, length_lim]
  have HYL : Hid (ll (val ys) = m1) := by show _ = _; rw [← hy1.len, length_lim]
  have hm0 : 0 < m1 := by rw [← HYL.out]; exact ll_pos h0
  have HX : Hid (val (lim (val xs)) = val xs) := val_lim _
  have HY : Hid (val (lim (val ys)) = val ys) := val_lim _
  have HONE : Hid (ll (val ys) = 1 → nd (lim (val ys)) 0 = val ys) := one_limb
  have HNO := Lib.hid lim_none
  generalize lim (val xs) = us at *
  generalize lim (val ys) = vs at *
  generalize val xs = A at *
  generalize val ys = C at *
  have hz : ((m1 : Int) == 0) = false := by simp; omega
  clear hn1 hm1 hn hm
  go_wp2_with fail
  refine (cmp_any hx1 hy1).mono ?_
  rw [HX.out, HY.out]
  have h1 : m1 = 1 := by rw [← HYL.out]; exact h1b
  have hcg := cmpN_ge0 hge
  generalize cmpN A C = z at *
  have hz2 : decide (z < 0) = false := by simp; omega
  rintro e w2 ⟨rfl, hb2⟩
  clear hcg
  have hz3 : ((m1 : Int) == 1) = true := by simp; omega
  obtain ⟨b1, o1, rfl, hyc⟩ := (hy1.below hb2 (Nat.le_refl _)).cell 0 (by omega)
  rw [Nat.add_zero] at hyc
  have hY := hy1.lim1 0
  have hbv := HONE.out (by rw [HYL.out, h1])
  rw [hbv] at hyc hY
  clear hbv h1
  go_wp2_with fail
  refine (short_any (hx1.below hb2 (Nat.le_refl _)) hY (by omega) (by omega)).mono ?_
  rw [HX.out]
  rintro e w3 ⟨p3, n3, c3, r, rfl, hf3, hb3, HR, hr⟩
  go_wp2_with fail
  refine (of_any (N := r) rfl (by omega)).mono ?_
  rw [HR.out]
  rintro e w4 ⟨p4, n4, c4, rfl, hf4, hb4⟩
  go_wp2_with fail
  go_ret3
  have hb23 := hb2.trans (hb3.mono hb2.size)
  exact ⟨_, _, _, _, _, _, rfl, (hf3.below hb4 (Nat.le_refl _)).mono hb2.size, hf4.mono hb23.size, hb23.trans (hb4.mono hb23.size)⟩

end Go.Proofs.Ytlnilkghbbbhbaa
