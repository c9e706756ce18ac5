
/-
  The walk of nat.Div.
-/
import Derived.Test.YtlnilkghbbbhbaaNatH
import Derived.Test.YtlnilkghbbbhbaaNatI
namespace Go.Proofs.Ytlnilkghbbbhbaa
open Go.RowKit

set_option maxHeartbeats 2000000 in
theorem div_any {p q : Option Addr} {n m c d : Nat} {xs ys : List Nat} {w : World} (hx : Sl w p n c xs) (hy : Sl w q m d ys) (hn : n ≤ 1099511627776) (hm : m ≤ 1099511627776) (h0 : val ys ≠ 0) :
    Calls Try.prog 75 #[.slice p n c, .slice q m d] w (RetTE w (val xs / val ys) (val xs % val ys) 0) := by
  go_enter Try.func75, Try.ntmps75
  go_wp2_with fail
  refine (trim_any hx).mono ?_
  rintro e w1 ⟨n1, rfl, hx1, hn1, rfl⟩
  go_wp2_with fail
  refine (trim_any hy).mono ?_
  rintro e w1 ⟨m1, rfl, hy1, hm1, rfl⟩
  have hn2 : n1 ≤ 1099511627776 := by omega
  have hm2 : m1 ≤ 1099511627776 := by omega
  have HXL : Hid (ll (val xs) = n1) := by show _ = _; rw [← hx1.len, length_lim]
  have HYL : Hid (ll (val ys) = m1) := by show _ = _; rw [← hy1.len, length_lim]
  have hm0 : 0 < m1 := by rw [← HYL.out]; exact ll_pos h0
  have HX : Hid (val (lim (val xs)) = val xs) := val_lim _
  have HY : Hid (val (lim (val ys)) = val ys) := val_lim _
  have HONE : Hid (ll (val ys) = 1 → nd (lim (val ys)) 0 = val ys) := one_limb
  have HNO := Lib.hid lim_none
  generalize lim (val xs) = us at *
  generalize lim (val ys) = vs at *
  generalize val xs = A at *
  generalize val ys = C at *
  have hz : ((m1 : Int) == 0) = false := by simp; omega
  clear hn1 hm1 hn hm
  go_wp2_with fail
  refine (cmp_any hx1 hy1).mono ?_
  rw [HX.out, HY.out]
  rcases Nat.lt_or_ge A C with hlt | hge
  · rw [cmpN_lt hlt]
    rintro e w2 ⟨rfl, hb2⟩
    go_wp2_with fail
    refine (own_any (hx1.below hb2 (Nat.le_refl _)) (by omega)).mono ?_
    rw [HX.out]
    rintro e w3 ⟨p3, n3, c3, rfl, hf3, hb3⟩
    go_wp2_with fail
    go_ret3
    rw [Nat.div_eq_of_lt hlt, Nat.mod_eq_of_lt hlt]
    exact ⟨none, 0, 0, _, _, _, rfl, by rw [HNO.out]; exact Fr.nil _ _, hf3.mono hb2.size, hb2.trans (hb3.mono hb2.size)⟩
  · have hcg := cmpN_ge0 hge
    generalize cmpN A C = z at *
    have hz2 : decide (z < 0) = false := by simp; omega
    rintro e w2 ⟨rfl, hb2⟩
    clear hcg
    by_cases h1 : m1 = 1
    · have hz3 : ((m1 : Int) == 1) = true := by simp; omega
      obtain ⟨b1, o1, rfl, hyc⟩ := (hy1.below hb2 (Nat.le_refl _)).cell 0 (by omega)
      rw [Nat.add_zero] at hyc
      have hY := hy1.lim1 0
      have hbv := HONE.out (by rw [HYL.out, h1])
      rw [hbv] at hyc hY
      clear hbv h1
      go_wp2_with fail
      refine (short_any (hx1.below hb2 (Nat.le_refl _)) hY (by omega) (by omega)).mono ?_
      rw [HX.out]
      rintro e w3 ⟨p3, n3, c3, r, rfl, hf3, hb3, HR, hr⟩
      go_wp2_with fail
      refine (of_any (N := r) rfl (by omega)).mono ?_
      rw [HR.out]
      rintro e w4 ⟨p4, n4, c4, rfl, hf4, hb4⟩
      go_wp2_with fail
      go_ret3
      have hb23 := hb2.trans (hb3.mono hb2.size)
      exact ⟨_, _, _, _, _, _, rfl, (hf3.below hb4 (Nat.le_refl _)).mono hb2.size, hf4.mono hb23.size, hb23.trans (hb4.mono hb23.size)⟩
    · have hz3 : ((m1 : Int) == 1) = false := by simp; omega
      obtain ⟨k, hk⟩ : ∃ k, n1 = m1 + k := ⟨n1 - m1, by have h2 := ll_mono hge; rw [HXL.out, HYL.out] at h2; omega⟩
      have hm3 : 2 ≤ m1 := by omega
      clear h1
      subst hk
      go_wp2_with fail
      refine (long_any (hx1.below hb2 (Nat.le_refl _)) (hy1.below hb2 (Nat.le_refl _)) hn2 hm3 (by rw [HX.out]; exact HXL) (by rw [HY.out]; exact HYL)).mono ?_
      rw [HX.out, HY.out]
      rintro e w3 ⟨p3, n3, c3, p4, n4, c4, rfl, hf3, hf4, hb3⟩
      go_wp2_with fail
      go_ret3
      exact ⟨_, _, _, _, _, _, rfl, hf3.mono hb2.size, hf4.mono hb2.size, hb2.trans (hb3.mono hb2.size)⟩

end Go.Proofs.Ytlnilkghbbbhbaa
