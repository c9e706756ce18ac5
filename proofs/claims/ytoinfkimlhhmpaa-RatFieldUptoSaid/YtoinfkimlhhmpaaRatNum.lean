
/-
  Fractions in lowest terms, plainly.
-/
import Derived.Test.YtoinfkimlhhmpaaBC
set_option linter.unusedVariables false
set_option linter.unusedSimpArgs false
namespace Go.Proofs.Ytoinfkimlhhmpaa

/-- The greatest divisor with the denominator's sign. -/
def sgd (x y : Int) : Int := if y < 0 then -(Int.gcd x y : Int) else (Int.gcd x y : Int)
def RN (x y : Int) : Int := x.tdiv (sgd x y)
def RD (x y : Int) : Int := y.tdiv (sgd x y)

theorem sgd_ne {x y : Int} (hy : y ≠ 0) : sgd x y ≠ 0 := by
  have : 0 < Int.gcd x y := Nat.gcd_pos_of_pos_right _ (by omega)
  unfold sgd; split <;> omega
theorem sgd_dvd1 (x y : Int) : sgd x y ∣ x := by
  unfold sgd; split
  · exact Int.neg_dvd.2 (Int.gcd_dvd_left x y)
  · exact Int.gcd_dvd_left x y
theorem sgd_dvd2 (x y : Int) : sgd x y ∣ y := by
  unfold sgd; split
  · exact Int.neg_dvd.2 (Int.gcd_dvd_right x y)
  · exact Int.gcd_dvd_right x y
theorem RN_mul (x y : Int) : sgd x y * RN x y = x := Int.mul_tdiv_cancel' (sgd_dvd1 x y)
theorem RD_mul (x y : Int) : sgd x y * RD x y = y := Int.mul_tdiv_cancel' (sgd_dvd2 x y)
theorem RD_pos {x y : Int} (hy : y ≠ 0) : 0 < RD x y := by
  have h := RD_mul x y
  have hg : (0 : Int) < Int.gcd x y := by have : 0 < Int.gcd x y := Nat.gcd_pos_of_pos_right _ (by omega); omega
  unfold sgd at h
  split at h
  · rename_i hlt
    by_cases h0 : 0 < RD x y
    · exact h0
    · exfalso
      have : 0 ≤ (-(Int.gcd x y : Int)) * RD x y := Int.mul_nonneg_of_nonpos_of_nonpos (by omega) (by omega)
      omega
  · by_cases h0 : 0 < RD x y
    · exact h0
    · exfalso
      have : (Int.gcd x y : Int) * RD x y ≤ 0 := Int.mul_nonpos_of_nonneg_of_nonpos (by omega) (by omega)
      omega
theorem sgd_natAbs (x y : Int) : (sgd x y).natAbs = Int.gcd x y := by unfold sgd; split <;> omega
theorem R_gcd {x y : Int} (hy : y ≠ 0) : Int.gcd (RN x y) (RD x y) = 1 := by
  have h1 := RN_mul x y
  have h2 := RD_mul x y
  have h3 : Int.gcd (sgd x y * RN x y) (sgd x y * RD x y) = (sgd x y).natAbs * Int.gcd (RN x y) (RD x y) := Int.gcd_mul_left _ _ _
  rw [h1, h2, sgd_natAbs] at h3
  have : 0 < Int.gcd x y := Nat.gcd_pos_of_pos_right _ (by omega)
  exact Nat.eq_of_mul_eq_mul_left this (by rw [← h3, Nat.mul_one])

theorem int_cop {a b c : Int} (h : a ∣ b * c) (hg : Int.gcd a b = 1) : a ∣ c := by
  have : a.natAbs ∣ b.natAbs * c.natAbs := by rw [← Int.natAbs_mul]; exact Int.natAbs_dvd_natAbs.2 h
  exact Int.natAbs_dvd_natAbs.1 ((show Nat.Coprime a.natAbs b.natAbs from hg).dvd_of_dvd_mul_left this)
/-- One pair in lowest terms: there is one alone. -/
theorem R_uniq {x y n d : Int} (hy : y ≠ 0) (hd : 0 < d) (hg : Int.gcd n d = 1) (h : n * y = x * d) : RN x y = n ∧ RD x y = d := by
  have hk := sgd_ne (x := x) hy
  have h1 := RN_mul x y
  have h2 := RD_mul x y
  have hD := RD_pos (x := x) hy
  have e : n * RD x y = RN x y * d := by
    apply Int.eq_of_mul_eq_mul_left hk
    have e1 : sgd x y * (n * RD x y) = n * (sgd x y * RD x y) := by rw [← Int.mul_assoc, Int.mul_comm (sgd x y) n, Int.mul_assoc]
    have e2 : sgd x y * (RN x y * d) = (sgd x y * RN x y) * d := by rw [Int.mul_assoc]
    rw [e1, e2, h1, h2, h]
  have d1 : RD x y ∣ d := int_cop (b := RN x y) ⟨n, by rw [← e, Int.mul_comm]⟩ (by rw [Int.gcd_comm]; exact R_gcd hy)
  have d2 : d ∣ RD x y := int_cop (b := n) ⟨RN x y, by rw [e, Int.mul_comm]⟩ (by rw [Int.gcd_comm]; exact hg)
  have hdd : RD x y = d := Int.dvd_antisymm (by omega) (by omega) d1 d2
  rw [hdd] at e
  exact ⟨(Int.eq_of_mul_eq_mul_right (by omega) e).symm, hdd⟩
theorem R_cross (x y : Int) : RN x y * y = x * RD x y := by
  have h1 := RN_mul x y
  have h2 := RD_mul x y
  generalize RN x y = a at *
  generalize RD x y = b at *
  generalize sgd x y = k at *
  rw [← h1, ← h2]; grind
/-- Two pairs that are one fraction. -/
theorem R_same {x y x' y' : Int} (hy : y ≠ 0) (hy' : y' ≠ 0) (h : x * y' = x' * y) : RN x y = RN x' y' ∧ RD x y = RD x' y' := by
  refine R_uniq hy (RD_pos hy') (R_gcd hy') ?_
  have h1 := R_cross x' y'
  apply Int.eq_of_mul_eq_mul_left hy'
  generalize RN x' y' = a at *
  generalize RD x' y' = b at *
  grind
theorem R_low {x y : Int} (hd : 0 < y) (hg : Int.gcd x y = 1) : RN x y = x ∧ RD x y = y := R_uniq (by omega) hd hg rfl
theorem RN_zero {x y : Int} (hy : y ≠ 0) : RN x y = 0 ↔ x = 0 := by
  have h1 := RN_mul x y
  constructor
  · intro h; rw [h, Int.mul_zero] at h1; exact h1.symm
  · intro h
    rw [h] at h1 ⊢
    rcases Int.mul_eq_zero.1 h1 with h2 | h2
    · exact absurd h2 (sgd_ne hy)
    · exact h2
theorem sgd_pos {x y : Int} (h : 0 ≤ y) : sgd x y = (Int.gcd x y : Int) := by unfold sgd; rw [if_neg (by omega)]
theorem sgd_neg {x y : Int} (h : y < 0) : sgd x y = -(Int.gcd x y : Int) := by unfold sgd; rw [if_pos h]
/-- The two ways of the code. -/
theorem RN_of {x y g z : Int} (h0 : 0 ≤ y) (hg : (Int.gcd x y : Int) = g) (hz : x.tdiv g = z) : RN x y = z := by unfold RN; rw [sgd_pos h0, hg, hz]
theorem RD_of {x y g z : Int} (h0 : 0 ≤ y) (hg : (Int.gcd x y : Int) = g) (hz : y.tdiv g = z) : RD x y = z := by unfold RD; rw [sgd_pos h0, hg, hz]
theorem RN_ofN {x y g k z : Int} (h0 : y < 0) (hg : (Int.gcd x y : Int) = g) (hk : -g = k) (hz : x.tdiv k = z) : RN x y = z := by unfold RN; rw [sgd_neg h0, hg, hk, hz]
theorem RD_ofN {x y g k z : Int} (h0 : y < 0) (hg : (Int.gcd x y : Int) = g) (hk : -g = k) (hz : y.tdiv k = z) : RD x y = z := by unfold RD; rw [sgd_neg h0, hg, hk, hz]
theorem gcd_mod1 {x y g : Int} (hg : (Int.gcd x y : Int) = g) : x.tmod g = 0 := by rw [← hg]; exact Int.tmod_eq_zero_of_dvd (Int.gcd_dvd_left x y)
theorem gcd_mod2 {x y g : Int} (hg : (Int.gcd x y : Int) = g) : y.tmod g = 0 := by rw [← hg]; exact Int.tmod_eq_zero_of_dvd (Int.gcd_dvd_right x y)
theorem neg_mod {x g k : Int} (h : x.tmod g = 0) (hk : -g = k) : x.tmod k = 0 := by
  rw [← hk]; exact Int.tmod_eq_zero_of_dvd (Int.neg_dvd.2 (Int.dvd_of_tmod_eq_zero h))
theorem gcd_ne {x y g : Int} (hy : y ≠ 0) (hg : (Int.gcd x y : Int) = g) : g ≠ 0 := by
  have : 0 < Int.gcd x y := Nat.gcd_pos_of_pos_right _ (by omega)
  omega
theorem RN_one (x : Int) : RN x 1 = x := (R_low (by omega) (by simp)).1
theorem RD_one (x : Int) : RD x 1 = 1 := (R_low (by omega) (by simp)).2
theorem RN_idem {x y : Int} (hy : y ≠ 0) : RN (RN x y) (RD x y) = RN x y := (R_low (RD_pos hy) (R_gcd hy)).1
theorem RD_idem {x y : Int} (hy : y ≠ 0) : RD (RN x y) (RD x y) = RD x y := (R_low (RD_pos hy) (R_gcd hy)).2
theorem RN_abs (x y : Int) : (RN x y).natAbs ≤ x.natAbs := by
  unfold RN; rw [Int.natAbs_tdiv]; exact Nat.div_le_self _ _
theorem RD_abs (x y : Int) : (RD x y).natAbs ≤ y.natAbs := by
  unfold RD; rw [Int.natAbs_tdiv]; exact Nat.div_le_self _ _

end Go.Proofs.Ytoinfkimlhhmpaa
