
/-
  Plain facts on integers by sign and size.
-/
import Derived.Test.YtlnilkghbbbhbaaNum7
namespace Go.Proofs.Ytlnilkghbbbhbaa

/-- An integer by its sign and its size. -/
def zv (b : Bool) (n : Nat) : Int := if b then -(n : Int) else (n : Int)

/-- Is it below 0? -/
def ng (z : Int) : Bool := decide (z < 0)

theorem zv_ng (z : Int) : zv (ng z) z.natAbs = z := by
  unfold zv ng
  by_cases h : z < 0
  · rw [decide_eq_true h]; simp; omega
  · rw [decide_eq_false h]; simp; omega

theorem natAbs_zv (b : Bool) (n : Nat) : (zv b n).natAbs = n := by
  unfold zv; cases b <;> simp

theorem ng_zv (b : Bool) (n : Nat) : ng (zv b n) = (b && decide (0 < n)) := by
  unfold zv ng
  cases b
  · simp
  · simp

theorem ng_nat (n : Nat) : ng (n : Int) = false := by unfold ng; simp
theorem ng_zero : ng 0 = false := rfl
theorem zv_zero (b : Bool) : zv b 0 = 0 := by unfold zv; cases b <;> rfl
theorem zv_false (n : Nat) : zv false n = n := rfl
theorem zv_true (n : Nat) : zv true n = -(n : Int) := rfl

theorem zv_eq_zero {b : Bool} {n : Nat} : zv b n = 0 ↔ n = 0 := by
  unfold zv; cases b <;> simp

theorem ng_true {z : Int} (h : z < 0) : ng z = true := decide_eq_true h
theorem ng_false {z : Int} (h : 0 ≤ z) : ng z = false := decide_eq_false (by omega)

theorem zv_add_same (b : Bool) (m n : Nat) : zv b (m + n) = zv b m + zv b n := by
  unfold zv; cases b <;> simp <;> omega

theorem zv_add_le {b c : Bool} (h : b ≠ c) {m n : Nat} (hmn : n ≤ m) : zv b (m - n) = zv b m + zv c n := by
  unfold zv; cases b <;> cases c <;> simp at h ⊢ <;> omega

theorem zv_add_lt {b c : Bool} (h : b ≠ c) {m n : Nat} (hmn : m ≤ n) : zv c (n - m) = zv b m + zv c n := by
  unfold zv; cases b <;> cases c <;> simp at h ⊢ <;> omega

theorem zv_neg (b : Bool) (n : Nat) : zv (!b) n = - zv b n := by unfold zv; cases b <;> simp

theorem zv_mul (b c : Bool) (m n : Nat) : zv (b != c) (m * n) = zv b m * zv c n := by
  unfold zv; cases b <;> cases c <;> simp [Int.neg_mul, Int.mul_neg]

theorem zv_tdiv (b c : Bool) (m n : Nat) : zv (b != c) (m / n) = (zv b m).tdiv (zv c n) := by
  unfold zv; cases b <;> cases c <;> simp [Int.neg_tdiv, Int.tdiv_neg]

theorem zv_tmod (b c : Bool) (m n : Nat) : zv b (m % n) = (zv b m).tmod (zv c n) := by
  unfold zv; cases b <;> cases c <;> simp [Int.neg_tmod, Int.tmod_neg] <;> rfl

/-- The one quotient and rest with a rest from 0 on. -/
theorem euclid_unique {a b q r : Int} (h : a = b * q + r) (h0 : 0 ≤ r) (h1 : r < b.natAbs) : q = a / b ∧ r = a % b := by
  have hb : b ≠ 0 := by intro e; subst e; simp at h1; omega
  have h2 := Int.emod_add_mul_ediv a b
  have h3 := Int.emod_nonneg a hb
  have h4 := Int.emod_lt a hb
  have h5 : b * (q - a / b) = a % b - r := by rw [Int.mul_sub]; omega
  have h6 : q - a / b = 0 := by
    rcases Int.lt_trichotomy (q - a / b) 0 with h7 | h7 | h7
    · exfalso
      have h8 : (b.natAbs : Int) * 1 ≤ (b * (q - a / b)).natAbs := by
        rw [Int.natAbs_mul, Int.natCast_mul]
        exact Int.mul_le_mul_of_nonneg_left (by omega) (by omega)
      omega
    · exact h7
    · exfalso
      have h8 : (b.natAbs : Int) * 1 ≤ (b * (q - a / b)).natAbs := by
        rw [Int.natAbs_mul, Int.natCast_mul]
        exact Int.mul_le_mul_of_nonneg_left (by omega) (by omega)
      omega
  rw [h6, Int.mul_zero] at h5
  omega

theorem euclid_low {a b : Int} (hb : b ≠ 0) (h : a.tmod b < 0) : a.tdiv b - b.sign = a / b ∧ a.tmod b + b.natAbs = a % b := by
  have h1 := Int.tmod_add_mul_tdiv a b
  have h2 : -(b.natAbs : Int) < a.tmod b := by
    have := Int.natAbs_tmod a b
    have h3 : a.natAbs % b.natAbs < b.natAbs := Nat.mod_lt _ (by omega)
    omega
  have h4 : b * b.sign = b.natAbs := Int.mul_sign_self b
  exact euclid_unique (by rw [Int.mul_sub]; omega) (by omega) (by omega)

theorem euclid_high {a b : Int} (hb : b ≠ 0) (h : 0 ≤ a.tmod b) : a.tdiv b = a / b ∧ a.tmod b = a % b := by
  have h1 := Int.tmod_add_mul_tdiv a b
  have h2 : a.tmod b < (b.natAbs : Int) := by
    have := Int.natAbs_tmod a b
    have h3 : a.natAbs % b.natAbs < b.natAbs := Nat.mod_lt _ (by omega)
    omega
  exact euclid_unique (by omega) h h2

/-- -1, 0, 1 of two integers. -/
def cmpZ (a b : Int) : Int := if a < b then -1 else if a = b then 0 else 1

theorem cmpZ_sub (a b : Int) : (a - b).sign = cmpZ a b := by
  unfold cmpZ
  rcases Int.lt_trichotomy a b with h | h | h
  · rw [if_pos h, Int.sign_eq_neg_one_of_neg (by omega)]
  · rw [if_neg (by omega), if_pos h, h, Int.sub_self]; rfl
  · rw [if_neg (by omega), if_neg (by omega), Int.sign_eq_one_of_pos (by omega)]

theorem sign_cases (z : Int) : z.sign = -1 ∧ z < 0 ∨ z.sign = 0 ∧ z = 0 ∨ z.sign = 1 ∧ 0 < z := by
  rcases Int.lt_trichotomy z 0 with h | h | h
  · exact Or.inl ⟨Int.sign_eq_neg_one_of_neg h, h⟩
  · exact Or.inr (Or.inl ⟨by rw [h]; rfl, h⟩)
  · exact Or.inr (Or.inr ⟨Int.sign_eq_one_of_pos h, h⟩)

theorem cmpZ_sign_lt {a b : Int} (h : a.sign < b.sign) : cmpZ a b = -1 := by
  have h1 := sign_cases a
  have h2 := sign_cases b
  unfold cmpZ; rw [if_pos (by omega)]

theorem cmpZ_sign_gt {a b : Int} (h : b.sign < a.sign) : cmpZ a b = 1 := by
  have h1 := sign_cases a
  have h2 := sign_cases b
  unfold cmpZ; rw [if_neg (by omega), if_neg (by omega)]

theorem cmpZ_of {a b : Int} {m n : Nat} (h1 : a < b ↔ m < n) (h2 : a = b ↔ m = n) : cmpZ a b = cmpN m n := by
  unfold cmpZ cmpN
  by_cases k1 : m < n
  · rw [if_pos (h1.2 k1), if_pos k1]
  · rw [if_neg (fun h => k1 (h1.1 h)), if_neg k1]
    by_cases k2 : m = n
    · rw [if_pos (h2.2 k2), if_pos k2]
    · rw [if_neg (fun h => k2 (h2.1 h)), if_neg k2]

theorem zv_below {b : Bool} {m : Nat} (h : zv b m < 0) : zv b m = -(m : Int) := by
  cases b
  · rw [zv_false] at h; omega
  · rfl
theorem zv_not_below {b : Bool} {m : Nat} (h : 0 ≤ zv b m) : zv b m = (m : Int) := by
  cases b
  · rfl
  · rw [zv_true] at h ⊢; omega

theorem cmpZ_both_neg {b c : Bool} {m n : Nat} (h1 : zv b m < 0) (h2 : zv c n < 0) : cmpZ (zv b m) (zv c n) = cmpN n m := by
  rw [zv_below h1, zv_below h2]
  exact cmpZ_of (by omega) (by omega)

theorem cmpZ_both_pos {b c : Bool} {m n : Nat} (h1 : 0 ≤ zv b m) (h2 : 0 ≤ zv c n) : cmpZ (zv b m) (zv c n) = cmpN m n := by
  rw [zv_not_below h1, zv_not_below h2]
  exact cmpZ_of (by omega) (by omega)

/-- The nearest integer, the even one of two; b above 0. -/
def nearP (a b : Int) : Int := if b < a % b + a % b ∨ b = a % b + a % b ∧ (a / b).natAbs % 2 = 1 then a / b + 1 else a / b
def nearZ (a b : Int) : Int := if b < 0 then nearP (-a) (-b) else nearP a b

end Go.Proofs.Ytlnilkghbbbhbaa
