
/-
  The lowest bit that is 1; math/bits' TrailingZeros32 over its table.
-/
import Derived.Test.YtgemncfpehmdeaaDoorBA
set_option linter.unusedVariables false
set_option linter.unusedSimpArgs false
namespace Go.Proofs.YtgemncfpehmdeaaDoor

theorem odd_bit (m j : Nat) : (2 * m + 1).testBit j = (match j with | 0 => true | j + 1 => m.testBit j) := by
  cases j with
  | zero => simp
  | succ j =>
    rw [Nat.testBit_succ]
    congr 1
    omega
theorem low_bit {x n k m : Nat} (hx : x = 2 ^ k * (2 * m + 1)) (hn : x < 2 ^ n) : x &&& (2 ^ n - x) = 2 ^ k := by
  have hkn : k < n := by
    rcases Nat.lt_or_ge k n with h | h
    · exact h
    · exfalso
      have h1 : 2 ^ n ≤ 2 ^ k := Nat.pow_le_pow_right (by omega) h
      have h2 : 2 ^ k ≤ 2 ^ k * (2 * m + 1) := Nat.le_mul_of_pos_right _ (by omega)
      omega
  obtain ⟨d, rfl⟩ : ∃ d, n = k + (d + 1) := ⟨n - k - 1, by omega⟩
  have hm : m < 2 ^ d := by
    rw [hx, Nat.pow_add] at hn
    have := Nat.lt_of_mul_lt_mul_left hn
    rw [Nat.pow_succ] at this
    omega
  have e : 2 ^ (k + (d + 1)) - x = 2 ^ k * (2 * (2 ^ d - (m + 1)) + 1) := by
    rw [hx, Nat.pow_add, ← Nat.mul_sub, Nat.pow_succ]
    congr 1
    omega
  rw [e, hx]
  apply Nat.eq_of_testBit_eq
  intro i
  rw [Nat.testBit_and, Nat.testBit_two_pow_mul, Nat.testBit_two_pow_mul, Nat.testBit_two_pow]
  by_cases hi : k ≤ i
  · obtain ⟨j, rfl⟩ : ∃ j, i = k + j := ⟨i - k, by omega⟩
    rw [Nat.add_sub_cancel_left, odd_bit, odd_bit]
    cases j with
    | zero => simp
    | succ j =>
      simp only [Nat.testBit_two_pow_sub_succ hm]
      have : ¬ k = k + (j + 1) := by omega
      cases h : m.testBit j <;> simp [h, this]
  · have : ¬ k = i := by omega
    simp [hi, this]
theorem odd_part : ∀ (x : Nat), 0 < x → ∃ k m, x = 2 ^ k * (2 * m + 1) := by
  intro x
  induction x using Nat.strongRecOn with
  | _ x ih =>
    intro h
    rcases Nat.mod_two_eq_zero_or_one x with h2 | h2
    · obtain ⟨k, m, e⟩ := ih (x / 2) (by omega) (by omega)
      refine ⟨k + 1, m, ?_⟩
      rw [Nat.pow_succ, Nat.mul_right_comm, ← e]; omega
    · exact ⟨0, x / 2, by rw [Nat.pow_zero, Nat.one_mul]; omega⟩
def deb : List Nat := [0, 1, 28, 2, 29, 14, 24, 3, 30, 22, 20, 15, 25, 17, 4, 8, 31, 27, 13, 23, 21, 19, 16, 7, 26, 12, 18, 6, 11, 5, 10, 9]
theorem deb_at : ∀ k, k < 32 → deb[(2 ^ k * 125613361) % 4294967296 / 2 ^ 27]? = some k := by decide
end Go.Proofs.YtgemncfpehmdeaaDoor
