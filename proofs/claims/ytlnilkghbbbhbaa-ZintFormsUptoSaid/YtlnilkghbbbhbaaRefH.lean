
/-
  The walk of simileref01: Sqrt.
-/
import Derived.Test.YtlnilkghbbbhbaaRefG
import Derived.Test.YtlnilkghbbbhbaaNum7
namespace Go.Proofs.Ytlnilkghbbbhbaa
open Go.RowKit

theorem root_up {N S j : Nat} (h2 : N < (S + 2 ^ (j + 1)) * (S + 2 ^ (j + 1))) : N < (S + 2 ^ j + 2 ^ j) * (S + 2 ^ j + 2 ^ j) := by
  have e : S + 2 ^ j + 2 ^ j = S + 2 ^ (j + 1) := by rw [Nat.pow_succ]; omega
  rw [e]; exact h2

theorem root_start {N : Nat} : N < (0 + 2 ^ (blen N / 2 + 2)) * (0 + 2 ^ (blen N / 2 + 2)) := by
  rw [Nat.zero_add, ← Nat.pow_add]
  exact Nat.lt_of_lt_of_le (lt_blen N) (Nat.pow_le_pow_right (by omega) (by omega))

theorem sq_self {S N : Nat} (h : S * S ≤ N) : S ≤ N := by
  rcases Nat.eq_zero_or_pos S with h0 | h0
  · omega
  · exact Nat.le_trans (Nat.le_mul_of_pos_left S h0) h

/-- What the loop of Sqrt keeps. -/
def RRootAt (w : World) (N L j : Nat) (s : Value) (wr : World) : Prop :=
  ∃ p n c S, s = .slice p n c ∧ Fr w.heap.size wr p n c (lim S) ∧ Below w.heap.size w wr ∧ n ≤ L ∧ Hid (S * S ≤ N) ∧ Hid (N < (S + 2 ^ j) * (S + 2 ^ j))

end Go.Proofs.Ytlnilkghbbbhbaa
