/-
  Contracts and lemmas, joined in one text.
-/
import Derived.Test.YtgemncfpehmdeaaDoorZG
import Derived.Test.YtgemncfpehmdeaaDoorBC
import Derived.Test.YtgemncfpehmdeaaDoorBF
set_option linter.unusedVariables false
set_option linter.unusedSimpArgs false

/-
  The walks of zint: Near by nothing, Pow.
-/
namespace Go.Proofs.YtgemncfpehmdeaaDoor
open Go.RowKit

theorem ng_nn (n : Nat) : ng ((n : Nat) : Int) = false := ng_nat n

theorem zv_pow_false (n k : Nat) : zv false (n ^ k) = zv false n ^ k := by rw [zv_false, zv_false, Int.natCast_pow]
theorem zv_pow_even {n k : Nat} (h : k % 2 = 0) : zv false (n ^ k) = zv true n ^ k := by
  obtain ⟨j, rfl⟩ : ∃ j, k = 2 * j := ⟨k / 2, by omega⟩
  rw [zv_false, zv_true, Int.natCast_pow, Int.pow_mul, Int.pow_mul]
  congr 1
  rw [Int.pow_succ, Int.pow_succ, Int.pow_zero, Int.pow_succ, Int.pow_succ, Int.pow_zero, Int.one_mul, Int.one_mul, Int.neg_mul_neg]
theorem zv_pow_odd {n k : Nat} (h : k % 2 = 1) : zv true (n ^ k) = zv true n ^ k := by
  obtain ⟨j, rfl⟩ : ∃ j, k = j + 1 := ⟨k - 1, by omega⟩
  have h1 := zv_pow_even (n := n) (k := j) (by omega)
  rw [Int.pow_succ, ← h1, zv_false, zv_true, zv_true, Nat.pow_succ, Int.natCast_mul, Int.mul_neg]

end Go.Proofs.YtgemncfpehmdeaaDoor

/-
  The walks of simileref03: Gcd, Pow.
-/
namespace Go.Proofs.YtgemncfpehmdeaaDoor
open Go.RowKit

end Go.Proofs.YtgemncfpehmdeaaDoor

/-
  The walk of similelaw03.lives: the document's examples.
-/
namespace Go.Proofs.YtgemncfpehmdeaaDoor
open Go.RowKit

theorem len_small {w : World} {B n c : Nat} {p : Option Addr} {z : Int} (h : Fr B w p n c (lim z.natAbs)) (hz : z.natAbs < 4294967296) : n ≤ 1 := z_len h (ll_le (k := 1) (by omega))

theorem near_five : nearZ (-5) 2 = -2 := by decide

end Go.Proofs.YtgemncfpehmdeaaDoor
