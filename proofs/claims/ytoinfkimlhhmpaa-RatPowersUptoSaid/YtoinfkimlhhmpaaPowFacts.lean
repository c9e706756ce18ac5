
/-
  Plain facts on the laws on powers: what a product of lengths and exponents comes to.
-/
import Derived.Test.YtoinfkimlhhmpaaBA
import Derived.WalkKit
set_option linter.unusedVariables false
set_option linter.unusedSimpArgs false
namespace Go.Proofs.Ytoinfkimlhhmpaa
open Go.RowKit

theorem wrap_mul {B k : Nat} (hB : B ≤ 33554432) (hk : k ≤ 67108864) : IntKind.i64.wrap ((B : Int) * (k : Int)) = (B : Int) * (k : Int) := by
  have b1 : B * k ≤ 33554432 * 67108864 := Nat.mul_le_mul hB hk
  rw [← Int.natCast_mul]
  generalize B * k = X at *
  exact IntWalk.i64_in _ (by omega)
theorem sub_mul_cast {B k : Nat} (h1 : 1 < B) : ((B : Int) - 1) * (k : Int) = (((B - 1) * k : Nat) : Int) := by
  rw [Int.natCast_mul]; congr 1; omega
theorem wrap_mul1 {B k : Nat} (h1 : 1 < B) (hB : B ≤ 33554432) (hk : k ≤ 67108864) : IntKind.i64.wrap (((B : Int) - 1) * (k : Int)) = ((B : Int) - 1) * (k : Int) := by
  have b1 : (B - 1) * k ≤ 33554432 * 67108864 := Nat.mul_le_mul (by omega) hk
  rw [sub_mul_cast h1]
  generalize (B - 1) * k = X at *
  exact IntWalk.i64_in _ (by omega)
theorem dec_mul1 {B k : Nat} (h : 40000 < B * k) : decide ((40000 : Int) < (B : Int) * (k : Int)) = true := by
  rw [← Int.natCast_mul]; simp; omega
theorem dec_mul0 {B k : Nat} (h : B * k ≤ 40000) : decide ((40000 : Int) < (B : Int) * (k : Int)) = false := by
  rw [← Int.natCast_mul]; simp; omega
theorem dec_mulM1 {B k : Nat} (h1 : 1 < B) (h : (B - 1) * k < 67108864) : decide (((B : Int) - 1) * (k : Int) < 67108864) = true := by
  rw [sub_mul_cast h1]; simp; omega
theorem dec_mulM0 {B k : Nat} (h1 : 1 < B) (h : 67108864 ≤ (B - 1) * k) : decide (((B : Int) - 1) * (k : Int) < 67108864) = false := by
  rw [sub_mul_cast h1]; simp; omega

end Go.Proofs.Ytoinfkimlhhmpaa
