
/-
  Powers of integers as contracts; the law's 'long'.
-/
import Derived.Test.YtoinfkimlhhmpaaRatNeg
import Derived.Test.YtoinfkimlhhmpaaZPowers
import Derived.Test.YtoinfkimlhhmpaaPowFacts
set_option linter.unusedVariables false
set_option linter.unusedSimpArgs false
namespace Go.Proofs.Ytoinfkimlhhmpaa
open Go.RowKit

/-- A power that is told; one that is too long; what the law leaves out. -/
def PowOk (x : Int) (k : Nat) : Prop := blen x.natAbs ≤ 1 ∨ k = 0 ∨ blen x.natAbs * k ≤ 40000
def PowBig (x : Int) (k : Nat) : Prop := 1 < blen x.natAbs ∧ 0 < k ∧ (67108864 < k ∨ 67108864 ≤ (blen x.natAbs - 1) * k)
def Lg (B K : Nat) : Prop := 1 < B ∧ K < 67108864 ∧ 40000 < B * K ∧ (B - 1) * K < 67108864
theorem blen_wd {z : Int} {k : Nat} (h : Wd z k) : blen z.natAbs ≤ 32 * k := by
  refine blen_le ?_
  have h1 := lt_ll z.natAbs
  have h2 : (4294967296 : Nat) ^ ll z.natAbs = 2 ^ (32 * ll z.natAbs) := by rw [show (4294967296 : Nat) = 2 ^ 32 by decide, ← Nat.pow_mul]
  have h3 : 2 ^ (32 * ll z.natAbs) ≤ 2 ^ (32 * k) := Nat.pow_le_pow_right (by omega) (Nat.mul_le_mul_left _ h)
  omega
end Go.Proofs.Ytoinfkimlhhmpaa
