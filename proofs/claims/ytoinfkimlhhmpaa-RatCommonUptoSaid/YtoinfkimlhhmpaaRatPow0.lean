
/-
  Powers of integers as contracts; the law's 'long'.
-/
import Derived.Test.YtoinfkimlhhmpaaRatNeg
import Derived.Test.YtoinfkimlhhmpaaZPowers
import Derived.Test.YtoinfkimlhhmpaaPowFacts
set_option linter.unusedVariables false
set_option linter.unusedSimpArgs false
namespace Go.Proofs.Ytoinfkimlhhmpaa
open Go.RowKit

/-- A power that is told; one that is too long; what the law leaves out. -/
def PowOk (x : Int) (k : Nat) : Prop := blen x.natAbs ≤ 1 ∨ k = 0 ∨ blen x.natAbs * k ≤ 40000
def PowBig (x : Int) (k : Nat) : Prop := 1 < blen x.natAbs ∧ 0 < k ∧ (67108864 < k ∨ 67108864 ≤ (blen x.natAbs - 1) * k)
def Lg (B K : Nat) : Prop := 1 < B ∧ K < 67108864 ∧ 40000 < B * K ∧ (B - 1) * K < 67108864
theorem zv_abs (b : Bool) (n : Nat) : (zv b n).natAbs = n := by unfold zv; cases b <;> simp
theorem wrlen {p : Option Addr} {n c : Nat} {z : Int} {w : World} (h : Sl w p n c (lim z.natAbs)) (hk : Wd z 67108864) :
    Calls Try.prog 39 #[.slice p n c] w (Ret (Is (.int .i64 ((blen z.natAbs : Nat) : Int))) w) := by
  have hn : n ≤ 67108864 := by rw [h.lln]; exact hk
  have := rlen_any h (by omega)
  rw [val_lim] at this
  exact this.mono RetInt.u
end Go.Proofs.Ytoinfkimlhhmpaa
