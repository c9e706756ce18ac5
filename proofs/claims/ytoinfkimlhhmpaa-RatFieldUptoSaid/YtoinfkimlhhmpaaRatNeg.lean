
/-
  rat's Neg; the document's Copy.
-/
import Derived.Test.YtoinfkimlhhmpaaRatLaws0
set_option linter.unusedVariables false
set_option linter.unusedSimpArgs false
namespace Go.Proofs.Ytoinfkimlhhmpaa
open Go.RowKit

/-- A fraction whose denominator was there before. -/
def RNgt (z : Int) (b : Bool) (q : Option Addr) (m d : Nat) : Tell := fun v r => ∃ p n c, v = .tuple #[.agg #[.bool (ng z), .slice p n c, .bool b, .slice q m d], .int .i64 0] ∧ r = [.rowm p n c (lim z.natAbs)]
/-- A fraction as it is, in new memory. -/
def Rct (b1 : Bool) (n : Nat) (xs : List Nat) (b2 : Bool) (m : Nat) (ys : List Nat) : Tell := fun v r => ∃ p c q d, v = .agg #[.bool b1, .slice p n c, .bool b2, .slice q m d] ∧ r = [.rowm p n c xs, .rowm q m d ys]

end Go.Proofs.Ytoinfkimlhhmpaa
