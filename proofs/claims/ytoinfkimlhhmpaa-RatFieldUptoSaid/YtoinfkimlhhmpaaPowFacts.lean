
/-
  Plain facts on the laws on powers: what a product of lengths and exponents comes to.
-/
import Derived.Test.YtoinfkimlhhmpaaBA
import Derived.WalkKit
set_option linter.unusedVariables false
set_option linter.unusedSimpArgs false
namespace Go.Proofs.Ytoinfkimlhhmpaa
open Go.RowKit

end Go.Proofs.Ytoinfkimlhhmpaa
