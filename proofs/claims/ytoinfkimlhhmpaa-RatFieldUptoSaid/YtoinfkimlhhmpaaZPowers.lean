
/-
  The walk of similelaw03.ZintPowers.
-/
import Derived.Test.YtoinfkimlhhmpaaBG
import Derived.Test.YtoinfkimlhhmpaaPowFacts
set_option linter.unusedVariables false
set_option linter.unusedSimpArgs false
namespace Go.Proofs.Ytoinfkimlhhmpaa
open Go.RowKit

end Go.Proofs.Ytoinfkimlhhmpaa
