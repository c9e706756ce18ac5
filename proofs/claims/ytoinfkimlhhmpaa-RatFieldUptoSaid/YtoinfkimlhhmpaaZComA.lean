
/-
  The document's GcdAll, Sum and Product of a list.
-/
import Derived.Test.YtoinfkimlhhmpaaZFold2
set_option linter.unusedVariables false
set_option linter.unusedSimpArgs false
namespace Go.Proofs.Ytoinfkimlhhmpaa
open Go.RowKit

end Go.Proofs.Ytoinfkimlhhmpaa
