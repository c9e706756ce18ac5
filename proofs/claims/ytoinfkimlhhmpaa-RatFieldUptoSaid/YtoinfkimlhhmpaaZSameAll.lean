
/-
  The document's SameAll of two lists that read the same.
-/
import Derived.Test.YtoinfkimlhhmpaaZRaw
import Derived.Test.YtoinfkimlhhmpaaWA
set_option linter.unusedVariables false
set_option linter.unusedSimpArgs false
namespace Go.Proofs.Ytoinfkimlhhmpaa
open Go.RowKit

end Go.Proofs.Ytoinfkimlhhmpaa
