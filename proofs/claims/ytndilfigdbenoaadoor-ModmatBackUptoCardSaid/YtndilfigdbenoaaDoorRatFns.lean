
/-
  rat's functions and the document's, as contracts.
-/
import Derived.Test.YtndilfigdbenoaaDoorRatOps
import Derived.Test.YtndilfigdbenoaaDoorZDiv
set_option linter.unusedVariables false
set_option linter.unusedSimpArgs false
namespace Go.Proofs.YtndilfigdbenoaaDoor
open Go.RowKit
def cmpQ (x y u v : Int) : Int := ((x * v - u * y) * (y * v)).sign
end Go.Proofs.YtndilfigdbenoaaDoor
