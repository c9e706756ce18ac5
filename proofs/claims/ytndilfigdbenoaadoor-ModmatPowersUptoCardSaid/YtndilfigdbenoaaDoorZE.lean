
/-
  The walk of zint: Euclid.
-/
import Derived.Test.YtndilfigdbenoaaDoorBD
import Derived.Deep.DeepCutAuto
import Derived.Outline
set_option linter.unusedVariables false
set_option linter.unusedSimpArgs false
namespace Go.Proofs.YtndilfigdbenoaaDoor
open Go.RowKit
end Go.Proofs.YtndilfigdbenoaaDoor
