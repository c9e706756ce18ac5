
/-
  The walk of zint: Euclid.
-/
import Derived.Test.YtgemncfpehmdeaaDoorBD
import Derived.Deep.DeepCutAuto
import Derived.Outline
set_option linter.unusedVariables false
set_option linter.unusedSimpArgs false
namespace Go.Proofs.YtgemncfpehmdeaaDoor
open Go.RowKit

end Go.Proofs.YtgemncfpehmdeaaDoor
