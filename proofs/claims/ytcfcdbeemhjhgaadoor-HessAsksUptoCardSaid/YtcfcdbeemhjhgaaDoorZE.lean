
/-
  The walk of zint: Euclid.
-/
import Derived.Test.YtcfcdbeemhjhgaaDoorBD
import Derived.Deep.DeepCutAuto
import Derived.Outline
set_option linter.unusedVariables false
set_option linter.unusedSimpArgs false
namespace Go.Proofs.YtcfcdbeemhjhgaaDoor
open Go.RowKit
end Go.Proofs.YtcfcdbeemhjhgaaDoor
