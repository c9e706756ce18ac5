
/-
  The walks of simileref03.Euclid, Near, Mod and of zint.Mod.
-/
import Derived.Test.YtndilfigdbenoaaDoorWA
set_option linter.unusedVariables false
set_option linter.unusedSimpArgs false
namespace Go.Proofs.YtndilfigdbenoaaDoor
open Go.RowKit
end Go.Proofs.YtndilfigdbenoaaDoor
