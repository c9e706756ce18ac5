
/-
  The walks of simileref03.Euclid, Near, Mod and of zint.Mod.
-/
import Derived.Test.YtoinfkimlhhmpaaWA
set_option linter.unusedVariables false
set_option linter.unusedSimpArgs false
namespace Go.Proofs.Ytoinfkimlhhmpaa
open Go.RowKit

end Go.Proofs.Ytoinfkimlhhmpaa
