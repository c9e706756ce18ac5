/-
  Contracts and lemmas, joined in one text.
-/
import Derived.Test.YthnilcgmljecdaaDoorZG
import Derived.Test.YthnilcgmljecdaaDoorBC
import Derived.Test.YthnilcgmljecdaaDoorBF
set_option linter.unusedVariables false
set_option linter.unusedSimpArgs false
/-
  The walks of zint: Near by nothing,Pow.
-/
namespace Go.Proofs.YthnilcgmljecdaaDoor
open Go.RowKit
end Go.Proofs.YthnilcgmljecdaaDoor
/-
  The walks of simileref03: Gcd,Pow.
-/
namespace Go.Proofs.YthnilcgmljecdaaDoor
open Go.RowKit
end Go.Proofs.YthnilcgmljecdaaDoor
/-
  The walk of similelaw03.lives: the document's examples.
-/
namespace Go.Proofs.YthnilcgmljecdaaDoor
open Go.RowKit
end Go.Proofs.YthnilcgmljecdaaDoor
