/-
  Contracts and lemmas, joined in one text.
-/
import Derived.Test.YtndilfigdbenoaaDoorZG
import Derived.Test.YtndilfigdbenoaaDoorBC
import Derived.Test.YtndilfigdbenoaaDoorBF
set_option linter.unusedVariables false
set_option linter.unusedSimpArgs false
/-
  The walks of zint: Near by nothing, Pow.
-/
namespace Go.Proofs.YtndilfigdbenoaaDoor
open Go.RowKit
end Go.Proofs.YtndilfigdbenoaaDoor
/-
  The walks of simileref03: Gcd, Pow.
-/
namespace Go.Proofs.YtndilfigdbenoaaDoor
open Go.RowKit
end Go.Proofs.YtndilfigdbenoaaDoor
/-
  The walk of similelaw03.lives: the document's examples.
-/
namespace Go.Proofs.YtndilfigdbenoaaDoor
open Go.RowKit
end Go.Proofs.YtndilfigdbenoaaDoor
