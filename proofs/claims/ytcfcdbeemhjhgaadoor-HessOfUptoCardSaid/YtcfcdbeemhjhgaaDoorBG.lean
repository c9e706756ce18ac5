/-
  Contracts and lemmas, joined in one text.
-/
import Derived.Test.YtcfcdbeemhjhgaaDoorZG
import Derived.Test.YtcfcdbeemhjhgaaDoorBC
import Derived.Test.YtcfcdbeemhjhgaaDoorBF
set_option linter.unusedVariables false
set_option linter.unusedSimpArgs false
/-
  The walks of zint: Near by nothing,Pow.
-/
namespace Go.Proofs.YtcfcdbeemhjhgaaDoor
open Go.RowKit
end Go.Proofs.YtcfcdbeemhjhgaaDoor
/-
  The walks of simileref03: Gcd,Pow.
-/
namespace Go.Proofs.YtcfcdbeemhjhgaaDoor
open Go.RowKit
end Go.Proofs.YtcfcdbeemhjhgaaDoor
/-
  The walk of similelaw03.lives: the document's examples.
-/
namespace Go.Proofs.YtcfcdbeemhjhgaaDoor
open Go.RowKit
end Go.Proofs.YtcfcdbeemhjhgaaDoor
