/-
  Contracts and lemmas, joined in one text.
-/
import Derived.Test.YthnilcgmljecdaaDoorRO
set_option linter.unusedVariables false
set_option linter.unusedSimpArgs false
/-
  rat's functions and the document's,as contracts.
-/
namespace Go.Proofs.YthnilcgmljecdaaDoor
open Go.RowKit
def cmpQ (x y u v:Int):Int:=((x * v - u * y) * (y * v)).sign
end Go.Proofs.YthnilcgmljecdaaDoor
