/-
  Contracts and lemmas, joined in one text.
-/
import Derived.Test.YtcfcdbeemhjhgaaDoorRO
set_option linter.unusedVariables false
set_option linter.unusedSimpArgs false
/-
  rat's functions and the document's,as contracts.
-/
set_option maxRecDepth 100000
set_option maxHeartbeats 16000000
namespace Go.Proofs.YtcfcdbeemhjhgaaDoor
open Go.RowKit
def cmpQ (x y u v:Int):Int:=((x * v - u * y) * (y * v)).sign
end Go.Proofs.YtcfcdbeemhjhgaaDoor
