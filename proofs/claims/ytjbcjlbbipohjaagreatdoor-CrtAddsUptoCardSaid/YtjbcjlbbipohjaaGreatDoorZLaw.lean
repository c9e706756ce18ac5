
/-
  An integer, as it came in.
-/
import Derived.Test.YtjbcjlbbipohjaaGreatDoorLaw
import Derived.Lib.SmallJoins
set_option linter.unusedVariables false
set_option linter.unusedSimpArgs false
namespace Go.Proofs.YtjbcjlbbipohjaaGreatDoor
open Go.ChangeShapes Go.WideShapes Go.ChangeAt Go.RowKit Go.Joins
end Go.Proofs.YtjbcjlbbipohjaaGreatDoor
