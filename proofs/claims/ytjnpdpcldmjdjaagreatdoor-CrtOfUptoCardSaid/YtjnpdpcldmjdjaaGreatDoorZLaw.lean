
/-
  An integer, as it came in.
-/
import Derived.Test.YtjnpdpcldmjdjaaGreatDoorLaw
import Derived.Lib.SmallJoins
set_option linter.unusedVariables false
set_option linter.unusedSimpArgs false
namespace Go.Proofs.YtjnpdpcldmjdjaaGreatDoor
open Go.ChangeShapes Go.WideShapes Go.ChangeAt Go.RowKit Go.Joins
end Go.Proofs.YtjnpdpcldmjdjaaGreatDoor
