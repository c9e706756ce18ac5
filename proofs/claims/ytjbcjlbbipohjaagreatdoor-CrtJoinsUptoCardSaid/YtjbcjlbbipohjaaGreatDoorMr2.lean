
/-
  The table is right.
-/
import Derived.Test.YtjbcjlbbipohjaaGreatDoorMrT
set_option linter.unusedVariables false
set_option linter.unusedSimpArgs false
namespace Go.Proofs.YtjbcjlbbipohjaaGreatDoor.MR
theorem mr2:okAll mrT0 = true:=by decide +kernel
end Go.Proofs.YtjbcjlbbipohjaaGreatDoor.MR
