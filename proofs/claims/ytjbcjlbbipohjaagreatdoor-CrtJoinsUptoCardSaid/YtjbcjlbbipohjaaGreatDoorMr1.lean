
/-
  The table is whole.
-/
import Derived.Test.YtjbcjlbbipohjaaGreatDoorMrT
set_option linter.unusedVariables false
set_option linter.unusedSimpArgs false
namespace Go.Proofs.YtjbcjlbbipohjaaGreatDoor.MR
theorem mr1:cmpB 65519 17 mrT0 = true:=by decide +kernel
end Go.Proofs.YtjbcjlbbipohjaaGreatDoor.MR
