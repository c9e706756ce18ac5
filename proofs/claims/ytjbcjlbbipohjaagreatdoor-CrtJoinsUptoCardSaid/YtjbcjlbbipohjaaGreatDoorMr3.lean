
/-
  The search of the table.
-/
import Derived.Test.YtjbcjlbbipohjaaGreatDoorMrT
set_option linter.unusedVariables false
set_option linter.unusedSimpArgs false
namespace Go.Proofs.YtjbcjlbbipohjaaGreatDoor.MR
theorem mr3:tl (top 100) (fun _ => false) mrT0 = true:=by decide +kernel
end Go.Proofs.YtjbcjlbbipohjaaGreatDoor.MR
