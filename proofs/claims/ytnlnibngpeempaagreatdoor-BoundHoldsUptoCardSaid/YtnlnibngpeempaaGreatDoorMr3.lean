/-
  Contracts and lemmas, joined in one text.
-/
import Derived.Test.YtnlnibngpeempaaGreatDoorMR
set_option linter.unusedVariables false
set_option linter.unusedSimpArgs false
/-
  The search of the table.
-/
namespace Go.Proofs.YtnlnibngpeempaaGreatDoor.MR
theorem mr3w:mrW (tl (top 100) (fun _ => false)) 65505 mrD [] = true:=by decide +kernel
theorem mr3:tl (top 100) (fun _ => false) mrT0 = true:=(mrW_eq _ _ _ _).symm.trans mr3w
end Go.Proofs.YtnlnibngpeempaaGreatDoor.MR
