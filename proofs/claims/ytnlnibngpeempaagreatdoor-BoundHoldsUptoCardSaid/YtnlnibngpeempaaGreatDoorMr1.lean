/-
  Contracts and lemmas, joined in one text.
-/
import Derived.Test.YtnlnibngpeempaaGreatDoorMR
set_option linter.unusedVariables false
set_option linter.unusedSimpArgs false
/-
  The table is whole.
-/
namespace Go.Proofs.YtnlnibngpeempaaGreatDoor.MR
theorem mr1w:mrW (cmpB 65519 17) 65505 mrD [] = true:=by decide +kernel
theorem mr1:cmpB 65519 17 mrT0 = true:=(mrW_eq _ _ _ _).symm.trans mr1w
end Go.Proofs.YtnlnibngpeempaaGreatDoor.MR
