/-
  Contracts and lemmas, joined in one text.
-/
import Derived.Test.YtnlnibngpeempaaGreatDoorMR
set_option linter.unusedVariables false
set_option linter.unusedSimpArgs false
/-
  The table is right.
-/
namespace Go.Proofs.YtnlnibngpeempaaGreatDoor.MR
theorem mr2w:mrW (okAll) 65505 mrD [] = true:=by decide +kernel
theorem mr2:okAll mrT0 = true:=(mrW_eq _ _ _ _).symm.trans mr2w
end Go.Proofs.YtnlnibngpeempaaGreatDoor.MR
