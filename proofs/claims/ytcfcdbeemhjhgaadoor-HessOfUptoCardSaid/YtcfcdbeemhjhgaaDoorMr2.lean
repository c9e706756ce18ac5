/-
  Contracts and lemmas, joined in one text.
-/
import Derived.Test.YtcfcdbeemhjhgaaDoorMR
set_option linter.unusedVariables false
set_option linter.unusedSimpArgs false
/-
  The table is right.
-/
namespace Go.Proofs.YtcfcdbeemhjhgaaDoor.MR
theorem mr2:okAll mrT0 = true:=by decide +kernel
end Go.Proofs.YtcfcdbeemhjhgaaDoor.MR
