/-
  Contracts and lemmas, joined in one text.
-/
import Derived.Test.YtcfcdbeemhjhgaaDoorMR
set_option linter.unusedVariables false
set_option linter.unusedSimpArgs false
/-
  The table is whole.
-/
namespace Go.Proofs.YtcfcdbeemhjhgaaDoor.MR
theorem mr1:cmpB 65519 17 mrT0 = true:=by decide +kernel
end Go.Proofs.YtcfcdbeemhjhgaaDoor.MR
