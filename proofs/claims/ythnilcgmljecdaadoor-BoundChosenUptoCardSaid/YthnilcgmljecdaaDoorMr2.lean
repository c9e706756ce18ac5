/-
  Contracts and lemmas, joined in one text.
-/
import Derived.Test.YthnilcgmljecdaaDoorMR
set_option linter.unusedVariables false
set_option linter.unusedSimpArgs false
/-
  The table is right.
-/
namespace Go.Proofs.YthnilcgmljecdaaDoor.MR
theorem mr2:okAll mrT0 = true:=by decide +kernel
end Go.Proofs.YthnilcgmljecdaaDoor.MR
