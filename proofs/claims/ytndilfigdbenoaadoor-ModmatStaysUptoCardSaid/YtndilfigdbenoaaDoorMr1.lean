
/-
  The table is whole.
-/
import Derived.Test.YtndilfigdbenoaaDoorMR
set_option linter.unusedVariables false
set_option linter.unusedSimpArgs false
namespace Go.Proofs.YtndilfigdbenoaaDoor.MR
theorem mr1 : cmpB 65519 17 mrT0 = true := by decide +kernel
end Go.Proofs.YtndilfigdbenoaaDoor.MR
