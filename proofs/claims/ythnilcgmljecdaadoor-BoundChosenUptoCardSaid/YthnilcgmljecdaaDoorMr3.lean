/-
  Contracts and lemmas, joined in one text.
-/
import Derived.Test.YthnilcgmljecdaaDoorMR
set_option linter.unusedVariables false
set_option linter.unusedSimpArgs false
/-
  The search of the table.
-/
namespace Go.Proofs.YthnilcgmljecdaaDoor.MR
theorem mr3:tl (top 100) (fun _ => false) mrT0 = true:=by decide +kernel
end Go.Proofs.YthnilcgmljecdaaDoor.MR
