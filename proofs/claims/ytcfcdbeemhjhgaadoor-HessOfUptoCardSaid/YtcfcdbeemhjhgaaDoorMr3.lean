/-
  Contracts and lemmas, joined in one text.
-/
import Derived.Test.YtcfcdbeemhjhgaaDoorMR
set_option linter.unusedVariables false
set_option linter.unusedSimpArgs false
/-
  The search of the table.
-/
namespace Go.Proofs.YtcfcdbeemhjhgaaDoor.MR
theorem mr3:tl (top 100) (fun _ => false) mrT0 = true:=by decide +kernel
end Go.Proofs.YtcfcdbeemhjhgaaDoor.MR
