
/-
  Rows of tied cards: shared parts.
-/
import Derived.Test.YtgemncfpehmdeaaDoorLaw
import Derived.Test.YtgemncfpehmdeaaDoorChecked
import Derived.Test.YtgemncfpehmdeaaDoorTz2
import Derived.WalkKit
import Derived.ProofKit
import Derived.OpenShut
import Derived.Deep.DeepHandedRow
import Derived.Lib.LaidTab
set_option linter.unusedVariables false
set_option linter.unusedSimpArgs false
namespace Go.Proofs.YtgemncfpehmdeaaDoor
open Go.ChangeShapes Go.WideShapes Go.ChangeAt Go.RowKit

theorem own_knob : ownKnob Tryd.prog.godebug = none := by kernel_rfl
theorem tab_of {W : World} (h : ∀ (k : Nat), k < 32 → W.cell? ⟨0, k, none⟩ = some (.int .u8 (([0, 1, 28, 2, 29, 14, 24, 3, 30, 22, 20, 15, 25, 17, 4, 8, 31, 27, 13, 23, 21, 19, 16, 7, 26, 12, 18, 6, 11, 5, 10, 9] : List Int).getD k 0))) : Tab W := fun j v hj => by
  have hl : j < 32 := (List.getElem?_eq_some_iff.1 hj).1
  have hv : deb[j]'hl = v := (List.getElem?_eq_some_iff.1 hj).2
  rw [h j hl, ← hv]
  have : ∀ j, (hj : j < 32) → ([0, 1, 28, 2, 29, 14, 24, 3, 30, 22, 20, 15, 25, 17, 4, 8, 31, 27, 13, 23, 21, 19, 16, 7, 26, 12, 18, 6, 11, 5, 10, 9] : List Int).getD j 0 = ((deb[j]'hj : Nat) : Int) := by decide
  rw [this j hl]
end Go.Proofs.YtgemncfpehmdeaaDoor
