/-
  Contracts and lemmas, joined in one text.
-/
import Derived.Test.YtnlnibngpeempaaGreatDoorLaw
import Derived.Test.YtnlnibngpeempaaGreatDoorChecked
import Derived.Test.YtnlnibngpeempaaGreatDoorTA
import Derived.WalkKit
import Derived.ProofKit
import Derived.OpenShut
import Derived.Deep.DeepHandedRow
import Derived.Lib.LaidTab
import Derived.Test.YtnlnibngpeempaaGreatDoorPrime
set_option linter.unusedVariables false
set_option linter.unusedSimpArgs false
/-
  Rows of tied cards: shared parts.
-/
namespace Go.Proofs.YtnlnibngpeempaaGreatDoor
open Go.ChangeShapes Go.WideShapes Go.ChangeAt Go.RowKit
theorem own_knob:ownKnob Tryz.prog.godebug = none:=by kernel_rfl
theorem tab_of {W:World} (h:∀ (k:Nat),k < 32 → W.cell? ⟨1,k,none⟩ = some (.int .u8 (([0,1,28,2,29,14,24,3,30,22,20,15,25,17,4,8,31,27,13,23,21,19,16,7,26,12,18,6,11,5,10,9]:List Int).getD k 0))):Tab W:=fun j v hj => by
  have hl:j < 32:=(List.getElem?_eq_some_iff.1 hj).1
  have hv:deb[j]'hl = v:=(List.getElem?_eq_some_iff.1 hj).2
  rw [h j hl, ← hv]
  have:∀ j,(hj:j < 32) → ([0,1,28,2,29,14,24,3,30,22,20,15,25,17,4,8,31,27,13,23,21,19,16,7,26,12,18,6,11,5,10,9]:List Int).getD j 0 = ((deb[j]'hj:Nat):Int):=by decide
  rw [this j hl]
open Go.RowKit
theorem bases_of {W:World} (h:∀ (k:Nat),k < 3 → W.cell? ⟨0,k,none⟩ = some (.int .u32 (([2,7,61]:List Int).getD k 0))):Bases W:=fun j v hj => by
  have hl:j < 3:=(List.getElem?_eq_some_iff.1 hj).1
  have hv:bsL[j]'hl = v:=(List.getElem?_eq_some_iff.1 hj).2
  rw [h j hl, ← hv]
  have:∀ j,(hj:j < 3) → ([2,7,61]:List Int).getD j 0 = ((bsL[j]'hj:Nat):Int):=by decide
  rw [this j hl]
theorem Ret.bool {w:World} {b:Bool} {F:FuncId} {args:Array Value} (h:Calls Tryz.prog F args w (Ret (Is (.bool b)) w)):Calls Tryz.prog F args w (RetB w b):=h.mono fun e w' hr => Ret.b e w' hr
end Go.Proofs.YtnlnibngpeempaaGreatDoor
