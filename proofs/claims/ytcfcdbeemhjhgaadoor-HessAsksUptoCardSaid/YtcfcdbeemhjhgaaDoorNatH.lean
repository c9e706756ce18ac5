
/-
  The walk of nat.long.
-/
import Derived.Test.YtcfcdbeemhjhgaaDoorBB
import Derived.Test.YtcfcdbeemhjhgaaDoorBA
import Derived.BigGuardPart
set_option linter.unusedVariables false
set_option linter.unusedSimpArgs false
set_option maxRecDepth 100000
set_option maxHeartbeats 16000000
namespace Go.Proofs.YtcfcdbeemhjhgaaDoor
open Go.RowKit
def LongIn (w:World) (gu gv go n m cu cv:Nat) (us2 vs zs:List Nat) (j q i b c:Nat) (wx:World):Prop :=
 ∃ us,Fr w.heap.size wx (some ⟨gu,0,none⟩) (n + m + 1) cu us ∧ Fr w.heap.size wx (some ⟨gv,0,none⟩) n cv vs ∧ Fr w.heap.size wx (some ⟨go,0,none⟩) (m + 1) (m + 1) zs ∧ Below w.heap.size w wx ∧
  Hid (sm (fun k => nd us (j + k)) i + q * sm (nd vs) i = sm (fun k => nd us2 (j + k)) i + 4294967296 ^ i * (c + b) ∧ ∀ x,(x < j ∨ j + i ≤ x) → nd us x = nd us2 x)
def RetTwo (w:World) (Q R:Nat) (e:Ending) (w':World):Prop :=
  ∃ p n c q m d,e = .returned (.tuple #[.slice p n c,.slice q m d]) ∧ Fr w.heap.size w' p n c (lim Q) ∧ Fr w.heap.size w' q m d (lim R) ∧ Below w.heap.size w w'
def LongBack (w:World) (gu gv go n m cu cv:Nat) (us3 vs zs:List Nat) (j i c:Nat) (wx:World):Prop :=
 ∃ us,Fr w.heap.size wx (some ⟨gu,0,none⟩) (n + m + 1) cu us ∧ Fr w.heap.size wx (some ⟨gv,0,none⟩) n cv vs ∧ Fr w.heap.size wx (some ⟨go,0,none⟩) (m + 1) (m + 1) zs ∧ Below w.heap.size w wx ∧
  Hid (sm (fun k => nd us (j + k)) i + 4294967296 ^ i * c = sm (fun k => nd us3 (j + k)) i + sm (nd vs) i ∧ ∀ x,(x < j ∨ j + i ≤ x) → nd us x = nd us3 x)
def LongAt (w:World) (gu gv go n m cu cv V T:Nat) (vs:List Nat) (k:Nat) (wr:World):Prop :=
 ∃ us zs,Fr w.heap.size wr (some ⟨gu,0,none⟩) (n + m + 1) cu us ∧ Fr w.heap.size wr (some ⟨gv,0,none⟩) n cv vs ∧ Fr w.heap.size wr (some ⟨go,0,none⟩) (m + 1) (m + 1) zs ∧ Below w.heap.size w wr ∧
  Hid (val us + V * 4294967296 ^ k * val (zs.drop k) = T ∧ val us < V * 4294967296 ^ k)
end Go.Proofs.YtcfcdbeemhjhgaaDoor
