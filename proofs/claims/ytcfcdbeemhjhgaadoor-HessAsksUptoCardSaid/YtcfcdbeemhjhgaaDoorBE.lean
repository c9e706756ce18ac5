/-
  Contracts and lemmas, joined in one text.
-/
import Derived.Test.YtcfcdbeemhjhgaaDoorBD
import Derived.Laws.BitsAllLaws
import Derived.Laws.EntriesVeiled
import Derived.Test.YtcfcdbeemhjhgaaDoorZE
set_option linter.unusedVariables false
set_option linter.unusedSimpArgs false
/-
  The walks of nat.Bit at 0,zint's row.up,row.down,signs.
-/
namespace Go.Proofs.YtcfcdbeemhjhgaaDoor
open Go.RowKit
open Go.RowKit
def Eu1 (w w1:World) (b2:Bool) (q:Option Addr) (m d:Nat) (Q R:Int) (p4:Option Addr) (n4 c4:Nat) (p7:Option Addr) (n7 c7:Nat) (wc:World):Prop :=
 wc.cell? ⟨w.heap.size + 1,0,none⟩ = some (.bool b2) ∧ wc.cell? ⟨w.heap.size + 1,1,none⟩ = some (.slice q m d) ∧ wc.cell? ⟨w1.heap.size,0,none⟩ = some (.bool (ng Q)) ∧ wc.cell? ⟨w1.heap.size,1,none⟩ = some (.slice p4 n4 c4) ∧
  wc.cell? ⟨w1.heap.size + 1,0,none⟩ = some (.bool (ng R)) ∧ wc.cell? ⟨w1.heap.size + 1,1,none⟩ = some (.slice p7 n7 c7) ∧ Cel (w.heap.size + 2) wc ∧ Cel (w.heap.size + 3) wc ∧ Cel w1.heap.size wc ∧ Cel (w1.heap.size + 1) wc ∧
  (∃ B4,Fr B4 wc p4 n4 c4 (lim Q.natAbs) ∧ w.heap.size + 3 < B4) ∧ (∃ B7,Fr B7 wc p7 n7 c7 (lim R.natAbs) ∧ w1.heap.size + 1 < B7) ∧ Box w (w1.heap.size + 1) wc
def Eu2 (w w1:World) (b2:Bool) (q:Option Addr) (m d:Nat) (Q R:Int) (wc:World):Prop := ∃ p4 n4 c4 p7 n7 c7,Eu1 w w1 b2 q m d Q R p4 n4 c4 p7 n7 c7 wc
end Go.Proofs.YtcfcdbeemhjhgaaDoor
