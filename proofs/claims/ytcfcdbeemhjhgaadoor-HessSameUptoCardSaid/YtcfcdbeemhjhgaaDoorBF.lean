/-
  Contracts and lemmas, joined in one text.
-/
import Derived.Test.YtcfcdbeemhjhgaaDoorBD
import Derived.Test.YtcfcdbeemhjhgaaDoorBB
import Derived.Deep.DeepCutAuto
import Derived.Outline
set_option linter.unusedVariables false
set_option linter.unusedSimpArgs false
/-
  The walks of simileref03: Norm,Abs,Neg,Sign,Mul,Same,Of.
-/
namespace Go.Proofs.YtcfcdbeemhjhgaaDoor
open Go.RowKit
def RetCopy (w:World) (b:Bool) (n:Nat) (xs:List Nat) (e:Ending) (w':World):Prop :=
  ∃ p c,e = .returned (.agg #[.bool b,.slice p n c]) ∧ Fr w.heap.size w' p n c xs ∧ Below w.heap.size w w'
end Go.Proofs.YtcfcdbeemhjhgaaDoor
/-
  The walks of simileref03: Add,Sub,Cmp.
-/
namespace Go.Proofs.YtcfcdbeemhjhgaaDoor
open Go.RowKit
def BoxAB1 (w:World) (A B:Int) (wc:World):Prop :=
 ∃ p n c q m d B1,wc.cell? ⟨w.heap.size,0,none⟩ = some (.bool (ng A)) ∧ wc.cell? ⟨w.heap.size,1,none⟩ = some (.slice p n c) ∧ wc.cell? ⟨w.heap.size + 1,0,none⟩ = some (.bool (ng B)) ∧ wc.cell? ⟨w.heap.size + 1,1,none⟩ = some (.slice q m d) ∧
  Cel w.heap.size wc ∧ Cel (w.heap.size + 1) wc ∧ Cel (w.heap.size + 2) wc ∧ Fr B1 wc p n c (lim A.natAbs) ∧ Fr B1 wc q m d (lim B.natAbs) ∧ w.heap.size + 2 < B1 ∧ Box w (w.heap.size + 2) wc
def BoxAB2 (w:World) (A B:Int) (wc:World):Prop :=
 ∃ p n c q m d B1,wc.cell? ⟨w.heap.size,0,none⟩ = some (.bool (ng A)) ∧ wc.cell? ⟨w.heap.size,1,none⟩ = some (.slice p n c) ∧ wc.cell? ⟨w.heap.size + 1,0,none⟩ = some (.bool (ng B)) ∧ wc.cell? ⟨w.heap.size + 1,1,none⟩ = some (.slice q m d) ∧
  Cel w.heap.size wc ∧ Cel (w.heap.size + 1) wc ∧ Cel (w.heap.size + 2) wc ∧ Cel (w.heap.size + 3) wc ∧ Fr B1 wc p n c (lim A.natAbs) ∧ Fr B1 wc q m d (lim B.natAbs) ∧ w.heap.size + 3 < B1 ∧ Box w (w.heap.size + 3) wc
end Go.Proofs.YtcfcdbeemhjhgaaDoor
/-
  The walks of simileref03: Sub,Cmp; and of the law's own of and same.
-/
namespace Go.Proofs.YtcfcdbeemhjhgaaDoor
open Go.RowKit
end Go.Proofs.YtcfcdbeemhjhgaaDoor
/-
  The walks of simileref03: Trunc,Exact.
-/
namespace Go.Proofs.YtcfcdbeemhjhgaaDoor
open Go.RowKit
end Go.Proofs.YtcfcdbeemhjhgaaDoor
