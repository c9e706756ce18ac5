
/-
  The walk of zint: Near.
-/
import Derived.Test.YtjnpdpcldmjdjaaGreatDoorBE
import Derived.Test.YtjnpdpcldmjdjaaGreatDoorBB
import Derived.Outline
set_option linter.unusedVariables false
set_option linter.unusedSimpArgs false
namespace Go.Proofs.YtjnpdpcldmjdjaaGreatDoor
open Go.RowKit
theorem zcmp_of {s:Int} {p q:Option Addr} {n m c d:Nat} {b b2:Bool} {xs ys:List Nat} {w:World} (hx:Sl w p n c xs) (hy:Sl w q m d ys) (hn:n ≤ 17592186044416) (hm:m ≤ 17592186044416) (hs:Hid (cmpZ (zv b (val xs)) (zv b2 (val ys)) = s)) :
  Calls Tryz.prog 58 #[.agg #[.bool b,.slice p n c],.agg #[.bool b2,.slice q m d]] w (RetInt w s):=by
 rw [← hs.out]; exact zcmp_any hx hy hn hm
def NearA (w:World) (A B:Int) (wc:World):Prop :=
 ∃ b p n c xs b2 q m d ys,wc.cell? ⟨w.heap.size,0,none⟩ = some (.bool b) ∧ wc.cell? ⟨w.heap.size,1,none⟩ = some (.slice p n c) ∧ wc.cell? ⟨w.heap.size + 1,0,none⟩ = some (.bool b2) ∧ wc.cell? ⟨w.heap.size + 1,1,none⟩ = some (.slice q m d) ∧
  Cel (w.heap.size + 2) wc ∧ Sl wc p n c xs ∧ Sl wc q m d ys ∧ Hid (zv b (val xs) = A) ∧ Hid (zv b2 (val ys) = B) ∧ n ≤ 1099511627776 ∧ m ≤ 1099511627776 ∧ Box w (w.heap.size + 2) wc
def NearB (w wq:World) (Q:Int) (p4:Option Addr) (n4 c4:Nat) (wc:World):Prop :=
  wc.cell? ⟨wq.heap.size,0,none⟩ = some (.bool (ng Q)) ∧ wc.cell? ⟨wq.heap.size,1,none⟩ = some (.slice p4 n4 c4) ∧ Cel (w.heap.size + 2) wc ∧ (∃ B4,Fr B4 wc p4 n4 c4 (lim Q.natAbs) ∧ w.heap.size + 2 < B4) ∧ w.heap.size + 2 < wq.heap.size ∧ Below w.heap.size w wc
end Go.Proofs.YtjnpdpcldmjdjaaGreatDoor
