
/-
  Lists of integers as they came in: sign and limbs of each element.
-/
import Derived.Test.YtoinfkimlhhmpaaZFold
set_option linter.unusedVariables false
set_option linter.unusedSimpArgs false
namespace Go.Proofs.Ytoinfkimlhhmpaa
open Go.RowKit

def zvr (e : Bool × List Nat) : Int := zv e.1 (val e.2)

/-- A list of integers: each element's sign and limbs; each of so many limbs at most. -/
def ZL (w : World) (p : Option Addr) (m : Nat) (L : List (Bool × List Nat)) (K : Nat) : Prop :=
  m = L.length ∧ m ≤ 1048576 ∧ ∀ i e, L[i]? = some e → ∃ g off q n k, p = some ⟨g, off, none⟩ ∧ w.cell? ⟨g, off + i * 2, none⟩ = some (.bool e.1) ∧ w.cell? ⟨g, off + i * 2 + 1, none⟩ = some (.slice q n k) ∧ Sl w q n k e.2 ∧ n ≤ K

theorem ZL.on {w w' : World} {p : Option Addr} {m K B : Nat} {L : List (Bool × List Nat)} (h : ZL w p m L K) (hb : Below B w w') (hB : w.heap.size ≤ B) : ZL w' p m L K := by
  refine ⟨h.1, h.2.1, fun i z hi => ?_⟩
  obtain ⟨g, off, q, n, k, hp, h1, h2, h3, h4⟩ := h.2.2 i z hi
  have hg : g < w.heap.size := World.block_lt_of_cell? w _ h1
  have he := hb.block g (by omega)
  exact ⟨g, off, q, n, k, hp, (World.cell?_of_block (w := w) he).trans h1, (World.cell?_of_block (w := w) he).trans h2, h3.below hb hB, h4⟩
theorem ZL.at {w w' : World} {R : List Res} {p : Option Addr} {m K : Nat} {L : List (Bool × List Nat)} (h : ZL w p m L K) (hS : Sep w R w') : ZL w' p m L K := h.on hS.below (Nat.le_refl _)
theorem ZL.zs {w : World} {p : Option Addr} {m K : Nat} {L : List (Bool × List Nat)} (h : ZL w p m L K) : Zs w p m (L.map zvr) K := by
  refine ⟨by rw [List.length_map]; exact h.1, h.2.1, fun i z hi => ?_⟩
  rw [List.getElem?_map] at hi
  rcases hL : L[i]? with _ | e
  · rw [hL] at hi; cases hi
  · rw [hL] at hi
    simp only [Option.map_some, Option.some.injEq] at hi
    subst hi
    obtain ⟨g, off, q, n, k, hp, h1, h2, h3, h4⟩ := h.2.2 i e hL
    exact ⟨g, off, _, q, n, k, hp, h1, h2, _, h3, rfl, h4⟩
theorem ZL.el {w : World} {p : Option Addr} {m K : Nat} {L : List (Bool × List Nat)} (h : ZL w p m L K) {i : Nat} (hi : i < m) : ∃ e g off q n k, L[i]? = some e ∧ p = some ⟨g, off, none⟩ ∧ (∀ j v, [Value.bool e.1, .slice q n k][j]? = some v → w.cell? ⟨g, off + i * 2 + j, none⟩ = some v) ∧ Sl w q n k e.2 ∧ n ≤ K := by
  have hi' : i < L.length := by rw [← h.1]; exact hi
  obtain ⟨g, off, q, n, k, hp, h1, h2, h3, h4⟩ := h.2.2 i L[i] (List.getElem?_eq_getElem hi')
  refine ⟨_, g, off, q, n, k, List.getElem?_eq_getElem hi', hp, fun j v hj => ?_, h3, h4⟩
  match j, hj with
  | 0, hj => simp at hj; subst hj; exact h1
  | 1, hj => simp at hj; subst hj; exact h2

end Go.Proofs.Ytoinfkimlhhmpaa
