
/-
  What Lend hands over, as owned: the whole row; the lent slice read from it.
-/
import Derived.Test.YtgemncfpehmdeaaDoorTz4
import Derived.Test.YtgemncfpehmdeaaDoorBB
set_option linter.unusedVariables false
set_option linter.unusedSimpArgs false
namespace Go.Proofs.YtgemncfpehmdeaaDoor
open Go.RowKit

/-- The whole row that Lend makes. -/
def whole (xs : List Nat) : List Nat := 2779096485 :: xs ++ [2779096485]
def Ldt (n : Nat) (xs : List Nat) : Tell := fun v r => ∃ g, v = .tuple #[.slice (some ⟨g, 0, none⟩) (n + 2) (n + 2), .slice (some ⟨g, 1, none⟩) n (n + 1)] ∧ r = [.row (some ⟨g, 0, none⟩) (n + 2) (n + 2) (whole xs)]
theorem RetLend.u {w : World} {n : Nat} {xs : List Nat} (e : Ending) (w' : World) (h : RetLend w n xs e w') : Ret (Ldt n xs) w e w' := by
  obtain ⟨g, rfl, hf, _, hb⟩ := h
  exact ⟨_, _, rfl, ⟨g, rfl, rfl⟩, New.row hb hf⟩
theorem lent {w : World} {g n : Nat} {xs : List Nat} (h : Sl w (some ⟨g, 0, none⟩) (n + 2) (n + 2) (whole xs)) (hl : xs.length = n) : Sl w (some ⟨g, 1, none⟩) n (n + 1) xs := by
  have h1 := (h.drop (q := 1) (by omega)).take (k := n) (by omega)
  have e : ((whole xs).drop 1).take n = xs := by
    unfold whole
    rw [List.cons_append, List.drop_one, List.tail_cons, ← hl, List.take_left]
  rw [e] at h1
  exact h1
end Go.Proofs.YtgemncfpehmdeaaDoor
