
/-
  Rounds of a range over a function, more: guarded operations, loops; loops behind a mark.
-/
import Derived.Test.YtgemncfpehmdeaaDoorRange3
import Derived.Test.YtgemncfpehmdeaaDoorWA
set_option linter.unusedVariables false
set_option linter.unusedSimpArgs false
namespace Go.Proofs.YtgemncfpehmdeaaDoor
open Go.RowKit

section
variable {P : Program} {r : Option Nat} {m n D d : Nat} {Q : Exit → Act → World → Prop} {a : Act} {w w0 : World} {f : Nat → Value} {o : Oper}
theorem rlOn {ops : Array Oper} {rest : List Oper} {g : Nat} {b : Bool} (hg : o.guard = some (g, b)) {e : Nat} (hs : (ops[g]?).bind (·.dst) = some e) (hd : Nat.blt e n = true) (hv : f e = .bool b) (hn : noDefer o = true)
    (h : OW P o (act n f) w (fun a' w' => LR r m P ops Q rest a' w') Q) : LR r m P ops Q (o :: rest) (act n f) w := by
  refine ⟨?_⟩
  have hw := want_on (ops := ops) hg hs hd hv
  simp only [wpListIn, hw, if_true]
  exact OW.inn hn (h.mono fun a w h => h.out)
theorem mact_sets {l : List (Nat × Value)} (h : AllAt f l) : marked D (act n f) = marked D (act n (sets f l)) := by rw [sets_self h]
theorem bin_eql_nilF {t : TypeId} {x y : Operand} {a b : Array TypeId} {c : Bool} {fn : Fn} {fs cs : Array Value} (hu : ∀ w, (underlying t).run P w = .ok (.func a b c) w) : (do eqGuard .eql t x y (.func fn fs cs) .nilFunc; binOp .eql t (.func fn fs cs) .nilFunc : Sem Value).run P w = .ok (.bool false) w := by
  have h : (Op.equal t (.func fn fs cs) .nilFunc).run P w = .ok false w := by
    unfold Op.equal
    rw [show Op.maxDepth = 9999 + 1 from rfl]
    unfold Op.equalIn
    simp [hu]
  simp [eqGuard, binOp, h]
end
theorem box_cells {w : World} {g : Nat} {cs : List Value} {t : TypeId} (h : w.heap[g]? = some (.cells cs.toArray t)) : ∀ j v, cs[j]? = some v → w.cell? ⟨g, 0 + j, none⟩ = some v := fun j v hj => by
  rw [Nat.zero_add]; exact (blk_cell h j).trans hj
/-- A number in a row that may be written. -/
def Nm (xs : List Nat) : Tell := fun v r => ∃ p n c, v = .slice p n c ∧ r = [.rowm p n c xs]
theorem RetN.m {w : World} {xs : List Nat} (e : Ending) (w' : World) (h : RetN w xs e w') : Ret (Nm xs) w e w' := by
  obtain ⟨v, r, rfl, ⟨p, n, c, rfl, rfl⟩, hN⟩ := RetN.u e w' h
  refine ⟨_, _, rfl, ⟨p, n, c, rfl, rfl⟩, New.rowm hN.below ?_⟩
  have hf : Fr 0 w' p n c xs := hN.holds _ List.mem_cons_self
  exact hf.raise (fun g hg => hN.high _ List.mem_cons_self g hg)
end Go.Proofs.YtgemncfpehmdeaaDoor
