
/-
  Lists of integers read through cells; loads of whole integers; calls of a function value; a loop whose first round is walked by itself.
-/
import Derived.Test.YtoinfkimlhhmpaaWA
set_option linter.unusedVariables false
set_option linter.unusedSimpArgs false
namespace Go.Proofs.Ytoinfkimlhhmpaa
open Go.RowKit

section
variable {P : Program} {o : Oper} {n : Nat} {f : Nat → Value} {w w0 : World} {R : List Res} {K : Act → World → Prop} {Q : Exit → Act → World → Prop} {d : Nat}

theorem oloadA {ty : TypeId} {x : Operand} {sz off g : Nat} {vs : List Value} (hA : Agg P ty sz) (hop : o.op = .load ty x) (ho : o.dst = some d)
    (hx : (act n f).eval x = .pointer (some ⟨g, off, none⟩)) (hc : ∀ j v, vs[j]? = some v → w.cell? ⟨g, off + j, none⟩ = some v) (hl : vs.length = sz) (hK : K (act n (upd f d (.agg vs.toArray))) w) : OW P o (act n f) w K Q :=
  oval ho (by
    have hl' := run_loadCells_list (P := P) w ⟨g, off, none⟩ vs (fun j v hv => by rw [Addr.add_mid]; exact hc j v hv)
    rw [hl] at hl'
    simp only [execOp, hop, hx]; rw [Sem.run_bind]; simp [Instr.loadAt, Instr.sureAddr, loadVar, hA.isAgg, hA.size, hl']) rfl hK

theorem ocallv {F : FuncId} {c : Call} {x : Operand} {xs : Array Operand} {ts : Array TypeId} {vs : Array Value} {Rp : Ending → World → Prop} (hop : o.op = .call c) (hc : c = { callee := .value x, args := xs, argTypes := ts }) (hv : (act n f).eval x = .func (.func F) #[] #[]) (hF : ∀ args w, (callFunc F args).run P w = .ok (.enter F args) w) (ho : o.dst = some d)
    (hC : Calls P F vs w Rp) (hx : xs.map (act n f).eval = vs) (hK : ∀ e w', Rp e w' → ∃ v, e = .returned v ∧ K (act n (upd f d v)) w') : OW P o (act n f) w K Q := by
  refine ⟨?_⟩
  subst hc
  unfold Oper.wp
  have e : (execOp (act n f).eval o).run P w = .ok (.enter F vs) w := by
    simp only [execOp, hop, resolve, hx, hv]
    simp [Deferred.ofValue, invoke, hF]
  rw [e, Oper.upon_enter]
  refine hC.mono fun e w' h => ?_
  obtain ⟨v, rfl, hk⟩ := hK e w' h
  show K ((act n f).put o.dst v) w'
  rw [ho, act_put]
  exact hk

theorem CW.mono {c : Code} {Q Q' : Exit → Act → World → Prop} {a : Act} {w : World} (hq : ∀ e a w, Q e a w → Q' e a w) (h : CW P c Q a w) : CW P c Q' a w := ⟨Code.wp_mono hq h.out⟩

/-- A loop whose first round is walked by itself. -/
theorem wloopP {σ : Type} {c : Code} {a : Act} (I : σ → Act → World → Prop) (μ : σ → Nat) (M : Nat) (h0 : CW P c (Exit.then (fun a' w' => ∃ s', I s' a' w' ∧ μ s' < M) Q) a w)
    (round : ∀ s a w, I s a w → CW P c (Exit.then (fun a' w' => ∃ s', I s' a' w' ∧ μ s' < μ s) Q) a w) : CW P (Code.loop c) Q a w := by
  refine wloop (σ := Option σ) (fun s a' w' => match s with | none => a' = a ∧ w' = w | some s => I s a' w') (fun s => match s with | none => M | some s => μ s) none ⟨rfl, rfl⟩ ?_
  intro s a' w' hs
  cases s with
  | none =>
    obtain ⟨rfl, rfl⟩ := hs
    refine h0.mono fun e a w q => ?_
    cases e with
    | normal => obtain ⟨s', h1, h2⟩ := q; exact ⟨some s', h1, h2⟩
    | exit id => exact q
    | goto l => exact q
    | ret => exact q
    | panic ch => exact q
    | outgrown => exact q
  | some s =>
    refine (round s a' w' hs).mono fun e a w q => ?_
    cases e with
    | normal => obtain ⟨s', h1, h2⟩ := q; exact ⟨some s', h1, h2⟩
    | exit id => exact q
    | goto l => exact q
    | ret => exact q
    | panic ch => exact q
    | outgrown => exact q
end

/-- A list of integers: element by element in cells, each of so many limbs at most. -/
def Zs (w : World) (p : Option Addr) (m : Nat) (l : List Int) (K : Nat) : Prop :=
  m = l.length ∧ m ≤ 1048576 ∧ ∀ i z, l[i]? = some z → ∃ g off b q n k, p = some ⟨g, off, none⟩ ∧ w.cell? ⟨g, off + i * 2, none⟩ = some (.bool b) ∧ w.cell? ⟨g, off + i * 2 + 1, none⟩ = some (.slice q n k) ∧ Zr w b q n k z K

theorem Zs.on {w w' : World} {p : Option Addr} {m K B : Nat} {l : List Int} (h : Zs w p m l K) (hb : Below B w w') (hB : w.heap.size ≤ B) : Zs w' p m l K := by
  refine ⟨h.1, h.2.1, fun i z hi => ?_⟩
  obtain ⟨g, off, b, q, n, k, hp, h1, h2, h3⟩ := h.2.2 i z hi
  have hg : g < w.heap.size := World.block_lt_of_cell? w _ h1
  have he := hb.block g (by omega)
  exact ⟨g, off, b, q, n, k, hp, (World.cell?_of_block (w := w) he).trans h1, (World.cell?_of_block (w := w) he).trans h2, h3.on hb hB⟩
theorem Zs.at {w w' : World} {R : List Res} {p : Option Addr} {m K : Nat} {l : List Int} (h : Zs w p m l K) (hS : Sep w R w') : Zs w' p m l K := h.on hS.below (Nat.le_refl _)
theorem Zs.el {w : World} {p : Option Addr} {m K : Nat} {l : List Int} (h : Zs w p m l K) {i : Nat} (hi : i < m) : ∃ z g off b q n k, l[i]? = some z ∧ p = some ⟨g, off, none⟩ ∧ (∀ j v, [Value.bool b, .slice q n k][j]? = some v → w.cell? ⟨g, off + i * 2 + j, none⟩ = some v) ∧ Zr w b q n k z K := by
  have hi' : i < l.length := by rw [← h.1]; exact hi
  obtain ⟨g, off, b, q, n, k, hp, h1, h2, h3⟩ := h.2.2 i l[i] (List.getElem?_eq_getElem hi')
  refine ⟨_, g, off, b, q, n, k, List.getElem?_eq_getElem hi', hp, fun j v hj => ?_, h3⟩
  match j, hj with
  | 0, hj => simp at hj; subst hj; exact h1
  | 1, hj => simp at hj; subst hj; exact h2
theorem Zs.two {w : World} {g K : Nat} {t : TypeId} {b b2 : Bool} {p q : Option Addr} {n m c d : Nat} {x y : Int} (hg : w.heap[g]? = some (.cells [.bool b, .slice p n c, .bool b2, .slice q m d].toArray t)) (hx : Zr w b p n c x K) (hy : Zr w b2 q m d y K) : Zs w (some ⟨g, 0, none⟩) 2 [x, y] K := by
  refine ⟨rfl, by omega, fun i z hi => ?_⟩
  match i, hi with
  | 0, hi => simp at hi; subst hi; exact ⟨g, 0, b, p, n, c, rfl, blk_cell hg 0, blk_cell hg 1, hx⟩
  | 1, hi => simp at hi; subst hi; exact ⟨g, 0, b2, q, m, d, rfl, blk_cell hg 2, blk_cell hg 3, hy⟩

end Go.Proofs.Ytoinfkimlhhmpaa
