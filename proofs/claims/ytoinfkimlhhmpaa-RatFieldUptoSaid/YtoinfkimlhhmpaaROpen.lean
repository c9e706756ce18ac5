
/-
  A fraction as it came in; a list of them.
-/
import Derived.Test.YtoinfkimlhhmpaaZOpen
set_option linter.unusedVariables false
set_option linter.unusedSimpArgs false
namespace Go.Proofs.Ytoinfkimlhhmpaa
open Go.ChangeShapes Go.WideShapes Go.ChangeAt Go.RowKit Go.Joins Go.Deep

set_option maxRecDepth 100000 in
/-- A fraction among the cells of an argument. -/
theorem open_rat_cells {H : Type} {enc : TypeId × Value → H} {W : World} {cs : List Value} {y : DataW H × List MemPlace} {fuel : Nat} (h : DataW.trod enc Try.prog W 0 (fun _ => true) true fuel 27 cs = some y) :
    ∃ b p n c xs b2 q m d ys, cs = [.bool b, .slice p n c, .bool b2, .slice q m d] ∧ Sl W p n c xs ∧ Sl W q m d ys ∧ n + m + 1 ≤ Rows.uptoBulk y.1 := by
  obtain ⟨y0, y1, n, rfl, hl, h0, h1⟩ := trod_struct2 Try.underlying27 h
  rw [show Try.prog.cellsOf 27 = 4 by kernel_rfl] at hl
  match cs, hl with
  | [v0, v1, v2, v3], _ =>
    have h0' : DataW.trod enc Try.prog W 0 (fun _ => true) true n 25 [v0, v1] = some y0 := by simpa [show Try.prog.cellsOf 25 = 2 by kernel_rfl] using h0
    have h1' : DataW.trod enc Try.prog W 0 (fun _ => true) true n 25 [v2, v3] = some y1 := by simpa [show Try.prog.cellsOf 25 = 2 by kernel_rfl] using h1
    obtain ⟨b, p, m, c, xs, e1, hs, hb⟩ := open_int_cells h0'
    obtain ⟨b2, q, m2, d, ys, e2, hs2, hb2⟩ := open_int_cells h1'
    simp only [List.cons.injEq, and_true] at e1 e2
    obtain ⟨rfl, rfl⟩ := e1
    obtain ⟨rfl, rfl⟩ := e2
    refine ⟨b, p, m, c, xs, b2, q, m2, d, ys, rfl, hs, hs2, ?_⟩
    simp only [Rows.uptoBulk, Rows.uptoBulkAll]
    omega

set_option maxRecDepth 100000 in
/-- A fraction as it came in. -/
theorem open_rat {H : Type} {enc : TypeId × Value → H} {W : World} {v : Value} {d : DataW H} {ps : List MemPlace} {base : Nat} (hok : Value.okWide Try.prog W .any base 27 v) (h : DataW.Trod enc Try.prog W 0 (fun _ => true) true 27 v d ps) :
    ∃ b p n c xs b2 q m e ys, v = .agg #[.bool b, .slice p n c, .bool b2, .slice q m e] ∧ Sl W p n c xs ∧ Sl W q m e ys ∧ n + m + 1 ≤ Rows.uptoBulk d := by
  obtain ⟨cs, rfl, hsz⟩ := okWide_struct Try.underlying27 hok
  obtain ⟨fuel, h⟩ := h
  obtain ⟨b, p, n, c, xs, b2, q, m, e, ys, hcs, h1, h2, h3⟩ := open_rat_cells h
  have e1 : cs = #[.bool b, .slice p n c, .bool b2, .slice q m e] := by
    apply Array.toList_inj.1
    simpa [Value.cells] using hcs
  exact ⟨b, p, n, c, xs, b2, q, m, e, ys, by rw [e1], h1, h2, h3⟩

end Go.Proofs.Ytoinfkimlhhmpaa
