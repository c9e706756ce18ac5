
/-
  A list of integers as it came in.
-/
import Derived.Test.YtoinfkimlhhmpaaZLaw
import Derived.Test.YtoinfkimlhhmpaaZRaw
import Derived.Deep.Slices
import Derived.DataReads
set_option linter.unusedVariables false
set_option linter.unusedSimpArgs false
namespace Go.Proofs.Ytoinfkimlhhmpaa
open Go.ChangeShapes Go.WideShapes Go.ChangeAt Go.RowKit Go.Joins Go.Deep

set_option maxRecDepth 100000 in
/-- An integer among the cells of an argument. -/
theorem open_int_cells {H : Type} {enc : TypeId × Value → H} {W : World} {cs : List Value} {y : DataW H × List MemPlace} {fuel : Nat} (h : DataW.trod enc Try.prog W 0 (fun _ => true) true fuel 25 cs = some y) :
    ∃ b p n c xs, cs = [.bool b, .slice p n c] ∧ Sl W p n c xs ∧ n + 1 ≤ Rows.uptoBulk y.1 := by
  obtain ⟨y0, y1, n, rfl, hl, h0, h1⟩ := trod_struct2 Try.underlying25 h
  rw [show Try.prog.cellsOf 25 = 2 by kernel_rfl] at hl
  match cs, hl with
  | [v0, v1], _ =>
    have h0' : DataW.trod enc Try.prog W 0 (fun _ => true) true n 4 [v0] = some y0 := by simpa [show Try.prog.cellsOf 4 = 1 by kernel_rfl] using h0
    have h1' : DataW.trod enc Try.prog W 0 (fun _ => true) true n 23 [v1] = some y1 := by simpa [show Try.prog.cellsOf 23 = 1 by kernel_rfl] using h1
    obtain ⟨p, m, c, xs, rfl, hs, hb⟩ := open_nat_cell h1'
    obtain ⟨b, hb0, _⟩ := DataW.trod_bool Try.underlying4 h0'
    simp at hb0
    subst hb0
    refine ⟨b, p, m, c, xs, rfl, hs, ?_⟩
    simp only [Rows.uptoBulk, Rows.uptoBulkAll]
    omega

end Go.Proofs.Ytoinfkimlhhmpaa
