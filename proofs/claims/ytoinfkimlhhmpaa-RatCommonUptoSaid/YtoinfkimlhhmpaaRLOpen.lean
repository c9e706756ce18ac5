
/-
  A list of fractions as it came in.
-/
import Derived.Test.YtoinfkimlhhmpaaROpen
import Derived.Test.YtoinfkimlhhmpaaRLists
set_option linter.unusedVariables false
set_option linter.unusedSimpArgs false
namespace Go.Proofs.Ytoinfkimlhhmpaa
open Go.ChangeShapes Go.WideShapes Go.ChangeAt Go.RowKit Go.Joins Go.Deep

set_option maxRecDepth 100000 in
/-- A list of fractions as it came in. -/
theorem open_rats {H : Type} {enc : TypeId × Value → H} {W : World} {v : Value} {d : DataW H} {ps : List MemPlace} {base : Nat} (hok : Value.okWide Try.prog W .any base 38 v) (h : DataW.Trod enc Try.prog W 0 (fun _ => true) true 38 v d ps) (hbd : Rows.uptoBulk d ≤ 1048576) :
    ∃ p m c L, v = .slice p m c ∧ RL W p m L 1048576 ∧ (L.map fun e => e.1.2.length + e.2.2.length + 1).sum + 1 ≤ Rows.uptoBulk d := by
  obtain ⟨a, len, cap, rfl⟩ := okWide_slice Try.underlying38 hok
  obtain ⟨fuel, h⟩ := h
  rcases open_slice Try.underlying38 h with ⟨h1, h2⟩ | ⟨a', len', cap', m, n, D, Pl, h1, _, hlc, hcm, hm, hx, hel⟩
  · simp [Value.cells] at h1
    obtain ⟨rfl, rfl, rfl⟩ := h1
    exact ⟨none, 0, 0, [], rfl, ⟨rfl, by omega, fun i e h => by simp at h⟩, by have := bulk_one d; simpa using this⟩
  · simp [Value.cells] at h1
    obtain ⟨rfl, rfl, rfl⟩ := h1
    rw [if_pos rfl] at hm
    subst hm
    rw [show Try.prog.cellsOf 27 = 4 by kernel_rfl] at hel
    simp only [Prod.mk.injEq] at hx
    obtain ⟨hd, -⟩ := hx
    obtain ⟨L, hl1, hl2, hl3⟩ := build_list (α := RawR) (Pp := fun i e => ∃ q n c q2 n2 c2, W.cell? ((a'.add (i * 4)).add 0) = some (.bool e.1.1) ∧ W.cell? ((a'.add (i * 4)).add 1) = some (.slice q n c) ∧ W.cell? ((a'.add (i * 4)).add 2) = some (.bool e.2.1) ∧ W.cell? ((a'.add (i * 4)).add 3) = some (.slice q2 n2 c2) ∧ Sl W q n c e.1.2 ∧ Sl W q2 n2 c2 e.2.2 ∧ n + n2 + 1 ≤ Rows.uptoBulk (D i)) (g := fun e => e.1.2.length + e.2.2.length + 1) (h := fun i => Rows.uptoBulk (D i))
      (fun i e ⟨q, n, c, q2, n2, c2, _, _, _, _, hs, hs2, hn⟩ => by show e.1.2.length + e.2.2.length + 1 ≤ _; rw [hs.len, hs2.len]; exact hn) len (fun i hi => by
        obtain ⟨cs', hc, ht⟩ := hel i (by omega)
        obtain ⟨b, q, n, c, xs, b2, q2, n2, c2, ys, rfl, hs, hs2, hn⟩ := open_rat_cells ht
        exact ⟨((b, xs), (b2, ys)), q, n, c, q2, n2, c2, cells_get hc (i := 0) rfl (by omega), cells_get hc (i := 1) rfl (by omega), cells_get hc (i := 2) rfl (by omega), cells_get hc (i := 3) rfl (by omega), hs, hs2, hn⟩)
    have hsum : (L.map fun e => e.1.2.length + e.2.2.length + 1).sum + 1 ≤ Rows.uptoBulk d := by
      rw [hd]
      simp only [Rows.uptoBulk]
      rw [bulkAll_sum, List.map_map]
      have e : (Rows.uptoBulk ∘ D) = fun i => Rows.uptoBulk (D i) := rfl
      rw [e]
      omega
    have hlen : len ≤ (L.map fun e => e.1.2.length + e.2.2.length + 1).sum := by
      rw [← hl1]
      clear hl1 hl2 hl3 hsum
      induction L with
      | nil => simp
      | cons x l ih => simp only [List.length_cons, List.map_cons, List.sum_cons]; omega
    refine ⟨some a', len, _, L, rfl, ⟨hl1.symm, by omega, fun i e hi => ?_⟩, hsum⟩
    obtain ⟨q, n, c, q2, n2, c2, h1, h2, h3, h4, hs, hs2, hn⟩ := hl2 i e hi
    obtain ⟨b, off, spot⟩ := a'
    have hspot : spot = none := by
      have hil := (List.getElem?_eq_some_iff.1 hi).1
      obtain ⟨_, _, _, _, _, _, h0, _⟩ := hl2 0 _ (List.getElem?_eq_getElem (show 0 < L.length by omega))
      have := World.cell?_spot h0
      simpa [Addr.add] using this
    subst hspot
    rw [Addr.add_mid, Addr.add_mid] at h1 h2 h3 h4
    have hle : e.1.2.length + e.2.2.length + 1 ≤ (L.map fun e => e.1.2.length + e.2.2.length + 1).sum := by
      have hmem : e ∈ L := List.mem_of_getElem? hi
      clear hl1 hl2 hl3 hsum hlen hi
      induction L with
      | nil => cases hmem
      | cons x l ih =>
        simp only [List.map_cons, List.sum_cons]
        rcases List.mem_cons.1 hmem with rfl | hm
        · omega
        · have := ih hm; omega
    have e1 := hs.len
    have e2 := hs2.len
    refine ⟨b, off, q, n, c, q2, n2, c2, rfl, fun j v hj => ?_, hs, hs2, by omega, by omega⟩
    match j, hj with
    | 0, hj => cases hj; exact h1
    | 1, hj => cases hj; exact h2
    | 2, hj => cases hj; exact h3
    | 3, hj => cases hj; exact h4
    | j + 4, hj => simp at hj

end Go.Proofs.Ytoinfkimlhhmpaa
