/-
  Contracts and lemmas, joined in one text.
-/
import Derived.Test.YtndilfigdbenoaaDoorM3
set_option linter.unusedVariables false
set_option linter.unusedSimpArgs false
/-
  The document's small functions of matrices.
-/
set_option maxRecDepth 100000
set_option maxHeartbeats 16000000
namespace Go.Proofs.YtndilfigdbenoaaDoor
open Go.RowKit
def MMn (n : Nat) (M : List (List Nat)) : Tell := fun v r => ∃ (pp : Option Addr) (c : Nat) (Q : List Rw), nums Q = M ∧ v = .slice pp n c ∧ r = [.lst 52 1 pp n c (mmE Q)]
theorem wrcols {pm : Option Addr} {nm cm : Nat} {M : List (List Nat)} {w : World} (hm : MS w pm nm M) :
  Calls Tryd.prog 36 #[.slice pm nm cm] w (Ret (Is (.int .i64 ((colsM M : Nat) : Int))) w) := by
 have hnm := hm.1
 have hnl := hm.2.1
 simp only [maxLen] at hnl
 have hS := Sep.init w
 refine went Tryd.func36 rfl (n := 10) rfl rfl ?_
 refine wseq (wreg (wl rfl (oassign (v := .int .i64 0) rfl rfl evc ?_)))
 refine wnil (thenN (wseq (wseq (wreg (wl rfl (omove (v := .slice pm nm cm) rfl rfl (ev rfl rfl) ?_))))))
 refine wl rfl (olen rfl rfl rfl Tryd.runUnderlying26 (p := pm) (k := nm) (m := cm) (ev rfl rfl) ?_)
 by_cases h0 : nm = 0
 ·
  refine wl rfl (obin (u := .int .i64 (nm : Int)) (v := .int .i64 0) (z := .bool true) rfl rfl (ev rfl rfl) evc (bin_eql (eqT (by omega))) ?_)
  refine wnil (thenN ?_)
  refine wT (ev rfl rfl) ?_
  refine wseq (wreg (wl rfl (oassign (v := .int .i64 0) rfl rfl evc ?_)))
  refine wnil (thenN ?_)
  refine wleave ?_
  refine thenR ?_
  refine wret1 Tryd.results36 (tellT (v := .int .i64 0) rfl rfl) ?_
  exact ⟨_, _, rfl, ⟨by rw [show colsM M = 0 by unfold colsM; rw [List.eq_nil_of_length_eq_zero (show M.length = 0 by omega)]; rfl]; rfl, rfl⟩, hS.new0⟩
 ·
  refine wl rfl (obin (u := .int .i64 (nm : Int)) (v := .int .i64 0) (z := .bool false) rfl rfl (ev rfl rfl) evc (bin_eql (eqF (by omega))) ?_)
  refine wnil (thenN ?_)
  refine wF (ev rfl rfl) ?_
  refine wskip (thenN (wseq (wreg (wl rfl (omove (v := .slice pm nm cm) rfl rfl (ev rfl rfl) ?_)))))
  obtain ⟨xz, hxz⟩ : ∃ r, (M)[0]? = some r := ⟨_, List.getElem?_eq_getElem (by have := hm.1; omega)⟩
  obtain ⟨bz, ofz, pz, cz, hpz, hcz, hsz⟩ := hm.2.2 0 _ hxz
  have hz := row0 hxz rfl
  refine wl rfl (oindex (p := pm) (g := bz) (off := ofz) (m := nm) (k := 0) (j := (ofz + 0 * 1)) rfl rfl Tryd.runUnderlying26 Tryd.sizeOf52 (ev rfl rfl) (hpz) evc (by omega) rfl ?_)
  refine wl rfl (oloadc (v := .slice pz xz.length cz) (show One Tryd.prog 52 from ⟨Tryd.isAgg52, Tryd.sizeOf52⟩) rfl rfl (ev (v := .pointer (some ⟨bz, (ofz + 0 * 1), none⟩)) rfl rfl) (hS.cellAt (hcz 0 _ rfl)) ?_)
  refine wl rfl (olen rfl rfl rfl Tryd.runUnderlying52 (p := pz) (k := xz.length) (m := cz) (ev rfl rfl) ?_)
  refine wl rfl (oassign (v := .int .i64 (xz.length : Int)) rfl rfl (ev rfl rfl) ?_)
  refine wnil (thenN ?_)
  refine wleave ?_
  refine wret1 Tryd.results36 (tellT (v := .int .i64 (xz.length : Int)) rfl rfl) ?_
  exact ⟨_, _, rfl, ⟨by rw [hz], rfl⟩, hS.new0⟩
end Go.Proofs.YtndilfigdbenoaaDoor
/-
  The document's Reduce.
-/
namespace Go.Proofs.YtndilfigdbenoaaDoor
open Go.RowKit
def RdR (p : Nat) (M : List (List Nat)) (n : Nat) : Tell := fun v r => ∃ (px : Option Addr) (cx : Nat) (pv : Option Addr) (cv : Nat) (P : List Nat) (Q : List Rw), redTo p (modM p M) (colsM M) = (nums Q, P) ∧ v = .tuple #[.slice px n cx, .slice pv P.length cv] ∧ r = [.lst 52 1 px n cx (mmE Q), .lst 3 1 pv P.length cv (intE P)]
theorem Shp.cols {p C : Nat} {M : List (List Nat)} (h : Shp p C M) (h0 : M.length = 0 → C = 0) : colsM M = C := by
  by_cases e : M.length = 0
  · rw [h0 e]; unfold colsM; rw [List.eq_nil_of_length_eq_zero e]; rfl
  · unfold colsM; exact (h.at (by omega)).1
theorem colsM_nil {M : List (List Nat)} (h : M.length = 0) : colsM M = 0 := by unfold colsM; rw [List.eq_nil_of_length_eq_zero h]; rfl
end Go.Proofs.YtndilfigdbenoaaDoor
