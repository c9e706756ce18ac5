/-
  Contracts and lemmas, joined in one text.
-/
import Derived.Test.YtndilfigdbenoaaDoorM3
set_option linter.unusedVariables false
set_option linter.unusedSimpArgs false
/-
  The document's small functions of matrices.
-/
set_option maxRecDepth 100000
set_option maxHeartbeats 16000000
namespace Go.Proofs.YtndilfigdbenoaaDoor
open Go.RowKit
def MMn (n : Nat) (M : List (List Nat)) : Tell := fun v r => ∃ (pp : Option Addr) (c : Nat) (Q : List Rw), nums Q = M ∧ v = .slice pp n c ∧ r = [.lst 52 1 pp n c (mmE Q)]
end Go.Proofs.YtndilfigdbenoaaDoor
/-
  The document's Reduce.
-/
namespace Go.Proofs.YtndilfigdbenoaaDoor
open Go.RowKit
def RdR (p : Nat) (M : List (List Nat)) (n : Nat) : Tell := fun v r => ∃ (px : Option Addr) (cx : Nat) (pv : Option Addr) (cv : Nat) (P : List Nat) (Q : List Rw), redTo p (modM p M) (colsM M) = (nums Q, P) ∧ v = .tuple #[.slice px n cx, .slice pv P.length cv] ∧ r = [.lst 52 1 px n cx (mmE Q), .lst 3 1 pv P.length cv (intE P)]
theorem Shp.cols {p C : Nat} {M : List (List Nat)} (h : Shp p C M) (h0 : M.length = 0 → C = 0) : colsM M = C := by
  by_cases e : M.length = 0
  · rw [h0 e]; unfold colsM; rw [List.eq_nil_of_length_eq_zero e]; rfl
  · unfold colsM; exact (h.at (by omega)).1
theorem colsM_nil {M : List (List Nat)} (h : M.length = 0) : colsM M = 0 := by unfold colsM; rw [List.eq_nil_of_length_eq_zero h]; rfl
end Go.Proofs.YtndilfigdbenoaaDoor
