/-
  Contracts and lemmas, joined in one text.
-/
import Derived.Test.YtndilfigdbenoaaDoorM4
set_option linter.unusedVariables false
set_option linter.unusedSimpArgs false
/-
  The document's Inverse.
-/
set_option maxRecDepth 100000
set_option maxHeartbeats 16000000
namespace Go.Proofs.YtndilfigdbenoaaDoor
open Go.RowKit
def augL (M N : List (List Nat)) (i : Nat) : List (List Nat) := (List.range i).map fun k => M.getD k [] ++ N.getD k []
theorem idM_len (n : Nat) : (idM n).length = n := mkM_len ..
def shA (d : Nat) : Addr → Addr | ⟨b, o, x⟩ => ⟨b, o + d * 1, x⟩
def dropE (d : Nat) (Q : List Rw) : List El := Q.map fun q => ⟨[.slice (q.p.map (shA d)) (q.xs.length - d) (q.c - d)], []⟩
theorem intE_get {P : List Nat} {i : Nat} (h : i < P.length) : (intE P)[i]? = some ⟨[.int .i64 ((nd P i : Nat) : Int)], []⟩ := by
  unfold intE
  rw [List.getElem?_map, List.getElem?_eq_getElem h, nd_get h]; rfl
def InvR (n : Nat) (N : List (List Nat)) : Tell := fun v r => ∃ (po : Option Addr) (co : Nat) (px : Option Addr) (cx : Nat) (Q : List Rw), (nums Q).map (·.drop n) = N ∧ (∀ r ∈ nums Q, n ≤ r.length ∧ 0 < r.length) ∧ v = .tuple #[.slice po n co, .bool true] ∧ r = [.lst 52 1 po n co (dropE n Q), .lst 52 1 px n cx (mmE Q)]
end Go.Proofs.YtndilfigdbenoaaDoor
