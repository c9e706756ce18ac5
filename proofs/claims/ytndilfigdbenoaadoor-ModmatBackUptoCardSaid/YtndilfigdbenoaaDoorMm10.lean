
/-
  The document's Inverse.
-/
import Derived.Test.YtndilfigdbenoaaDoorMm9
set_option linter.unusedVariables false
set_option linter.unusedSimpArgs false
set_option maxRecDepth 100000
set_option maxHeartbeats 16000000
namespace Go.Proofs.YtndilfigdbenoaaDoor
open Go.RowKit
def augL (M N : List (List Nat)) (i : Nat) : List (List Nat) := (List.range i).map fun k => M.getD k [] ++ N.getD k []
theorem modM_get {p : Nat} {M : List (List Nat)} {i : Nat} (h : i < M.length) : (modM p M).getD i [] = (M.getD i []).map (· % p) := by simp [modM, List.getD, h]
theorem idM_get {n i : Nat} (h : i < n) : (idM n).getD i [] = rowF n (fun k => if i = k then 1 else 0) := by simp [idM, mkM, List.getD, h]
theorem idM_len (n : Nat) : (idM n).length = n := mkM_len ..
def shA (d : Nat) : Addr → Addr | ⟨b, o, x⟩ => ⟨b, o + d * 1, x⟩
def dropE (d : Nat) (Q : List Rw) : List El := Q.map fun q => ⟨[.slice (q.p.map (shA d)) (q.xs.length - d) (q.c - d)], []⟩
def InvR (n : Nat) (N : List (List Nat)) : Tell := fun v r => ∃ (po : Option Addr) (co : Nat) (px : Option Addr) (cx : Nat) (Q : List Rw), (nums Q).map (·.drop n) = N ∧ (∀ r ∈ nums Q, n ≤ r.length ∧ 0 < r.length) ∧ v = .tuple #[.slice po n co, .bool true] ∧ r = [.lst 52 1 po n co (dropE n Q), .lst 52 1 px n cx (mmE Q)]
theorem redTo_incr {p : Nat} {M : List (List Nat)} : ∀ c i, i < (redTo p M c).2.length → i ≤ nd (redTo p M c).2 i ∧ nd (redTo p M c).2 i + (redTo p M c).2.length ≤ c + i
 | 0, i, h => by cases h
 | c + 1, i, h => by
  have hr : redTo p M (c + 1) = redStep p c (redTo p M c) := rfl
  cases hf : firstNZ (redTo p M c).1 c ((redTo p M c).1.length - (redTo p M c).2.length) (redTo p M c).2.length with
  | none =>
   rw [hr, redStep_none hf] at h ⊢
   have := redTo_incr (p := p) (M := M) c i h
   omega
  | some j =>
   rw [hr, redStep_some hf] at h ⊢
   simp only [List.length_append, List.length_cons, List.length_nil] at h ⊢
   rw [nd_append]
   by_cases hi : i < (redTo p M c).2.length
   ·have := redTo_incr (p := p) (M := M) c i hi
    rw [if_pos hi]; omega
   ·have e : i = (redTo p M c).2.length := by omega
    have hle : (redTo p M c).2.length ≤ c := by
     by_cases h0 : (redTo p M c).2.length = 0
     ·omega
     ·have := redTo_incr (p := p) (M := M) c 0 (by omega)
      omega
    rw [if_neg hi, e, Nat.sub_self]
    show _ ≤ c ∧ c + _ ≤ _
    omega
theorem piv_ok {p C n k : Nat} {M : List (List Nat)} (h : Shp p C M) (hp : 0 < p) (hl : M.length = n) (hn : ¬ (redTo p M n).2.length < n) : redTo p M (n + k) = redTo p M n ∧ (redTo p M n).2.length = n ∧ ∀ i, i < n → nd (redTo p M n).2 i = i := by
  obtain ⟨h1, _, h3, _, _⟩ := redTo_inv h hp n
  have hlen : (redTo p M n).2.length = n := by omega
  refine ⟨redTo_full (by omega) k, hlen, fun i hi => ?_⟩
  have := redTo_incr (p := p) (M := M) n i (by omega)
  omega
end Go.Proofs.YtndilfigdbenoaaDoor
