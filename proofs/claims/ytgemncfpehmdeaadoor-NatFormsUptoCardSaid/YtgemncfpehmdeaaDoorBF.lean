/-
  Contracts and lemmas, joined in one text.
-/
import Derived.Test.YtgemncfpehmdeaaDoorBD
import Derived.Test.YtgemncfpehmdeaaDoorBB
import Derived.Deep.DeepCutAuto
import Derived.Outline
set_option linter.unusedVariables false
set_option linter.unusedSimpArgs false

/-
  The walks of simileref03: Norm, Abs, Neg, Sign, Mul, Same, Of.
-/
namespace Go.Proofs.YtgemncfpehmdeaaDoor
open Go.RowKit

theorem rof_any {N : Nat} {X : Int} {w : World} (hX : X = (N : Int)) (hN : N < 18446744073709551616) :
    Calls Tryd.prog 10 #[.int .u64 X] w (RetN w (lim N)) := by
  subst hX
  have hv : val [N % 4294967296, N / 4294967296] = N := by rw [val_pair]; omega
  have hl : Lims [N % 4294967296, N / 4294967296] := lims_pair (by omega) (by omega)
  have HV := Lib.hid hv
  clear hv
  go_enter Tryd.func10, Tryd.ntmps10
  go_wp2_with fail
  have h1 : Sl (w.alloc (.cells ([N % 4294967296, N / 4294967296].map fun x : Nat => Value.int .u32 (x : Int)).toArray 31)) (some ⟨w.heap.size, 0, none⟩) 2 2 [N % 4294967296, N / 4294967296] := Sl.lit w _ hl
  have e1 : ((N % 4294967296 : Nat) : Int) = (N : Int) % 4294967296 := by omega
  have e2 : ((N / 4294967296 : Nat) : Int) = (N : Int) / 4294967296 := by omega
  simp only [List.map_cons, List.map_nil, e1, e2] at h1
  clear e1 e2
  refine (rnorm_any h1 (by omega)).mono ?_
  rw [HV.out]
  rintro e w1 ⟨p1, n1, c1, rfl, hf1, hb1⟩
  clear h1
  go_wp2_with fail
  go_ret
  exact ⟨_, _, _, rfl, hf1.mono (by simp), (below_alloc _ _).trans (hb1.mono (by simp))⟩

/-- What Copy leaves: the same sign and the very same limbs, in new memory. -/
def RetCopy (w : World) (b : Bool) (n : Nat) (xs : List Nat) (e : Ending) (w' : World) : Prop :=
  ∃ p c, e = .returned (.agg #[.bool b, .slice p n c]) ∧ Fr w.heap.size w' p n c xs ∧ Below w.heap.size w w'

end Go.Proofs.YtgemncfpehmdeaaDoor

/-
  The walks of simileref03: Add, Sub, Cmp.
-/
namespace Go.Proofs.YtgemncfpehmdeaaDoor
open Go.RowKit

/-- The two arguments' boxes hold A and B. -/
def BoxAB1 (w : World) (A B : Int) (wc : World) : Prop :=
  ∃ p n c q m d B1, wc.cell? ⟨w.heap.size, 0, none⟩ = some (.bool (ng A)) ∧ wc.cell? ⟨w.heap.size, 1, none⟩ = some (.slice p n c) ∧ wc.cell? ⟨w.heap.size + 1, 0, none⟩ = some (.bool (ng B)) ∧ wc.cell? ⟨w.heap.size + 1, 1, none⟩ = some (.slice q m d) ∧
    Cel w.heap.size wc ∧ Cel (w.heap.size + 1) wc ∧ Cel (w.heap.size + 2) wc ∧ Fr B1 wc p n c (lim A.natAbs) ∧ Fr B1 wc q m d (lim B.natAbs) ∧ w.heap.size + 2 < B1 ∧ Box w (w.heap.size + 2) wc

/-- The two arguments' boxes hold A and B. -/
def BoxAB2 (w : World) (A B : Int) (wc : World) : Prop :=
  ∃ p n c q m d B1, wc.cell? ⟨w.heap.size, 0, none⟩ = some (.bool (ng A)) ∧ wc.cell? ⟨w.heap.size, 1, none⟩ = some (.slice p n c) ∧ wc.cell? ⟨w.heap.size + 1, 0, none⟩ = some (.bool (ng B)) ∧ wc.cell? ⟨w.heap.size + 1, 1, none⟩ = some (.slice q m d) ∧
    Cel w.heap.size wc ∧ Cel (w.heap.size + 1) wc ∧ Cel (w.heap.size + 2) wc ∧ Cel (w.heap.size + 3) wc ∧ Fr B1 wc p n c (lim A.natAbs) ∧ Fr B1 wc q m d (lim B.natAbs) ∧ w.heap.size + 3 < B1 ∧ Box w (w.heap.size + 3) wc

end Go.Proofs.YtgemncfpehmdeaaDoor

/-
  The walks of simileref03: Sub, Cmp; and of the law's own of and same.
-/
namespace Go.Proofs.YtgemncfpehmdeaaDoor
open Go.RowKit

end Go.Proofs.YtgemncfpehmdeaaDoor

/-
  The walks of simileref03: Trunc, Exact.
-/
namespace Go.Proofs.YtgemncfpehmdeaaDoor
open Go.RowKit

end Go.Proofs.YtgemncfpehmdeaaDoor
