
/-
  The law's own functions: faults, square, told.
-/
import Derived.Test.YtndilfigdbenoaaDoorMm10
set_option linter.unusedVariables false
set_option linter.unusedSimpArgs false
set_option maxRecDepth 100000
set_option maxHeartbeats 16000000
namespace Go.Proofs.YtndilfigdbenoaaDoor
open Go.RowKit
theorem map_drop_small {p C n : Nat} {M : List (List Nat)} (h : Shp p C M) (hl : M.length ≤ 1048576) (hC : C ≤ 1048576 + n) : SmallM (M.map (·.drop n)) := by
  refine ⟨by rw [List.length_map]; exact hl, fun r hr => ?_⟩
  obtain ⟨q, hq, rfl⟩ := List.mem_map.1 hr
  have := (h q hq).1
  simp only [List.length_drop]; omega
end Go.Proofs.YtndilfigdbenoaaDoor
