
/-
  The walks of simileref03.Euclid, Near, Mod and of zint.Mod.
-/
import Derived.Test.YtlnilkghbbbhbaaWA
set_option linter.unusedVariables false
set_option linter.unusedSimpArgs false
namespace Go.Proofs.Ytlnilkghbbbhbaa
open Go.RowKit

theorem sgn_neg {z s : Int} (h : Hid (z.sign = s)) (hz : z < 0) : s < 0 := by rw [← h.out, Int.sign_eq_neg_one_of_neg hz]; omega
theorem sgn_nn {z s : Int} (h : Hid (z.sign = s)) (hz : 0 ≤ z) : 0 ≤ s := by rw [← h.out]; have := sign_cases z; omega

end Go.Proofs.Ytlnilkghbbbhbaa
