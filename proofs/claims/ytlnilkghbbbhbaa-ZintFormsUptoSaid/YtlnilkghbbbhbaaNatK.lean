
/-
  The walk of nat.Sqrt.
-/
import Derived.Test.YtlnilkghbbbhbaaNatI2
import Derived.Test.YtlnilkghbbbhbaaNum7
import Derived.Test.YtlnilkghbbbhbaaMore
import Derived.Test.YtlnilkghbbbhbaaRefG
import Derived.Deep.LoopGhost
namespace Go.Proofs.Ytlnilkghbbbhbaa
open Go.RowKit

/-- What Newton's loop keeps. -/
def RootAt (w : World) (L N k : Nat) (x : Value) (wr : World) : Prop :=
  ∃ p n c X, x = .slice p n c ∧ Fr w.heap.size wr p n c (lim X) ∧ Below w.heap.size w wr ∧ n ≤ L ∧ 0 < X ∧ rt N ≤ X ∧ Hid (X = k)

end Go.Proofs.Ytlnilkghbbbhbaa
