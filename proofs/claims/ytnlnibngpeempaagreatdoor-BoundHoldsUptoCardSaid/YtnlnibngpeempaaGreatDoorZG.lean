
/-
  The walk of zint: Near.
-/
import Derived.Test.YtnlnibngpeempaaGreatDoorBE
import Derived.Test.YtnlnibngpeempaaGreatDoorBB
import Derived.Outline
set_option linter.unusedVariables false
set_option linter.unusedSimpArgs false
namespace Go.Proofs.YtnlnibngpeempaaGreatDoor
open Go.RowKit
theorem zcmp_of {s:Int} {p q:Option Addr} {n m c d:Nat} {b b2:Bool} {xs ys:List Nat} {w:World} (hx:Sl w p n c xs) (hy:Sl w q m d ys) (hn:n ≤ 17592186044416) (hm:m ≤ 17592186044416) (hs:Hid (cmpZ (zv b (val xs)) (zv b2 (val ys)) = s)) :
  Calls Tryz.prog 70 #[.agg #[.bool b,.slice p n c],.agg #[.bool b2,.slice q m d]] w (RetInt w s):=by
 rw [← hs.out]; exact zcmp_any hx hy hn hm
end Go.Proofs.YtnlnibngpeempaaGreatDoor
