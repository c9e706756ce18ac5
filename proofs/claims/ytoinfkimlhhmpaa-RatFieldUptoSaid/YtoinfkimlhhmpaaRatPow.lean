
/-
  rat's Pow and the document's.
-/
import Derived.Test.YtoinfkimlhhmpaaRatPow0
set_option linter.unusedVariables false
set_option linter.unusedSimpArgs false
namespace Go.Proofs.Ytoinfkimlhhmpaa
open Go.RowKit

section
variable {P : Program} {o : Oper} {n : Nat} {f : Nat → Value} {w w0 : World} {R : List Res} {K : Act → World → Prop} {Q : Exit → Act → World → Prop} {d : Nat}
theorem omakeFunc {F : FuncId} {xs : Array Operand} {cs : Array Value} (hop : o.op = .makeFunc (.func F) #[] xs) (ho : o.dst = some d) (hx : xs.map (act n f).eval = cs) (hK : K (act n (upd f d (.func (.func F) #[] cs))) w) : OW P o (act n f) w K Q :=
  oval ho (by simp [execOp, hop, hx, Instr.makeFunc]) rfl hK
end
end Go.Proofs.Ytoinfkimlhhmpaa
