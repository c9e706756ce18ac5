
/-
  rat's Height and the document's.
-/
import Derived.Test.YtoinfkimlhhmpaaRLists
import Derived.Test.YtoinfkimlhhmpaaRatPow0
set_option linter.unusedVariables false
set_option linter.unusedSimpArgs false
namespace Go.Proofs.Ytoinfkimlhhmpaa
open Go.RowKit

section
variable {P : Program} {o : Oper} {n : Nat} {f : Nat → Value} {w w0 : World} {R : List Res} {K : Act → World → Prop} {Q : Exit → Act → World → Prop} {d : Nat}
end
/-- The most bits of the first i. -/
def hgt (L : List (Int × Int)) (i : Nat) : Nat := (L.take i).foldl (fun h e => max (max h (blen e.1.natAbs)) (blen e.2.natAbs)) 0
def hst (h a b : Nat) : Nat → Nat
  | 0 => h
  | 1 => max h a
  | _ => max (max h a) b

end Go.Proofs.Ytoinfkimlhhmpaa
