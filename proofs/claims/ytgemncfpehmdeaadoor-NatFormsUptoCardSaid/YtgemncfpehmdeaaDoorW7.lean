
/-
  A region that draws its order, where one that may come late waits for another that may.
-/
import Derived.Test.YtgemncfpehmdeaaDoorWA
set_option linter.unusedVariables false
set_option linter.unusedSimpArgs false
namespace Go.Proofs.YtgemncfpehmdeaaDoor
open Go.RowKit

def stageP (ops : Array Oper) (ds : List Nat) (nd sr : List (List Nat)) (pu : List Nat) (m : Nat) : Bool :=
  ds.length == m && Nat.ble m ops.size && decide ds.Nodup &&
  ((List.range m).all fun i => match ops[i]? with
    | some o => o.dst == ds[i]? && ((nd.getD i []).all fun k => (needs o).contains k || (needs o).any fun j => (nd.getD j []).contains k) && decide (nd.getD i []).Nodup && ((sr.getD i []).all fun j => (nd.getD i []).contains j && Nat.blt j i) && ((nd.getD i []).all fun j => Nat.blt j i) && (needs o).all fun j => Nat.blt j i
    | none => false) &&
  ((List.range ops.size).all fun j => Nat.blt j m || match ops[j]? with
    | some o => ((needs o).any fun k => Nat.ble m k) || (List.range m).all fun i => pu.contains i || (needs o).contains i || (needs o).any fun j => (nd.getD j []).contains i
    | none => true) &&
  (pu.all fun i => match ops[i]? with
    | some o => (List.range ops.size).all fun j => j == i || (Nat.blt j m && !pu.contains j) || match ops[j]? with
      | some oj => (needs oj).contains i || (needs o).contains j || o.apart ops oj
      | none => true
    | none => true)

section
variable {P : Program} {ops : Array Oper} {n : Nat} {w0 : World} {Q : Exit → Act → World → Prop}
end

end Go.Proofs.YtgemncfpehmdeaaDoor
