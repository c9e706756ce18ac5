/-
  Contracts and lemmas, joined in one text.
-/
import Derived.Test.YtndilfigdbenoaaDoorMm10
import Derived.Test.YtndilfigdbenoaaDoorMmV
set_option linter.unusedVariables false
set_option linter.unusedSimpArgs false
/-
  The law's own functions: faults, square, told.
-/
set_option maxRecDepth 100000
set_option maxHeartbeats 16000000
namespace Go.Proofs.YtndilfigdbenoaaDoor
open Go.RowKit
end Go.Proofs.YtndilfigdbenoaaDoor
/-
  modmat's times, Mul.
-/
namespace Go.Proofs.YtndilfigdbenoaaDoor
open Go.RowKit
def dotp (p : Nat) (F : Nat → Nat) : Nat → Nat
  | 0 => 0
  | n + 1 => (dotp p F n + F n % p) % p
theorem dotp_lt {p : Nat} {F : Nat → Nat} (hp : 0 < p) : ∀ n, dotp p F n < p
  | 0 => hp
  | _ + 1 => Nat.mod_lt _ hp
theorem dotp_em {p : Nat} {F : Nat → Nat} : ∀ n, Em p (dotp p F n : Nat) (su n fun k => (F k : Int))
 | 0 => Em.rf _
 | n + 1 => by
  refine (Em.md _).trans ?_
  rw [Int.natCast_add]
  exact (dotp_em n).add (Em.md _)
def mulE (p : Nat) (A B : List (List Nat)) (C : Nat) (i k : Nat) : Nat := dotp p (fun j => nd (A.getD i []) j * nd (B.getD j []) k) C
def mulM (p : Nat) (A B : List (List Nat)) (C D : Nat) : List (List Nat) := mkM A.length D (mulE p A B C)
end Go.Proofs.YtndilfigdbenoaaDoor
