/-
  Contracts and lemmas, joined in one text.
-/
import Derived.Test.YtndilfigdbenoaaDoorM5
set_option linter.unusedVariables false
set_option linter.unusedSimpArgs false
/-
  A matrix times its inverse; when the determinant is 0; plainly.
-/
namespace Go.Proofs.YtndilfigdbenoaaDoor
open Go.RowKit
section
variable {p C : Nat} {M : List (List Nat)}
end
end Go.Proofs.YtndilfigdbenoaaDoor
/-
  Determinants, plainly: by the first column; that of a product is the product.
-/
namespace Go.Proofs.YtndilfigdbenoaaDoor
open Go.RowKit
def sg : Nat → Int
  | 0 => 1
  | n + 1 => -sg n
def mnr (A : Nat → Nat → Int) (i : Nat) : Nat → Nat → Int := fun r c => A (if r < i then r else r + 1) (c + 1)
def dt : Nat → (Nat → Nat → Int) → Int
  | 0, _ => 1
  | n + 1, A => su (n + 1) fun i => sg i * A i 0 * dt n (mnr A i)
def up (A : Nat → Nat → Int) (k : Nat) (u : Nat → Int) : Nat → Nat → Int := fun r => if r = k then u else A r
def tB (n : Nat) (B : Nat → Nat → Int) (u : Nat → Int) : Nat → Int := fun k => su n fun j => u j * B j k
def gB (n : Nat) (B : Nat → Nat → Int) (M : List (List Nat)) : Nat → Nat → Int := fun i => tB n B (en M i)
section
variable {p n : Nat} {B : Nat → Nat → Int} {M : List (List Nat)}
end
end Go.Proofs.YtndilfigdbenoaaDoor
/-
  Ranks, plainly.
-/
namespace Go.Proofs.YtndilfigdbenoaaDoor
open Go.RowKit
def Fac (p C k : Nat) (M : List (List Nat)) : Prop := ∃ B : Nat → Nat → Int, ∀ i, i < M.length → Cb p k C B (en M i)
theorem least_nat {Q : Nat → Prop} (n : Nat) (h : Q n) : ∃ c, Q c ∧ ∀ d, d < c → ¬ Q d := by
 induction n using Nat.strongRecOn with
 | _ n ih =>
  by_cases h' : ∃ d, d < n ∧ Q d
  ·obtain ⟨d, h1, h2⟩ := h'; exact ih d h1 h2
  ·exact ⟨n, h, fun d hd hq => h' ⟨d, hd, hq⟩⟩
def rkM (p C : Nat) (M : List (List Nat)) : Nat := (redTo p M C).2.length
end Go.Proofs.YtndilfigdbenoaaDoor
