/-
  Contracts and lemmas, joined in one text.
-/
import Derived.Test.YtndilfigdbenoaaDoorM5
set_option linter.unusedVariables false
set_option linter.unusedSimpArgs false
/-
  A matrix times its inverse; when the determinant is 0; plainly.
-/
namespace Go.Proofs.YtndilfigdbenoaaDoor
open Go.RowKit
theorem getD_map {f : List Nat → List Nat} {M : List (List Nat)} (h0 : f [] = []) (i : Nat) : (M.map f).getD i [] = f (M.getD i []) := by
  unfold List.getD
  rw [List.getElem?_map]
  cases M[i]? with
  | none => exact h0.symm
  | some x => rfl
theorem nd_modM (p : Nat) (M : List (List Nat)) (i j : Nat) : nd ((modM p M).getD i []) j = nd (M.getD i []) j % p := by
  unfold modM
  rw [getD_map rfl]
  generalize M.getD i [] = r
  unfold nd
  rw [List.getD, List.getD, List.getElem?_map]
  cases r[j]? <;> simp
theorem detTo_ne {p C : Nat} {M : List (List Nat)} (hp : MR.Pr p) (h : Shp p C M) : ∀ c, c ≤ C → (detTo p M c ≠ 0 ↔ (redTo p M c).2.length = c)
 | 0, _ => ⟨fun _ => rfl, fun _ => by have := hp.1; show 1 % p ≠ 0; rw [Nat.mod_eq_of_lt (by omega)]; omega⟩
 | c + 1, hc => by
  have hp0 : 0 < p := by have := hp.1; omega
  obtain ⟨i1, i2, i3, i4, i5⟩ := redTo_inv h hp0 c
  have ih := detTo_ne hp h c (by omega)
  have hd := detTo_lt (M := M) hp0 c
  rw [detTo, redTo]
  generalize redTo p M c = s at *
  generalize detTo p M c = d at *
  cases hf : firstNZ s.1 c (s.1.length - s.2.length) s.2.length with
  | none =>
   rw [redStep_none hf]
   exact ⟨fun h => absurd rfl h, fun h => by omega⟩
  | some i =>
   obtain ⟨f1, f2, f3, f4⟩ := firstNZ_is hf
   rw [redStep_some hf]
   have hlt := i2.nd hp0 i c
   simp only [List.length_append, List.length_cons, List.length_nil]
   have key : ((if i = s.2.length then d else (0 + p - d) % p) * nd (s.1.getD i []) c % p = 0) ↔ d = 0 := by
    constructor
    ·intro h0
     rcases MR.Pr.dvd_mul hp (Nat.dvd_of_mod_eq_zero h0) with h1 | h1
     ·split at h1
      ·exact Nat.eq_zero_of_dvd_of_lt h1 hd
      ·have h2 := Nat.eq_zero_of_dvd_of_lt h1 (Nat.mod_lt _ hp0)
       rw [Nat.zero_add] at h2
       by_cases e : d = 0
       ·exact e
       ·rw [Nat.mod_eq_of_lt (by omega)] at h2; omega
     ·have := Nat.le_of_dvd (by omega) h1; omega
    ·intro h0
     subst h0
     split
     ·rw [Nat.zero_mul, Nat.zero_mod]
     ·rw [Nat.zero_add, Nat.sub_zero, Nat.mod_self, Nat.zero_mul, Nat.zero_mod]
   constructor
   ·intro h0
    have := ih.1 (fun e => h0 (key.2 e))
    omega
   ·intro h0 h1
    exact ih.2 (by omega) (key.1 h1)
section
variable {p C : Nat} {M : List (List Nat)}
end
theorem Shp.rect {p C : Nat} {M : List (List Nat)} (h : Shp p C M) (h0 : M.length = 0 → C = 0) : RectM M := fun r hr => by rw [h.cols h0]; exact (h r hr).1
end Go.Proofs.YtndilfigdbenoaaDoor
/-
  Determinants, plainly: by the first column; that of a product is the product.
-/
namespace Go.Proofs.YtndilfigdbenoaaDoor
open Go.RowKit
def sg : Nat → Int
  | 0 => 1
  | n + 1 => -sg n
def mnr (A : Nat → Nat → Int) (i : Nat) : Nat → Nat → Int := fun r c => A (if r < i then r else r + 1) (c + 1)
def dt : Nat → (Nat → Nat → Int) → Int
  | 0, _ => 1
  | n + 1, A => su (n + 1) fun i => sg i * A i 0 * dt n (mnr A i)
def up (A : Nat → Nat → Int) (k : Nat) (u : Nat → Int) : Nat → Nat → Int := fun r => if r = k then u else A r
def tB (n : Nat) (B : Nat → Nat → Int) (u : Nat → Int) : Nat → Int := fun k => su n fun j => u j * B j k
def gB (n : Nat) (B : Nat → Nat → Int) (M : List (List Nat)) : Nat → Nat → Int := fun i => tB n B (en M i)
section
variable {p n : Nat} {B : Nat → Nat → Int} {M : List (List Nat)}
end
theorem mulM_shp {p C D : Nat} {A B : List (List Nat)} (hp : 0 < p) : Shp p D (mulM p A B C D) := mkM_shp fun _ _ _ _ => dotp_lt hp _
end Go.Proofs.YtndilfigdbenoaaDoor
/-
  Ranks, plainly.
-/
namespace Go.Proofs.YtndilfigdbenoaaDoor
open Go.RowKit
def Fac (p C k : Nat) (M : List (List Nat)) : Prop := ∃ B : Nat → Nat → Int, ∀ i, i < M.length → Cb p k C B (en M i)
def rkM (p C : Nat) (M : List (List Nat)) : Nat := (redTo p M C).2.length
end Go.Proofs.YtndilfigdbenoaaDoor
