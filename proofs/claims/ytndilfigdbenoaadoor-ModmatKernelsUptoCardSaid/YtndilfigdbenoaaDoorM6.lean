/-
  Contracts and lemmas, joined in one text.
-/
import Derived.Test.YtndilfigdbenoaaDoorM5
set_option linter.unusedVariables false
set_option linter.unusedSimpArgs false
/-
  A matrix times its inverse; when the determinant is 0; plainly.
-/
namespace Go.Proofs.YtndilfigdbenoaaDoor
open Go.RowKit
theorem getD_map {f : List Nat → List Nat} {M : List (List Nat)} (h0 : f [] = []) (i : Nat) : (M.map f).getD i [] = f (M.getD i []) := by
  unfold List.getD
  rw [List.getElem?_map]
  cases M[i]? with
  | none => exact h0.symm
  | some x => rfl
theorem nd_modM (p : Nat) (M : List (List Nat)) (i j : Nat) : nd ((modM p M).getD i []) j = nd (M.getD i []) j % p := by
  unfold modM
  rw [getD_map rfl]
  generalize M.getD i [] = r
  unfold nd
  rw [List.getD, List.getD, List.getElem?_map]
  cases r[j]? <;> simp
theorem en_modM (p : Nat) (M : List (List Nat)) (i j : Nat) : Em p (en (modM p M) i j) (en M i j) := by
  unfold en; rw [nd_modM]; exact Em.md _
theorem su_delta {n k : Nat} {f : Nat → Int} (hk : k < n) : su n (fun l => f l * ((if l = k then 1 else 0 : Nat) : Int)) = f k := by
  rw [su_congr (g := fun l => if l = k then f l else 0), su_one hk]
  intro l _
  split <;> simp
section
variable {p C : Nat} {M : List (List Nat)}
end
end Go.Proofs.YtndilfigdbenoaaDoor
/-
  Determinants, plainly: by the first column; that of a product is the product.
-/
namespace Go.Proofs.YtndilfigdbenoaaDoor
open Go.RowKit
def sg : Nat → Int
  | 0 => 1
  | n + 1 => -sg n
def mnr (A : Nat → Nat → Int) (i : Nat) : Nat → Nat → Int := fun r c => A (if r < i then r else r + 1) (c + 1)
def dt : Nat → (Nat → Nat → Int) → Int
  | 0, _ => 1
  | n + 1, A => su (n + 1) fun i => sg i * A i 0 * dt n (mnr A i)
def up (A : Nat → Nat → Int) (k : Nat) (u : Nat → Int) : Nat → Nat → Int := fun r => if r = k then u else A r
def tB (n : Nat) (B : Nat → Nat → Int) (u : Nat → Int) : Nat → Int := fun k => su n fun j => u j * B j k
def gB (n : Nat) (B : Nat → Nat → Int) (M : List (List Nat)) : Nat → Nat → Int := fun i => tB n B (en M i)
section
variable {p n : Nat} {B : Nat → Nat → Int} {M : List (List Nat)}
end
end Go.Proofs.YtndilfigdbenoaaDoor
/-
  Ranks, plainly.
-/
namespace Go.Proofs.YtndilfigdbenoaaDoor
open Go.RowKit
def Fac (p C k : Nat) (M : List (List Nat)) : Prop := ∃ B : Nat → Nat → Int, ∀ i, i < M.length → Cb p k C B (en M i)
theorem su_cut {f : Nat → Int} {m : Nat} : ∀ {n : Nat}, m ≤ n → (∀ l, m ≤ l → l < n → f l = 0) → su n f = su m f
 | 0, h, _ => by rw [Nat.le_zero.1 h]
 | n + 1, h, h0 => by
  by_cases e : m = n + 1
  ·rw [e]
  ·rw [su, su_cut (by omega) (fun l h1 h2 => h0 l h1 (by omega)), h0 n (by omega) (by omega)]; omega
theorem redTo_fac {p C : Nat} {M : List (List Nat)} (hp : MR.Pr p) (h : Shp p C M) : Fac p C (redTo p M C).2.length M := by
  obtain ⟨s1, s2⟩ := redTo_sp hp h C
  have hrf := redTo_rf hp h C (Nat.le_refl _)
  obtain ⟨i1, i2, i3, _⟩ := redTo_inv h (show 0 < p by have := hp.1; omega) C
  refine ⟨en (redTo p M C).1, fun i hi => ?_⟩
  obtain ⟨s, hs⟩ := s2 i hi
  refine ⟨s, fun j hj => (hs j hj).trans (Em.of_eq (su_cut (by omega) fun l h1 h2 => ?_))⟩
  have := hrf.zero l h1 h2 j hj
  unfold en; rw [this]; exact Int.mul_zero _
theorem least_nat {Q : Nat → Prop} (n : Nat) (h : Q n) : ∃ c, Q c ∧ ∀ d, d < c → ¬ Q d := by
 induction n using Nat.strongRecOn with
 | _ n ih =>
  by_cases h' : ∃ d, d < n ∧ Q d
  ·obtain ⟨d, h1, h2⟩ := h'; exact ih d h1 h2
  ·exact ⟨n, h, fun d hd hq => h' ⟨d, hd, hq⟩⟩
theorem no_pivot {P : List Nat} {r : Nat} (hi : ∀ i k, i < k → k < P.length → nd P i < nd P k) (hl : P.length < r) : ∃ c, c < r ∧ ∀ i, i < P.length → nd P i ≠ c := by
 have hge : ∀ i, i < P.length → i ≤ nd P i := by
  intro i
  induction i with
  | zero => intro _; omega
  | succ i ih => intro h; have := ih (by omega); have := hi i (i + 1) (by omega) h; omega
 obtain ⟨c, h1, h2⟩ := least_nat (Q := fun c => ¬ (c < P.length ∧ nd P c = c)) P.length (fun h => by have := h.1; omega)
 have hc : c ≤ P.length := Classical.byContradiction fun e => h2 P.length (by omega) (fun h => by have := h.1; omega)
 refine ⟨c, by omega, fun i hil e => ?_⟩
 by_cases h3 : i < c
 ·have h4 := Classical.not_not.1 (h2 i h3)
  have := h4.2; omega
 ·have h5 : nd P c ≠ c := fun h => h1 ⟨by omega, h⟩
  have h6 := hge c (by omega)
  by_cases h7 : i = c
  ·subst h7; omega
  ·have := hi c i (by omega) hil; omega
theorem ker_red {p C c : Nat} {s : List (List Nat) × List Nat} {v : Nat → Int} (hrf : Rf p C s) (hc : c < C) (hl : s.2.length ≤ s.1.length)
  (hv : ∀ j, j < C → Em p (v j) ((if j = c then 1 else 0) - su s.2.length fun i => if nd s.2 i = j then en s.1 i c else 0)) (l : Nat) (hll : l < s.1.length) : Em p (su C fun j => en s.1 l j * v j) 0 := by
 by_cases h : s.2.length ≤ l
 ·refine Em.of_eq (su_zero fun j hj => ?_)
  have := hrf.zero l h hll j hj
  unfold en; rw [this]; exact Int.zero_mul _
 ·refine (su_em fun j hj => (Em.rf (en s.1 l j)).mul (hv j hj)).trans (Em.of_eq ?_)
  rw [su_congr (g := fun j => (if j = c then en s.1 l j else 0) + -1 * su s.2.length fun i => if j = nd s.2 i then en s.1 l j * en s.1 i c else 0)
   (fun j _ => by
    rw [Int.mul_sub, ← su_mul]
    rw [su_congr (n := s.2.length) (g := fun i => if j = nd s.2 i then en s.1 l j * en s.1 i c else 0) (fun i _ => by
     by_cases e : nd s.2 i = j
     ·rw [if_pos e, if_pos e.symm]
     ·rw [if_neg e, if_neg (fun h => e h.symm), Int.mul_zero])]
    split
    ·rw [Int.mul_one]; omega
    ·rw [Int.mul_zero]; omega),
   su_add, su_one hc, su_mul, su_swap,
   su_congr (n := s.2.length) (g := fun i => if i = l then en s.1 i c else 0) (fun i hi => by
    rw [su_one (f := fun j => en s.1 l j * en s.1 i c) (hrf.low i hi)]
    have h1 := hrf.unit i hi l hll
    show en s.1 l (nd s.2 i) * en s.1 i c = _
    unfold en at *
    rw [h1]
    by_cases e : l = i
    ·rw [if_pos e, if_pos e.symm, show ((1 : Nat) : Int) = 1 from rfl, Int.one_mul]
    ·rw [if_neg e, if_neg (fun h => e h.symm), show ((0 : Nat) : Int) = 0 from rfl, Int.zero_mul]),
   su_one (by omega)]
  omega
theorem ker_all {p C c : Nat} {M : List (List Nat)} {v : Nat → Int} (hp : MR.Pr p) (h : Shp p C M) (hc : c < C)
  (hv : ∀ j, j < C → Em p (v j) ((if j = c then 1 else 0) - su (redTo p M C).2.length fun i => if nd (redTo p M C).2 i = j then en (redTo p M C).1 i c else 0)) (l : Nat) (hll : l < M.length) : Em p (su C fun j => en M l j * v j) 0 := by
 obtain ⟨s1, s2⟩ := redTo_sp hp h C
 have hrf := redTo_rf hp h C (Nat.le_refl _)
 obtain ⟨i1, i2, i3, _⟩ := redTo_inv h (show 0 < p by have := hp.1; omega) C
 obtain ⟨s, hs⟩ := s2 l hll
 refine (su_em fun j hj => (hs j hj).mul (Em.rf (v j))).trans ?_
 refine (Em.of_eq (b := su (redTo p M C).1.length fun i => s i * su C fun j => en (redTo p M C).1 i j * v j) ?_).trans ?_
 ·rw [su_congr (g := fun j => su (redTo p M C).1.length fun i => s i * (en (redTo p M C).1 i j * v j)) (fun j _ => by
   rw [← su_mulr]; exact su_congr fun i _ => Int.mul_assoc ..), su_swap]
  exact su_congr fun i _ => su_mul ..
 ·refine (su_em (g := fun i => s i * 0) fun i hi => (Em.rf _).mul (ker_red hrf hc (by omega) hv i hi)).trans (Em.of_eq (su_zero fun i _ => Int.mul_zero _))
theorem ker_wide {p k r : Nat} {S : Nat → Nat → Int} (hp : MR.Pr p) (hk : k < r) : ∃ v : Nat → Int, (∀ l, l < k → Em p (su r fun i => S i l * v i) 0) ∧ ∃ c, c < r ∧ Em p (v c) 1 := by
 have hp1 := hp.1
 have hp0 : 0 < p := by omega
 obtain ⟨W, hW⟩ : ∃ W, mkM k r (fun l i => (S i l % (p : Int)).toNat) = W := ⟨_, rfl⟩
 have hWe : ∀ l, l < k → ∀ i, i < r → Em p (S i l) (en W l i) := fun l hl i hi => by
  have e : en W l i = ((S i l % (p : Int)).toNat : Int) := by
   unfold en
   rw [← hW, mkM, show ((List.range k).map fun i_1 => rowF r ((fun l i => (S i l % (p : Int)).toNat) i_1)).getD l [] = rowF r (fun i => (S i l % (p : Int)).toNat) by simp [List.getD, hl], rowF_nd hi]
  have h0 := Int.emod_nonneg (S i l) (show (p : Int) ≠ 0 by omega)
  rw [e, Int.toNat_of_nonneg h0]
  exact ⟨S i l / p, by have := Int.emod_add_mul_ediv (S i l) p; omega⟩
 have hsh : Shp p r W := by
  rw [← hW]
  refine mkM_shp fun l i _ _ => ?_
  have h0 := Int.emod_nonneg (S i l) (show (p : Int) ≠ 0 by omega)
  have h1 := Int.emod_lt_of_pos (S i l) (show (0 : Int) < p by omega)
  omega
 have hWl : W.length = k := by rw [← hW, mkM_len]
 have hrf := redTo_rf hp hsh r (Nat.le_refl _)
 obtain ⟨i1, i2, i3, _⟩ := redTo_inv hsh hp0 r
 obtain ⟨c, hc, hcP⟩ := no_pivot (r := r) hrf.incr (by omega)
 refine ⟨fun j => (if j = c then 1 else 0) - su (redTo p W r).2.length fun i => if nd (redTo p W r).2 i = j then en (redTo p W r).1 i c else 0, fun l hl => ?_, c, hc, Em.of_eq ?_⟩
 ·refine (su_em fun i hi => (hWe l hl i hi).mul (Em.rf _)).trans (ker_all hp hsh hc (fun j _ => Em.rf _) l (by omega))
 ·simp only [if_pos trivial]
  rw [su_zero fun i hi => if_neg (hcP i hi)]; rfl
theorem fac_rank {p C k : Nat} {M : List (List Nat)} (hp : MR.Pr p) (h : Shp p C M) (hF : Fac p C k M) : (redTo p M C).2.length ≤ k := by
 refine Classical.byContradiction fun hn => ?_
 have hp1 := hp.1
 obtain ⟨s1, s2⟩ := redTo_sp hp h C
 have hrf := redTo_rf hp h C (Nat.le_refl _)
 obtain ⟨i1, i2, i3, _⟩ := redTo_inv h (show 0 < p by omega) C
 obtain ⟨B, hB⟩ := hF
 generalize redTo p M C = s at *
 obtain ⟨S, hS⟩ := Cb.all (k := s.2.length) (G := en s.1) (fun i hi => (s1 i (by omega)).trans hB)
 obtain ⟨v, hv, c, hc, hc1⟩ := ker_wide (S := S) hp (show k < s.2.length by omega)
 have hcl := hrf.low c hc
 have h1 : Em p (v c) (su s.2.length fun i => v i * su k fun l => S i l * B l (nd s.2 c)) := by
  refine (Em.of_eq (b := su s.2.length fun i => v i * en s.1 i (nd s.2 c)) ?_).trans (su_em fun i hi => (Em.rf _).mul (hS i hi _ hcl))
  refine (su_delta (f := v) hc).symm.trans (su_congr fun i hi => ?_)
  have := hrf.unit c hc i (by omega)
  unfold en; rw [this]
 have h2 : Em p (su s.2.length fun i => v i * su k fun l => S i l * B l (nd s.2 c)) 0 := by
  refine (Em.of_eq (b := su k fun l => (su s.2.length fun i => S i l * v i) * B l (nd s.2 c)) ?_).trans ((su_em (g := fun l => 0 * B l (nd s.2 c)) fun l hl => (hv l hl).mul (Em.rf _)).trans (Em.of_eq (su_zero fun l _ => Int.zero_mul _)))
  rw [su_congr (g := fun i => su k fun l => S i l * v i * B l (nd s.2 c)) (fun i _ => by
   rw [← su_mul]; exact su_congr fun l _ => by rw [← Int.mul_assoc, Int.mul_comm (v i)]), su_swap]
  exact su_congr fun l _ => su_mulr ..
 have h3 : Em p 1 0 := hc1.symm.trans (h1.trans h2)
 have := Em.eq (p := p) (x := 1) (y := 0) (by omega) (by omega) h3
 omega
def rkM (p C : Nat) (M : List (List Nat)) : Nat := (redTo p M C).2.length
theorem rk_le {p C D : Nat} {M N : List (List Nat)} (hp : MR.Pr p) (hM : Shp p C M) (hN : Shp p D N) (h : ∀ k, Fac p C k M → Fac p D k N) : rkM p D N ≤ rkM p C M := fac_rank hp hN (h _ (redTo_fac hp hM))
end Go.Proofs.YtndilfigdbenoaaDoor
