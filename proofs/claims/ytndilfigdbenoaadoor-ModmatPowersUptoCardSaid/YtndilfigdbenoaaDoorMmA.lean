/-
  Contracts and lemmas, joined in one text.
-/
import Derived.Test.YtndilfigdbenoaaDoorBA
import Derived.Test.YtndilfigdbenoaaDoorMR
set_option linter.unusedVariables false
set_option linter.unusedSimpArgs false
/-
  Matrices of words modulo a prime, plainly: elimination, row by row.
-/
namespace Go.Proofs.YtndilfigdbenoaaDoor
open Go.RowKit
def modM (p : Nat) (M : List (List Nat)) : List (List Nat) := M.map fun r => r.map (· % p)
def colsM (M : List (List Nat)) : Nat := (M.getD 0 []).length
def RectM (M : List (List Nat)) : Prop := ∀ r ∈ M, r.length = colsM M
def Shp (p C : Nat) (M : List (List Nat)) : Prop := ∀ r ∈ M, r.length = C ∧ ∀ x ∈ r, x < p
theorem modM_len (p : Nat) (M : List (List Nat)) : (modM p M).length = M.length := List.length_map _
theorem RectM.shp {p : Nat} {M : List (List Nat)} (h : RectM M) (hp : 0 < p) : Shp p (colsM M) (modM p M) := fun r hr => by
  obtain ⟨s, hs, rfl⟩ := List.mem_map.1 hr
  refine ⟨by rw [List.length_map]; exact h s hs, fun x hx => ?_⟩
  obtain ⟨y, _, rfl⟩ := List.mem_map.1 hx
  exact Nat.mod_lt _ hp
theorem Shp.get {p C : Nat} {M : List (List Nat)} (h : Shp p C M) {i : Nat} {r : List Nat} (hi : M[i]? = some r) : r.length = C ∧ ∀ x ∈ r, x < p := h r (List.mem_of_getElem? hi)
theorem getD_get {M : List (List Nat)} {i : Nat} {r : List Nat} (h : M[i]? = some r) : M.getD i [] = r := by simp [List.getD, h]
theorem get_getD {M : List (List Nat)} {i : Nat} (h : i < M.length) : M[i]? = some (M.getD i []) := by simp [List.getD, h]
theorem Shp.at {p C : Nat} {M : List (List Nat)} (h : Shp p C M) {i : Nat} (hi : i < M.length) : (M.getD i []).length = C ∧ ∀ x ∈ M.getD i [], x < p := h.get (get_getD hi)
theorem Shp.nd {p C : Nat} {M : List (List Nat)} (h : Shp p C M) (hp : 0 < p) (i k : Nat) : nd (M.getD i []) k < p := by
 by_cases hi : i < M.length
 ·by_cases hk : k < (M.getD i []).length
  ·rw [nd_get hk]; exact (h.at hi).2 _ (List.getElem_mem hk)
  ·rw [nd_lt_len (by omega)]; exact hp
 ·have : M.getD i [] = [] := by simp [List.getD, List.getElem?_eq_none (by omega : M.length ≤ i)]
  rw [this]; exact hp
theorem Shp.set {p C : Nat} {M : List (List Nat)} (h : Shp p C M) (i : Nat) {r : List Nat} (hr : r.length = C ∧ ∀ x ∈ r, x < p) : Shp p C (M.set i r) := fun s hs => by
  rcases List.mem_or_eq_of_mem_set hs with hs | rfl
  · exact h s hs
  · exact hr
theorem getD_set_self {M : List (List Nat)} {i : Nat} (h : i < M.length) (r : List Nat) : (M.set i r).getD i [] = r := by simp [List.getD, h]
theorem getD_set_ne {M : List (List Nat)} {i j : Nat} (h : i ≠ j) (r : List Nat) : (M.set i r).getD j [] = M.getD j [] := by simp [List.getD, List.getElem?_set_ne h]
theorem set_getD {M : List (List Nat)} {i : Nat} (h : i < M.length) : M.set i (M.getD i []) = M := by
  apply List.ext_getElem?
  intro j
  rw [List.getElem?_set]
  split
  · subst_vars; exact (get_getD h).symm
  · rfl
def firstNZ (M : List (List Nat)) (c : Nat) : Nat → Nat → Option Nat
  | 0, _ => none
  | k + 1, i => if nd (M.getD i []) c ≠ 0 then some i else firstNZ M c k (i + 1)
theorem firstNZ_none {M : List (List Nat)} {c : Nat} : ∀ {k i : Nat}, (∀ l, i ≤ l → l < i + k → nd (M.getD l []) c = 0) → firstNZ M c k i = none
 | 0, _, _ => rfl
 | k + 1, i, h => by
  rw [firstNZ, if_neg (by have := h i (Nat.le_refl _) (by omega); omega)]
  exact firstNZ_none fun l h1 h2 => h l (by omega) (by omega)
theorem firstNZ_some {M : List (List Nat)} {c j : Nat} : ∀ {k i : Nat}, i ≤ j → j < i + k → (∀ l, i ≤ l → l < j → nd (M.getD l []) c = 0) → nd (M.getD j []) c ≠ 0 → firstNZ M c k i = some j
 | 0, _, h1, h2, _, _ => by omega
 | k + 1, i, h1, h2, h, hj => by
  by_cases e : i = j
  ·subst e; rw [firstNZ, if_pos hj]
  ·rw [firstNZ, if_neg (by have := h i (Nat.le_refl _) (by omega); omega)]
   exact firstNZ_some (by omega) (by omega) (fun l h1 h2 => h l (by omega) h2) hj
theorem firstNZ_is {M : List (List Nat)} {c j : Nat} : ∀ {k i : Nat}, firstNZ M c k i = some j → i ≤ j ∧ j < i + k ∧ nd (M.getD j []) c ≠ 0 ∧ ∀ l, i ≤ l → l < j → nd (M.getD l []) c = 0
 | 0, _, h => by cases h
 | k + 1, i, h => by
  rw [firstNZ] at h
  split at h
  ·rename_i h0
   simp only [Option.some.injEq] at h
   subst h
   exact ⟨Nat.le_refl _, by omega, h0, fun l h1 h2 => by omega⟩
  ·rename_i h0
   obtain ⟨h1, h2, h3, h4⟩ := firstNZ_is h
   refine ⟨by omega, by omega, h3, fun l h5 h6 => ?_⟩
   by_cases e : l = i
   ·subst e; omega
   ·exact h4 l (by omega) h6
theorem firstNZ_zero {M : List (List Nat)} {c : Nat} : ∀ {k i : Nat}, firstNZ M c k i = none → ∀ l, i ≤ l → l < i + k → nd (M.getD l []) c = 0
 | 0, _, _, l, h1, h2 => by omega
 | k + 1, i, h, l, h1, h2 => by
  rw [firstNZ] at h
  split at h
  ·cases h
  ·by_cases e : l = i
   ·subst e; omega
   ·exact firstNZ_zero h l (by omega) (by omega)
def pinv (p a : Nat) : Nat := a ^ (p - 2) % p
def scalR (p f : Nat) (b : List Nat) : List Nat := b.map fun x => x * f % p
def lessR (p f : Nat) (a b : List Nat) : List Nat := List.zipWith (fun x y => (x + p - f * y % p) % p) a b
def swapM (M : List (List Nat)) (i j : Nat) : List (List Nat) := (M.set i (M.getD j [])).set j (M.getD i [])
def elimM (p r c : Nat) (M : List (List Nat)) : Nat → List (List Nat)
  | 0 => M
  | i + 1 => if i = r then elimM p r c M i else (elimM p r c M i).set i (lessR p (nd ((elimM p r c M i).getD i []) c) ((elimM p r c M i).getD i []) ((elimM p r c M i).getD r []))
theorem scalR_len (p f : Nat) (b : List Nat) : (scalR p f b).length = b.length := List.length_map _
theorem lessR_len {p f : Nat} {a b : List Nat} (h : a.length = b.length) : (lessR p f a b).length = a.length := by simp [lessR, h]
theorem scalR_nd {p f : Nat} (b : List Nat) (k : Nat) : nd (scalR p f b) k = nd b k * f % p := by
  unfold nd scalR
  rw [List.getD, List.getD, List.getElem?_map]
  cases b[k]? <;> simp
theorem lessR_nd {p f : Nat} {a b : List Nat} {k : Nat} (h : a.length = b.length) (hk : k < a.length) : nd (lessR p f a b) k = (nd a k + p - f * nd b k % p) % p := by
  unfold lessR
  rw [nd_get (by simp [h] at *; omega), nd_get hk, nd_get (by omega), List.getElem_zipWith]
theorem scalR_lt {p f : Nat} {b : List Nat} (hp : 0 < p) : ∀ x ∈ scalR p f b, x < p := fun x hx => by
  obtain ⟨y, _, rfl⟩ := List.mem_map.1 hx
  exact Nat.mod_lt _ hp
theorem mem_nd {a : List Nat} {x : Nat} (h : x ∈ a) : ∃ k, k < a.length ∧ nd a k = x := by
  obtain ⟨k, hk, rfl⟩ := List.getElem_of_mem h
  exact ⟨k, hk, nd_get hk⟩
theorem lessR_lt {p f : Nat} {a b : List Nat} (h : a.length = b.length) (hp : 0 < p) : ∀ x ∈ lessR p f a b, x < p := fun x hx => by
  obtain ⟨k, hk, rfl⟩ := mem_nd hx
  rw [lessR_nd h (by rw [lessR_len h] at hk; exact hk)]
  exact Nat.mod_lt _ hp
theorem lessR_zero {p : Nat} {a b : List Nat} (h : a.length = b.length) (ha : ∀ x ∈ a, x < p) : lessR p 0 a b = a := by
  apply nd_ext (lessR_len h)
  intro k hk
  have hk' : k < a.length := by rw [lessR_len h] at hk; exact hk
  rw [lessR_nd h hk', Nat.zero_mul, Nat.zero_mod, Nat.sub_zero, Nat.add_mod_right]
  exact Nat.mod_eq_of_lt (by rw [nd_get hk']; exact ha _ (List.getElem_mem hk'))
theorem swapM_len (M : List (List Nat)) (i j : Nat) : (swapM M i j).length = M.length := by simp [swapM]
theorem swapM_self {M : List (List Nat)} {i : Nat} (h : i < M.length) : swapM M i i = M := by
  unfold swapM; rw [set_getD h, set_getD h]
theorem swapM_shp {p C : Nat} {M : List (List Nat)} (h : Shp p C M) {i j : Nat} (hi : i < M.length) (hj : j < M.length) : Shp p C (swapM M i j) := (h.set i (h.at hj)).set j (h.at hi)
theorem swapM_at {M : List (List Nat)} {i j : Nat} (hi : i < M.length) (hj : j < M.length) (l : Nat) : (swapM M i j).getD l [] = if l = i then M.getD j [] else if l = j then M.getD i [] else M.getD l [] := by
 unfold swapM
 by_cases e1 : l = j
 ·subst e1
  rw [getD_set_self (by simpa using hj)]
  by_cases e2 : l = i
  ·subst e2; rw [if_pos rfl]
  ·rw [if_neg e2, if_pos rfl]
 ·rw [getD_set_ne (fun h => e1 h.symm)]
  by_cases e2 : l = i
  ·subst e2; rw [getD_set_self hi, if_pos rfl]
  ·rw [getD_set_ne (fun h => e2 h.symm), if_neg e2, if_neg e1]
section
variable {p r c C : Nat} {M : List (List Nat)}
theorem elimM_len : ∀ i, (elimM p r c M i).length = M.length
  | 0 => rfl
  | i + 1 => by rw [elimM]; split <;> simp [elimM_len i]
theorem elimM_from : ∀ {i l : Nat}, i ≤ l ∨ l = r → (elimM p r c M i).getD l [] = M.getD l []
 | 0, _, _ => rfl
 | i + 1, l, h => by
  rw [elimM]
  split
  ·exact elimM_from (by omega)
  ·rw [getD_set_ne (by omega)]; exact elimM_from (by omega)
theorem elimM_done : ∀ {i l : Nat}, l < i → l ≠ r → l < M.length → (elimM p r c M i).getD l [] = lessR p (nd (M.getD l []) c) (M.getD l []) (M.getD r [])
 | 0, _, h, _, _ => by omega
 | i + 1, l, h, hl, hm => by
  rw [elimM]
  split
  ·exact elimM_done (by omega) hl hm
  ·by_cases e : l = i
   ·subst e
    rw [getD_set_self (by rw [elimM_len]; exact hm), elimM_from (.inl (Nat.le_refl _)), elimM_from (.inr rfl)]
   ·rw [getD_set_ne (fun h => e h.symm)]; exact elimM_done (by omega) hl hm
theorem elimM_shp (h : Shp p C M) (hp : 0 < p) (hr : r < M.length) : ∀ i, i ≤ M.length → Shp p C (elimM p r c M i)
 | 0, _ => h
 | i + 1, hi => by
  have ih := elimM_shp h hp hr i (by omega)
  rw [elimM]
  split
  ·exact ih
  ·have h1 := ih.at (i := i) (by rw [elimM_len]; omega)
   have h2 := ih.at (i := r) (by rw [elimM_len]; omega)
   have e : ((elimM p r c M i).getD i []).length = ((elimM p r c M i).getD r []).length := by rw [h1.1, h2.1]
   exact ih.set i ⟨by rw [lessR_len e]; exact h1.1, lessR_lt e hp⟩
theorem elimM_skip (h : Shp p C M) (hp : 0 < p) (hr : r < M.length) {i : Nat} (hi : i < M.length) (h0 : i = r ∨ nd ((elimM p r c M i).getD i []) c = 0) : elimM p r c M (i + 1) = elimM p r c M i := by
 rw [elimM]
 split
 ·rfl
 ·rename_i hir
  have h0 := h0.resolve_left hir
  have ih := elimM_shp (c := c) h hp hr i (by omega)
  have h1 := ih.at (i := i) (by rw [elimM_len]; omega)
  have h2 := ih.at (i := r) (by rw [elimM_len]; omega)
  rw [h0, lessR_zero (by rw [h1.1, h2.1]) h1.2, set_getD (by rw [elimM_len]; exact hi)]
theorem elimM_next {i : Nat} (h : i ≠ r) : elimM p r c M (i + 1) = (elimM p r c M i).set i (lessR p (nd ((elimM p r c M i).getD i []) c) ((elimM p r c M i).getD i []) ((elimM p r c M i).getD r [])) := by rw [elimM, if_neg h]
end
def normM (p r c : Nat) (M : List (List Nat)) : List (List Nat) := M.set r (scalR p (pinv p (nd (M.getD r []) c)) (M.getD r []))
theorem normM_len (p r c : Nat) (M : List (List Nat)) : (normM p r c M).length = M.length := List.length_set
def redStep (p c : Nat) (s : List (List Nat) × List Nat) : List (List Nat) × List Nat :=
  match firstNZ s.1 c (s.1.length - s.2.length) s.2.length with
  | none => s
  | some i => (elimM p s.2.length c (normM p s.2.length c (swapM s.1 s.2.length i)) s.1.length, s.2 ++ [c])
def redTo (p : Nat) (M : List (List Nat)) : Nat → List (List Nat) × List Nat
  | 0 => (M, [])
  | c + 1 => redStep p c (redTo p M c)
def detTo (p : Nat) (M : List (List Nat)) : Nat → Nat
 | 0 => 1 % p
 | c + 1 => match firstNZ (redTo p M c).1 c ((redTo p M c).1.length - (redTo p M c).2.length) (redTo p M c).2.length with
  | none => 0
  | some i => (if i = (redTo p M c).2.length then detTo p M c else (0 + p - detTo p M c) % p) * nd ((redTo p M c).1.getD i []) c % p
theorem normM_shp {p r c C : Nat} {M : List (List Nat)} (h : Shp p C M) (hp : 0 < p) (hr : r < M.length) : Shp p C (normM p r c M) := h.set r ⟨by rw [scalR_len]; exact (h.at hr).1, scalR_lt hp⟩
theorem redStep_none {p c : Nat} {s : List (List Nat) × List Nat} (h : firstNZ s.1 c (s.1.length - s.2.length) s.2.length = none) : redStep p c s = s := by unfold redStep; rw [h]
theorem redStep_some {p c i : Nat} {s : List (List Nat) × List Nat} (h : firstNZ s.1 c (s.1.length - s.2.length) s.2.length = some i) : redStep p c s = (elimM p s.2.length c (normM p s.2.length c (swapM s.1 s.2.length i)) s.1.length, s.2 ++ [c]) := by unfold redStep; rw [h]
theorem redTo_inv {p C : Nat} {M : List (List Nat)} (h : Shp p C M) (hp : 0 < p) : ∀ c, (redTo p M c).1.length = M.length ∧ Shp p C (redTo p M c).1 ∧ (redTo p M c).2.length ≤ M.length ∧ (redTo p M c).2.length ≤ c ∧ (∀ x ∈ (redTo p M c).2, x < c)
 | 0 => ⟨rfl, h, Nat.zero_le _, Nat.zero_le _, fun x hx => by cases hx⟩
 | c + 1 => by
  obtain ⟨h1, h2, h3, h4, h5⟩ := redTo_inv h hp c
  rw [redTo]
  generalize redTo p M c = s at *
  cases hf : firstNZ s.1 c (s.1.length - s.2.length) s.2.length with
  | none => rw [redStep_none hf]; exact ⟨h1, h2, h3, by omega, fun x hx => by have := h5 x hx; omega⟩
  | some i =>
   obtain ⟨f1, f2, _, _⟩ := firstNZ_is hf
   rw [redStep_some hf]
   have hr : s.2.length < s.1.length := by omega
   have hs := swapM_shp h2 hr (show i < s.1.length by omega)
   have hn := normM_shp (c := c) hs hp (by rw [swapM_len]; exact hr)
   refine ⟨by rw [elimM_len, normM_len, swapM_len]; exact h1, elimM_shp hn hp (by rw [normM_len, swapM_len]; exact hr) _ (by rw [normM_len, swapM_len]; omega), by simp; omega, by simp; omega, fun x hx => ?_⟩
   rcases List.mem_append.1 hx with hx | hx
   ·have := h5 x hx; omega
   ·rw [List.mem_singleton.1 hx]; omega
theorem redTo_full {p : Nat} {M : List (List Nat)} {c : Nat} (hl : (redTo p M c).2.length = (redTo p M c).1.length) : ∀ k, redTo p M (c + k) = redTo p M c
 | 0 => rfl
 | k + 1 => by
  rw [← Nat.add_assoc, redTo, redTo_full hl k, redStep_none]
  rw [hl, Nat.sub_self]; rfl
theorem detTo_lt {p : Nat} {M : List (List Nat)} (hp : 0 < p) : ∀ c, detTo p M c < p
  | 0 => Nat.mod_lt _ hp
  | c + 1 => by rw [detTo]; split; exact hp; exact Nat.mod_lt _ hp
end Go.Proofs.YtndilfigdbenoaaDoor
