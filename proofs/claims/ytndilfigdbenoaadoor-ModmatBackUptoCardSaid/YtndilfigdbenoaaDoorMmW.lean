
/-
  A matrix times its inverse; when the determinant is 0; plainly.
-/
import Derived.Test.YtndilfigdbenoaaDoorMm12
set_option linter.unusedVariables false
set_option linter.unusedSimpArgs false
namespace Go.Proofs.YtndilfigdbenoaaDoor
open Go.RowKit
theorem mkM_congr {r c : Nat} {f g : Nat → Nat → Nat} (h : ∀ i k, i < r → k < c → f i k = g i k) : mkM r c f = mkM r c g := by
  unfold mkM rowF
  exact List.map_congr_left fun i hi => List.map_congr_left fun k hk => h i k (List.mem_range.1 hi) (List.mem_range.1 hk)
theorem getD_map {f : List Nat → List Nat} {M : List (List Nat)} (h0 : f [] = []) (i : Nat) : (M.map f).getD i [] = f (M.getD i []) := by
  unfold List.getD
  rw [List.getElem?_map]
  cases M[i]? with
  | none => exact h0.symm
  | some x => rfl
theorem nd_modM (p : Nat) (M : List (List Nat)) (i j : Nat) : nd ((modM p M).getD i []) j = nd (M.getD i []) j % p := by
  unfold modM
  rw [getD_map rfl]
  generalize M.getD i [] = r
  unfold nd
  rw [List.getD, List.getD, List.getElem?_map]
  cases r[j]? <;> simp
theorem en_modM (p : Nat) (M : List (List Nat)) (i j : Nat) : Em p (en (modM p M) i j) (en M i j) := by
  unfold en; rw [nd_modM]; exact Em.md _
theorem mulE_em {p C i k : Nat} {A B : List (List Nat)} : Em p (mulE p A B C i k : Nat) (su C fun j => en A i j * en B j k) := by
  refine (dotp_em C).trans (Em.of_eq (su_congr fun j _ => ?_))
  rw [Int.natCast_mul]; rfl
theorem mulM_id {p n : Nat} {A B : List (List Nat)} (hp : 1 < p) (hA : A.length = n) (h : ∀ i k, i < n → k < n → Em p (su n fun j => en A i j * en B j k) (if i = k then 1 else 0 : Nat)) : mulM p A B n n = idM n := by
  unfold mulM idM
  rw [hA]
  refine mkM_congr fun i k hi hk => ?_
  refine Em.eq (dotp_lt (by omega) _) (by split <;> omega) ((mulE_em).trans (h i k hi hk))
theorem augM_get {p i : Nat} {M : List (List Nat)} (hi : i < M.length) (hq : M.length = colsM M) : (augM p M).getD i [] = (modM p M).getD i [] ++ rowF M.length (fun k => if i = k then 1 else 0) := by
  unfold augM besM
  rw [besTo_done (by rw [modM_len]; exact hi) (by rw [modM_len]; exact hi), ← hq, idM_get hi]
theorem modM_row {p i : Nat} {M : List (List Nat)} (hr : RectM M) (hi : i < M.length) : ((modM p M).getD i []).length = colsM M := by
  rw [modM_get hi, List.length_map]; exact hr _ (List.mem_of_getElem? (get_getD hi))
theorem en_aug1 {p i j : Nat} {M : List (List Nat)} (hr : RectM M) (hi : i < M.length) (hq : M.length = colsM M) (hj : j < M.length) : en (augM p M) i j = en (modM p M) i j := by
  unfold en
  rw [augM_get hi hq, nd_append, if_pos (by rw [modM_row hr hi]; omega)]
theorem en_aug2 {p i k : Nat} {M : List (List Nat)} (hr : RectM M) (hi : i < M.length) (hq : M.length = colsM M) (hk : k < M.length) : en (augM p M) i (M.length + k) = ((if i = k then 1 else 0 : Nat) : Int) := by
  unfold en
  rw [augM_get hi hq, nd_append, if_neg (by rw [modM_row hr hi]; omega), modM_row hr hi, ← hq, Nat.add_sub_cancel_left, rowF_nd hk]
theorem su_delta {n k : Nat} {f : Nat → Int} (hk : k < n) : su n (fun l => f l * ((if l = k then 1 else 0 : Nat) : Int)) = f k := by
  rw [su_congr (g := fun l => if l = k then f l else 0), su_one hk]
  intro l _
  split <;> simp
theorem inv_prod {p n : Nat} {M N : List (List Nat)} (hp : MR.Pr p) (hr : RectM M) (hl : M.length = n) (hq : M.length = colsM M) (hns : ¬ (redTo p (augM p M) (colsM M)).2.length < colsM M) (hN : (redTo p (augM p M) (colsM M)).1.map (·.drop (colsM M)) = N) :
  mulM p (modM p M) (modM p N) n n = idM n ∧ mulM p (modM p N) (modM p M) n n = idM n := by
 have hp1 := hp.1
 have hp0 : 0 < p := by omega
 have hsh := augM_shp (p := p) (by omega) hr hq
 rw [← hq, hl] at hsh hns hN
 obtain ⟨e1, e2, e3⟩ := piv_ok (k := 0) hsh hp0 ((augM_len ..).trans hl) hns
 obtain ⟨s1, s2⟩ := redTo_sp hp hsh n
 have hrf := redTo_rf hp hsh n (by omega)
 obtain ⟨i1, i2, _⟩ := redTo_inv hsh hp0 n
 rw [augM_len, hl] at i1
 generalize redTo p (augM p M) n = s at *
 obtain ⟨R, P⟩ := s
 simp only at *
 have hu : ∀ i, i < n → ∀ l, l < n → en R l i = ((if l = i then 1 else 0 : Nat) : Int) := fun i hi l hl' => by
  have h1 := hrf.unit i (by rw [e2]; exact hi) l (by simp only; omega)
  simp only at h1
  rw [e3 i hi] at h1
  unfold en; rw [h1]
 have hNe : ∀ i k, en N i k = en R i (n + k) := fun i k => by
  unfold en
  rw [← hN, getD_map (by simp), nd_drop]
 have hNl : N.length = n := by rw [← hN, List.length_map]; exact i1
 subst hl
 refine ⟨mulM_id (by omega) (modM_len ..) fun i k hi hk => ?_, mulM_id (by omega) (by rw [modM_len]; exact hNl) fun i k hi hk => ?_⟩
 ·obtain ⟨t, ht⟩ := s2 i (by rw [augM_len]; exact hi)
  rw [i1] at ht
  have h1 : ∀ l, l < M.length → Em p (en (modM p M) i l) (t l) := fun l hl => by
   have h2 := ht l (by omega)
   rw [en_aug1 hr hi hq hl] at h2
   refine h2.trans (Em.of_eq ?_)
   rw [su_congr (g := fun l' => t l' * ((if l' = l then 1 else 0 : Nat) : Int)) (fun l' hl' => by rw [hu l hl l' hl']), su_delta hl]
  have h3 := ht (M.length + k) (by omega)
  rw [en_aug2 hr hi hq hk] at h3
  refine Em.symm (h3.trans (su_em fun l hl => ((h1 l hl).symm.mul ?_)))
  rw [← hNe]; exact (en_modM p N l k).symm
 ·obtain ⟨t, ht⟩ := s1 i (by omega)
  rw [augM_len] at ht
  have h1 : ∀ l, l < M.length → Em p (en (modM p N) i l) (t l) := fun l hl => by
   have h2 := ht (M.length + l) (by omega)
   rw [← hNe] at h2
   refine (en_modM p N i l).trans (h2.trans (Em.of_eq ?_))
   rw [su_congr (g := fun l' => t l' * ((if l' = l then 1 else 0 : Nat) : Int)) (fun l' hl' => by rw [en_aug2 hr hl' hq hl]), su_delta hl]
  have h3 := ht k (by omega)
  rw [hu k hk i hi] at h3
  refine Em.symm (h3.trans (su_em fun l hl => ((h1 l hl).symm.mul (Em.of_eq (en_aug1 hr hl hq hk)))))
theorem detTo_ne {p C : Nat} {M : List (List Nat)} (hp : MR.Pr p) (h : Shp p C M) : ∀ c, c ≤ C → (detTo p M c ≠ 0 ↔ (redTo p M c).2.length = c)
 | 0, _ => ⟨fun _ => rfl, fun _ => by have := hp.1; show 1 % p ≠ 0; rw [Nat.mod_eq_of_lt (by omega)]; omega⟩
 | c + 1, hc => by
  have hp0 : 0 < p := by have := hp.1; omega
  obtain ⟨i1, i2, i3, i4, i5⟩ := redTo_inv h hp0 c
  have ih := detTo_ne hp h c (by omega)
  have hd := detTo_lt (M := M) hp0 c
  rw [detTo, redTo]
  generalize redTo p M c = s at *
  generalize detTo p M c = d at *
  cases hf : firstNZ s.1 c (s.1.length - s.2.length) s.2.length with
  | none =>
   rw [redStep_none hf]
   exact ⟨fun h => absurd rfl h, fun h => by omega⟩
  | some i =>
   obtain ⟨f1, f2, f3, f4⟩ := firstNZ_is hf
   rw [redStep_some hf]
   have hlt := i2.nd hp0 i c
   simp only [List.length_append, List.length_cons, List.length_nil]
   have key : ((if i = s.2.length then d else (0 + p - d) % p) * nd (s.1.getD i []) c % p = 0) ↔ d = 0 := by
    constructor
    ·intro h0
     rcases MR.Pr.dvd_mul hp (Nat.dvd_of_mod_eq_zero h0) with h1 | h1
     ·split at h1
      ·exact Nat.eq_zero_of_dvd_of_lt h1 hd
      ·have h2 := Nat.eq_zero_of_dvd_of_lt h1 (Nat.mod_lt _ hp0)
       rw [Nat.zero_add] at h2
       by_cases e : d = 0
       ·exact e
       ·rw [Nat.mod_eq_of_lt (by omega)] at h2; omega
     ·have := Nat.le_of_dvd (by omega) h1; omega
    ·intro h0
     subst h0
     split
     ·rw [Nat.zero_mul, Nat.zero_mod]
     ·rw [Nat.zero_add, Nat.sub_zero, Nat.mod_self, Nat.zero_mul, Nat.zero_mod]
   constructor
   ·intro h0
    have := ih.1 (fun e => h0 (key.2 e))
    omega
   ·intro h0 h1
    exact ih.2 (by omega) (key.1 h1)
section
variable {p C : Nat} {M : List (List Nat)}
theorem nd_take_lt {xs : List Nat} {c : Nat} (h : c < C) : nd (xs.take C) c = nd xs c := by rw [nd_take, if_pos h]
theorem firstNZ_take {c : Nat} (h : c < C) : ∀ k i, firstNZ (M.map (·.take C)) c k i = firstNZ M c k i
 | 0, _ => rfl
 | k + 1, i => by
  rw [firstNZ, firstNZ, getD_map (by simp), nd_take_lt h, firstNZ_take h k (i + 1)]
theorem swapM_take (i j : Nat) : swapM (M.map (·.take C)) i j = (swapM M i j).map (·.take C) := by
  unfold swapM
  rw [List.map_set, List.map_set, getD_map (by simp), getD_map (by simp)]
theorem normM_take {r c : Nat} (h : c < C) : normM p r c (M.map (·.take C)) = (normM p r c M).map (·.take C) := by
  unfold normM
  rw [List.map_set, getD_map (by simp), nd_take_lt h]
  congr 1
  unfold scalR
  rw [List.map_take]
theorem elimM_take {r c : Nat} (h : c < C) : ∀ n, elimM p r c (M.map (·.take C)) n = (elimM p r c M n).map (·.take C)
 | 0 => rfl
 | n + 1 => by
  rw [elimM, elimM]
  split
  ·exact elimM_take h n
  ·rw [elimM_take h n, List.map_set, getD_map (by simp), getD_map (by simp), nd_take_lt h]
   congr 1
   unfold lessR
   rw [List.take_zipWith]
theorem redTo_takes : ∀ c, c ≤ C → redTo p (M.map (·.take C)) c = ((redTo p M c).1.map (·.take C), (redTo p M c).2)
 | 0, _ => rfl
 | c + 1, h => by
  rw [redTo, redTo, redTo_takes c (by omega)]
  generalize redTo p M c = s
  cases hf : firstNZ s.1 c (s.1.length - s.2.length) s.2.length with
  | none =>
   rw [redStep_none hf, redStep_none]
   simp only [List.length_map]
   rw [firstNZ_take (by omega)]; exact hf
  | some i =>
   rw [redStep_some hf, redStep_some (i := i)]
   ·simp only [List.length_map]
    rw [swapM_take, normM_take (by omega), elimM_take (by omega)]
   ·simp only [List.length_map]
    rw [firstNZ_take (by omega)]; exact hf
end
theorem augM_take {p : Nat} {M : List (List Nat)} (hr : RectM M) (hq : M.length = colsM M) : (augM p M).map (·.take (colsM M)) = modM p M := by
  refine ext_getD (by rw [List.length_map, augM_len, modM_len]) fun i hi => ?_
  rw [List.length_map, augM_len] at hi
  rw [getD_map (by simp), augM_get hi hq, List.take_append_of_le_length (by rw [modM_row hr hi]; exact Nat.le_refl _), List.take_of_length_le (by rw [modM_row hr hi]; exact Nat.le_refl _)]
theorem det_ns {p : Nat} {M : List (List Nat)} (hp : MR.Pr p) (hr : RectM M) (hq : M.length = colsM M) : detTo p (modM p M) (colsM M) = 0 ↔ (redTo p (augM p M) (colsM M)).2.length < colsM M := by
 have hp0 : 0 < p := by have := hp.1; omega
 have h1 := detTo_ne hp (hr.shp hp0) (colsM M) (Nat.le_refl _)
 have h2 := redTo_takes (p := p) (M := augM p M) (C := colsM M) (colsM M) (Nat.le_refl _)
 rw [augM_take hr hq] at h2
 rw [h2] at h1
 simp only at h1
 obtain ⟨_, _, _, i4, _⟩ := redTo_inv (augM_shp (p := p) (by have := hp.1; omega) hr hq) hp0 (colsM M)
 constructor
 ·intro h0
  have := mt h1.2 (fun e => e h0)
  omega
 ·intro h0
  exact Classical.byContradiction fun e => by have := h1.1 e; omega
end Go.Proofs.YtndilfigdbenoaaDoor
