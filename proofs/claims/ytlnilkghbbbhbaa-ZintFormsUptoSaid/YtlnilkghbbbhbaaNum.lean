
/-
  Plain facts on numbers written in limbs of 32 bits: no program in sight.
-/
namespace Go.Proofs.Ytlnilkghbbbhbaa

/-- The i-th limb; 0 past the end. -/
def nd (xs : List Nat) (i : Nat) : Nat := xs.getD i 0

/-- The number that the first k limbs say. -/
def sm (f : Nat → Nat) : Nat → Nat
  | 0 => 0
  | k + 1 => sm f k + f k * 4294967296 ^ k

def val (xs : List Nat) : Nat := sm (nd xs) xs.length

/-- How many limbs are left when the noughts at the end are taken away. -/
def tl (xs : List Nat) : Nat → Nat
  | 0 => 0
  | k + 1 => if nd xs k = 0 then tl xs k else k + 1

/-- How many limbs a number has. -/
def ll (n : Nat) : Nat := if n = 0 then 0 else n.log2 / 32 + 1

/-- The limbs of a number. -/
def lim (n : Nat) : List Nat := (List.range (ll n)).map fun i => n / 4294967296 ^ i % 4294967296

theorem nd_lt_len {xs : List Nat} {i : Nat} (h : xs.length ≤ i) : nd xs i = 0 := by
  unfold nd; rw [List.getD_eq_getElem?_getD, List.getElem?_eq_none h]; rfl

theorem nd_get {xs : List Nat} {i : Nat} (h : i < xs.length) : nd xs i = xs[i] := by
  unfold nd; rw [List.getD_eq_getElem?_getD, List.getElem?_eq_getElem h]; rfl

theorem nd_set (xs : List Nat) (i v j : Nat) (h : i < xs.length) : nd (xs.set i v) j = if j = i then v else nd xs j := by
  unfold nd
  rw [List.getD_eq_getElem?_getD, List.getD_eq_getElem?_getD, List.getElem?_set]
  by_cases e : i = j
  · subst e; simp [h]
  · rw [if_neg e, if_neg (fun h => e h.symm)]

theorem nd_append (xs ys : List Nat) (i : Nat) : nd (xs ++ ys) i = if i < xs.length then nd xs i else nd ys (i - xs.length) := by
  unfold nd
  rw [List.getD_eq_getElem?_getD, List.getD_eq_getElem?_getD, List.getD_eq_getElem?_getD, List.getElem?_append]
  split <;> rfl

theorem nd_take (xs : List Nat) (k i : Nat) : nd (xs.take k) i = if i < k then nd xs i else 0 := by
  unfold nd
  rw [List.getD_eq_getElem?_getD, List.getD_eq_getElem?_getD, List.getElem?_take]
  split <;> rfl

theorem nd_drop (xs : List Nat) (k i : Nat) : nd (xs.drop k) i = nd xs (k + i) := by
  unfold nd
  rw [List.getD_eq_getElem?_getD, List.getD_eq_getElem?_getD, List.getElem?_drop]

theorem nd_replicate (n i : Nat) : nd (List.replicate n 0) i = 0 := by
  unfold nd
  rw [List.getD_eq_getElem?_getD, List.getElem?_replicate]
  split <;> rfl

theorem nd_cons_zero (x : Nat) (xs : List Nat) : nd (x :: xs) 0 = x := rfl
theorem nd_cons_succ (x : Nat) (xs : List Nat) (i : Nat) : nd (x :: xs) (i + 1) = nd xs i := rfl

theorem nd_ext {xs ys : List Nat} (hl : xs.length = ys.length) (h : ∀ i, i < xs.length → nd xs i = nd ys i) : xs = ys := by
  apply List.ext_getElem hl
  intro i h1 h2
  have := h i h1
  rwa [nd_get h1, nd_get h2] at this

theorem sm_congr {f g : Nat → Nat} : ∀ {k : Nat}, (∀ i, i < k → f i = g i) → sm f k = sm g k
  | 0, _ => rfl
  | k + 1, h => by
    unfold sm
    rw [sm_congr (k := k) (fun i hi => h i (by omega)), h k (by omega)]

theorem sm_lt {f : Nat → Nat} : ∀ {k : Nat}, (∀ i, i < k → f i < 4294967296) → sm f k < 4294967296 ^ k
  | 0, _ => by simp [sm]
  | k + 1, h => by
    have h1 := sm_lt (f := f) (k := k) (fun i hi => h i (by omega))
    have h2 := h k (by omega)
    unfold sm
    rw [Nat.pow_succ]
    have h3 : f k * 4294967296 ^ k ≤ 4294967295 * 4294967296 ^ k := Nat.mul_le_mul_right _ (by omega)
    omega

theorem sm_zero {f : Nat → Nat} : ∀ {k : Nat}, (∀ i, i < k → f i = 0) → sm f k = 0
  | 0, _ => rfl
  | k + 1, h => by unfold sm; rw [sm_zero (k := k) (fun i hi => h i (by omega)), h k (by omega)]; simp

/-- Limbs that are 0 add nothing. -/
theorem sm_more {f : Nat → Nat} {k : Nat} : ∀ (m : Nat), (∀ i, k ≤ i → i < k + m → f i = 0) → sm f (k + m) = sm f k
  | 0, _ => rfl
  | m + 1, h => by
    rw [← Nat.add_assoc]
    show sm f (k + m) + f (k + m) * _ = _
    rw [sm_more m (fun i h1 h2 => h i h1 (by omega)), h (k + m) (by omega) (by omega)]; simp

theorem sm_add (f : Nat → Nat) (k : Nat) : ∀ m, sm f (k + m) = sm f k + 4294967296 ^ k * sm (fun i => f (k + i)) m
  | 0 => by simp [sm]
  | m + 1 => by
    rw [← Nat.add_assoc]
    show sm f (k + m) + f (k + m) * _ = _
    rw [sm_add f k m]
    show _ = sm f k + 4294967296 ^ k * (sm (fun i => f (k + i)) m + f (k + m) * 4294967296 ^ m)
    rw [Nat.pow_add, Nat.mul_add]
    have : f (k + m) * (4294967296 ^ k * 4294967296 ^ m) = 4294967296 ^ k * (f (k + m) * 4294967296 ^ m) := by
      rw [Nat.mul_left_comm]
    omega

theorem val_le {xs : List Nat} {k : Nat} (h : xs.length ≤ k) : sm (nd xs) k = val xs := by
  obtain ⟨m, rfl⟩ := Nat.exists_eq_add_of_le h
  exact sm_more m (fun i h1 _ => nd_lt_len h1)

theorem pos_pow (k : Nat) : 0 < 4294967296 ^ k := Nat.pow_pos (by omega)

/-- The i-th limb, out of the number. -/
theorem sm_digit {f : Nat → Nat} {k i : Nat} (h : ∀ j, j < k → f j < 4294967296) (hi : i < k) : sm f k / 4294967296 ^ i % 4294967296 = f i := by
  obtain ⟨m, rfl⟩ := Nat.exists_eq_add_of_le (show i + 1 ≤ k from hi)
  rw [sm_add f (i + 1) m]
  show (sm f i + f i * 4294967296 ^ i + 4294967296 ^ (i + 1) * _) / _ % _ = _
  have h1 := sm_lt (f := f) (k := i) (fun j hj => h j (by omega))
  have h2 := h i (by omega)
  rw [Nat.pow_succ, Nat.mul_assoc, Nat.mul_comm (f i), Nat.add_assoc, ← Nat.mul_add, Nat.add_mul_div_left _ _ (pos_pow i), Nat.div_eq_of_lt h1, Nat.zero_add, Nat.add_mul_mod_self_left, Nat.mod_eq_of_lt h2]

theorem sm_inj {f g : Nat → Nat} {k : Nat} (hf : ∀ j, j < k → f j < 4294967296) (hg : ∀ j, j < k → g j < 4294967296) (h : sm f k = sm g k) : ∀ i, i < k → f i = g i := by
  intro i hi
  rw [← sm_digit hf hi, ← sm_digit hg hi, h]

theorem tl_le (xs : List Nat) : ∀ k, tl xs k ≤ k
  | 0 => Nat.le_refl _
  | k + 1 => by unfold tl; split; exact Nat.le_succ_of_le (tl_le xs k); exact Nat.le_refl _

theorem tl_zero (xs : List Nat) : ∀ k i, tl xs k ≤ i → i < k → nd xs i = 0
  | 0, _, _, h => by omega
  | k + 1, i, h1, h2 => by
    unfold tl at h1
    split at h1
    · by_cases e : i = k
      · subst e; assumption
      · exact tl_zero xs k i h1 (by omega)
    · omega

theorem tl_top (xs : List Nat) : ∀ k, 0 < tl xs k → nd xs (tl xs k - 1) ≠ 0
  | 0, h => by simp [tl] at h
  | k + 1, h => by
    unfold tl at h ⊢
    split
    · rename_i e; rw [if_pos e] at h; exact tl_top xs k h
    · simpa using ‹¬ _›

theorem sm_tl (xs : List Nat) (k : Nat) : sm (nd xs) (tl xs k) = sm (nd xs) k := by
  have h1 := tl_le xs k
  obtain ⟨m, hm⟩ := Nat.exists_eq_add_of_le h1
  have h2 : sm (nd xs) (tl xs k + m) = sm (nd xs) (tl xs k) := sm_more m (fun i a b => tl_zero xs k i a (by omega))
  rw [← hm] at h2
  exact h2.symm

theorem pow_le {a b : Nat} (h : a ≤ b) : 4294967296 ^ a ≤ 4294967296 ^ b := Nat.pow_le_pow_right (by omega) h

theorem pow_two (k : Nat) : 4294967296 ^ k = 2 ^ (32 * k) := by
  rw [show (4294967296 : Nat) = 2 ^ 32 from rfl, ← Nat.pow_mul]

theorem lt_ll (n : Nat) : n < 4294967296 ^ ll n := by
  unfold ll
  split
  · omega
  · rename_i h
    rw [pow_two]
    exact Nat.lt_of_lt_of_le (Nat.lt_log2_self (n := n)) (Nat.pow_le_pow_right (by omega) (by omega))

theorem ll_le {n k : Nat} (h : n < 4294967296 ^ k) : ll n ≤ k := by
  unfold ll
  split
  · omega
  · rename_i h0
    rw [pow_two] at h
    have := (Nat.log2_lt h0).2 h
    omega

theorem le_ll {n k : Nat} (h : 4294967296 ^ k ≤ n) : k < ll n := by
  have h1 := lt_ll n
  by_cases h2 : k < ll n
  · exact h2
  · have := pow_le (show ll n ≤ k by omega)
    omega

theorem ll_zero : ll 0 = 0 := rfl

theorem ll_pos {n : Nat} (h : n ≠ 0) : 0 < ll n := by unfold ll; rw [if_neg h]; omega

theorem ll_mono {m n : Nat} (h : m ≤ n) : ll m ≤ ll n := ll_le (Nat.lt_of_le_of_lt h (lt_ll n))

theorem ll_eq {n k : Nat} (h1 : n < 4294967296 ^ (k + 1)) (h2 : 4294967296 ^ k ≤ n) : ll n = k + 1 := by
  have := ll_le h1
  have := le_ll h2
  omega

theorem length_lim (n : Nat) : (lim n).length = ll n := by simp [lim]

theorem nd_lim (n i : Nat) : nd (lim n) i = n / 4294967296 ^ i % 4294967296 := by
  by_cases h : i < ll n
  · unfold nd lim
    simp [h]
  · rw [nd_lt_len (by rw [length_lim]; omega)]
    have h1 := lt_ll n
    have h2 := pow_le (show ll n ≤ i by omega)
    rw [Nat.div_eq_of_lt (by omega)]

theorem lim_lt (n i : Nat) : nd (lim n) i < 4294967296 := by rw [nd_lim]; exact Nat.mod_lt _ (by omega)

theorem sm_lim (n : Nat) : ∀ k, sm (nd (lim n)) k = n % 4294967296 ^ k
  | 0 => by simp [sm, Nat.mod_one]
  | k + 1 => by
    show sm _ k + nd (lim n) k * _ = _
    rw [sm_lim n k, nd_lim, Nat.pow_succ, Nat.mod_mul, Nat.mul_comm (n / _ % _)]

theorem val_lim (n : Nat) : val (lim n) = n := by
  unfold val
  rw [sm_lim, length_lim, Nat.mod_eq_of_lt (lt_ll n)]

def Lims (xs : List Nat) : Prop := ∀ i, i < xs.length → nd xs i < 4294967296

theorem Lims.all {xs : List Nat} (h : Lims xs) (i : Nat) : nd xs i < 4294967296 := by
  by_cases hi : i < xs.length
  · exact h i hi
  · rw [nd_lt_len (by omega)]; omega

theorem lims_lim (n : Nat) : Lims (lim n) := fun i _ => lim_lt n i

theorem val_lt {xs : List Nat} (h : Lims xs) : val xs < 4294967296 ^ xs.length := sm_lt h

theorem tl_ll {xs : List Nat} (h : Lims xs) : tl xs xs.length = ll (val xs) := by
  have h1 := tl_le xs xs.length
  have h2 := sm_tl xs xs.length
  have h3 : sm (nd xs) (tl xs xs.length) < 4294967296 ^ (tl xs xs.length) := sm_lt (fun i _ => h.all i)
  have h4 := ll_le h3
  rw [h2] at h4
  by_cases h0 : tl xs xs.length = 0
  · have : ll (val xs) ≤ 0 := by rw [← h0]; exact h4
    omega
  · have h5 := tl_top xs xs.length (by omega)
    obtain ⟨t, ht⟩ : ∃ t, tl xs xs.length = t + 1 := ⟨tl xs xs.length - 1, by omega⟩
    rw [ht] at h2 h4 h5 ⊢
    have h6 : 4294967296 ^ t ≤ sm (nd xs) (t + 1) := by
      show _ ≤ sm _ t + nd xs t * _
      have : 1 * 4294967296 ^ t ≤ nd xs t * 4294967296 ^ t := Nat.mul_le_mul_right _ (by simp at h5; omega)
      omega
    rw [h2] at h6
    have h7 := le_ll h6
    show t + 1 = ll (val xs)
    have : ll (val xs) ≤ t + 1 := h4
    have : t < ll (val xs) := h7
    omega

theorem nrm_eq {xs : List Nat} (h : Lims xs) : xs.take (tl xs xs.length) = lim (val xs) := by
  have h1 := tl_le xs xs.length
  apply nd_ext
  · rw [length_lim, ← tl_ll h]; simp; omega
  · intro i hi
    have hi' : i < tl xs xs.length := by simp at hi; omega
    rw [nd_take, if_pos hi', nd_lim]
    exact (sm_digit (f := nd xs) (k := xs.length) h (by omega)).symm

theorem val_eq_zero {xs : List Nat} (h : val xs = 0) (hl : Lims xs) : tl xs xs.length = 0 := by rw [tl_ll hl, h]; rfl

theorem val_nil : val [] = 0 := rfl

theorem val_append (xs ys : List Nat) : val (xs ++ ys) = val xs + 4294967296 ^ xs.length * val ys := by
  unfold val
  rw [List.length_append, sm_add]
  congr 1
  · exact sm_congr (fun i hi => by rw [nd_append, if_pos hi])
  · congr 1
    exact sm_congr (fun i hi => by rw [nd_append, if_neg (by omega), Nat.add_sub_cancel_left])

theorem val_single (x : Nat) : val [x] = x := by simp [val, sm, nd]

theorem val_take (xs : List Nat) (k : Nat) (h : k ≤ xs.length) : val (xs.take k) = sm (nd xs) k := by
  unfold val
  have : (xs.take k).length = k := by simp; omega
  rw [this]
  exact sm_congr (fun i hi => by rw [nd_take, if_pos hi])

theorem val_trim {xs : List Nat} : val (xs.take (tl xs xs.length)) = val xs := by
  rw [val_take _ _ (tl_le _ _), sm_tl]; rfl

theorem val_drop (xs : List Nat) (k : Nat) (hl : Lims xs) (h : k ≤ xs.length) : val (xs.drop k) = val xs / 4294967296 ^ k := by
  have h1 : val xs = sm (nd xs) k + 4294967296 ^ k * val (xs.drop k) := by
    unfold val
    obtain ⟨m, hm⟩ := Nat.exists_eq_add_of_le h
    rw [show xs.length = k + m from hm, sm_add]
    congr 2
    rw [show (xs.drop k).length = m by simp; omega]
    exact sm_congr (fun i _ => by rw [nd_drop])
  rw [h1, Nat.add_mul_div_left _ _ (pos_pow k), Nat.div_eq_of_lt (sm_lt fun i _ => hl.all i), Nat.zero_add]

theorem Lims.take {xs : List Nat} (h : Lims xs) (k : Nat) : Lims (xs.take k) := by
  intro i _; rw [nd_take]; split
  · exact h.all i
  · omega

theorem Lims.drop {xs : List Nat} (h : Lims xs) (k : Nat) : Lims (xs.drop k) := by
  intro i _; rw [nd_drop]; exact h.all _

theorem Lims.append {xs ys : List Nat} (h : Lims xs) (k : Lims ys) : Lims (xs ++ ys) := by
  intro i _; rw [nd_append]; split
  · exact h.all i
  · exact k.all _

theorem Lims.set {xs : List Nat} (h : Lims xs) (i : Nat) {v : Nat} (hv : v < 4294967296) : Lims (xs.set i v) := by
  intro j hj
  have hj' : j < xs.length := by simpa using hj
  by_cases e : i < xs.length
  · rw [nd_set _ _ _ _ e]; split
    · exact hv
    · exact h.all j
  · rw [List.set_eq_of_length_le (by omega)]; exact h.all j

theorem lims_nil : Lims [] := fun i h => by simp at h
theorem lims_single {x : Nat} (h : x < 4294967296) : Lims [x] := by
  intro i hi
  have : i = 0 := by simp at hi; omega
  subst this; exact h
theorem lims_zeros (n : Nat) : Lims (List.replicate n 0) := by
  intro i _; rw [nd_replicate]; omega

/-- Two canonical lists of one number are one. -/
theorem lim_inj {m n : Nat} (h : lim m = lim n) : m = n := by rw [← val_lim m, ← val_lim n, h]

/-- -1, 0, 1. -/
def cmpN (a b : Nat) : Int := if a < b then -1 else if a = b then 0 else 1

end Go.Proofs.Ytlnilkghbbbhbaa
