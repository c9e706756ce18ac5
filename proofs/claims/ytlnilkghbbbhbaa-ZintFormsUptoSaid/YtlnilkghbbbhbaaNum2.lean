
/-
  More plain facts on limbs: comparing.
-/
import Derived.Test.YtlnilkghbbbhbaaNum
namespace Go.Proofs.Ytlnilkghbbbhbaa

theorem sm_eq_top {f g : Nat → Nat} {i n : Nat} (h : ∀ j, i ≤ j → j < n → f j = g j) (hi : i ≤ n) : ∃ R, sm f n = sm f i + 4294967296 ^ i * R ∧ sm g n = sm g i + 4294967296 ^ i * R := by
  obtain ⟨m, rfl⟩ := Nat.exists_eq_add_of_le hi
  refine ⟨sm (fun j => f (i + j)) m, sm_add f i m, ?_⟩
  rw [sm_add g i m]
  congr 2
  exact sm_congr fun j hj => (h (i + j) (by omega) (by omega)).symm

theorem sm_lt_of {f g : Nat → Nat} {i n : Nat} (h : ∀ j, i < j → j < n → f j = g j) (hi : i < n) (hf : ∀ j, f j < 4294967296) (hlt : f i < g i) : sm f n < sm g n := by
  obtain ⟨R, h1, h2⟩ := sm_eq_top (i := i + 1) (n := n) (f := f) (g := g) (fun j a b => h j (by omega) b) (by omega)
  rw [h1, h2]
  have h3 : sm f (i + 1) < sm g (i + 1) := by
    show sm f i + f i * _ < sm g i + g i * _
    have h4 := sm_lt (f := f) (k := i) (fun j _ => hf j)
    have h5 : (f i + 1) * 4294967296 ^ i ≤ g i * 4294967296 ^ i := Nat.mul_le_mul_right _ hlt
    rw [Nat.add_mul] at h5
    omega
  omega

theorem lim_lt_of {A C i : Nat} (hl : ll A = ll C) (h : ∀ j, i < j → nd (lim A) j = nd (lim C) j) (hi : i < ll A) (hlt : nd (lim A) i < nd (lim C) i) : A < C := by
  have := sm_lt_of (f := nd (lim A)) (g := nd (lim C)) (n := ll A) (fun j a _ => h j a) hi (fun j => lim_lt A j) hlt
  rw [← val_lim A, ← val_lim C]
  unfold val
  rw [length_lim, length_lim, ← hl]
  exact this

theorem lim_eq_of {A C : Nat} (hl : ll A = ll C) (h : ∀ j, nd (lim A) j = nd (lim C) j) : A = C := by
  apply lim_inj
  apply nd_ext (by rw [length_lim, length_lim, hl])
  intro i _
  exact h i

theorem ll_lt {A C : Nat} (h : ll A < ll C) : A < C := by
  by_cases e : A < C
  · exact e
  · have := ll_mono (show C ≤ A by omega)
    omega

theorem cmpN_lt {A C : Nat} (h : A < C) : cmpN A C = -1 := by unfold cmpN; rw [if_pos h]
theorem cmpN_eq {A C : Nat} (h : A = C) : cmpN A C = 0 := by unfold cmpN; rw [if_neg (by omega), if_pos h]
theorem cmpN_gt {A C : Nat} (h : C < A) : cmpN A C = 1 := by unfold cmpN; rw [if_neg (by omega), if_neg (by omega)]

theorem lims_pair {a b : Nat} (ha : a < 4294967296) (hb : b < 4294967296) : Lims [a, b] := by
  intro i hi
  match i, hi with
  | 0, _ => exact ha
  | 1, _ => exact hb
  | i + 2, h => simp at h; omega

theorem val_pair (a b : Nat) : val [a, b] = a + b * 4294967296 := by simp [val, sm, nd]

theorem mul_step {zs : List Nat} {L i k x y c Z Y : Nat} (hk : i + k < L) (hl : zs.length = L) (h : sm (nd zs) (i + k) + c * 4294967296 ^ (i + k) = Z + x * Y * 4294967296 ^ i) :
    sm (nd (zs.set (i + k) ((x * y + nd zs (i + k) + c) % 4294967296))) (i + k + 1) + (x * y + nd zs (i + k) + c) / 4294967296 * 4294967296 ^ (i + k + 1) =
      (Z + nd zs (i + k) * 4294967296 ^ (i + k)) + x * (Y + y * 4294967296 ^ k) * 4294967296 ^ i := by
  generalize ht : x * y + nd zs (i + k) + c = t
  have h1 : sm (nd (zs.set (i + k) (t % 4294967296))) (i + k) = sm (nd zs) (i + k) :=
    sm_congr fun j hj => by rw [nd_set _ _ _ _ (by omega), if_neg (by omega)]
  show sm _ (i + k) + nd _ (i + k) * _ + _ = _
  rw [h1, nd_set _ _ _ _ (by omega), if_pos rfl, Nat.pow_succ]
  have h2 := Nat.mod_add_div t 4294967296
  generalize hP : (4294967296 : Nat) ^ (i + k) = P at *
  have h3 : (t % 4294967296 + 4294967296 * (t / 4294967296)) * P = t * P := by rw [h2]
  have h4 : t / 4294967296 * (P * 4294967296) = 4294967296 * (t / 4294967296) * P := by rw [Nat.mul_comm P, ← Nat.mul_assoc, Nat.mul_comm (t / 4294967296)]
  have h5 : x * (Y + y * 4294967296 ^ k) * 4294967296 ^ i = x * Y * 4294967296 ^ i + x * y * P := by
    rw [Nat.mul_add, Nat.add_mul, ← hP, Nat.add_comm i k, Nat.pow_add]
    congr 1
    rw [← Nat.mul_assoc x y, Nat.mul_assoc (x * y)]
  have h6 : t * P = x * y * P + nd zs (i + k) * P + c * P := by rw [← ht, Nat.add_mul, Nat.add_mul]
  rw [Nat.add_mul] at h3
  rw [h5]
  omega

theorem mul_last {zs : List Nat} {L i m x c X Y : Nat} (hk : i + m < L) (hl : zs.length = L) (h : sm (nd zs) (i + m) + c * 4294967296 ^ (i + m) = X * Y + x * Y * 4294967296 ^ i) :
    sm (nd (zs.set (i + m) c)) (i + m + 1) = (X + x * 4294967296 ^ i) * Y := by
  have h1 : sm (nd (zs.set (i + m) c)) (i + m) = sm (nd zs) (i + m) :=
    sm_congr fun j hj => by rw [nd_set _ _ _ _ (by omega), if_neg (by omega)]
  show sm _ (i + m) + nd _ (i + m) * _ = _
  rw [h1, nd_set _ _ _ _ (by omega), if_pos rfl, Nat.add_mul, h]
  congr 1
  rw [Nat.mul_assoc, Nat.mul_assoc, Nat.mul_comm Y]

theorem mul_bd {x y : Nat} (hx : x < 4294967296) (hy : y < 4294967296) : x * y ≤ 18446744065119617025 := by
  have h1 : x * y ≤ 4294967295 * 4294967295 := Nat.mul_le_mul (by omega) (by omega)
  omega

theorem add_step {ys : List Nat} {k L x y s A C : Nat} (hk : k < L) (hl : ys.length = L) (h : sm (nd ys) k + s * 4294967296 ^ k = A + C) :
    sm (nd (ys.set k ((x + y + s) % 4294967296))) (k + 1) + (x + y + s) / 4294967296 * 4294967296 ^ (k + 1) = (A + x * 4294967296 ^ k) + (C + y * 4294967296 ^ k) := by
  have h1 : sm (nd (ys.set k ((x + y + s) % 4294967296))) k = sm (nd ys) k :=
    sm_congr fun i hi => by rw [nd_set _ _ _ _ (by omega), if_neg (by omega)]
  show sm _ k + nd _ k * _ + _ = _
  rw [h1, nd_set _ _ _ _ (by omega), if_pos rfl, Nat.pow_succ]
  have h2 := Nat.mod_add_div (x + y + s) 4294967296
  generalize hP : (4294967296 : Nat) ^ k = P at *
  have h3 : ((x + y + s) % 4294967296 + 4294967296 * ((x + y + s) / 4294967296)) * P = (x + y + s) * P := by rw [h2]
  generalize (x + y + s) % 4294967296 = r at *
  generalize (x + y + s) / 4294967296 = q at *
  have h4 : q * (P * 4294967296) = 4294967296 * q * P := by rw [Nat.mul_comm P, ← Nat.mul_assoc, Nat.mul_comm q]
  rw [Nat.add_mul] at h3
  rw [Nat.add_mul, Nat.add_mul] at h3
  omega

theorem sub_step {ys : List Nat} {k L x y s d b A C : Nat} (hk : k < L) (hl : ys.length = L) (h : sm (nd ys) k + C = A + s * 4294967296 ^ k) (hd : d + y + s = x + 4294967296 * b) :
    sm (nd (ys.set k d)) (k + 1) + (C + y * 4294967296 ^ k) = (A + x * 4294967296 ^ k) + b * 4294967296 ^ (k + 1) := by
  have h1 : sm (nd (ys.set k d)) k = sm (nd ys) k :=
    sm_congr fun i hi => by rw [nd_set _ _ _ _ (by omega), if_neg (by omega)]
  show sm _ k + nd _ k * _ + _ = _
  rw [h1, nd_set _ _ _ _ (by omega), if_pos rfl, Nat.pow_succ]
  generalize hP : (4294967296 : Nat) ^ k = P at *
  have h3 : (d + y + s) * P = (x + 4294967296 * b) * P := by rw [hd]
  have h4 : b * (P * 4294967296) = 4294967296 * b * P := by rw [Nat.mul_comm P, ← Nat.mul_assoc, Nat.mul_comm b]
  rw [Nat.add_mul, Nat.add_mul, Nat.add_mul] at h3
  omega

/-- The rest of less's story: the difference, nothing borrowed. -/
theorem less_val {zs : List Nat} {A C s : Nat} (hl : Lims zs) (h : val zs + C = A + s * 4294967296 ^ zs.length) (hs : s ≤ 1) (hC : C ≤ A) : val zs = A - C := by
  have h1 := val_lt hl
  obtain rfl | rfl : s = 0 ∨ s = 1 := by omega
  · omega
  · omega

theorem val_lt_of {xs ys : List Nat} (hx : Lims xs) {i : Nat} (h : ∀ j, i < j → nd xs j = nd ys j) (hlt : nd xs i < nd ys i) : val xs < val ys := by
  have := sm_lt_of (f := nd xs) (g := nd ys) (n := xs.length + ys.length + i + 1) (fun j a _ => h j a) (by omega) hx.all hlt
  rwa [val_le (by omega), val_le (by omega)] at this

theorem val_eq_of {xs ys : List Nat} (h : ∀ j, nd xs j = nd ys j) : val xs = val ys := by
  rw [← val_le (xs := xs) (k := xs.length + ys.length) (by omega), ← val_le (xs := ys) (k := xs.length + ys.length) (by omega)]
  exact sm_congr fun i _ => h i

theorem sm_mod {ys : List Nat} (h : Lims ys) (n : Nat) : sm (nd ys) n = val ys % 4294967296 ^ n := by
  by_cases hn : n ≤ ys.length
  · obtain ⟨m, hm⟩ := Nat.exists_eq_add_of_le hn
    unfold val
    rw [hm, sm_add, Nat.add_mul_mod_self_left, Nat.mod_eq_of_lt (sm_lt fun i _ => h.all i)]
  · rw [val_le (by omega), Nat.mod_eq_of_lt]
    have := val_lt h
    have := pow_le (show ys.length ≤ n by omega)
    omega

end Go.Proofs.Ytlnilkghbbbhbaa
