
/-
  Plain facts on square roots, powers and lengths.
-/
import Derived.Test.YtlnilkghbbbhbaaNum6
namespace Go.Proofs.Ytlnilkghbbbhbaa

/-- The root, rounded down. -/
def rt : Nat → Nat
  | 0 => 0
  | n + 1 => if (rt n + 1) * (rt n + 1) ≤ n + 1 then rt n + 1 else rt n

theorem rt_spec (n : Nat) : rt n * rt n ≤ n ∧ n < (rt n + 1) * (rt n + 1) := by
  induction n with
  | zero => simp [rt]
  | succ n ih =>
    unfold rt
    split
    · rename_i h
      refine ⟨h, ?_⟩
      have e : (rt n + 1 + 1) * (rt n + 1 + 1) = (rt n + 1) * (rt n + 1) + 2 * (rt n + 1) + 1 := by
        generalize rt n + 1 = t
        rw [Nat.add_mul, Nat.mul_add]; omega
      omega
    · rename_i h
      exact ⟨by omega, by omega⟩

theorem sq_mono {a b : Nat} (h : a ≤ b) : a * a ≤ b * b := Nat.mul_le_mul h h

theorem sq_lt {a b : Nat} (h : a * a < b * b) : a < b := by
  rcases Nat.lt_or_ge a b with h1 | h1
  · exact h1
  · have := sq_mono h1; omega

theorem rt_unique {n s : Nat} (h1 : s * s ≤ n) (h2 : n < (s + 1) * (s + 1)) : s = rt n := by
  obtain ⟨h3, h4⟩ := rt_spec n
  have h5 := sq_lt (Nat.lt_of_le_of_lt h1 h4)
  have h6 := sq_lt (Nat.lt_of_le_of_lt h3 h2)
  omega

theorem two_sq {x s : Nat} : 2 * s * x ≤ x * x + s * s := by
  rcases Nat.le_total s x with h | h
  · obtain ⟨k, rfl⟩ := Nat.exists_eq_add_of_le h
    have e1 : 2 * s * (s + k) = 2 * (s * s) + 2 * (s * k) := by rw [Nat.mul_add, Nat.mul_assoc, Nat.mul_assoc]
    have e2 : (s + k) * (s + k) = s * s + 2 * (s * k) + k * k := by
      rw [Nat.add_mul, Nat.mul_add, Nat.mul_add, Nat.mul_comm k s]; omega
    omega
  · obtain ⟨k, rfl⟩ := Nat.exists_eq_add_of_le h
    have e1 : 2 * (x + k) * x = 2 * (x * x) + 2 * (x * k) := by rw [Nat.mul_assoc, Nat.add_mul, Nat.mul_add, Nat.mul_comm k x]
    have e2 : (x + k) * (x + k) = x * x + 2 * (x * k) + k * k := by
      rw [Nat.add_mul, Nat.mul_add, Nat.mul_add, Nat.mul_comm k x]; omega
    omega

theorem newton_ge {N x : Nat} (hx : 0 < x) : rt N ≤ (x + N / x) / 2 := by
  obtain ⟨h1, _⟩ := rt_spec N
  generalize rt N = s at *
  have h2 := @two_sq x s
  have h3 : 2 * s ≤ (x * x + N) / x := by
    rw [Nat.le_div_iff_mul_le hx]; omega
  rw [Nat.mul_add_div hx] at h3
  omega

theorem newton_stop {N x : Nat} (hx : 0 < x) (h1 : rt N ≤ x) (h2 : x ≤ (x + N / x) / 2) : x = rt N := by
  have h3 : x ≤ N / x := by omega
  rw [Nat.le_div_iff_mul_le hx] at h3
  obtain ⟨_, h4⟩ := rt_spec N
  have := sq_lt (Nat.lt_of_le_of_lt h3 h4)
  omega

theorem rt_start {N b : Nat} (h : N < 2 ^ b) : rt N ≤ 2 ^ ((b + 1) / 2) := by
  obtain ⟨h1, _⟩ := rt_spec N
  have h2 : 2 ^ b ≤ 2 ^ ((b + 1) / 2) * 2 ^ ((b + 1) / 2) := by
    rw [← Nat.pow_add]; exact Nat.pow_le_pow_right (by omega) (by omega)
  have := sq_lt (Nat.lt_of_lt_of_le (Nat.lt_of_le_of_lt h1 h) h2)
  omega

theorem rt_pos {N : Nat} (h : N ≠ 0) : 0 < rt N := by
  obtain ⟨_, h2⟩ := rt_spec N
  rcases Nat.eq_zero_or_pos (rt N) with h0 | h0
  · rw [h0] at h2; omega
  · exact h0

/-- How long sums and products are. -/
theorem ll_mul (a b : Nat) : ll (a * b) ≤ ll a + ll b := by
  apply ll_le
  rw [Nat.pow_add]
  have h1 := lt_ll a
  have h2 := lt_ll b
  rcases Nat.eq_zero_or_pos b with rfl | hb
  · rw [Nat.mul_zero]; exact Nat.mul_pos (pos_pow _) (pos_pow _)
  · exact Nat.lt_of_lt_of_le (Nat.mul_lt_mul_of_pos_right h1 hb) (Nat.mul_le_mul_left _ (Nat.le_of_lt h2))

theorem ll_add {a b k : Nat} (ha : ll a ≤ k) (hb : ll b ≤ k) : ll (a + b) ≤ k + 1 := by
  apply ll_le
  have h1 := lt_ll a
  have h2 := lt_ll b
  have h3 := pow_le ha
  have h4 := pow_le hb
  rw [Nat.pow_succ]
  omega

theorem ll_two (e : Nat) : ll (2 ^ e) = e / 32 + 1 := by
  have hp := Nat.two_pow_pos (e % 32)
  have e1 : 2 ^ e = 4294967296 ^ (e / 32) * 2 ^ (e % 32) := by
    rw [pow_two, ← Nat.pow_add]
    congr 1
    omega
  have hp2 : 2 ^ (e % 32) < 4294967296 := by
    rw [show (4294967296 : Nat) = 2 ^ 32 from rfl]; exact Nat.pow_lt_pow_right (by omega) (Nat.mod_lt _ (by omega))
  rw [e1]
  apply ll_eq
  · rw [Nat.pow_succ]; exact Nat.mul_lt_mul_of_pos_left hp2 (pos_pow _)
  · exact Nat.le_mul_of_pos_right _ hp

theorem val_ll {xs : List Nat} (h : Lims xs) : ll (val xs) ≤ xs.length := by rw [← tl_ll h]; exact tl_le _ _

theorem blen_len {xs : List Nat} (h : Lims xs) : blen (val xs) ≤ 32 * xs.length := by
  apply blen_le
  have h1 := val_lt h
  rwa [pow_two] at h1

theorem cmpN_above {a b : Nat} (h : b < a) : 0 < cmpN a b := by
  unfold cmpN; rw [if_neg (by omega), if_neg (by omega)]; omega
theorem cmpN_not_above {a b : Nat} (h : a ≤ b) : cmpN a b ≤ 0 := by
  unfold cmpN
  split
  · omega
  · rw [if_pos (by omega)]; omega

theorem blen_pos {x : Nat} (h : x ≠ 0) : 0 < blen x := by unfold blen; rw [if_neg h]; omega

theorem cmpN_below {a b : Nat} (h : a < b) : cmpN a b < 0 := by unfold cmpN; rw [if_pos h]; omega
theorem cmpN_not_below {a b : Nat} (h : b ≤ a) : 0 ≤ cmpN a b := by
  unfold cmpN; rw [if_neg (by omega)]
  split <;> omega

end Go.Proofs.Ytlnilkghbbbhbaa
