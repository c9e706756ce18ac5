
/-
  Plain facts: lengths in bits; limbs of what is shifted to the right.
-/
import Derived.Test.YtlnilkghbbbhbaaNum3
import Derived.Test.YtlnilkghbbbhbaaBits
namespace Go.Proofs.Ytlnilkghbbbhbaa

theorem blen_eq {n k : Nat} (h1 : 2 ^ k ≤ n) (h2 : n < 2 ^ (k + 1)) : blen n = k + 1 := by
  have := blen_le h2
  have := blen_ge h1
  omega

theorem blen_lim {N : Nat} (h : N ≠ 0) : blen N = 32 * (ll N - 1) + blen (nd (lim N) (ll N - 1)) := by
  have hp := ll_pos h
  have h1 := lt_ll N
  generalize hk : ll N - 1 = k at *
  have hk2 : ll N = k + 1 := by omega
  rw [hk2] at h1
  have htop : nd (lim N) k = N / 4294967296 ^ k := by
    rw [nd_lim]
    apply Nat.mod_eq_of_lt
    rw [Nat.div_lt_iff_lt_mul (pos_pow k)]
    rw [Nat.pow_succ] at h1
    rw [Nat.mul_comm]; exact h1
  have htz : N / 4294967296 ^ k ≠ 0 := by
    intro e
    have hlt : N < 4294967296 ^ k := by
      rcases Nat.lt_or_ge N (4294967296 ^ k) with h3 | h3
      · exact h3
      · have := Nat.div_pos h3 (pos_pow k); omega
    have := ll_le hlt
    omega
  rw [htop]
  generalize hT : N / 4294967296 ^ k = T at *
  have hb1 := lt_blen T
  have hb2 := pow_blen htz
  have hbp : 0 < blen T := by unfold blen; rw [if_neg htz]; omega
  have e : 32 * k + blen T = (32 * k + (blen T - 1)) + 1 := by omega
  rw [e]
  apply blen_eq
  · rw [Nat.pow_add, ← pow_two]
    have : 4294967296 ^ k * T ≤ N := by rw [← hT]; exact Nat.mul_div_le _ _
    exact Nat.le_trans (Nat.mul_le_mul_left _ hb2) this
  · rw [show 32 * k + (blen T - 1) + 1 = 32 * k + blen T by omega, Nat.pow_add, ← pow_two]
    have h3 : N < 4294967296 ^ k * (T + 1) := by
      rw [← hT]; exact Nat.lt_mul_div_succ N (pos_pow k)
    exact Nat.lt_of_lt_of_le h3 (Nat.mul_le_mul_left _ hb1)

theorem blen_zero : blen 0 = 0 := rfl

/-- One limb of what is shifted to the right. -/
theorem right_digit {V t i x y : Nat} (ht : t < 32) (hx : x = V / 4294967296 ^ i % 4294967296) (hy : y = V / 4294967296 ^ (i + 1) % 4294967296) : (y * 4294967296 + x) / 2 ^ t % 4294967296 = V / 2 ^ t / 4294967296 ^ i % 4294967296 := by
  have h32 : (4294967296 : Nat) = 2 ^ t * 2 ^ (32 - t) := by rw [← Nat.pow_add, show t + (32 - t) = 32 by omega]
  have hp : 0 < 2 ^ t := Nat.two_pow_pos t
  rw [Nat.div_div_eq_div_mul, Nat.mul_comm (2 ^ t), ← Nat.div_div_eq_div_mul]
  rw [Nat.pow_succ, ← Nat.div_div_eq_div_mul] at hy
  generalize V / 4294967296 ^ i = U at *
  have e : U = y * 4294967296 + x + 4294967296 * 4294967296 * (U / 4294967296 / 4294967296) := by omega
  generalize U / 4294967296 / 4294967296 = R at *
  rw [e]
  have e2 : 4294967296 * 4294967296 * R = 2 ^ t * (4294967296 * (2 ^ (32 - t) * R)) := by
    rw [Nat.mul_left_comm, ← Nat.mul_assoc (2 ^ t), ← h32, Nat.mul_assoc]
  rw [e2, Nat.add_mul_div_left _ _ hp, Nat.add_mul_mod_self_left]

theorem nd_of_val {us : List Nat} {V : Nat} (hl : Lims us) (hv : val us = V) (k : Nat) : nd us k = V / 4294967296 ^ k % 4294967296 := by
  by_cases h : k < us.length
  · rw [← hv]; exact (sm_digit (f := nd us) (k := us.length) hl h).symm
  · rw [nd_lt_len (by omega), ← hv, Nat.div_eq_of_lt]
    have := val_lt hl
    have := pow_le (show us.length ≤ k by omega)
    omega

theorem right_cast (x y t : Nat) : ((y : Int) * 4294967296 + (x : Int)) / 2 ^ t % 4294967296 = (((y * 4294967296 + x) / 2 ^ t % 4294967296 : Nat) : Int) := by
  rw [Int.natCast_emod, Int.natCast_ediv, Int.natCast_pow, Int.natCast_add, Int.natCast_mul]; rfl

theorem right_cast0 (x t : Nat) : (x : Int) / 2 ^ t % 4294967296 = ((x / 2 ^ t % 4294967296 : Nat) : Int) := by
  rw [Int.natCast_emod, Int.natCast_ediv, Int.natCast_pow]; rfl

theorem right_div (N s : Nat) : N / 2 ^ s = N / 4294967296 ^ (s / 32) / 2 ^ (s % 32) := by
  rw [Nat.div_div_eq_div_mul, pow_split]

theorem right_end {zs : List Nat} {M : Nat} (h : ∀ j, j < zs.length → nd zs j = M / 4294967296 ^ j % 4294967296) (hM : M < 4294967296 ^ zs.length) : val zs = M := by
  have e : val zs = sm (nd (lim M)) zs.length := sm_congr fun i hi => by rw [h i hi, nd_lim]
  rw [e, sm_lim, Nat.mod_eq_of_lt hM]


end Go.Proofs.Ytlnilkghbbbhbaa
