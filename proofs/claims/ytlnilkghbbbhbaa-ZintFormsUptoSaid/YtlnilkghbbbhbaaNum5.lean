
/-
  Plain facts for the long division: the guess, the multiplication that is taken away, the adding back.
-/
import Derived.Test.YtlnilkghbbbhbaaNum4
namespace Go.Proofs.Ytlnilkghbbbhbaa

/-- How far the divisor is shifted, and what that makes of it. -/
theorem long_norm {N n s : Nat} (hn : 1 ≤ n) (h : ll N = n) (hs : s = 32 - blen (N / 4294967296 ^ (n - 1) % 4294967296)) : s ≤ 31 ∧ N * 2 ^ s < 4294967296 ^ n ∧ 2147483648 * 4294967296 ^ (n - 1) ≤ N * 2 ^ s := by
  obtain ⟨k, rfl⟩ : ∃ k, n = k + 1 := ⟨n - 1, by omega⟩
  rw [Nat.add_sub_cancel] at *
  have h1 := lt_ll N
  rw [h] at h1
  have h2 : 4294967296 ^ k ≤ N := by
    rcases Nat.lt_or_ge N (4294967296 ^ k) with h3 | h3
    · have := ll_le h3; omega
    · exact h3
  have hT1 : N / 4294967296 ^ k < 4294967296 := by
    rw [Nat.div_lt_iff_lt_mul (pos_pow k), Nat.mul_comm, ← Nat.pow_succ]; exact h1
  have hT0 : N / 4294967296 ^ k ≠ 0 := by
    have := Nat.div_pos h2 (pos_pow k); omega
  rw [Nat.mod_eq_of_lt hT1] at hs
  have hN := Nat.div_add_mod N (4294967296 ^ k)
  have hN2 := Nat.mod_lt N (pos_pow k)
  generalize N / 4294967296 ^ k = T at *
  have hb1 := lt_blen T
  have hb2 := pow_blen hT0
  have hb3 := blen_le (show T < 2 ^ 32 from hT1)
  have hb0 : 0 < blen T := by unfold blen; rw [if_neg hT0]; omega
  generalize blen T = b at *
  have hbs : b + s = 32 := by omega
  have e32 : 2 ^ b * 2 ^ s = 4294967296 := by rw [← Nat.pow_add, hbs]
  have e31 : 2 ^ (b - 1) * 2 ^ s = 2147483648 := by rw [← Nat.pow_add, show b - 1 + s = 31 by omega]
  have hp := Nat.two_pow_pos s
  refine ⟨by omega, ?_, ?_⟩
  · have h4 : N < 4294967296 ^ k * 2 ^ b := by
      have : 4294967296 ^ k * (T + 1) ≤ 4294967296 ^ k * 2 ^ b := Nat.mul_le_mul_left _ hb1
      rw [Nat.mul_add] at this; omega
    have h5 := Nat.mul_lt_mul_of_pos_right h4 hp
    rw [Nat.mul_assoc, e32, ← Nat.pow_succ] at h5
    exact h5
  · have h4 : 4294967296 ^ k * 2 ^ (b - 1) ≤ N := by
      have : 4294967296 ^ k * 2 ^ (b - 1) ≤ 4294967296 ^ k * T := Nat.mul_le_mul_left _ hb2
      omega
    have h5 := Nat.mul_le_mul_right (2 ^ s) h4
    rw [Nat.mul_assoc, e31, Nat.mul_comm] at h5
    exact h5

/-- A guess that is refused is too great. -/
theorem guess_down {W V V2 W2 P top next t u2 q r : Nat} (hW : W < (W2 + 1) * P) (hV : V2 * P ≤ V) (hV2 : V2 = top * 4294967296 + next) (hW2 : W2 = t * 4294967296 + u2)
    (hq : q * top + r = t) (h : r * 4294967296 + u2 < q * next) : W < q * V := by
  have h1 : W2 + 1 ≤ q * V2 := by
    have e : q * V2 = q * top * 4294967296 + q * next := by rw [hV2, Nat.mul_add, Nat.mul_assoc]
    rw [e, hW2, ← hq, Nat.add_mul]
    omega
  have h2 : (W2 + 1) * P ≤ q * V2 * P := Nat.mul_le_mul_right _ h1
  have h3 : q * V2 * P ≤ q * V := by rw [Nat.mul_assoc]; exact Nat.mul_le_mul_left _ hV
  omega

/-- A guess that stands is at most one too great. -/
theorem guess_up {W V V2 W2 P top next t u2 q r : Nat} (hW : W2 * P ≤ W) (hV : V < (V2 + 1) * P) (hV2 : V2 = top * 4294967296 + next) (hW2 : W2 = t * 4294967296 + u2)
    (hq : q * top + r = t) (h : q * next ≤ r * 4294967296 + u2) (hqB : q < 4294967296) (htop : 2147483648 ≤ top) (hq0 : 0 < q) : (q - 1) * V ≤ W := by
  have h1 : q * V2 ≤ W2 := by
    have e : q * V2 = q * top * 4294967296 + q * next := by rw [hV2, Nat.mul_add, Nat.mul_assoc]
    rw [e, hW2, ← hq, Nat.add_mul]
    omega
  obtain ⟨k, rfl⟩ : ∃ k, q = k + 1 := ⟨q - 1, by omega⟩
  rw [Nat.add_sub_cancel]
  have h2 : k * (V2 + 1) ≤ W2 := by
    rw [Nat.mul_add]
    rw [Nat.add_mul] at h1
    omega
  have h3 : k * V ≤ k * ((V2 + 1) * P) := Nat.mul_le_mul_left _ (Nat.le_of_lt hV)
  have h4 : k * (V2 + 1) * P ≤ W2 * P := Nat.mul_le_mul_right _ h2
  rw [Nat.mul_assoc] at h4
  omega

/-- One limb of what is taken away. u: the limb; x: the divisor's; c, b: what is carried and borrowed. -/
theorem take_num {u x q c b : Nat} (hu : u < 4294967296) (hx : x < 4294967296) (hq : q < 4294967296) (hc : c < 4294967296) (hb : b ≤ 1) :
    (q * x + c) / 4294967296 < 4294967296 ∧ q * x + c < 18446744073709551616 ∧
    ∃ d b', b' ≤ 1 ∧ d < 4294967296 ∧ d + q * x + (c + b) = u + 4294967296 * ((q * x + c) / 4294967296 + b') ∧
      ((u : Int) - ((q * x + c) % 4294967296 : Nat) - (b : Int)) % 18446744073709551616 % 4294967296 = (d : Int) ∧
      ((u : Int) - ((q * x + c) % 4294967296 : Nat) - (b : Int)) % 18446744073709551616 / 9223372036854775808 = (b' : Int) := by
  have h1 : q * x ≤ 4294967295 * 4294967295 := Nat.mul_le_mul (by omega) (by omega)
  generalize q * x = T at *
  have h2 := Nat.mod_add_div (T + c) 4294967296
  have h3 := Nat.mod_lt (T + c) (show 0 < 4294967296 by omega)
  generalize hR : (T + c) % 4294967296 = R at *
  generalize hQ : (T + c) / 4294967296 = Q at *
  refine ⟨by omega, by omega, ?_⟩
  by_cases h : R + b ≤ u
  · exact ⟨u - R - b, 0, by omega, by omega, by omega, by omega, by omega⟩
  · exact ⟨u + 4294967296 - R - b, 1, by omega, by omega, by omega, by omega, by omega⟩

theorem take_step {us vs : List Nat} {j i L q d b b' c c' A C : Nat} (hL : j + i < L) (hl : us.length = L)
    (h : sm (fun k => nd us (j + k)) i + q * C = A + 4294967296 ^ i * (c + b)) (hd : d + q * nd vs i + (c + b) = nd us (j + i) + 4294967296 * (c' + b')) :
    sm (fun k => nd (us.set (j + i) d) (j + k)) (i + 1) + q * (C + nd vs i * 4294967296 ^ i) = (A + nd us (j + i) * 4294967296 ^ i) + 4294967296 ^ (i + 1) * (c' + b') := by
  have h1 : sm (fun k => nd (us.set (j + i) d) (j + k)) i = sm (fun k => nd us (j + k)) i :=
    sm_congr fun k hk => by show nd (us.set (j + i) d) (j + k) = _; rw [nd_set _ _ _ _ (by omega), if_neg (by omega)]
  show sm _ i + nd _ (j + i) * _ + _ = _
  rw [h1, nd_set _ _ _ _ (by omega), if_pos rfl, Nat.pow_succ]
  generalize (4294967296 : Nat) ^ i = P at *
  have h3 : (d + q * nd vs i + (c + b)) * P = (nd us (j + i) + 4294967296 * (c' + b')) * P := by rw [hd]
  have h4 : q * (C + nd vs i * P) = q * C + q * nd vs i * P := by rw [Nat.mul_add, Nat.mul_assoc]
  have h5 : P * 4294967296 * (c' + b') = 4294967296 * (c' + b') * P := by rw [Nat.mul_comm P, Nat.mul_assoc, Nat.mul_assoc, Nat.mul_comm P]
  have h6 : P * (c + b) = (c + b) * P := Nat.mul_comm _ _
  rw [Nat.add_mul, Nat.add_mul, Nat.add_mul (nd us (j + i))] at h3
  rw [h4, h5]
  rw [h6] at h
  omega

/-- The limb behind the last: is anything owed? -/
theorem last_num {X c b : Nat} (hX : X < 4294967296) (hc : c < 4294967296) (hb : b ≤ 1) :
    (c + b ≤ X → ((X : Int) - (c : Int) - (b : Int)) % 18446744073709551616 % 4294967296 = ((X - (c + b) : Nat) : Int) ∧ ((X : Int) - (c : Int) - (b : Int)) % 18446744073709551616 / 9223372036854775808 = 0) ∧
    (X < c + b → ((X : Int) - (c : Int) - (b : Int)) % 18446744073709551616 % 4294967296 = (((X + 4294967296 - (c + b)) % 4294967296 : Nat) : Int) ∧ ((X : Int) - (c : Int) - (b : Int)) % 18446744073709551616 / 9223372036854775808 = 1) := by
  constructor
  · intro h; constructor <;> omega
  · intro h; constructor <;> omega

/-- What is left, if nothing is owed. -/
theorem take_fits {W Wl X V q n c : Nat} {S : Nat} (hW : W = Wl + 4294967296 ^ n * X) (h : S + q * V = Wl + 4294967296 ^ n * c) (hc : c ≤ X) (_hS : S < 4294967296 ^ n) (hV : V < 4294967296 ^ n) (hV0 : 0 < V)
    (hq1 : W / V ≤ q) : q = W / V ∧ X = c ∧ S = W % V := by
  obtain ⟨k, rfl⟩ : ∃ k, X = c + k := ⟨X - c, by omega⟩
  have h1 : W = S + 4294967296 ^ n * k + q * V := by rw [hW, Nat.mul_add]; omega
  have h2 : q ≤ W / V := by rw [Nat.le_div_iff_mul_le hV0]; omega
  have hq : q = W / V := by omega
  have h3 := Nat.div_add_mod W V
  have h4 := Nat.mod_lt W hV0
  rw [← hq, Nat.mul_comm] at h3
  have h5 : S + 4294967296 ^ n * k = W % V := by omega
  rcases Nat.eq_zero_or_pos k with rfl | hk
  · exact ⟨hq, by omega, by omega⟩
  · have : 4294967296 ^ n * 1 ≤ 4294967296 ^ n * k := Nat.mul_le_mul_left _ hk
    omega

/-- What is left, if one is owed: the guess was one too great. -/
theorem take_owes {W Wl X V q n c : Nat} {S : Nat} (hW : W = Wl + 4294967296 ^ n * X) (h : S + q * V = Wl + 4294967296 ^ n * c) (hc : X < c) (hS : S < 4294967296 ^ n) (hV : V < 4294967296 ^ n) (hV0 : 0 < V)
    (hq1 : W / V ≤ q) (hq0 : 0 < q) (hq2 : (q - 1) * V ≤ W) : q - 1 = W / V ∧ c = X + 1 ∧ S + V = W % V + 4294967296 ^ n := by
  obtain ⟨k, rfl⟩ : ∃ k, c = X + 1 + k := ⟨c - (X + 1), by omega⟩
  obtain ⟨p, rfl⟩ : ∃ p, q = p + 1 := ⟨q - 1, by omega⟩
  rw [Nat.add_sub_cancel] at hq2 ⊢
  have e1 : 4294967296 ^ n * (X + 1 + k) = 4294967296 ^ n * X + 4294967296 ^ n + 4294967296 ^ n * k := by rw [Nat.mul_add, Nat.mul_add, Nat.mul_one]
  have e2 : (p + 1) * V = p * V + V := by rw [Nat.add_mul, Nat.one_mul]
  rw [e1, e2] at h
  have hlt : W < (p + 1) * V := by rw [e2]; omega
  have h2 : W / V < p + 1 := by rw [Nat.div_lt_iff_lt_mul hV0]; exact hlt
  have h2' : p ≤ W / V := by rw [Nat.le_div_iff_mul_le hV0]; exact hq2
  have hq : p = W / V := by omega
  have h3 := Nat.div_add_mod W V
  have h4 := Nat.mod_lt W hV0
  rw [← hq, Nat.mul_comm] at h3
  rcases Nat.eq_zero_or_pos k with rfl | hk
  · exact ⟨hq, by omega, by omega⟩
  · have : 4294967296 ^ n * 1 ≤ 4294967296 ^ n * k := Nat.mul_le_mul_left _ hk
    omega

theorem back_step {us vs : List Nat} {j i L c A C : Nat} (hL : j + i < L) (hl : us.length = L)
    (h : sm (fun k => nd us (j + k)) i + 4294967296 ^ i * c = A + C) :
    sm (fun k => nd (us.set (j + i) ((nd us (j + i) + nd vs i + c) % 4294967296)) (j + k)) (i + 1) + 4294967296 ^ (i + 1) * ((nd us (j + i) + nd vs i + c) / 4294967296) = (A + nd us (j + i) * 4294967296 ^ i) + (C + nd vs i * 4294967296 ^ i) := by
  generalize hT : nd us (j + i) + nd vs i + c = T
  have h1 : sm (fun k => nd (us.set (j + i) (T % 4294967296)) (j + k)) i = sm (fun k => nd us (j + k)) i :=
    sm_congr fun k hk => by show nd (us.set (j + i) _) (j + k) = _; rw [nd_set _ _ _ _ (by omega), if_neg (by omega)]
  show sm _ i + nd _ (j + i) * _ + _ = _
  rw [h1, nd_set _ _ _ _ (by omega), if_pos rfl, Nat.pow_succ]
  have h2 := Nat.mod_add_div T 4294967296
  generalize (4294967296 : Nat) ^ i = P at *
  have h3 : (T % 4294967296 + 4294967296 * (T / 4294967296)) * P = T * P := by rw [h2]
  have h5 : P * 4294967296 * (T / 4294967296) = 4294967296 * (T / 4294967296) * P := by rw [Nat.mul_comm P, Nat.mul_assoc, Nat.mul_assoc, Nat.mul_comm P]
  have h6 : P * c = c * P := Nat.mul_comm _ _
  have h7 : T * P = nd us (j + i) * P + nd vs i * P + c * P := by rw [← hT, Nat.add_mul, Nat.add_mul]
  rw [Nat.add_mul] at h3
  rw [h5]
  omega

end Go.Proofs.Ytlnilkghbbbhbaa
