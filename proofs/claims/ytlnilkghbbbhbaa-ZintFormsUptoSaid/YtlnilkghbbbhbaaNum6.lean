
/-
  Plain facts for one step of the long division.
-/
import Derived.Test.YtlnilkghbbbhbaaNum5
namespace Go.Proofs.Ytlnilkghbbbhbaa

theorem top2 {f : Nat → Nat} {n : Nat} (hf : ∀ i, f i < 4294967296) (hn : 2 ≤ n) :
    (f (n - 1) * 4294967296 + f (n - 2)) * 4294967296 ^ (n - 2) ≤ sm f n ∧ sm f n < (f (n - 1) * 4294967296 + f (n - 2) + 1) * 4294967296 ^ (n - 2) := by
  obtain ⟨k, rfl⟩ : ∃ k, n = k + 2 := ⟨n - 2, by omega⟩
  rw [show k + 2 - 1 = k + 1 by omega, show k + 2 - 2 = k by omega]
  have h1 : sm f (k + 2) = sm f k + f k * 4294967296 ^ k + f (k + 1) * 4294967296 ^ (k + 1) := rfl
  have h2 := sm_lt (f := f) (k := k) (fun i _ => hf i)
  rw [h1, Nat.pow_succ]
  generalize 4294967296 ^ k = P at *
  have e1 : f (k + 1) * (P * 4294967296) = f (k + 1) * 4294967296 * P := by rw [Nat.mul_comm P, Nat.mul_assoc]
  rw [e1, Nat.add_mul, Nat.add_mul, Nat.add_mul]
  omega

theorem alg3 {a b c S P B : Nat} (h : (b * B + c) * P ≤ S ∧ S < (b * B + c + 1) * P) : ((a * B + b) * B + c) * P ≤ S + a * (P * B * B) ∧ S + a * (P * B * B) < ((a * B + b) * B + c + 1) * P := by
  have e3 : a * (P * B * B) = a * B * B * P := by ac_rfl
  have e4 : (a * B + b) * B + c = a * B * B + (b * B + c) := by rw [Nat.add_mul, Nat.add_assoc]
  rw [e3, e4]
  generalize a * B * B = X at *
  generalize b * B + c = Y at *
  rw [Nat.add_mul, Nat.add_mul, Nat.add_mul]
  rw [Nat.add_mul] at h
  omega

theorem top3 {g : Nat → Nat} {n : Nat} (hg : ∀ i, g i < 4294967296) (hn : 2 ≤ n) :
    ((g n * 4294967296 + g (n - 1)) * 4294967296 + g (n - 2)) * 4294967296 ^ (n - 2) ≤ sm g (n + 1) ∧ sm g (n + 1) < ((g n * 4294967296 + g (n - 1)) * 4294967296 + g (n - 2) + 1) * 4294967296 ^ (n - 2) := by
  have h := top2 hg hn
  obtain ⟨k, rfl⟩ : ∃ k, n = k + 2 := ⟨n - 2, by omega⟩
  rw [show k + 2 - 1 = k + 1 by omega, show k + 2 - 2 = k by omega] at *
  have h1 : sm g (k + 2 + 1) = sm g (k + 2) + g (k + 2) * 4294967296 ^ (k + 2) := rfl
  rw [h1]
  have e2 : (4294967296 : Nat) ^ (k + 2) = 4294967296 ^ k * 4294967296 * 4294967296 := by rw [Nat.pow_succ, Nat.pow_succ]
  rw [e2]
  generalize sm g (k + 2) = S at *
  generalize g (k + 2) = a at *
  generalize g (k + 1) = b at *
  generalize g k = c at *
  generalize 4294967296 ^ k = P at *
  exact alg3 h

/-- What is known of the window at place j. -/
theorem window {us vs : List Nat} {j n m V : Nat} (_hu : Lims us) (hv : Lims vs) (hl : us.length = n + m + 1) (hvl : vs.length = n) (hV : val vs = V) (hn : 2 ≤ n) (hj : j ≤ m)
    (hlt : val us < V * 4294967296 ^ (j + 1)) :
    sm (fun k => nd us (j + k)) (n + 1) < V * 4294967296 ∧ nd us (j + n) * 4294967296 + nd us (j + (n - 1)) < (nd vs (n - 1) + 1) * 4294967296 ∧
    ∃ R, val us = sm (nd us) j + 4294967296 ^ j * sm (fun k => nd us (j + k)) (n + 1) ∧ R = 0 := by
  have hVn : V < 4294967296 ^ n := by rw [← hV, ← hvl]; exact val_lt hv
  have h1 : val us = sm (nd us) j + 4294967296 ^ j * sm (fun k => nd us (j + k)) (n + m + 1 - j) := by
    unfold val
    rw [← sm_add, hl, show j + (n + m + 1 - j) = n + m + 1 by omega]
  obtain ⟨r, hr⟩ : ∃ r, n + m + 1 - j = n + 1 + r := ⟨m - j, by omega⟩
  rw [hr, sm_add] at h1
  generalize hW : sm (fun k => nd us (j + k)) (n + 1) = W at *
  generalize hX : sm (fun i => (fun k => nd us (j + k)) (n + 1 + i)) r = X at *
  have hX0 : X = 0 := by
    rcases Nat.eq_zero_or_pos X with h | h
    · exact h
    · have h2 : 4294967296 ^ (n + 1) * 1 ≤ 4294967296 ^ (n + 1) * X := Nat.mul_le_mul_left _ h
      have h3 : 4294967296 ^ j * (4294967296 ^ (n + 1) * 1) ≤ 4294967296 ^ j * (W + 4294967296 ^ (n + 1) * X) := Nat.mul_le_mul_left _ (by omega)
      have h4 : V * 4294967296 ^ (j + 1) ≤ 4294967296 ^ n * 4294967296 ^ (j + 1) := Nat.mul_le_mul_right _ (Nat.le_of_lt hVn)
      have h5 : 4294967296 ^ n * 4294967296 ^ (j + 1) = 4294967296 ^ j * (4294967296 ^ (n + 1) * 1) := by
        rw [Nat.mul_one, ← Nat.pow_add, ← Nat.pow_add]; congr 1; omega
      omega
  rw [hX0, Nat.mul_zero, Nat.add_zero] at h1
  have hW1 : W < V * 4294967296 := by
    have h2 : 4294967296 ^ j * W < 4294967296 ^ j * (V * 4294967296) := by
      have : V * 4294967296 ^ (j + 1) = 4294967296 ^ j * (V * 4294967296) := by rw [Nat.pow_succ, Nat.mul_left_comm]
      omega
    exact Nat.lt_of_mul_lt_mul_left h2
  refine ⟨hW1, ?_, 0, h1, rfl⟩
  obtain ⟨k, rfl⟩ : ∃ k, n = k + 1 := ⟨n - 1, by omega⟩
  rw [Nat.add_sub_cancel]
  have hv1 : V < (nd vs k + 1) * 4294967296 ^ k := by
    rw [← hV]
    unfold val
    rw [hvl]
    show sm (nd vs) k + nd vs k * 4294967296 ^ k < _
    have := sm_lt (f := nd vs) (k := k) (fun i _ => hv.all i)
    rw [Nat.add_mul]; omega
  have hw2 : (nd us (j + (k + 1)) * 4294967296 + nd us (j + k)) * 4294967296 ^ k ≤ W := by
    rw [← hW]
    show _ ≤ sm (fun k => nd us (j + k)) k + nd us (j + k) * 4294967296 ^ k + nd us (j + (k + 1)) * 4294967296 ^ (k + 1)
    rw [Nat.pow_succ, Nat.add_mul]
    have : nd us (j + (k + 1)) * (4294967296 ^ k * 4294967296) = nd us (j + (k + 1)) * 4294967296 * 4294967296 ^ k := by rw [Nat.mul_comm (4294967296 ^ k), Nat.mul_assoc]
    omega
  generalize 4294967296 ^ k = P at *
  have h6 : (nd us (j + (k + 1)) * 4294967296 + nd us (j + k)) * P < (nd vs k + 1) * 4294967296 * P := by
    have : (nd vs k + 1) * P * 4294967296 = (nd vs k + 1) * 4294967296 * P := by rw [Nat.mul_assoc, Nat.mul_comm P, Nat.mul_assoc]
    omega
  exact Nat.lt_of_mul_lt_mul_right h6

/-- Behind the step: the window holds the rest, and all else is as it was. -/
theorem long_next {us us3 zs vs : List Nat} {j n m V T Q : Nat} (hu : Lims us) (_hu3 : Lims us3) (hv : Lims vs) (hl : us.length = n + m + 1) (hl3 : us3.length = n + m + 1) (hvl : vs.length = n) (hV : val vs = V) (hn : 2 ≤ n) (hj : j ≤ m) (hzl : zs.length = m + 1)
    (hlt : val us < V * 4294967296 ^ (j + 1)) (hT : val us + V * 4294967296 ^ (j + 1) * val (zs.drop (j + 1)) = T)
    (hQ : Q = sm (fun k => nd us (j + k)) (n + 1) / V) (hw : sm (fun k => nd us3 (j + k)) (n + 1) = sm (fun k => nd us (j + k)) (n + 1) % V) (hout : ∀ x, (x < j ∨ j + n < x) → nd us3 x = nd us x) :
    val us3 + V * 4294967296 ^ j * val ((zs.set j Q).drop j) = T ∧ val us3 < V * 4294967296 ^ j := by
  obtain ⟨_, _, _, h1, _⟩ := window hu hv hl hvl hV hn hj hlt
  have hV0 : 0 < V := by
    rcases Nat.eq_zero_or_pos V with h | h
    · rw [h, Nat.zero_mul] at hlt; omega
    · exact h
  have hlow : sm (nd us3) j = sm (nd us) j := sm_congr fun i hi => hout i (Or.inl hi)
  have h3 : val us3 = sm (nd us) j + 4294967296 ^ j * (sm (fun k => nd us (j + k)) (n + 1) % V) := by
    have e1 : val us3 = sm (nd us3) j + 4294967296 ^ j * sm (fun k => nd us3 (j + k)) (n + m + 1 - j) := by
      unfold val
      rw [← sm_add, hl3, show j + (n + m + 1 - j) = n + m + 1 by omega]
    have e2 : val us = sm (nd us) j + 4294967296 ^ j * sm (fun k => nd us (j + k)) (n + m + 1 - j) := by
      unfold val
      rw [← sm_add, hl, show j + (n + m + 1 - j) = n + m + 1 by omega]
    obtain ⟨r, hr⟩ : ∃ r, n + m + 1 - j = n + 1 + r := ⟨m - j, by omega⟩
    rw [hr, sm_add] at e1 e2
    have e3 : sm (fun i => (fun k => nd us3 (j + k)) (n + 1 + i)) r = sm (fun i => (fun k => nd us (j + k)) (n + 1 + i)) r := sm_congr fun i _ => hout _ (Or.inr (by omega))
    rw [e3, hlow, hw] at e1
    generalize sm (fun i => (fun k => nd us (j + k)) (n + 1 + i)) r = X at e1 e2
    rw [h1] at e2
    have e4 := Nat.add_left_cancel e2
    have e5 := Nat.eq_of_mul_eq_mul_left (pos_pow j) e4
    have e6 : 4294967296 ^ (n + 1) * X = 0 := by omega
    rw [e6, Nat.add_zero] at e1
    exact e1
  generalize sm (fun k => nd us (j + k)) (n + 1) = W at *
  have hdm := Nat.div_add_mod W V
  have hml := Nat.mod_lt W hV0
  rw [← hQ] at hdm
  generalize hR : W % V = R at *
  have hlj := sm_lt (f := nd us) (k := j) (fun i _ => hu.all i)
  constructor
  · rw [val_drop_set (by omega), ← hT, h1, h3, ← hdm]
    rw [Nat.pow_succ, Nat.mul_add, Nat.mul_add]
    have e7 : V * 4294967296 ^ j * Q = 4294967296 ^ j * (V * Q) := by rw [Nat.mul_comm V, Nat.mul_assoc]
    have e8 : V * 4294967296 ^ j * (4294967296 * val (List.drop (j + 1) zs)) = V * (4294967296 ^ j * 4294967296) * val (List.drop (j + 1) zs) := by
      rw [← Nat.mul_assoc, Nat.mul_assoc V]
    omega
  · rw [h3]
    have : 4294967296 ^ j * (R + 1) ≤ 4294967296 ^ j * V := Nat.mul_le_mul_left _ hml
    rw [Nat.mul_add, Nat.mul_comm _ V] at this
    omega

end Go.Proofs.Ytlnilkghbbbhbaa
