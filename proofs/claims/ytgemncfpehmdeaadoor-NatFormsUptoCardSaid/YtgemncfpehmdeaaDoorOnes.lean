
/-
  The places of a number's ones, limb by limb: plain.
-/
import Derived.Test.YtgemncfpehmdeaaDoorTz
set_option linter.unusedVariables false
set_option linter.unusedSimpArgs false
namespace Go.Proofs.YtgemncfpehmdeaaDoor

/-- The places of the ones below 2^32, rising. -/
def obs (x : Nat) : List Nat := (List.range 32).filter fun j => x.testBit j
theorem range_cut {k : Nat} (hk : k < 32) : List.range 32 = List.range k ++ (k :: (List.range (31 - k)).map (k + 1 + ·)) := by
  have h1 : List.range 32 = List.range (k + (1 + (31 - k))) := by congr 1; omega
  rw [h1, List.range_add, Nat.add_comm 1, List.range_succ_eq_map]
  simp only [List.map_cons, List.map_map, Nat.add_zero]
  congr 2
  refine List.map_congr_left fun j _ => ?_
  simp only [Function.comp, Nat.succ_eq_add_one]
  omega
theorem obs_zero : obs 0 = [] := by
  unfold obs
  rw [List.filter_eq_nil_iff]
  intro j _
  simp
theorem obs_step {x k m : Nat} (hk : k < 32) (hx : x = 2 ^ k * (2 * m + 1)) : obs x = k :: obs (x - 2 ^ k) := by
  have e : x - 2 ^ k = 2 ^ (k + 1) * m := by
    rw [hx, Nat.mul_add, Nat.mul_one, Nat.add_sub_cancel, Nat.pow_succ]
    rw [Nat.mul_assoc]
  have b1 : ∀ j, x.testBit j = (decide (k ≤ j) && (2 * m + 1).testBit (j - k)) := fun j => by rw [hx, Nat.testBit_two_pow_mul]
  have b2 : ∀ j, (x - 2 ^ k).testBit j = (decide (k + 1 ≤ j) && m.testBit (j - (k + 1))) := fun j => by rw [e, Nat.testBit_two_pow_mul]
  unfold obs
  rw [range_cut hk, List.filter_append, List.filter_append, List.filter_cons, List.filter_cons]
  have z1 : (List.range k).filter (fun j => x.testBit j) = [] := by
    rw [List.filter_eq_nil_iff]
    intro j hj
    have := List.mem_range.1 hj
    rw [b1, decide_eq_false (by omega)]; simp
  have z2 : (List.range k).filter (fun j => (x - 2 ^ k).testBit j) = [] := by
    rw [List.filter_eq_nil_iff]
    intro j hj
    have := List.mem_range.1 hj
    rw [b2, decide_eq_false (by omega)]; simp
  have t1 : x.testBit k = true := by rw [b1, Nat.sub_self, odd_bit]; simp
  have t2 : (x - 2 ^ k).testBit k = false := by rw [b2, decide_eq_false (by omega)]; rfl
  rw [z1, z2, t1, t2]
  simp only [if_true, List.nil_append, Bool.false_eq_true, if_false]
  congr 1
  refine List.filter_congr fun j hj => ?_
  obtain ⟨i, _, rfl⟩ := List.mem_map.1 hj
  rw [b1, b2, decide_eq_true (by omega), decide_eq_true (by omega), show k + 1 + i - k = i + 1 by omega, odd_bit, show k + 1 + i - (k + 1) = i by omega]
theorem and_pred {x k m : Nat} (hx : x = 2 ^ k * (2 * m + 1)) : x &&& (x - 1) = x - 2 ^ k := by
  have hp := Nat.two_pow_pos k
  have e : x - 2 ^ k = 2 ^ (k + 1) * m := by
    rw [hx, Nat.mul_add, Nat.mul_one, Nat.add_sub_cancel, Nat.pow_succ]
    rw [Nat.mul_assoc]
  have e1 : x - 1 = 2 ^ (k + 1) * m + (2 ^ k - 1) := by
    have : x = 2 ^ (k + 1) * m + 2 ^ k := by rw [← e]; have : 2 ^ k ≤ x := by rw [hx]; exact Nat.le_mul_of_pos_right _ (by omega)
                                             omega
    omega
  rw [e, e1]
  apply Nat.eq_of_testBit_eq
  intro j
  rw [Nat.testBit_and, hx, Nat.testBit_two_pow_mul, Nat.testBit_two_pow_mul_add _ (by rw [Nat.pow_succ]; omega), Nat.testBit_two_pow_mul, Nat.testBit_two_pow_sub_one]
  by_cases h1 : k + 1 ≤ j
  · obtain ⟨i, rfl⟩ : ∃ i, j = k + 1 + i := ⟨j - (k + 1), by omega⟩
    rw [if_neg (by omega), decide_eq_true (by omega), decide_eq_true (by omega), show k + 1 + i - k = i + 1 by omega, odd_bit]
    simp
  · rw [if_pos (by omega), decide_eq_false (show ¬ k + 1 ≤ j from h1)]
    by_cases h2 : k ≤ j
    · rw [decide_eq_false (show ¬ j < k by omega)]; simp
    · rw [decide_eq_false h2]; simp
theorem obs_mem {x j : Nat} : j ∈ obs x ↔ j < 32 ∧ x.testBit j = true := by
  unfold obs
  rw [List.mem_filter, List.mem_range]
theorem obs_up (x : Nat) : (obs x).Pairwise (· < ·) := List.pairwise_lt_range.filter _
theorem obs_half {x : Nat} (h : x < 4294967296) : (obs x).length = x % 2 + (obs (x / 2)).length := by
  unfold obs
  have e1 : List.range 32 = 0 :: (List.range 31).map (· + 1) := rfl
  have e2 : List.range 32 = List.range 31 ++ [31] := rfl
  have top : (x / 2).testBit 31 = false := Nat.testBit_lt_two_pow (by omega)
  have l2 : ((List.range 32).filter fun j => (x / 2).testBit j).length = ((List.range 31).filter fun j => (x / 2).testBit j).length := by
    rw [e2, List.filter_append, List.filter_cons, top]; simp
  rw [l2, e1, List.filter_cons, List.filter_map]
  have e3 : (fun j => x.testBit j) ∘ (· + 1) = fun j => (x / 2).testBit j := by
    funext j
    show x.testBit (j + 1) = _
    rw [Nat.testBit_succ]
  rcases Nat.mod_two_eq_zero_or_one x with h0 | h0
  · have : x.testBit 0 = false := by rw [Nat.testBit_zero]; simp [h0]
    rw [this, h0]
    simp only [Bool.false_eq_true, if_false, List.length_map, e3]
    omega
  · have : x.testBit 0 = true := by rw [Nat.testBit_zero]; simp [h0]
    rw [this, h0]
    simp only [if_true, List.length_cons, List.length_map, e3]
    omega
/-- The places of the ones of a row of limbs, from limb i on. -/
def onesFrom : Nat → List Nat → List Nat
  | _, [] => []
  | i, x :: l => (obs x).map (32 * i + ·) ++ onesFrom (i + 1) l
theorem onesFrom_mem : ∀ {l : List Nat} {i q : Nat}, q ∈ onesFrom i l → ∃ j b, j < l.length ∧ b < 32 ∧ q = 32 * (i + j) + b ∧ (l.getD j 0).testBit b = true
  | [], i, q, h => by cases h
  | x :: l, i, q, h => by
    rcases List.mem_append.1 h with h | h
    · obtain ⟨b, hb, rfl⟩ := List.mem_map.1 h
      obtain ⟨h1, h2⟩ := obs_mem.1 hb
      exact ⟨0, b, by simp, h1, by simp, by simpa using h2⟩
    · obtain ⟨j, b, h1, h2, rfl, h4⟩ := onesFrom_mem h
      exact ⟨j + 1, b, by simpa using h1, h2, by omega, by simpa using h4⟩
theorem onesFrom_up : ∀ (l : List Nat) (i : Nat), (onesFrom i l).Pairwise (· < ·)
  | [], i => List.Pairwise.nil
  | x :: l, i => by
    refine List.pairwise_append.2 ⟨?_, onesFrom_up l (i + 1), fun a ha b hb => ?_⟩
    · exact List.pairwise_map.2 ((obs_up x).imp (fun h => by omega))
    · obtain ⟨c, hc, rfl⟩ := List.mem_map.1 ha
      obtain ⟨h1, _⟩ := obs_mem.1 hc
      obtain ⟨j, d, _, h2, rfl, _⟩ := onesFrom_mem hb
      omega
end Go.Proofs.YtgemncfpehmdeaaDoor
