
/-
  Plain facts: or as a sum; short division; shifts.
-/
import Derived.Test.YtlnilkghbbbhbaaNum2
import Derived.Laws.BitsAllLaws
namespace Go.Proofs.Ytlnilkghbbbhbaa

theorem val_cons (x : Nat) (xs : List Nat) : val (x :: xs) = x + 4294967296 * val xs := by
  have := val_append [x] xs
  rw [val_single] at this
  simpa using this

theorem val_drop_succ {xs : List Nat} {k : Nat} (h : k < xs.length) : val (xs.drop k) = nd xs k + 4294967296 * val (xs.drop (k + 1)) := by
  rw [List.drop_eq_getElem_cons h, val_cons, nd_get h]

theorem val_drop_len {xs : List Nat} {k : Nat} (h : xs.length ≤ k) : val (xs.drop k) = 0 := by
  rw [List.drop_eq_nil_of_le h]; rfl

theorem drop_set_succ (xs : List Nat) (k v : Nat) : (xs.set k v).drop (k + 1) = xs.drop (k + 1) := by
  apply List.ext_getElem?
  intro i
  rw [List.getElem?_drop, List.getElem?_drop, List.getElem?_set, if_neg (by omega)]

theorem val_drop_set {xs : List Nat} {k v : Nat} (h : k < xs.length) : val ((xs.set k v).drop k) = v + 4294967296 * val (xs.drop (k + 1)) := by
  rw [val_drop_succ (by rw [List.length_set]; exact h), drop_set_succ, nd_set _ _ _ _ h, if_pos rfl]

theorem or64 {a x : Nat} (ha : a < 4294967296) (hx : x < 4294967296) : bits BinOp.or IntKind.u64 ((a : Int) * 4294967296) (x : Int) = ((a * 4294967296 + x : Nat) : Int) := by
  have e : (a : Int) * 4294967296 = ((a * 4294967296 : Nat) : Int) := by omega
  rw [e, u64_or_nat _ _ (by omega) (by omega), nat_join 32 _ _ (by rw [show (2 : Nat) ^ 32 = 4294967296 from rfl]; omega) hx]

theorem or64' {a x : Nat} (ha : a < 4294967296) (hx : x < 4294967296) : bits BinOp.or IntKind.u64 (x : Int) ((a : Int) * 4294967296) = ((a * 4294967296 + x : Nat) : Int) := by
  have e : (a : Int) * 4294967296 = ((a * 4294967296 : Nat) : Int) := by omega
  rw [e, u64_or_nat _ _ (by omega) (by omega), Nat.or_comm, nat_join 32 _ _ (by rw [show (2 : Nat) ^ 32 = 4294967296 from rfl]; omega) hx]

/-- A limb shifted to the left, and what was carried. -/
theorem or32_shift {X t cy : Nat} (ht : t < 32) (hc : cy < 2 ^ t) : bits BinOp.or IntKind.u32 ((X : Int) * 2 ^ t % 4294967296) (cy : Int) = ((X * 2 ^ t % 4294967296 + cy : Nat) : Int) := by
  have h32 : (4294967296 : Nat) = 2 ^ t * 2 ^ (32 - t) := by rw [← Nat.pow_add, show t + (32 - t) = 32 by omega]
  have e : (X : Int) * 2 ^ t % 4294967296 = ((X * 2 ^ t % 4294967296 : Nat) : Int) := by
    rw [Int.natCast_emod, Int.natCast_mul, Int.natCast_pow]; rfl
  have hm : X * 2 ^ t % 4294967296 < 4294967296 := Nat.mod_lt _ (by omega)
  have hp : 2 ^ t < 4294967296 := by rw [show (4294967296 : Nat) = 2 ^ 32 from rfl]; exact Nat.pow_lt_pow_right (by omega) ht
  have hz : X * 2 ^ t % 4294967296 % 2 ^ t = 0 := by
    rw [h32, Nat.mod_mul_right_mod, Nat.mul_mod_left]
  rw [e, u32_or_nat _ _ hm (by omega), nat_join t _ _ hz hc]

theorem shift_lt {X t cy : Nat} (ht : t < 32) (hc : cy < 2 ^ t) : X * 2 ^ t % 4294967296 + cy < 4294967296 := by
  have h32 : (4294967296 : Nat) = 2 ^ t * 2 ^ (32 - t) := by rw [← Nat.pow_add, show t + (32 - t) = 32 by omega]
  have hm : X * 2 ^ t % 4294967296 < 4294967296 := Nat.mod_lt _ (by omega)
  have hz : X * 2 ^ t % 4294967296 % 2 ^ t = 0 := by
    rw [h32, Nat.mod_mul_right_mod, Nat.mul_mod_left]
  generalize X * 2 ^ t % 4294967296 = r at *
  obtain ⟨q, hq⟩ : ∃ q, r = 2 ^ t * q := ⟨r / 2 ^ t, by have := Nat.mod_add_div r (2 ^ t); omega⟩
  have hq2 : q < 2 ^ (32 - t) := by
    rw [h32, hq] at hm
    exact Nat.lt_of_mul_lt_mul_left hm
  have h3 : 2 ^ t * (q + 1) ≤ 2 ^ t * 2 ^ (32 - t) := Nat.mul_le_mul_left _ hq2
  rw [← h32, Nat.mul_add, ← hq] at h3
  omega

theorem carry_lt {X t : Nat} (hX : X < 4294967296) : X * 2 ^ t / 4294967296 < 2 ^ t := by
  have hp : 0 < 2 ^ t := Nat.two_pow_pos t
  rw [Nat.div_lt_iff_lt_mul (by omega)]
  rw [Nat.mul_comm]
  exact Nat.mul_lt_mul_of_pos_left hX hp

theorem left_step {zs : List Nat} {X t cy q k S : Nat} (hl : zs.length = q + k) (h : val zs + cy * 4294967296 ^ (q + k) = 4294967296 ^ q * 2 ^ t * S) :
    val (zs ++ [X * 2 ^ t % 4294967296 + cy]) + X * 2 ^ t / 4294967296 * 4294967296 ^ (q + (k + 1)) = 4294967296 ^ q * 2 ^ t * (S + X * 4294967296 ^ k) := by
  rw [val_append, val_single, hl, ← Nat.add_assoc, Nat.pow_succ]
  have h2 := Nat.mod_add_div (X * 2 ^ t) 4294967296
  generalize X * 2 ^ t / 4294967296 = Q at *
  generalize X * 2 ^ t % 4294967296 = R at *
  have e1 : 4294967296 ^ q * 2 ^ t * (S + X * 4294967296 ^ k) = 4294967296 ^ q * 2 ^ t * S + 4294967296 ^ (q + k) * (X * 2 ^ t) := by
    rw [Nat.mul_add, Nat.pow_add]
    congr 1
    rw [Nat.mul_assoc, Nat.mul_assoc]
    congr 1
    rw [Nat.mul_left_comm, Nat.mul_comm, Nat.mul_assoc, Nat.mul_comm (2 ^ t), Nat.mul_comm X, Nat.mul_assoc, Nat.mul_comm (2 ^ t)]
  rw [e1, ← h, ← h2]
  generalize 4294967296 ^ (q + k) = P
  rw [Nat.mul_add, Nat.mul_add, Nat.mul_comm cy]
  have e2 : Q * (P * 4294967296) = P * (4294967296 * Q) := by rw [Nat.mul_comm Q, Nat.mul_assoc]
  rw [e2]
  omega

theorem pow_split (s : Nat) : 4294967296 ^ (s / 32) * 2 ^ (s % 32) = 2 ^ s := by
  rw [pow_two, ← Nat.pow_add, Nat.div_add_mod]

end Go.Proofs.Ytlnilkghbbbhbaa
