
/-
  The walk of nat.Pow.
-/
import Derived.Test.YtlnilkghbbbhbaaNatK
import Derived.Test.YtlnilkghbbbhbaaBits
import Derived.Laws.BitsAllLaws
namespace Go.Proofs.Ytlnilkghbbbhbaa
open Go.RowKit

theorem pow_neg {p : Option Addr} {n c : Nat} {k : Int} {w : World} (hk : k < 0) :
    Calls Try.prog 84 #[.slice p n c, .int .i64 k] w (RetNE w [] 1) := by
  go_enter Try.func84, Try.ntmps84
  go_wp2_with fail
  go_ret2
  exact ⟨_, _, _, rfl, Fr.nil _ _, Below.refl _ _⟩

theorem blen_one {x : Nat} (h : blen x = 1) : x = 1 := by
  have h1 := lt_blen x
  rw [h] at h1
  have : x ≠ 0 := by intro h0; rw [h0] at h; cases h
  omega

/-- To the power 0, or of 1. -/
theorem pow_one {p : Option Addr} {n c : Nat} {xs : List Nat} {k : Nat} {w : World} (hx : Sl w p n c xs) (hn : n ≤ 1048576000) (hk : k ≤ 9223372036854775807) (h : k = 0 ∨ blen (val xs) = 1) :
    Calls Try.prog 84 #[.slice p n c, .int .i64 (k : Int)] w (RetNE w (lim 1) 0) := by
  have hk0 : decide ((k : Int) < 0) = false := by simp
  go_enter Try.func84, Try.ntmps84
  go_wp2_with fail
  refine (len_any hx (by omega)).mono ?_
  rintro e w1 ⟨rfl, rfl⟩
  rcases Nat.eq_zero_or_pos k with h0 | h0
  · have hz : ((k : Int) == 0) = true := by simp; omega
    go_wp2_with fail
    refine (of_any (N := 1) rfl (by omega)).mono ?_
    rintro e w2 ⟨p2, n2, c2, rfl, hf2, hb2⟩
    go_wp2_with fail
    go_ret2
    exact ⟨_, _, _, rfl, hf2, hb2⟩
  · have hz : ((k : Int) == 0) = false := by simp; omega
    have hz1 : ((blen (val xs) : Int) == 1) = true := by simp; omega
    go_wp2_with fail
    refine (of_any (N := 1) rfl (by omega)).mono ?_
    rintro e w2 ⟨p2, n2, c2, rfl, hf2, hb2⟩
    go_wp2_with fail
    go_ret2
    exact ⟨_, _, _, rfl, hf2, hb2⟩

theorem pow_zero {p : Option Addr} {n c : Nat} {xs : List Nat} {k : Nat} {w : World} (hx : Sl w p n c xs) (hn : n ≤ 1048576000) (hk : k ≤ 9223372036854775807) (hk0 : 0 < k) (h : val xs = 0) :
    Calls Try.prog 84 #[.slice p n c, .int .i64 (k : Int)] w (RetNE w [] 0) := by
  have hk1 : decide ((k : Int) < 0) = false := by simp
  have hz : ((k : Int) == 0) = false := by simp; omega
  go_enter Try.func84, Try.ntmps84
  go_wp2_with fail
  refine (len_any hx (by omega)).mono ?_
  have hb0 : blen (val xs) = 0 := by rw [h]; rfl
  rw [hb0]
  rintro e w1 ⟨rfl, rfl⟩
  clear hb0 h
  go_wp2_with fail
  go_ret2
  exact ⟨_, _, _, rfl, Fr.nil _ _, Below.refl _ _⟩

/-- Surely too great. -/
theorem pow_big {p : Option Addr} {n c : Nat} {xs : List Nat} {k : Nat} {w : World} (hx : Sl w p n c xs) (hn : n ≤ 1048576000) (hk : k ≤ 9223372036854775807) (hb : 1 < blen (val xs)) (h : 67108864 < k ∨ 67108864 ≤ (blen (val xs) - 1) * k) :
    Calls Try.prog 84 #[.slice p n c, .int .i64 (k : Int)] w (RetNE w [] 4) := by
  have hk1 : decide ((k : Int) < 0) = false := by simp
  have hk0 : k ≠ 0 := by
    intro h0; subst h0; simp at h
  have hbl := blen_len hx.lims
  rw [hx.len] at hbl
  have hz : ((k : Int) == 0) = false := by simp; omega
  go_enter Try.func84, Try.ntmps84
  go_wp2_with fail
  refine (len_any hx (by omega)).mono ?_
  rintro e w1 ⟨rfl, rfl⟩
  generalize blen (val xs) = B at *
  have hz1 : ((B : Int) == 1) = false := by simp; omega
  have hz2 : ((B : Int) == 0) = false := by simp; omega
  rcases Nat.lt_or_ge 67108864 k with hk2 | hk2
  · have hz3 : decide ((67108864 : Int) < (k : Int)) = true := by simp; omega
    go_wp2_with fail
    go_ret2
    exact ⟨_, _, _, rfl, Fr.nil _ _, Below.refl _ _⟩
  · have hz3 : decide ((67108864 : Int) < (k : Int)) = false := by simp; omega
    have h2 : 67108864 ≤ (B - 1) * k := by omega
    have h3 : (B - 1) * k ≤ 33554432000 * 67108864 := Nat.mul_le_mul (by omega) (by omega)
    have e : ((B : Int) - 1) * (k : Int) = (((B - 1) * k : Nat) : Int) := by rw [Int.natCast_mul]; congr 1; omega
    have hz4 : decide ((67108864 : Int) < ((B : Int) - 1) * (k : Int) + 1) = true := by rw [e]; simp; omega
    have hw1 : IntKind.i64.wrap (((B : Int) - 1) * (k : Int)) = ((B : Int) - 1) * (k : Int) := IntWalk.i64_in _ (by rw [e]; omega)
    have hw2 : IntKind.i64.wrap (((B : Int) - 1) * (k : Int) + 1) = ((B : Int) - 1) * (k : Int) + 1 := IntWalk.i64_in _ (by rw [e]; omega)
    clear h h2 h3 e
    go_wp2_with fail
    go_ret2
    exact ⟨_, _, _, rfl, Fr.nil _ _, Below.refl _ _⟩

theorem pow_le_two {A B e : Nat} (hA : A < 2 ^ B) (he : 0 < e) : A ^ e < 2 ^ (B * e) := by
  rw [Nat.pow_mul]; exact Nat.pow_lt_pow_left hA (by omega)

theorem pow_len {A B k e L : Nat} (hA : A < 2 ^ B) (h : B * k ≤ 32 * L) (he : e ≤ k) : ll (A ^ e) ≤ L + 1 := by
  rcases Nat.eq_zero_or_pos e with rfl | h0
  · rw [Nat.pow_zero]
    exact Nat.le_trans (ll_le (n := 1) (k := 1) (by omega)) (by omega)
  · apply ll_le
    rw [pow_two]
    refine Nat.lt_of_lt_of_le (pow_le_two hA h0) (Nat.pow_le_pow_right (by omega) ?_)
    have := Nat.mul_le_mul_left B he
    omega

theorem pow_next0 {A k t : Nat} (h : k / 2 ^ t % 2 = 0) : A ^ (k / 2 ^ (t + 1)) * A ^ (k / 2 ^ (t + 1)) = A ^ (k / 2 ^ t) := by
  rw [← Nat.pow_add, Nat.pow_succ, ← Nat.div_div_eq_div_mul]
  congr 1; omega
theorem pow_next1 {A k t : Nat} (h : k / 2 ^ t % 2 = 1) : A ^ (k / 2 ^ (t + 1)) * A ^ (k / 2 ^ (t + 1)) * A = A ^ (k / 2 ^ t) := by
  rw [← Nat.pow_add, ← Nat.pow_succ, Nat.pow_succ 2, ← Nat.div_div_eq_div_mul]
  congr 1; omega

theorem i64_and_nat (a b : Nat) (ha : a < 9223372036854775808) (hb : b < 9223372036854775808) : bits .and .i64 (a : Int) (b : Int) = ((a &&& b : Nat) : Int) := by
  have hx : a &&& b < 2 ^ 63 := Nat.and_lt_two_pow _ (by omega)
  show IntKind.i64.wrap ((BitVec.ofInt 64 (a : Int) &&& BitVec.ofInt 64 (b : Int)).toNat : Int) = _
  rw [BitVec.toNat_and, ofInt_u64 a (by omega), ofInt_u64 b (by omega)]
  exact IntWalk.i64_in _ (by omega)

theorem bit_of (k t : Nat) (h : k < 9223372036854775808) : (bits BinOp.and IntKind.i64 ((k : Int) / 2 ^ t) 1 == 1) = decide (k / 2 ^ t % 2 = 1) := by
  have e1 : (k : Int) / 2 ^ t = ((k / 2 ^ t : Nat) : Int) := by rw [Int.natCast_ediv, Int.natCast_pow]; rfl
  have e2 : (1 : Int) = ((1 : Nat) : Int) := rfl
  have h1 := Nat.div_le_self k (2 ^ t)
  rw [e1, e2, i64_and_nat _ _ (by omega) (by omega), nat_mask1, Bool.eq_iff_iff]
  simp
  omega

set_option maxHeartbeats 2000000 in
theorem pow_ok {p : Option Addr} {n c : Nat} {xs : List Nat} {k : Nat} {w : World} (hx : Sl w p n c xs) (hn : n ≤ 1048576000) (hk0 : 0 < k) (hb : 1 < blen (val xs)) (hfit : blen (val xs) * k ≤ 67108864) :
    Calls Try.prog 84 #[.slice p n c, .int .i64 (k : Int)] w (RetNE w (lim (val xs ^ k)) 0) := by
  have hk1 : decide ((k : Int) < 0) = false := by simp
  have hbl := blen_len hx.lims
  rw [hx.len] at hbl
  have hA := lt_blen (val xs)
  have HA := Lib.hid hA
  clear hA
  have hx0 := hx
  have hkB : k ≤ 67108864 := by
    have : 1 * k ≤ blen (val xs) * k := Nat.mul_le_mul_right _ (by omega)
    omega
  have h2 : (blen (val xs) - 1) * k + 1 ≤ 67108864 := by
    have : (blen (val xs) - 1) * k + k = blen (val xs) * k := by
      rw [← Nat.succ_mul]; congr 1; omega
    omega
  have HFIT := Lib.hid hfit
  clear hfit
  have hz : ((k : Int) == 0) = false := by simp; omega
  go_enter Try.func84, Try.ntmps84
  go_wp2_with fail
  refine (len_any hx (by omega)).mono ?_
  rintro e w1 ⟨rfl, rfl⟩
  generalize hBx : blen (val xs) = B at *
  have HBX := Lib.hid hBx
  clear hBx
  have hz1 : ((B : Int) == 1) = false := by simp; omega
  have hz2 : ((B : Int) == 0) = false := by simp; omega
  have hz3 : decide ((67108864 : Int) < (k : Int)) = false := by simp; omega
  have e : ((B : Int) - 1) * (k : Int) = (((B - 1) * k : Nat) : Int) := by rw [Int.natCast_mul]; congr 1; omega
  have hz4 : decide ((67108864 : Int) < ((B : Int) - 1) * (k : Int) + 1) = false := by rw [e]; simp; omega
  have hw1 : IntKind.i64.wrap (((B : Int) - 1) * (k : Int)) = ((B : Int) - 1) * (k : Int) := IntWalk.i64_in _ (by rw [e]; omega)
  have hw2 : IntKind.i64.wrap (((B : Int) - 1) * (k : Int) + 1) = ((B : Int) - 1) * (k : Int) + 1 := IntWalk.i64_in _ (by rw [e]; omega)
  clear h2 e
  go_wp2_with fail
  refine (of_any (N := 1) rfl (by omega)).mono ?_
  rintro e w2 ⟨p2, n2, c2, rfl, hf2, hb2⟩
  clear hw1 hw2 hz4
  go_wp2_with fail
  refine (bitsLen_any (x := k) rfl (by omega)).mono ?_
  rintro e w3 ⟨rfl, rfl⟩
  have hkb := blen_le (n := k) (k := 27) (by omega)
  have HKB := Lib.hid (lt_blen k)
  generalize blen k = T at *
  go_wp2_with fail
  have HPL : Hid (∀ e, e ≤ k → ll (val xs ^ e) ≤ 2097153) := fun e he => pow_len (L := 2097152) HA.out (by have := HFIT.out; omega) he
  have H0 : Hid (k / 2 ^ T = 0) := by show _ = _; exact Nat.div_eq_of_lt HKB.out
  go_loopw [7, 8] (fun o v wr => ∃ t : Nat, t ≤ T ∧ v = .int .i64 ((t : Int) - 1) ∧ ∃ p n c, o = .slice p n c ∧ Fr w.heap.size wr p n c (lim (val xs ^ (k / 2 ^ t))) ∧ Below w.heap.size w wr) (fun _ v _ => (intOf v + 1).toNat)
  case atStart => exact ⟨T, Nat.le_refl _, rfl, p2, n2, c2, rfl, by rw [H0.out, Nat.pow_zero]; exact hf2, hb2⟩
  case round =>
    clear hf2 hb2
    obtain ⟨t, ht, rfl, p5, n5, c5, rfl, hf5, hb5⟩ := hrel
    have hn5 : n5 ≤ 2097153 := by rw [hf5.sl.lln]; exact HPL.out _ (Nat.div_le_self _ _)
    rcases t with _ | t
    · have hbk : blen (val xs ^ k) ≤ 67108864 := by
        have h1 := blen_le (pow_le_two HA.out hk0)
        have h2 := HFIT.out
        omega
      have HBK := Lib.hid hbk
      clear hbk
      rw [Nat.pow_zero, Nat.div_one] at hf5
      go_wp2_with fail
      refine (len_any hf5.sl (by omega)).mono ?_
      rw [val_lim]
      rintro e w6 ⟨rfl, rfl⟩
      have hbk := HBK.out
      generalize blen (val xs ^ k) = D at *
      have hz5 : decide ((67108864 : Int) < (D : Int)) = false := by simp; omega
      go_wp2_with fail
      go_ret2
      exact ⟨_, _, _, rfl, hf5, hb5⟩
    · have ej : ((t + 1 : Nat) : Int) - 1 = (t : Int) := by omega
      rw [ej]
      clear ej
      have hx5 := hx0.below hb5 (Nat.le_refl _)
      go_wp2_with fail
      refine (mul_any hf5.sl hf5.sl (by omega) (by omega)).mono ?_
      rw [val_lim]
      rintro e w6 ⟨p6, n6, c6, rfl, hf6, hb6⟩
      have hn6 : n6 ≤ 4194306 := by
        rw [hf6.sl.lln]
        have h1 := ll_mul (val xs ^ (k / 2 ^ (t + 1))) (val xs ^ (k / 2 ^ (t + 1)))
        rw [← hf5.sl.lln] at h1
        omega
      replace hx5 := hx5.below hb6 (Nat.le_refl _)
      have HB5 := Lib.hid hb5.size
      replace hb5 := hb5.trans (hb6.mono hb5.size)
      clear hb6 hf5
      have hbit := bit_of k t (by omega)
      rcases Nat.mod_two_eq_zero_or_one (k / 2 ^ t) with h | h
      · have hz6 : (bits BinOp.and IntKind.i64 ((k : Int) / 2 ^ t) 1 == 1) = false := by rw [hbit]; simp; omega
        rw [pow_next0 h] at hf6
        clear hbit h
        go_wp2_with fail
        exact ⟨⟨t, by omega, rfl, _, _, _, rfl, hf6.mono HB5.out, hb5⟩, by simp [intOf]⟩
      · have hz6 : (bits BinOp.and IntKind.i64 ((k : Int) / 2 ^ t) 1 == 1) = true := by rw [hbit]; simp; omega
        have HN := Lib.hid (pow_next1 (A := val xs) h)
        clear hbit h
        go_wp2_with fail
        refine (mul_any hf6.sl hx5 (by omega) (by omega)).mono ?_
        rw [val_lim, HN.out]
        rintro e w7 ⟨p7, n7, c7, rfl, hf7, hb7⟩
        go_wp2_with fail
        exact ⟨⟨t, by omega, rfl, _, _, _, rfl, hf7.mono hb5.size, hb5.trans (hb7.mono hb5.size)⟩, by simp [intOf]⟩

end Go.Proofs.Ytlnilkghbbbhbaa
