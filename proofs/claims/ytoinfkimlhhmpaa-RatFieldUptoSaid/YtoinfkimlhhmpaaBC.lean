/-
  Contracts and lemmas, joined in one text.
-/
import Derived.Test.YtoinfkimlhhmpaaNatH
import Derived.Test.YtoinfkimlhhmpaaBB
import Derived.Deep.LoopGhost
import Derived.Test.YtoinfkimlhhmpaaBA
import Derived.Laws.BitsAllLaws
set_option linter.unusedVariables false
set_option linter.unusedSimpArgs false

/-
  The walk of nat.Div.
-/
namespace Go.Proofs.Ytoinfkimlhhmpaa
open Go.RowKit

set_option maxHeartbeats 2000000 in
theorem div_any {p q : Option Addr} {n m c d : Nat} {xs ys : List Nat} {w : World} (hx : Sl w p n c xs) (hy : Sl w q m d ys) (hn : n ≤ 1099511627776) (hm : m ≤ 1099511627776) (h0 : val ys ≠ 0) :
    Calls Try.prog 130 #[.slice p n c, .slice q m d] w (RetTE w (val xs / val ys) (val xs % val ys) 0) := by
  go_enter Try.func130, Try.ntmps130
  go_wp2_with fail
  refine (trim_any hx).mono ?_
  rintro e w1 ⟨n1, rfl, hx1, hn1, rfl⟩
  go_wp2_with fail
  refine (trim_any hy).mono ?_
  rintro e w1 ⟨m1, rfl, hy1, hm1, rfl⟩
  have hn2 : n1 ≤ 1099511627776 := by omega
  have hm2 : m1 ≤ 1099511627776 := by omega
  have HXL : Hid (ll (val xs) = n1) := by show _ = _; rw [← hx1.len, length_lim]
  have HYL : Hid (ll (val ys) = m1) := by show _ = _; rw [← hy1.len, length_lim]
  have hm0 : 0 < m1 := by rw [← HYL.out]; exact ll_pos h0
  have HX : Hid (val (lim (val xs)) = val xs) := val_lim _
  have HY : Hid (val (lim (val ys)) = val ys) := val_lim _
  have HONE : Hid (ll (val ys) = 1 → nd (lim (val ys)) 0 = val ys) := one_limb
  have HNO := Lib.hid lim_none
  generalize lim (val xs) = us at *
  generalize lim (val ys) = vs at *
  generalize val xs = A at *
  generalize val ys = C at *
  have hz : ((m1 : Int) == 0) = false := by simp; omega
  clear hn1 hm1 hn hm
  go_wp2_with fail
  refine (cmp_any hx1 hy1).mono ?_
  rw [HX.out, HY.out]
  rcases Nat.lt_or_ge A C with hlt | hge
  · rw [cmpN_lt hlt]
    rintro e w2 ⟨rfl, hb2⟩
    go_wp2_with fail
    refine (own_any (hx1.below hb2 (Nat.le_refl _)) (by omega)).mono ?_
    rw [HX.out]
    rintro e w3 ⟨p3, n3, c3, rfl, hf3, hb3⟩
    go_wp2_with fail
    go_ret3
    rw [Nat.div_eq_of_lt hlt, Nat.mod_eq_of_lt hlt]
    exact ⟨none, 0, 0, _, _, _, rfl, by rw [HNO.out]; exact Fr.nil _ _, hf3.mono hb2.size, hb2.trans (hb3.mono hb2.size)⟩
  · have hcg := cmpN_ge0 hge
    generalize cmpN A C = z at *
    have hz2 : decide (z < 0) = false := by simp; omega
    rintro e w2 ⟨rfl, hb2⟩
    clear hcg
    by_cases h1 : m1 = 1
    · have hz3 : ((m1 : Int) == 1) = true := by simp; omega
      obtain ⟨b1, o1, rfl, hyc⟩ := (hy1.below hb2 (Nat.le_refl _)).cell 0 (by omega)
      rw [Nat.add_zero] at hyc
      have hY := hy1.lim1 0
      have hbv := HONE.out (by rw [HYL.out, h1])
      rw [hbv] at hyc hY
      clear hbv h1
      go_wp2_with fail
      refine (short_any (hx1.below hb2 (Nat.le_refl _)) hY (by omega) (by omega)).mono ?_
      rw [HX.out]
      rintro e w3 ⟨p3, n3, c3, r, rfl, hf3, hb3, HR, hr⟩
      go_wp2_with fail
      refine (of_any (N := r) rfl (by omega)).mono ?_
      rw [HR.out]
      rintro e w4 ⟨p4, n4, c4, rfl, hf4, hb4⟩
      go_wp2_with fail
      go_ret3
      have hb23 := hb2.trans (hb3.mono hb2.size)
      exact ⟨_, _, _, _, _, _, rfl, (hf3.below hb4 (Nat.le_refl _)).mono hb2.size, hf4.mono hb23.size, hb23.trans (hb4.mono hb23.size)⟩
    · have hz3 : ((m1 : Int) == 1) = false := by simp; omega
      obtain ⟨k, hk⟩ : ∃ k, n1 = m1 + k := ⟨n1 - m1, by have h2 := ll_mono hge; rw [HXL.out, HYL.out] at h2; omega⟩
      have hm3 : 2 ≤ m1 := by omega
      clear h1
      subst hk
      go_wp2_with fail
      refine (long_any (hx1.below hb2 (Nat.le_refl _)) (hy1.below hb2 (Nat.le_refl _)) hn2 hm3 (by rw [HX.out]; exact HXL) (by rw [HY.out]; exact HYL)).mono ?_
      rw [HX.out, HY.out]
      rintro e w3 ⟨p3, n3, c3, p4, n4, c4, rfl, hf3, hf4, hb3⟩
      go_wp2_with fail
      go_ret3
      exact ⟨_, _, _, _, _, _, rfl, hf3.mono hb2.size, hf4.mono hb2.size, hb2.trans (hb3.mono hb2.size)⟩

end Go.Proofs.Ytoinfkimlhhmpaa

/-
  The walk of nat.Gcd.
-/
namespace Go.Proofs.Ytoinfkimlhhmpaa
open Go.RowKit

/-- What the loop of Gcd keeps. -/
def GcdAt (w : World) (L G k : Nat) (a b : Value) (wr : World) : Prop :=
  ∃ p n c q m d A C, a = .slice p n c ∧ b = .slice q m d ∧ Fr w.heap.size wr p n c (lim A) ∧ Fr w.heap.size wr q m d (lim C) ∧ Below w.heap.size w wr ∧ n ≤ L ∧ m ≤ L ∧ Hid (Nat.gcd A C = G) ∧ Hid (C = k)

set_option maxHeartbeats 2000000 in
theorem gcd_any {p q : Option Addr} {n m c d : Nat} {xs ys : List Nat} {w : World} (hx : Sl w p n c xs) (hy : Sl w q m d ys) (hn : n ≤ 1099511627776) (hm : m ≤ 1099511627776) :
    Calls Try.prog 139 #[.slice p n c, .slice q m d] w (RetN w (lim (Nat.gcd (val xs) (val ys)))) := by
  go_enter Try.func139, Try.ntmps139
  go_wp2_with fail
  refine (own_any hx (by omega)).mono ?_
  rintro e w1 ⟨p1, n1, c1, rfl, hf1, hb1⟩
  go_wp2_with fail
  refine (own_any (hy.below hb1 (Nat.le_refl _)) (by omega)).mono ?_
  rintro e w2 ⟨q1, m1, d1, rfl, hg2, hb2⟩
  have hl1 := norm_len hx hf1
  have hl2 := norm_len (hy.below hb1 (Nat.le_refl _)) hg2
  have hb12 := hb1.trans (hb2.mono hb1.size)
  have H0 : GcdAt w 1099511627776 (Nat.gcd (val xs) (val ys)) (val ys) (.slice p1 n1 c1) (.slice q1 m1 d1) w2 := ⟨p1, n1, c1, q1, m1, d1, _, _, rfl, rfl, hf1.below hb2 (Nat.le_refl _), hg2.mono hb1.size, hb12, by omega, by omega, rfl, rfl⟩
  clear hf1 hg2 hb1 hb2 hb12 hl1 hl2
  generalize Nat.gcd (val xs) (val ys) = G at *
  generalize val ys = Y at *
  go_wp2_with fail
  go_loopg [0, 1] Y (fun k a b wr => GcdAt w 1099511627776 G k a b wr)
  case atStart => exact H0
  case round =>
    clear H0
    obtain ⟨p, n, c, q, m, d, A, C, rfl, rfl, hf, hg, hb, hln, hlm, HG, HK⟩ := hrel
    rcases Nat.eq_zero_or_pos m with hm0 | hm0
    · have hz : decide ((0 : Int) < (m : Int)) = false := by simp; omega
      go_wp2_with fail
      refine (own_any hf.sl (by omega)).mono ?_
      rw [val_lim]
      rintro e w5 ⟨p5, n5, c5, rfl, hf5, hb5⟩
      go_wp2_with fail
      go_ret
      have hC : C = 0 := by
        rcases Nat.eq_zero_or_pos C with h | h
        · exact h
        · have := ll_pos (Nat.ne_of_gt h); rw [← hg.sl.lln] at this; omega
      have hG := HG.out
      rw [hC, Nat.gcd_zero_right] at hG
      rw [hG] at hf5
      exact ⟨_, _, _, rfl, hf5.mono hb.size, hb.trans (hb5.mono hb.size)⟩
    · have hz : decide ((0 : Int) < (m : Int)) = true := by simp; omega
      have hC : C ≠ 0 := by
        intro h
        have h1 := hg.sl.lln
        rw [h] at h1
        have h2 : ll 0 = 0 := rfl
        omega
      go_wp2_with fail
      refine (div_any hf.sl hg.sl (by omega) (by omega) (by rw [val_lim]; exact hC)).mono ?_
      rw [val_lim, val_lim]
      rintro e w5 ⟨p5, n5, c5, q5, m5, d5, rfl, hf5, hg5, hb5⟩
      go_wp2_with fail
      have hlt : A % C < gk := by rw [← HK.out]; exact Nat.mod_lt _ (by omega)
      have hb2 := hb.trans (hb5.mono hb.size)
      have hl5 : m5 ≤ m := by rw [hg5.sl.lln, hg.sl.lln]; exact ll_mono (Nat.le_of_lt (Nat.mod_lt _ (by omega)))
      have hgc : Nat.gcd C (A % C) = G := by rw [← HG.out, Nat.gcd_comm, ← Nat.gcd_rec, Nat.gcd_comm]
      go_roundg (A % C)
      case measure => exact hlt
      case rel => exact ⟨q, m, d, q5, m5, d5, C, A % C, rfl, rfl, hg.below hb5 (Nat.le_refl _), hg5.mono hb.size, hb2, hlm, by omega, hgc, rfl⟩

end Go.Proofs.Ytoinfkimlhhmpaa

/-
  The walk of nat.Sqrt.
-/
namespace Go.Proofs.Ytoinfkimlhhmpaa
open Go.RowKit

/-- What Newton's loop keeps. -/
def RootAt (w : World) (L N k : Nat) (x : Value) (wr : World) : Prop :=
  ∃ p n c X, x = .slice p n c ∧ Fr w.heap.size wr p n c (lim X) ∧ Below w.heap.size w wr ∧ n ≤ L ∧ 0 < X ∧ rt N ≤ X ∧ Hid (X = k)

end Go.Proofs.Ytoinfkimlhhmpaa

/-
  The walk of nat.Pow.
-/
namespace Go.Proofs.Ytoinfkimlhhmpaa
open Go.RowKit

theorem pow_neg {p : Option Addr} {n c : Nat} {k : Int} {w : World} (hk : k < 0) :
    Calls Try.prog 120 #[.slice p n c, .int .i64 k] w (RetNE w [] 1) := by
  go_enter Try.func120, Try.ntmps120
  go_wp2_with fail
  go_ret2
  exact ⟨_, _, _, rfl, Fr.nil _ _, Below.refl _ _⟩

theorem blen_one {x : Nat} (h : blen x = 1) : x = 1 := by
  have h1 := lt_blen x
  rw [h] at h1
  have : x ≠ 0 := by intro h0; rw [h0] at h; cases h
  omega

/-- To the power 0, or of 1. -/
theorem pow_one {p : Option Addr} {n c : Nat} {xs : List Nat} {k : Nat} {w : World} (hx : Sl w p n c xs) (hn : n ≤ 1048576000) (hk : k ≤ 9223372036854775807) (h : k = 0 ∨ blen (val xs) = 1) :
    Calls Try.prog 120 #[.slice p n c, .int .i64 (k : Int)] w (RetNE w (lim 1) 0) := by
  have hk0 : decide ((k : Int) < 0) = false := by simp
  go_enter Try.func120, Try.ntmps120
  go_wp2_with fail
  refine (len_any hx (by omega)).mono ?_
  rintro e w1 ⟨rfl, rfl⟩
  rcases Nat.eq_zero_or_pos k with h0 | h0
  · have hz : ((k : Int) == 0) = true := by simp; omega
    go_wp2_with fail
    refine (of_any (N := 1) rfl (by omega)).mono ?_
    rintro e w2 ⟨p2, n2, c2, rfl, hf2, hb2⟩
    go_wp2_with fail
    go_ret2
    exact ⟨_, _, _, rfl, hf2, hb2⟩
  · have hz : ((k : Int) == 0) = false := by simp; omega
    have hz1 : ((blen (val xs) : Int) == 1) = true := by simp; omega
    go_wp2_with fail
    refine (of_any (N := 1) rfl (by omega)).mono ?_
    rintro e w2 ⟨p2, n2, c2, rfl, hf2, hb2⟩
    go_wp2_with fail
    go_ret2
    exact ⟨_, _, _, rfl, hf2, hb2⟩

theorem pow_zero {p : Option Addr} {n c : Nat} {xs : List Nat} {k : Nat} {w : World} (hx : Sl w p n c xs) (hn : n ≤ 1048576000) (hk : k ≤ 9223372036854775807) (hk0 : 0 < k) (h : val xs = 0) :
    Calls Try.prog 120 #[.slice p n c, .int .i64 (k : Int)] w (RetNE w [] 0) := by
  have hk1 : decide ((k : Int) < 0) = false := by simp
  have hz : ((k : Int) == 0) = false := by simp; omega
  go_enter Try.func120, Try.ntmps120
  go_wp2_with fail
  refine (len_any hx (by omega)).mono ?_
  have hb0 : blen (val xs) = 0 := by rw [h]; rfl
  rw [hb0]
  rintro e w1 ⟨rfl, rfl⟩
  clear hb0 h
  go_wp2_with fail
  go_ret2
  exact ⟨_, _, _, rfl, Fr.nil _ _, Below.refl _ _⟩

/-- Surely too great. -/
theorem pow_big {p : Option Addr} {n c : Nat} {xs : List Nat} {k : Nat} {w : World} (hx : Sl w p n c xs) (hn : n ≤ 1048576000) (hk : k ≤ 9223372036854775807) (hb : 1 < blen (val xs)) (h : 67108864 < k ∨ 67108864 ≤ (blen (val xs) - 1) * k) :
    Calls Try.prog 120 #[.slice p n c, .int .i64 (k : Int)] w (RetNE w [] 4) := by
  have hk1 : decide ((k : Int) < 0) = false := by simp
  have hk0 : k ≠ 0 := by
    intro h0; subst h0; simp at h
  have hbl := blen_len hx.lims
  rw [hx.len] at hbl
  have hz : ((k : Int) == 0) = false := by simp; omega
  go_enter Try.func120, Try.ntmps120
  go_wp2_with fail
  refine (len_any hx (by omega)).mono ?_
  rintro e w1 ⟨rfl, rfl⟩
  generalize blen (val xs) = B at *
  have hz1 : ((B : Int) == 1) = false := by simp; omega
  have hz2 : ((B : Int) == 0) = false := by simp; omega
  rcases Nat.lt_or_ge 67108864 k with hk2 | hk2
  · have hz3 : decide ((67108864 : Int) < (k : Int)) = true := by simp; omega
    go_wp2_with fail
    go_ret2
    exact ⟨_, _, _, rfl, Fr.nil _ _, Below.refl _ _⟩
  · have hz3 : decide ((67108864 : Int) < (k : Int)) = false := by simp; omega
    have h2 : 67108864 ≤ (B - 1) * k := by omega
    have h3 : (B - 1) * k ≤ 33554432000 * 67108864 := Nat.mul_le_mul (by omega) (by omega)
    have e : ((B : Int) - 1) * (k : Int) = (((B - 1) * k : Nat) : Int) := by rw [Int.natCast_mul]; congr 1; omega
    have hz4 : decide ((67108864 : Int) < ((B : Int) - 1) * (k : Int) + 1) = true := by rw [e]; simp; omega
    have hw1 : IntKind.i64.wrap (((B : Int) - 1) * (k : Int)) = ((B : Int) - 1) * (k : Int) := IntWalk.i64_in _ (by rw [e]; omega)
    have hw2 : IntKind.i64.wrap (((B : Int) - 1) * (k : Int) + 1) = ((B : Int) - 1) * (k : Int) + 1 := IntWalk.i64_in _ (by rw [e]; omega)
    clear h h2 h3 e
    go_wp2_with fail
    go_ret2
    exact ⟨_, _, _, rfl, Fr.nil _ _, Below.refl _ _⟩

theorem pow_le_two {A B e : Nat} (hA : A < 2 ^ B) (he : 0 < e) : A ^ e < 2 ^ (B * e) := by
  rw [Nat.pow_mul]; exact Nat.pow_lt_pow_left hA (by omega)

theorem pow_len {A B k e L : Nat} (hA : A < 2 ^ B) (h : B * k ≤ 32 * L) (he : e ≤ k) : ll (A ^ e) ≤ L + 1 := by
  rcases Nat.eq_zero_or_pos e with rfl | h0
  · rw [Nat.pow_zero]
    exact Nat.le_trans (ll_le (n := 1) (k := 1) (by omega)) (by omega)
  · apply ll_le
    rw [pow_two]
    refine Nat.lt_of_lt_of_le (pow_le_two hA h0) (Nat.pow_le_pow_right (by omega) ?_)
    have := Nat.mul_le_mul_left B he
    omega

theorem pow_next0 {A k t : Nat} (h : k / 2 ^ t % 2 = 0) : A ^ (k / 2 ^ (t + 1)) * A ^ (k / 2 ^ (t + 1)) = A ^ (k / 2 ^ t) := by
  rw [← Nat.pow_add, Nat.pow_succ, ← Nat.div_div_eq_div_mul]
  congr 1; omega
theorem pow_next1 {A k t : Nat} (h : k / 2 ^ t % 2 = 1) : A ^ (k / 2 ^ (t + 1)) * A ^ (k / 2 ^ (t + 1)) * A = A ^ (k / 2 ^ t) := by
  rw [← Nat.pow_add, ← Nat.pow_succ, Nat.pow_succ 2, ← Nat.div_div_eq_div_mul]
  congr 1; omega

theorem i64_and_nat (a b : Nat) (ha : a < 9223372036854775808) (hb : b < 9223372036854775808) : bits .and .i64 (a : Int) (b : Int) = ((a &&& b : Nat) : Int) := by
  have hx : a &&& b < 2 ^ 63 := Nat.and_lt_two_pow _ (by omega)
  show IntKind.i64.wrap ((BitVec.ofInt 64 (a : Int) &&& BitVec.ofInt 64 (b : Int)).toNat : Int) = _
  rw [BitVec.toNat_and, ofInt_u64 a (by omega), ofInt_u64 b (by omega)]
  exact IntWalk.i64_in _ (by omega)

theorem bit_of (k t : Nat) (h : k < 9223372036854775808) : (bits BinOp.and IntKind.i64 ((k : Int) / 2 ^ t) 1 == 1) = decide (k / 2 ^ t % 2 = 1) := by
  have e1 : (k : Int) / 2 ^ t = ((k / 2 ^ t : Nat) : Int) := by rw [Int.natCast_ediv, Int.natCast_pow]; rfl
  have e2 : (1 : Int) = ((1 : Nat) : Int) := rfl
  have h1 := Nat.div_le_self k (2 ^ t)
  rw [e1, e2, i64_and_nat _ _ (by omega) (by omega), nat_mask1, Bool.eq_iff_iff]
  simp
  omega

set_option maxHeartbeats 2000000 in
theorem pow_ok {p : Option Addr} {n c : Nat} {xs : List Nat} {k : Nat} {w : World} (hx : Sl w p n c xs) (hn : n ≤ 1048576000) (hk0 : 0 < k) (hb : 1 < blen (val xs)) (hfit : blen (val xs) * k ≤ 67108864) :
    Calls Try.prog 120 #[.slice p n c, .int .i64 (k : Int)] w (RetNE w (lim (val xs ^ k)) 0) := by
  have hk1 : decide ((k : Int) < 0) = false := by simp
  have hbl := blen_len hx.lims
  rw [hx.len] at hbl
  have hA := lt_blen (val xs)
  have HA := Lib.hid hA
  clear hA
  have hx0 := hx
  have hkB : k ≤ 67108864 := by
    have : 1 * k ≤ blen (val xs) * k := Nat.mul_le_mul_right _ (by omega)
    omega
  have h2 : (blen (val xs) - 1) * k + 1 ≤ 67108864 := by
    have : (blen (val xs) - 1) * k + k = blen (val xs) * k := by
      rw [← Nat.succ_mul]; congr 1; omega
    omega
  have HFIT := Lib.hid hfit
  clear hfit
  have hz : ((k : Int) == 0) = false := by simp; omega
  go_enter Try.func120, Try.ntmps120
  go_wp2_with fail
  refine (len_any hx (by omega)).mono ?_
  rintro e w1 ⟨rfl, rfl⟩
  generalize hBx : blen (val xs) = B at *
  have HBX := Lib.hid hBx
  clear hBx
  have hz1 : ((B : Int) == 1) = false := by simp; omega
  have hz2 : ((B : Int) == 0) = false := by simp; omega
  have hz3 : decide ((67108864 : Int) < (k : Int)) = false := by simp; omega
  have e : ((B : Int) - 1) * (k : Int) = (((B - 1) * k : Nat) : Int) := by rw [Int.natCast_mul]; congr 1; omega
  have hz4 : decide ((67108864 : Int) < ((B : Int) - 1) * (k : Int) + 1) = false := by rw [e]; simp; omega
  have hw1 : IntKind.i64.wrap (((B : Int) - 1) * (k : Int)) = ((B : Int) - 1) * (k : Int) := IntWalk.i64_in _ (by rw [e]; omega)
  have hw2 : IntKind.i64.wrap (((B : Int) - 1) * (k : Int) + 1) = ((B : Int) - 1) * (k : Int) + 1 := IntWalk.i64_in _ (by rw [e]; omega)
  clear h2 e
  go_wp2_with fail
  refine (of_any (N := 1) rfl (by omega)).mono ?_
  rintro e w2 ⟨p2, n2, c2, rfl, hf2, hb2⟩
  clear hw1 hw2 hz4
  go_wp2_with fail
  refine (bitsLen_any (x := k) rfl (by omega)).mono ?_
  rintro e w3 ⟨rfl, rfl⟩
  have hkb := blen_le (n := k) (k := 27) (by omega)
  have HKB := Lib.hid (lt_blen k)
  generalize blen k = T at *
  go_wp2_with fail
  have HPL : Hid (∀ e, e ≤ k → ll (val xs ^ e) ≤ 2097153) := fun e he => pow_len (L := 2097152) HA.out (by have := HFIT.out; omega) he
  have H0 : Hid (k / 2 ^ T = 0) := by show _ = _; exact Nat.div_eq_of_lt HKB.out
  go_loopw [7, 8] (fun o v wr => ∃ t : Nat, t ≤ T ∧ v = .int .i64 ((t : Int) - 1) ∧ ∃ p n c, o = .slice p n c ∧ Fr w.heap.size wr p n c (lim (val xs ^ (k / 2 ^ t))) ∧ Below w.heap.size w wr) (fun _ v _ => (intOf v + 1).toNat)
  case atStart => exact ⟨T, Nat.le_refl _, rfl, p2, n2, c2, rfl, by rw [H0.out, Nat.pow_zero]; exact hf2, hb2⟩
  case round =>
    clear hf2 hb2
    obtain ⟨t, ht, rfl, p5, n5, c5, rfl, hf5, hb5⟩ := hrel
    have hn5 : n5 ≤ 2097153 := by rw [hf5.sl.lln]; exact HPL.out _ (Nat.div_le_self _ _)
    rcases t with _ | t
    · have hbk : blen (val xs ^ k) ≤ 67108864 := by
        have h1 := blen_le (pow_le_two HA.out hk0)
        have h2 := HFIT.out
        omega
      have HBK := Lib.hid hbk
      clear hbk
      rw [Nat.pow_zero, Nat.div_one] at hf5
      go_wp2_with fail
      refine (len_any hf5.sl (by omega)).mono ?_
      rw [val_lim]
      rintro e w6 ⟨rfl, rfl⟩
      have hbk := HBK.out
      generalize blen (val xs ^ k) = D at *
      have hz5 : decide ((67108864 : Int) < (D : Int)) = false := by simp; omega
      go_wp2_with fail
      go_ret2
      exact ⟨_, _, _, rfl, hf5, hb5⟩
    · have ej : ((t + 1 : Nat) : Int) - 1 = (t : Int) := by omega
      rw [ej]
      clear ej
      have hx5 := hx0.below hb5 (Nat.le_refl _)
      go_wp2_with fail
      refine (mul_any hf5.sl hf5.sl (by omega) (by omega)).mono ?_
      rw [val_lim]
      rintro e w6 ⟨p6, n6, c6, rfl, hf6, hb6⟩
      have hn6 : n6 ≤ 4194306 := by
        rw [hf6.sl.lln]
        have h1 := ll_mul (val xs ^ (k / 2 ^ (t + 1))) (val xs ^ (k / 2 ^ (t + 1)))
        rw [← hf5.sl.lln] at h1
        omega
      replace hx5 := hx5.below hb6 (Nat.le_refl _)
      have HB5 := Lib.hid hb5.size
      replace hb5 := hb5.trans (hb6.mono hb5.size)
      clear hb6 hf5
      have hbit := bit_of k t (by omega)
      rcases Nat.mod_two_eq_zero_or_one (k / 2 ^ t) with h | h
      · have hz6 : (bits BinOp.and IntKind.i64 ((k : Int) / 2 ^ t) 1 == 1) = false := by rw [hbit]; simp; omega
        rw [pow_next0 h] at hf6
        clear hbit h
        go_wp2_with fail
        exact ⟨⟨t, by omega, rfl, _, _, _, rfl, hf6.mono HB5.out, hb5⟩, by simp [intOf]⟩
      · have hz6 : (bits BinOp.and IntKind.i64 ((k : Int) / 2 ^ t) 1 == 1) = true := by rw [hbit]; simp; omega
        have HN := Lib.hid (pow_next1 (A := val xs) h)
        clear hbit h
        go_wp2_with fail
        refine (mul_any hf6.sl hx5 (by omega) (by omega)).mono ?_
        rw [val_lim, HN.out]
        rintro e w7 ⟨p7, n7, c7, rfl, hf7, hb7⟩
        go_wp2_with fail
        exact ⟨⟨t, by omega, rfl, _, _, _, rfl, hf7.mono hb5.size, hb5.trans (hb7.mono hb5.size)⟩, by simp [intOf]⟩

end Go.Proofs.Ytoinfkimlhhmpaa

/-
  The walk of simileref01: Pow.
-/
namespace Go.Proofs.Ytoinfkimlhhmpaa
open Go.RowKit

/-- A number and a word. -/
def RetNB (w : World) (xs : List Nat) (b : Bool) (e : Ending) (w' : World) : Prop :=
  ∃ p n c, e = .returned (.tuple #[.slice p n c, .bool b]) ∧ Fr w.heap.size w' p n c xs ∧ Below w.heap.size w w'

theorem pow_tiny {x k : Nat} (h : blen x ≤ 1) (hk : 0 < k) : x ^ k = x := by
  have h1 := lt_blen x
  have h2 : 2 ^ blen x ≤ 2 ^ 1 := Nat.pow_le_pow_right (by omega) h
  rcases (by omega : x = 0 ∨ x = 1) with rfl | rfl
  · exact Nat.zero_pow hk
  · exact Nat.one_pow k

theorem lim_one : lim 1 = [1] := by
  have h : val [1] = 1 := val_single 1
  have := lim_of_val (xs := [1]) (lims_single (by omega)) (by simp [tl, nd])
  rwa [h] at this

set_option maxHeartbeats 2000000 in
theorem rpow_small {p : Option Addr} {n c : Nat} {xs : List Nat} {k : Nat} {w : World} (hx : Sl w p n c xs) (hn : n ≤ 1048576000) (hk : k ≤ 9223372036854775807) (h : blen (val xs) ≤ 1) :
    Calls Try.prog 121 #[.slice p n c, .int .i64 (k : Int)] w (RetNB w (lim (val xs ^ k)) true) := by
  go_enter Try.func121, Try.ntmps121
  go_wp2_with fail
  refine (rnorm_any hx (by omega)).mono ?_
  rintro e w1 ⟨p1, n1, c1, rfl, hf1, hb1⟩
  have hl1 := norm_len hx hf1
  have H1 : Hid (val xs ^ k = if k = 0 then 1 else val xs) := by
    show _ = _
    split
    · rename_i h0; rw [h0, Nat.pow_zero]
    · exact pow_tiny h (by omega)
  generalize hX : val xs = X at *
  clear hX
  rcases Nat.eq_zero_or_pos n1 with hn0 | hn0
  · subst hn0
    by_cases hk0 : k = 0
    · have hz1 : ((k : Int) == 0) = true := by simp; omega
      go_wp2_with fail
      go_ret2
      rw [H1.out, if_pos hk0, lim_one]
      exact ⟨_, _, _, rfl, Fr.lit w1 [1] (lims_single (by omega)) hb1.size, hb1.alloc hb1.size _⟩
    · have hz1 : ((k : Int) == 0) = false := by simp; omega
      go_wp2_with fail
      go_ret2
      rw [H1.out, if_neg hk0]
      exact ⟨_, _, _, rfl, hf1, hb1⟩
  · have hz : ((n1 : Int) == 0) = false := by simp; omega
    have hX : X ≠ 0 := by have := pos_of_len hf1.sl hn0; omega
    have hbl : blen X = 1 := by have := blen_pos hX; omega
    have HBL := Lib.hid hbl
    clear hbl
    go_wp2_with fail
    refine (rlen_any hf1.sl (by omega)).mono ?_
    rw [val_lim, HBL.out]
    rintro e w2 ⟨rfl, hb2⟩
    replace hf1 := hf1.below hb2 (Nat.le_refl _)
    replace hb1 := hb1.trans (hb2.mono hb1.size)
    by_cases hk0 : k = 0
    · have hz1 : ((k : Int) == 0) = true := by simp; omega
      go_wp2_with fail
      go_ret2
      rw [H1.out, if_pos hk0, lim_one]
      exact ⟨_, _, _, rfl, Fr.lit w2 [1] (lims_single (by omega)) hb1.size, hb1.alloc hb1.size _⟩
    · have hz1 : ((k : Int) == 0) = false := by simp; omega
      go_wp2_with fail
      go_ret2
      rw [H1.out, if_neg hk0]
      exact ⟨_, _, _, rfl, hf1, hb1⟩

theorem len_of_blen {w : World} {p : Option Addr} {n c X : Nat} (h : Sl w p n c (lim X)) (h0 : 1 < blen X) : 0 < n := by
  apply len_of_pos h
  rcases Nat.eq_zero_or_pos X with e | e
  · rw [e] at h0; simp [blen] at h0
  · exact e

set_option maxHeartbeats 2000000 in
theorem rpow_big {p : Option Addr} {n c : Nat} {xs : List Nat} {k : Nat} {w : World} (hx : Sl w p n c xs) (hn : n ≤ 1048576000) (hk : k ≤ 9223372036854775807) (hb : 1 < blen (val xs)) (h : 67108864 < k ∨ 67108864 ≤ (blen (val xs) - 1) * k) :
    Calls Try.prog 121 #[.slice p n c, .int .i64 (k : Int)] w (RetNB w [] false) := by
  have hbl := blen_len hx.lims
  rw [hx.len] at hbl
  go_enter Try.func121, Try.ntmps121
  go_wp2_with fail
  refine (rnorm_any hx (by omega)).mono ?_
  rintro e w1 ⟨p1, n1, c1, rfl, hf1, hb1⟩
  have hl1 := norm_len hx hf1
  have hn0 := len_of_blen hf1.sl hb
  have hz : ((n1 : Int) == 0) = false := by simp; omega
  go_wp2_with fail
  refine (rlen_any hf1.sl (by omega)).mono ?_
  rw [val_lim]
  rintro e w2 ⟨rfl, hb2⟩
  replace hf1 := hf1.below hb2 (Nat.le_refl _)
  replace hb1 := hb1.trans (hb2.mono hb1.size)
  generalize hBx : blen (val xs) = B at *
  have HBX := Lib.hid hBx
  clear hBx hb2
  have hz1 : ((B : Int) == 1) = false := by simp; omega
  rcases Nat.lt_or_ge 67108864 k with hk2 | hk2
  · have hz3 : decide ((67108864 : Int) < (k : Int)) = true := by simp; omega
    go_wp2_with fail
    go_ret2
    exact ⟨_, _, _, rfl, Fr.nil _ _, hb1⟩
  · have hz3 : decide ((67108864 : Int) < (k : Int)) = false := by simp; omega
    have h2 : 67108864 ≤ (B - 1) * k := by omega
    have h3 : (B - 1) * k ≤ 33554432000 * 67108864 := Nat.mul_le_mul (by omega) (by omega)
    have e : ((B : Int) - 1) * (k : Int) = (((B - 1) * k : Nat) : Int) := by rw [Int.natCast_mul]; congr 1; omega
    have hz4 : decide ((67108864 : Int) ≤ ((B : Int) - 1) * (k : Int)) = true := by rw [e]; simp; omega
    have hw1 : IntKind.i64.wrap (((B : Int) - 1) * (k : Int)) = ((B : Int) - 1) * (k : Int) := IntWalk.i64_in _ (by rw [e]; omega)
    clear h h2 h3 e
    go_wp2_with fail
    refine (rlen_any hf1.sl (by omega)).mono ?_
    rw [val_lim, HBX.out]
    rintro e w3 ⟨rfl, hb3⟩
    replace hb1 := hb1.trans (hb3.mono hb1.size)
    go_wp2_with fail
    go_ret2
    exact ⟨_, _, _, rfl, Fr.nil _ _, hb1⟩

set_option maxHeartbeats 2000000 in
theorem rpow_ok {p : Option Addr} {n c : Nat} {xs : List Nat} {k : Nat} {w : World} (hx : Sl w p n c xs) (hn : n ≤ 1048576000) (hb : 1 < blen (val xs)) (hfit : blen (val xs) * k ≤ 67108863) :
    Calls Try.prog 121 #[.slice p n c, .int .i64 (k : Int)] w (RetNB w (lim (val xs ^ k)) true) := by
  have hbl := blen_len hx.lims
  rw [hx.len] at hbl
  have hA := lt_blen (val xs)
  have HA := Lib.hid hA
  clear hA
  have hkB : k ≤ 67108864 := by
    have : 1 * k ≤ blen (val xs) * k := Nat.mul_le_mul_right _ (by omega)
    omega
  have h2 : (blen (val xs) - 1) * k < 67108864 := by
    have : (blen (val xs) - 1) * k ≤ blen (val xs) * k := Nat.mul_le_mul_right _ (by omega)
    omega
  have HFIT := Lib.hid hfit
  clear hfit
  go_enter Try.func121, Try.ntmps121
  go_wp2_with fail
  refine (rnorm_any hx (by omega)).mono ?_
  rintro e w1 ⟨p1, n1, c1, rfl, hf1, hb1⟩
  have hl1 := norm_len hx hf1
  have hn0 := len_of_blen hf1.sl hb
  have hz : ((n1 : Int) == 0) = false := by simp; omega
  go_wp2_with fail
  refine (rlen_any hf1.sl (by omega)).mono ?_
  rw [val_lim]
  rintro e w2 ⟨rfl, hb2⟩
  replace hf1 := hf1.below hb2 (Nat.le_refl _)
  replace hb1 := hb1.trans (hb2.mono hb1.size)
  generalize hBx : blen (val xs) = B at *
  have HBX := Lib.hid hBx
  clear hBx hb2
  have hz1 : ((B : Int) == 1) = false := by simp; omega
  have hz3 : decide ((67108864 : Int) < (k : Int)) = false := by simp; omega
  have e : ((B : Int) - 1) * (k : Int) = (((B - 1) * k : Nat) : Int) := by rw [Int.natCast_mul]; congr 1; omega
  have hz4 : decide ((67108864 : Int) ≤ ((B : Int) - 1) * (k : Int)) = false := by rw [e]; simp; omega
  have hw1 : IntKind.i64.wrap (((B : Int) - 1) * (k : Int)) = ((B : Int) - 1) * (k : Int) := IntWalk.i64_in _ (by rw [e]; omega)
  clear h2 e
  go_wp2_with fail
  refine (rlen_any hf1.sl (by omega)).mono ?_
  rw [val_lim, HBX.out]
  rintro e w3 ⟨rfl, hb3⟩
  replace hf1 := hf1.below hb3 (Nat.le_refl _)
  replace hb1 := hb1.trans (hb3.mono hb1.size)
  clear hb3
  go_wp2_with fail
  clear hw1 hz4 hz3 hz1 hz
  have hf4 : Fr w.heap.size (w3.alloc (.cells ([1].map fun x : Nat => Value.int .u32 (x : Int)).toArray 53)) (some ⟨w3.heap.size, 0, none⟩) 1 1 (lim (val xs ^ 0)) := by
    have e : lim (val xs ^ 0) = [1] := lim_one
    rw [e]; exact Fr.lit w3 [1] (lims_single (by omega)) hb1.size
  have hb4 : Below w.heap.size w (w3.alloc (.cells ([1].map fun x : Nat => Value.int .u32 (x : Int)).toArray 53)) := hb1.alloc hb1.size _
  replace hf1 := hf1.below ((Below.refl w3.heap.size w3).alloc (Nat.le_refl _) (.cells ([1].map fun x : Nat => Value.int .u32 (x : Int)).toArray 53)) (Nat.le_refl _)
  have HPL : Hid (∀ e, e ≤ k → ll (val xs ^ e) ≤ 2097153) := fun e he => pow_len (L := 2097152) HA.out (by have := HFIT.out; omega) he
  have HPB : Hid (∀ e, e < k → blen (val xs ^ (e + 1)) ≤ 67108864) := fun e he => by
    have h1 := blen_le (pow_le_two (e := e + 1) HA.out (by omega))
    have h2 := HFIT.out
    have h3 : B * (e + 1) ≤ B * k := Nat.mul_le_mul_left B (by omega)
    omega
  have hl1' : n1 ≤ 1048576000 := by omega
  go_loopw [6, 7] (fun o v wr => ∃ i : Nat, i ≤ k ∧ v = .int .i64 (i : Int) ∧ ∃ p n c, o = .slice p n c ∧ Fr w.heap.size wr p n c (lim (val xs ^ i)) ∧ Fr w.heap.size wr p1 n1 c1 (lim (val xs)) ∧ Below w.heap.size w wr) (fun _ v _ => k - (intOf v).toNat)
  case atStart => exact ⟨0, Nat.zero_le _, rfl, _, 1, 1, rfl, hf4, hf1, hb4⟩
  case round =>
    clear hf4 hb4 hf1 hb1
    obtain ⟨i, hi, rfl, p5, n5, c5, rfl, hf5, hf1, hb5⟩ := hrel
    have hn5 : n5 ≤ 2097153 := by rw [hf5.sl.lln]; exact HPL.out _ hi
    by_cases hik : i < k
    · go_wp2_with fail
      refine (rmul_any hf5.sl hf1.sl (by omega) (by omega)).mono ?_
      rw [val_lim, val_lim, ← Nat.pow_succ]
      rintro e w6 ⟨p6, n6, c6, rfl, hf6, hb6⟩
      have hn6 : n6 ≤ 2097153 := by rw [hf6.sl.lln]; exact HPL.out _ (by omega)
      have hbb := HPB.out i hik
      have HB5 := Lib.hid hb5.size
      replace hf1 := hf1.below hb6 (Nat.le_refl _)
      replace hb5 := hb5.trans (hb6.mono hb5.size)
      clear hb6 hf5
      have HBB := Lib.hid hbb
      clear hbb
      go_wp2_with fail
      refine (rlen_any hf6.sl (by omega)).mono ?_
      rw [val_lim]
      rintro e w7 ⟨rfl, hb7⟩
      replace hf1 := hf1.below hb7 (Nat.le_refl _)
      replace hf6 := hf6.below hb7 (Nat.le_refl _)
      replace hb5 := hb5.trans (hb7.mono hb5.size)
      clear hb7
      have hbb := HBB.out
      generalize blen (val xs ^ (i + 1)) = D at *
      have hz5 : decide ((67108864 : Int) < (D : Int)) = false := by simp; omega
      go_wp2_with fail
      exact ⟨⟨i + 1, by omega, by go_num, _, _, _, rfl, hf6.mono HB5.out, hf1, hb5⟩, by simp [intOf]; omega⟩
    · obtain rfl : i = k := by omega
      go_wp2_with fail
      go_ret2
      exact ⟨_, _, _, rfl, hf5, hb5⟩


end Go.Proofs.Ytoinfkimlhhmpaa

/-
  Plain facts on integers by sign and size.
-/
namespace Go.Proofs.Ytoinfkimlhhmpaa

/-- An integer by its sign and its size. -/
def zv (b : Bool) (n : Nat) : Int := if b then -(n : Int) else (n : Int)

/-- Is it below 0? -/
def ng (z : Int) : Bool := decide (z < 0)

theorem zv_ng (z : Int) : zv (ng z) z.natAbs = z := by
  unfold zv ng
  by_cases h : z < 0
  · rw [decide_eq_true h]; simp; omega
  · rw [decide_eq_false h]; simp; omega

theorem natAbs_zv (b : Bool) (n : Nat) : (zv b n).natAbs = n := by
  unfold zv; cases b <;> simp

theorem ng_zv (b : Bool) (n : Nat) : ng (zv b n) = (b && decide (0 < n)) := by
  unfold zv ng
  cases b
  · simp
  · simp

theorem ng_nat (n : Nat) : ng (n : Int) = false := by unfold ng; simp
theorem ng_zero : ng 0 = false := rfl
theorem zv_zero (b : Bool) : zv b 0 = 0 := by unfold zv; cases b <;> rfl
theorem zv_false (n : Nat) : zv false n = n := rfl
theorem zv_true (n : Nat) : zv true n = -(n : Int) := rfl

theorem zv_eq_zero {b : Bool} {n : Nat} : zv b n = 0 ↔ n = 0 := by
  unfold zv; cases b <;> simp

theorem ng_true {z : Int} (h : z < 0) : ng z = true := decide_eq_true h
theorem ng_false {z : Int} (h : 0 ≤ z) : ng z = false := decide_eq_false (by omega)

theorem zv_add_same (b : Bool) (m n : Nat) : zv b (m + n) = zv b m + zv b n := by
  unfold zv; cases b <;> simp <;> omega

theorem zv_add_le {b c : Bool} (h : b ≠ c) {m n : Nat} (hmn : n ≤ m) : zv b (m - n) = zv b m + zv c n := by
  unfold zv; cases b <;> cases c <;> simp at h ⊢ <;> omega

theorem zv_add_lt {b c : Bool} (h : b ≠ c) {m n : Nat} (hmn : m ≤ n) : zv c (n - m) = zv b m + zv c n := by
  unfold zv; cases b <;> cases c <;> simp at h ⊢ <;> omega

theorem zv_neg (b : Bool) (n : Nat) : zv (!b) n = - zv b n := by unfold zv; cases b <;> simp

theorem zv_mul (b c : Bool) (m n : Nat) : zv (b != c) (m * n) = zv b m * zv c n := by
  unfold zv; cases b <;> cases c <;> simp [Int.neg_mul, Int.mul_neg]

theorem zv_tdiv (b c : Bool) (m n : Nat) : zv (b != c) (m / n) = (zv b m).tdiv (zv c n) := by
  unfold zv; cases b <;> cases c <;> simp [Int.neg_tdiv, Int.tdiv_neg]

theorem zv_tmod (b c : Bool) (m n : Nat) : zv b (m % n) = (zv b m).tmod (zv c n) := by
  unfold zv; cases b <;> cases c <;> simp [Int.neg_tmod, Int.tmod_neg] <;> rfl

/-- The one quotient and rest with a rest from 0 on. -/
theorem euclid_unique {a b q r : Int} (h : a = b * q + r) (h0 : 0 ≤ r) (h1 : r < b.natAbs) : q = a / b ∧ r = a % b := by
  have hb : b ≠ 0 := by intro e; subst e; simp at h1; omega
  have h2 := Int.emod_add_mul_ediv a b
  have h3 := Int.emod_nonneg a hb
  have h4 := Int.emod_lt a hb
  have h5 : b * (q - a / b) = a % b - r := by rw [Int.mul_sub]; omega
  have h6 : q - a / b = 0 := by
    rcases Int.lt_trichotomy (q - a / b) 0 with h7 | h7 | h7
    · exfalso
      have h8 : (b.natAbs : Int) * 1 ≤ (b * (q - a / b)).natAbs := by
        rw [Int.natAbs_mul, Int.natCast_mul]
        exact Int.mul_le_mul_of_nonneg_left (by omega) (by omega)
      omega
    · exact h7
    · exfalso
      have h8 : (b.natAbs : Int) * 1 ≤ (b * (q - a / b)).natAbs := by
        rw [Int.natAbs_mul, Int.natCast_mul]
        exact Int.mul_le_mul_of_nonneg_left (by omega) (by omega)
      omega
  rw [h6, Int.mul_zero] at h5
  omega

theorem euclid_low {a b : Int} (hb : b ≠ 0) (h : a.tmod b < 0) : a.tdiv b - b.sign = a / b ∧ a.tmod b + b.natAbs = a % b := by
  have h1 := Int.tmod_add_mul_tdiv a b
  have h2 : -(b.natAbs : Int) < a.tmod b := by
    have := Int.natAbs_tmod a b
    have h3 : a.natAbs % b.natAbs < b.natAbs := Nat.mod_lt _ (by omega)
    omega
  have h4 : b * b.sign = b.natAbs := Int.mul_sign_self b
  exact euclid_unique (by rw [Int.mul_sub]; omega) (by omega) (by omega)

theorem euclid_high {a b : Int} (hb : b ≠ 0) (h : 0 ≤ a.tmod b) : a.tdiv b = a / b ∧ a.tmod b = a % b := by
  have h1 := Int.tmod_add_mul_tdiv a b
  have h2 : a.tmod b < (b.natAbs : Int) := by
    have := Int.natAbs_tmod a b
    have h3 : a.natAbs % b.natAbs < b.natAbs := Nat.mod_lt _ (by omega)
    omega
  exact euclid_unique (by omega) h h2

/-- -1, 0, 1 of two integers. -/
def cmpZ (a b : Int) : Int := if a < b then -1 else if a = b then 0 else 1

theorem cmpZ_sub (a b : Int) : (a - b).sign = cmpZ a b := by
  unfold cmpZ
  rcases Int.lt_trichotomy a b with h | h | h
  · rw [if_pos h, Int.sign_eq_neg_one_of_neg (by omega)]
  · rw [if_neg (by omega), if_pos h, h, Int.sub_self]; rfl
  · rw [if_neg (by omega), if_neg (by omega), Int.sign_eq_one_of_pos (by omega)]

theorem sign_cases (z : Int) : z.sign = -1 ∧ z < 0 ∨ z.sign = 0 ∧ z = 0 ∨ z.sign = 1 ∧ 0 < z := by
  rcases Int.lt_trichotomy z 0 with h | h | h
  · exact Or.inl ⟨Int.sign_eq_neg_one_of_neg h, h⟩
  · exact Or.inr (Or.inl ⟨by rw [h]; rfl, h⟩)
  · exact Or.inr (Or.inr ⟨Int.sign_eq_one_of_pos h, h⟩)

theorem cmpZ_sign_lt {a b : Int} (h : a.sign < b.sign) : cmpZ a b = -1 := by
  have h1 := sign_cases a
  have h2 := sign_cases b
  unfold cmpZ; rw [if_pos (by omega)]

theorem cmpZ_sign_gt {a b : Int} (h : b.sign < a.sign) : cmpZ a b = 1 := by
  have h1 := sign_cases a
  have h2 := sign_cases b
  unfold cmpZ; rw [if_neg (by omega), if_neg (by omega)]

theorem cmpZ_of {a b : Int} {m n : Nat} (h1 : a < b ↔ m < n) (h2 : a = b ↔ m = n) : cmpZ a b = cmpN m n := by
  unfold cmpZ cmpN
  by_cases k1 : m < n
  · rw [if_pos (h1.2 k1), if_pos k1]
  · rw [if_neg (fun h => k1 (h1.1 h)), if_neg k1]
    by_cases k2 : m = n
    · rw [if_pos (h2.2 k2), if_pos k2]
    · rw [if_neg (fun h => k2 (h2.1 h)), if_neg k2]

theorem zv_below {b : Bool} {m : Nat} (h : zv b m < 0) : zv b m = -(m : Int) := by
  cases b
  · rw [zv_false] at h; omega
  · rfl
theorem zv_not_below {b : Bool} {m : Nat} (h : 0 ≤ zv b m) : zv b m = (m : Int) := by
  cases b
  · rfl
  · rw [zv_true] at h ⊢; omega

theorem cmpZ_both_neg {b c : Bool} {m n : Nat} (h1 : zv b m < 0) (h2 : zv c n < 0) : cmpZ (zv b m) (zv c n) = cmpN n m := by
  rw [zv_below h1, zv_below h2]
  exact cmpZ_of (by omega) (by omega)

theorem cmpZ_both_pos {b c : Bool} {m n : Nat} (h1 : 0 ≤ zv b m) (h2 : 0 ≤ zv c n) : cmpZ (zv b m) (zv c n) = cmpN m n := by
  rw [zv_not_below h1, zv_not_below h2]
  exact cmpZ_of (by omega) (by omega)

/-- The nearest integer, the even one of two; b above 0. -/
def nearP (a b : Int) : Int := if b < a % b + a % b ∨ b = a % b + a % b ∧ (a / b).natAbs % 2 = 1 then a / b + 1 else a / b
def nearZ (a b : Int) : Int := if b < 0 then nearP (-a) (-b) else nearP a b

end Go.Proofs.Ytoinfkimlhhmpaa
