
/-
  The walk of simileref01: Pow.
-/
import Derived.Test.YtlnilkghbbbhbaaRefH
import Derived.Test.YtlnilkghbbbhbaaNatL
namespace Go.Proofs.Ytlnilkghbbbhbaa
open Go.RowKit

/-- A number and a word. -/
def RetNB (w : World) (xs : List Nat) (b : Bool) (e : Ending) (w' : World) : Prop :=
  ∃ p n c, e = .returned (.tuple #[.slice p n c, .bool b]) ∧ Fr w.heap.size w' p n c xs ∧ Below w.heap.size w w'

theorem pow_tiny {x k : Nat} (h : blen x ≤ 1) (hk : 0 < k) : x ^ k = x := by
  have h1 := lt_blen x
  have h2 : 2 ^ blen x ≤ 2 ^ 1 := Nat.pow_le_pow_right (by omega) h
  rcases (by omega : x = 0 ∨ x = 1) with rfl | rfl
  · exact Nat.zero_pow hk
  · exact Nat.one_pow k

theorem lim_one : lim 1 = [1] := by
  have h : val [1] = 1 := val_single 1
  have := lim_of_val (xs := [1]) (lims_single (by omega)) (by simp [tl, nd])
  rwa [h] at this

set_option maxHeartbeats 2000000 in
theorem rpow_small {p : Option Addr} {n c : Nat} {xs : List Nat} {k : Nat} {w : World} (hx : Sl w p n c xs) (hn : n ≤ 1048576000) (hk : k ≤ 9223372036854775807) (h : blen (val xs) ≤ 1) :
    Calls Try.prog 85 #[.slice p n c, .int .i64 (k : Int)] w (RetNB w (lim (val xs ^ k)) true) := by
  go_enter Try.func85, Try.ntmps85
  go_wp2_with fail
  refine (rnorm_any hx (by omega)).mono ?_
  rintro e w1 ⟨p1, n1, c1, rfl, hf1, hb1⟩
  have hl1 := norm_len hx hf1
  have H1 : Hid (val xs ^ k = if k = 0 then 1 else val xs) := by
    show _ = _
    split
    · rename_i h0; rw [h0, Nat.pow_zero]
    · exact pow_tiny h (by omega)
  generalize hX : val xs = X at *
  clear hX
  rcases Nat.eq_zero_or_pos n1 with hn0 | hn0
  · subst hn0
    by_cases hk0 : k = 0
    · have hz1 : ((k : Int) == 0) = true := by simp; omega
      go_wp2_with fail
      go_ret2
      rw [H1.out, if_pos hk0, lim_one]
      exact ⟨_, _, _, rfl, Fr.lit w1 [1] (lims_single (by omega)) hb1.size, hb1.alloc hb1.size _⟩
    · have hz1 : ((k : Int) == 0) = false := by simp; omega
      go_wp2_with fail
      go_ret2
      rw [H1.out, if_neg hk0]
      exact ⟨_, _, _, rfl, hf1, hb1⟩
  · have hz : ((n1 : Int) == 0) = false := by simp; omega
    have hX : X ≠ 0 := by have := pos_of_len hf1.sl hn0; omega
    have hbl : blen X = 1 := by have := blen_pos hX; omega
    have HBL := Lib.hid hbl
    clear hbl
    go_wp2_with fail
    refine (rlen_any hf1.sl (by omega)).mono ?_
    rw [val_lim, HBL.out]
    rintro e w2 ⟨rfl, hb2⟩
    replace hf1 := hf1.below hb2 (Nat.le_refl _)
    replace hb1 := hb1.trans (hb2.mono hb1.size)
    by_cases hk0 : k = 0
    · have hz1 : ((k : Int) == 0) = true := by simp; omega
      go_wp2_with fail
      go_ret2
      rw [H1.out, if_pos hk0, lim_one]
      exact ⟨_, _, _, rfl, Fr.lit w2 [1] (lims_single (by omega)) hb1.size, hb1.alloc hb1.size _⟩
    · have hz1 : ((k : Int) == 0) = false := by simp; omega
      go_wp2_with fail
      go_ret2
      rw [H1.out, if_neg hk0]
      exact ⟨_, _, _, rfl, hf1, hb1⟩

theorem len_of_blen {w : World} {p : Option Addr} {n c X : Nat} (h : Sl w p n c (lim X)) (h0 : 1 < blen X) : 0 < n := by
  apply len_of_pos h
  rcases Nat.eq_zero_or_pos X with e | e
  · rw [e] at h0; simp [blen] at h0
  · exact e

set_option maxHeartbeats 2000000 in
theorem rpow_big {p : Option Addr} {n c : Nat} {xs : List Nat} {k : Nat} {w : World} (hx : Sl w p n c xs) (hn : n ≤ 1048576000) (hk : k ≤ 9223372036854775807) (hb : 1 < blen (val xs)) (h : 67108864 < k ∨ 67108864 ≤ (blen (val xs) - 1) * k) :
    Calls Try.prog 85 #[.slice p n c, .int .i64 (k : Int)] w (RetNB w [] false) := by
  have hbl := blen_len hx.lims
  rw [hx.len] at hbl
  go_enter Try.func85, Try.ntmps85
  go_wp2_with fail
  refine (rnorm_any hx (by omega)).mono ?_
  rintro e w1 ⟨p1, n1, c1, rfl, hf1, hb1⟩
  have hl1 := norm_len hx hf1
  have hn0 := len_of_blen hf1.sl hb
  have hz : ((n1 : Int) == 0) = false := by simp; omega
  go_wp2_with fail
  refine (rlen_any hf1.sl (by omega)).mono ?_
  rw [val_lim]
  rintro e w2 ⟨rfl, hb2⟩
  replace hf1 := hf1.below hb2 (Nat.le_refl _)
  replace hb1 := hb1.trans (hb2.mono hb1.size)
  generalize hBx : blen (val xs) = B at *
  have HBX := Lib.hid hBx
  clear hBx hb2
  have hz1 : ((B : Int) == 1) = false := by simp; omega
  rcases Nat.lt_or_ge 67108864 k with hk2 | hk2
  · have hz3 : decide ((67108864 : Int) < (k : Int)) = true := by simp; omega
    go_wp2_with fail
    go_ret2
    exact ⟨_, _, _, rfl, Fr.nil _ _, hb1⟩
  · have hz3 : decide ((67108864 : Int) < (k : Int)) = false := by simp; omega
    have h2 : 67108864 ≤ (B - 1) * k := by omega
    have h3 : (B - 1) * k ≤ 33554432000 * 67108864 := Nat.mul_le_mul (by omega) (by omega)
    have e : ((B : Int) - 1) * (k : Int) = (((B - 1) * k : Nat) : Int) := by rw [Int.natCast_mul]; congr 1; omega
    have hz4 : decide ((67108864 : Int) ≤ ((B : Int) - 1) * (k : Int)) = true := by rw [e]; simp; omega
    have hw1 : IntKind.i64.wrap (((B : Int) - 1) * (k : Int)) = ((B : Int) - 1) * (k : Int) := IntWalk.i64_in _ (by rw [e]; omega)
    clear h h2 h3 e
    go_wp2_with fail
    refine (rlen_any hf1.sl (by omega)).mono ?_
    rw [val_lim, HBX.out]
    rintro e w3 ⟨rfl, hb3⟩
    replace hb1 := hb1.trans (hb3.mono hb1.size)
    go_wp2_with fail
    go_ret2
    exact ⟨_, _, _, rfl, Fr.nil _ _, hb1⟩

set_option maxHeartbeats 2000000 in
theorem rpow_ok {p : Option Addr} {n c : Nat} {xs : List Nat} {k : Nat} {w : World} (hx : Sl w p n c xs) (hn : n ≤ 1048576000) (hb : 1 < blen (val xs)) (hfit : blen (val xs) * k ≤ 67108863) :
    Calls Try.prog 85 #[.slice p n c, .int .i64 (k : Int)] w (RetNB w (lim (val xs ^ k)) true) := by
  have hbl := blen_len hx.lims
  rw [hx.len] at hbl
  have hA := lt_blen (val xs)
  have HA := Lib.hid hA
  clear hA
  have hkB : k ≤ 67108864 := by
    have : 1 * k ≤ blen (val xs) * k := Nat.mul_le_mul_right _ (by omega)
    omega
  have h2 : (blen (val xs) - 1) * k < 67108864 := by
    have : (blen (val xs) - 1) * k ≤ blen (val xs) * k := Nat.mul_le_mul_right _ (by omega)
    omega
  have HFIT := Lib.hid hfit
  clear hfit
  go_enter Try.func85, Try.ntmps85
  go_wp2_with fail
  refine (rnorm_any hx (by omega)).mono ?_
  rintro e w1 ⟨p1, n1, c1, rfl, hf1, hb1⟩
  have hl1 := norm_len hx hf1
  have hn0 := len_of_blen hf1.sl hb
  have hz : ((n1 : Int) == 0) = false := by simp; omega
  go_wp2_with fail
  refine (rlen_any hf1.sl (by omega)).mono ?_
  rw [val_lim]
  rintro e w2 ⟨rfl, hb2⟩
  replace hf1 := hf1.below hb2 (Nat.le_refl _)
  replace hb1 := hb1.trans (hb2.mono hb1.size)
  generalize hBx : blen (val xs) = B at *
  have HBX := Lib.hid hBx
  clear hBx hb2
  have hz1 : ((B : Int) == 1) = false := by simp; omega
  have hz3 : decide ((67108864 : Int) < (k : Int)) = false := by simp; omega
  have e : ((B : Int) - 1) * (k : Int) = (((B - 1) * k : Nat) : Int) := by rw [Int.natCast_mul]; congr 1; omega
  have hz4 : decide ((67108864 : Int) ≤ ((B : Int) - 1) * (k : Int)) = false := by rw [e]; simp; omega
  have hw1 : IntKind.i64.wrap (((B : Int) - 1) * (k : Int)) = ((B : Int) - 1) * (k : Int) := IntWalk.i64_in _ (by rw [e]; omega)
  clear h2 e
  go_wp2_with fail
  refine (rlen_any hf1.sl (by omega)).mono ?_
  rw [val_lim, HBX.out]
  rintro e w3 ⟨rfl, hb3⟩
  replace hf1 := hf1.below hb3 (Nat.le_refl _)
  replace hb1 := hb1.trans (hb3.mono hb1.size)
  clear hb3
  go_wp2_with fail
  clear hw1 hz4 hz3 hz1 hz
  have hf4 : Fr w.heap.size (w3.alloc (.cells ([1].map fun x : Nat => Value.int .u32 (x : Int)).toArray 29)) (some ⟨w3.heap.size, 0, none⟩) 1 1 (lim (val xs ^ 0)) := by
    have e : lim (val xs ^ 0) = [1] := lim_one
    rw [e]; exact Fr.lit w3 [1] (lims_single (by omega)) hb1.size
  have hb4 : Below w.heap.size w (w3.alloc (.cells ([1].map fun x : Nat => Value.int .u32 (x : Int)).toArray 29)) := hb1.alloc hb1.size _
  replace hf1 := hf1.below ((Below.refl w3.heap.size w3).alloc (Nat.le_refl _) (.cells ([1].map fun x : Nat => Value.int .u32 (x : Int)).toArray 29)) (Nat.le_refl _)
  have HPL : Hid (∀ e, e ≤ k → ll (val xs ^ e) ≤ 2097153) := fun e he => pow_len (L := 2097152) HA.out (by have := HFIT.out; omega) he
  have HPB : Hid (∀ e, e < k → blen (val xs ^ (e + 1)) ≤ 67108864) := fun e he => by
    have h1 := blen_le (pow_le_two (e := e + 1) HA.out (by omega))
    have h2 := HFIT.out
    have h3 : B * (e + 1) ≤ B * k := Nat.mul_le_mul_left B (by omega)
    omega
  have hl1' : n1 ≤ 1048576000 := by omega
  go_loopw [6, 7] (fun o v wr => ∃ i : Nat, i ≤ k ∧ v = .int .i64 (i : Int) ∧ ∃ p n c, o = .slice p n c ∧ Fr w.heap.size wr p n c (lim (val xs ^ i)) ∧ Fr w.heap.size wr p1 n1 c1 (lim (val xs)) ∧ Below w.heap.size w wr) (fun _ v _ => k - (intOf v).toNat)
  case atStart => exact ⟨0, Nat.zero_le _, rfl, _, 1, 1, rfl, hf4, hf1, hb4⟩
  case round =>
    clear hf4 hb4 hf1 hb1
    obtain ⟨i, hi, rfl, p5, n5, c5, rfl, hf5, hf1, hb5⟩ := hrel
    have hn5 : n5 ≤ 2097153 := by rw [hf5.sl.lln]; exact HPL.out _ hi
    by_cases hik : i < k
    · go_wp2_with fail
      refine (rmul_any hf5.sl hf1.sl (by omega) (by omega)).mono ?_
      rw [val_lim, val_lim, ← Nat.pow_succ]
      rintro e w6 ⟨p6, n6, c6, rfl, hf6, hb6⟩
      have hn6 : n6 ≤ 2097153 := by rw [hf6.sl.lln]; exact HPL.out _ (by omega)
      have hbb := HPB.out i hik
      have HB5 := Lib.hid hb5.size
      replace hf1 := hf1.below hb6 (Nat.le_refl _)
      replace hb5 := hb5.trans (hb6.mono hb5.size)
      clear hb6 hf5
      have HBB := Lib.hid hbb
      clear hbb
      go_wp2_with fail
      refine (rlen_any hf6.sl (by omega)).mono ?_
      rw [val_lim]
      rintro e w7 ⟨rfl, hb7⟩
      replace hf1 := hf1.below hb7 (Nat.le_refl _)
      replace hf6 := hf6.below hb7 (Nat.le_refl _)
      replace hb5 := hb5.trans (hb7.mono hb5.size)
      clear hb7
      have hbb := HBB.out
      generalize blen (val xs ^ (i + 1)) = D at *
      have hz5 : decide ((67108864 : Int) < (D : Int)) = false := by simp; omega
      go_wp2_with fail
      exact ⟨⟨i + 1, by omega, by go_num, _, _, _, rfl, hf6.mono HB5.out, hf1, hb5⟩, by simp [intOf]; omega⟩
    · obtain rfl : i = k := by omega
      go_wp2_with fail
      go_ret2
      exact ⟨_, _, _, rfl, hf5, hb5⟩


end Go.Proofs.Ytlnilkghbbbhbaa
