/-
  The walk of similelaw01.NatPowers.
-/
import Derived.Test.YtgemncfpehmdeaaRefI
import Derived.Test.YtgemncfpehmdeaaDivides
namespace Go.Proofs.Ytgemncfpehmdeaa
open Go.RowKit

theorem wrap_mul {B k : Nat} (hB : B ≤ 33554432) (hk : k ≤ 67108864) : IntKind.i64.wrap ((B : Int) * (k : Int)) = (B : Int) * (k : Int) := by
  have b1 : B * k ≤ 33554432 * 67108864 := Nat.mul_le_mul hB hk
  rw [← Int.natCast_mul]
  generalize B * k = X at *
  exact IntWalk.i64_in _ (by omega)
theorem sub_mul_cast {B k : Nat} (h1 : 1 < B) : ((B : Int) - 1) * (k : Int) = (((B - 1) * k : Nat) : Int) := by
  rw [Int.natCast_mul]; congr 1; omega
theorem wrap_mul1 {B k : Nat} (h1 : 1 < B) (hB : B ≤ 33554432) (hk : k ≤ 67108864) : IntKind.i64.wrap (((B : Int) - 1) * (k : Int)) = ((B : Int) - 1) * (k : Int) := by
  have b1 : (B - 1) * k ≤ 33554432 * 67108864 := Nat.mul_le_mul (by omega) hk
  rw [sub_mul_cast h1]
  generalize (B - 1) * k = X at *
  exact IntWalk.i64_in _ (by omega)
theorem dec_mul1 {B k : Nat} (h : 40000 < B * k) : decide ((40000 : Int) < (B : Int) * (k : Int)) = true := by
  rw [← Int.natCast_mul]; simp; omega
theorem dec_mul0 {B k : Nat} (h : B * k ≤ 40000) : decide ((40000 : Int) < (B : Int) * (k : Int)) = false := by
  rw [← Int.natCast_mul]; simp; omega
theorem dec_mulM1 {B k : Nat} (h1 : 1 < B) (h : (B - 1) * k < 67108864) : decide (((B : Int) - 1) * (k : Int) < 67108864) = true := by
  rw [sub_mul_cast h1]; simp; omega
theorem dec_mulM0 {B k : Nat} (h1 : 1 < B) (h : 67108864 ≤ (B - 1) * k) : decide (((B : Int) - 1) * (k : Int) < 67108864) = false := by
  rw [sub_mul_cast h1]; simp; omega

set_option maxHeartbeats 8000000 in
theorem powers_negA {p : Option Addr} {n c : Nat} {xs : List Nat} {w : World} {k : Int} (hx : Sl w p n c xs) (hn : n ≤ 1048576) (hk : k ≤ 9223372036854775807) (h : k < 0) (h1 : 1 < blen (val xs)) :
    Calls Try.prog 8 #[.slice p n c, .int .i64 k] w (RetB w true) := by
  have hz1 : decide ((1 : Int) < ((blen (val xs) : Nat) : Int)) = true := by simp <;> omega
  have hz1 : decide (k < 0) = true := by simp <;> omega
  have hz2 : decide ((0 : Int) < k) = false := by simp <;> omega
  have hb : Below w.heap.size w w := Below.refl _ _
  go_enter Try.func8, Try.ntmps8
  go_wp2_with fail
  refine (lend_any hx (by omega)).mono ?_
  rintro e w1 ⟨gw, rfl, hfw, hlp, hb1⟩
  replace hx := hx.below hb1 (Nat.le_refl _)
  replace hb := hb.trans (hb1.mono hb.size)
  clear hb1
  go_wp2_with fail
  refine (sqrt_any hlp (by omega)).mono ?_
  rintro e w2 ⟨ps, ns, cs, rfl, hs, hb2⟩
  clear hlp
  replace hx := hx.below hb2 (Nat.le_refl _)
  replace hfw := hfw.below hb2 (Nat.le_refl _)
  replace hb := hb.trans (hb2.mono hb.size)
  clear hb2
  go_wp2_with fail
  refine (rsqrt_any hx (by omega)).mono ?_
  rintro e w3 ⟨pt, nt, ct, rfl, ht, hb3⟩
  replace hx := hx.below hb3 (Nat.le_refl _)
  replace hfw := hfw.below hb3 (Nat.le_refl _)
  replace hs := hs.below hb3 (Nat.le_refl _)
  replace hb := hb.trans (hb3.mono hb.size)
  clear hb3
  go_wp2_with fail
  refine (same_yes hs.sl ht.sl).mono ?_
  rintro e w4 ⟨rfl, hb4⟩
  clear hs ht
  replace hx := hx.below hb4 (Nat.le_refl _)
  replace hfw := hfw.below hb4 (Nat.le_refl _)
  replace hb := hb.trans (hb4.mono hb.size)
  clear hb4
  go_wp2_with fail
  refine (rlen_any hx (by omega)).mono ?_
  rintro e w5 ⟨rfl, hb5⟩
  replace hx := hx.below hb5 (Nat.le_refl _)
  replace hfw := hfw.below hb5 (Nat.le_refl _)
  replace hb := hb.trans (hb5.mono hb.size)
  clear hb5
  go_wp2_with fail
  refine (pow_neg (by omega)).mono ?_
  rintro e w6 ⟨px, nx, cx, rfl, hpx, hb6⟩
  replace hx := hx.below hb6 (Nat.le_refl _)
  replace hfw := hfw.below hb6 (Nat.le_refl _)
  replace hb := hb.trans (hb6.mono hb.size)
  clear hb6
  obtain rfl : nx = 0 := hpx.len.symm
  clear hpx
  go_wp2_with fail
  refine (kept_any hfw.sl hx (by omega)).mono ?_
  rintro e w7 ⟨rfl, hb7⟩
  clear hx hfw
  replace hb := hb.trans (hb7.mono hb.size)
  clear hb7
  go_wp2_with fail
  refine (lives_any).mono ?_
  rintro e w8 ⟨rfl, hb8⟩
  replace hb := hb.trans (hb8.mono hb.size)
  clear hb8
  go_wp2_with fail
  go_ret
  exact ⟨rfl, hb⟩

set_option maxHeartbeats 8000000 in
theorem powers_negB {p : Option Addr} {n c : Nat} {xs : List Nat} {w : World} {k : Int} (hx : Sl w p n c xs) (hn : n ≤ 1048576) (hk : k ≤ 9223372036854775807) (h : k < 0) (h1 : blen (val xs) ≤ 1) :
    Calls Try.prog 8 #[.slice p n c, .int .i64 k] w (RetB w true) := by
  have hz2 : decide ((1 : Int) < ((blen (val xs) : Nat) : Int)) = false := by simp <;> omega
  have hz1 : decide (k < 0) = true := by simp; omega
  have hz2 : decide ((0 : Int) < k) = false := by simp; omega
  have hb : Below w.heap.size w w := Below.refl _ _
  go_enter Try.func8, Try.ntmps8
  go_wp2_with fail
  refine (lend_any hx (by omega)).mono ?_
  rintro e w1 ⟨gw, rfl, hfw, hlp, hb1⟩
  replace hx := hx.below hb1 (Nat.le_refl _)
  replace hb := hb.trans (hb1.mono hb.size)
  clear hb1
  go_wp2_with fail
  refine (sqrt_any hlp (by omega)).mono ?_
  rintro e w2 ⟨ps, ns, cs, rfl, hs, hb2⟩
  clear hlp
  replace hx := hx.below hb2 (Nat.le_refl _)
  replace hfw := hfw.below hb2 (Nat.le_refl _)
  replace hb := hb.trans (hb2.mono hb.size)
  clear hb2
  go_wp2_with fail
  refine (rsqrt_any hx (by omega)).mono ?_
  rintro e w3 ⟨pt, nt, ct, rfl, ht, hb3⟩
  replace hx := hx.below hb3 (Nat.le_refl _)
  replace hfw := hfw.below hb3 (Nat.le_refl _)
  replace hs := hs.below hb3 (Nat.le_refl _)
  replace hb := hb.trans (hb3.mono hb.size)
  clear hb3
  go_wp2_with fail
  refine (same_yes hs.sl ht.sl).mono ?_
  rintro e w4 ⟨rfl, hb4⟩
  clear hs ht
  replace hx := hx.below hb4 (Nat.le_refl _)
  replace hfw := hfw.below hb4 (Nat.le_refl _)
  replace hb := hb.trans (hb4.mono hb.size)
  clear hb4
  go_wp2_with fail
  refine (rlen_any hx (by omega)).mono ?_
  rintro e w5 ⟨rfl, hb5⟩
  replace hx := hx.below hb5 (Nat.le_refl _)
  replace hfw := hfw.below hb5 (Nat.le_refl _)
  replace hb := hb.trans (hb5.mono hb.size)
  clear hb5
  go_wp2_with fail
  refine (pow_neg (by omega)).mono ?_
  rintro e w6 ⟨px, nx, cx, rfl, hpx, hb6⟩
  replace hx := hx.below hb6 (Nat.le_refl _)
  replace hfw := hfw.below hb6 (Nat.le_refl _)
  replace hb := hb.trans (hb6.mono hb.size)
  clear hb6
  obtain rfl : nx = 0 := hpx.len.symm
  clear hpx
  go_wp2_with fail
  refine (kept_any hfw.sl hx (by omega)).mono ?_
  rintro e w7 ⟨rfl, hb7⟩
  clear hx hfw
  replace hb := hb.trans (hb7.mono hb.size)
  clear hb7
  go_wp2_with fail
  refine (lives_any).mono ?_
  rintro e w8 ⟨rfl, hb8⟩
  replace hb := hb.trans (hb8.mono hb.size)
  clear hb8
  go_wp2_with fail
  go_ret
  exact ⟨rfl, hb⟩

set_option maxHeartbeats 8000000 in
theorem powers_one {p : Option Addr} {n c : Nat} {xs : List Nat} {w : World} {k : Nat} (hx : Sl w p n c xs) (hn : n ≤ 1048576) (hk : k ≤ 9223372036854775807) (h1 : blen (val xs) ≤ 1) (h2 : k = 0 ∨ blen (val xs) = 1) :
    Calls Try.prog 8 #[.slice p n c, .int .i64 (k : Int)] w (RetB w true) := by
  have hz2 : decide ((1 : Int) < ((blen (val xs) : Nat) : Int)) = false := by simp <;> omega
  have hz6 : decide ((k : Int) < 0) = false := by simp <;> omega
  have HE : Hid (val xs ^ k = 1) := by
    show _ = _
    rcases h2 with h | h
    · rw [h, Nat.pow_zero]
    · rw [blen_one h, Nat.one_pow]
  have HC := Lib.hid h1
  have HD := Lib.hid h2
  clear h2
  have hb : Below w.heap.size w w := Below.refl _ _
  go_enter Try.func8, Try.ntmps8
  go_wp2_with fail
  refine (lend_any hx (by omega)).mono ?_
  rintro e w1 ⟨gw, rfl, hfw, hlp, hb1⟩
  replace hx := hx.below hb1 (Nat.le_refl _)
  replace hb := hb.trans (hb1.mono hb.size)
  clear hb1
  go_wp2_with fail
  refine (sqrt_any hlp (by omega)).mono ?_
  rintro e w2 ⟨ps, ns, cs, rfl, hs, hb2⟩
  replace hx := hx.below hb2 (Nat.le_refl _)
  replace hfw := hfw.below hb2 (Nat.le_refl _)
  replace hlp := hlp.below hb2 (Nat.le_refl _)
  replace hb := hb.trans (hb2.mono hb.size)
  clear hb2
  go_wp2_with fail
  refine (rsqrt_any hx (by omega)).mono ?_
  rintro e w3 ⟨pt, nt, ct, rfl, ht, hb3⟩
  replace hx := hx.below hb3 (Nat.le_refl _)
  replace hfw := hfw.below hb3 (Nat.le_refl _)
  replace hlp := hlp.below hb3 (Nat.le_refl _)
  replace hs := hs.below hb3 (Nat.le_refl _)
  replace hb := hb.trans (hb3.mono hb.size)
  clear hb3
  go_wp2_with fail
  refine (same_yes hs.sl ht.sl).mono ?_
  rintro e w4 ⟨rfl, hb4⟩
  clear hs ht
  replace hx := hx.below hb4 (Nat.le_refl _)
  replace hfw := hfw.below hb4 (Nat.le_refl _)
  replace hlp := hlp.below hb4 (Nat.le_refl _)
  replace hb := hb.trans (hb4.mono hb.size)
  clear hb4
  go_wp2_with fail
  refine (rlen_any hx (by omega)).mono ?_
  rintro e w5 ⟨rfl, hb5⟩
  replace hx := hx.below hb5 (Nat.le_refl _)
  replace hfw := hfw.below hb5 (Nat.le_refl _)
  replace hlp := hlp.below hb5 (Nat.le_refl _)
  replace hb := hb.trans (hb5.mono hb.size)
  clear hb5
  go_wp2_with fail
  refine (pow_one hlp (by omega) (by omega) HD.out).mono ?_
  rw [← HE.out]
  rintro e w6 ⟨px, nx, cx, rfl, hpx, hb6⟩
  clear hlp
  replace hx := hx.below hb6 (Nat.le_refl _)
  replace hfw := hfw.below hb6 (Nat.le_refl _)
  replace hb := hb.trans (hb6.mono hb.size)
  clear hb6
  go_wp2_with fail
  refine (rpow_small hx (by omega) (by omega) HC.out).mono ?_
  rintro e w7 ⟨py, ny, cy, rfl, hpy, hb7⟩
  replace hx := hx.below hb7 (Nat.le_refl _)
  replace hfw := hfw.below hb7 (Nat.le_refl _)
  replace hpx := hpx.below hb7 (Nat.le_refl _)
  replace hb := hb.trans (hb7.mono hb.size)
  clear hb7
  go_wp2_with fail
  refine (same_yes hpx.sl hpy.sl).mono ?_
  rintro e w8 ⟨rfl, hb8⟩
  clear hpx hpy
  replace hx := hx.below hb8 (Nat.le_refl _)
  replace hfw := hfw.below hb8 (Nat.le_refl _)
  replace hb := hb.trans (hb8.mono hb.size)
  clear hb8
  go_wp2_with fail
  refine (kept_any hfw.sl hx (by omega)).mono ?_
  rintro e w9 ⟨rfl, hb9⟩
  clear hx hfw
  replace hb := hb.trans (hb9.mono hb.size)
  clear hb9
  go_wp2_with fail
  refine (lives_any).mono ?_
  rintro e w10 ⟨rfl, hb10⟩
  replace hb := hb.trans (hb10.mono hb.size)
  clear hb10
  go_wp2_with fail
  go_ret
  exact ⟨rfl, hb⟩

set_option maxHeartbeats 8000000 in
theorem powers_nil {p : Option Addr} {n c : Nat} {xs : List Nat} {w : World} {k : Nat} (hx : Sl w p n c xs) (hn : n ≤ 1048576) (hk : k ≤ 9223372036854775807) (h1 : blen (val xs) ≤ 1) (h2 : val xs = 0) (h3 : 0 < k) :
    Calls Try.prog 8 #[.slice p n c, .int .i64 (k : Int)] w (RetB w true) := by
  have hz2 : decide ((1 : Int) < ((blen (val xs) : Nat) : Int)) = false := by simp <;> omega
  have hz6 : decide ((k : Int) < 0) = false := by simp <;> omega
  have HE : Hid (lim (val xs ^ k) = []) := by
    show _ = _
    rw [h2, Nat.zero_pow h3]; rfl
  have HC := Lib.hid h1
  have HD := Lib.hid h2
  clear h2
  have hb : Below w.heap.size w w := Below.refl _ _
  go_enter Try.func8, Try.ntmps8
  go_wp2_with fail
  refine (lend_any hx (by omega)).mono ?_
  rintro e w1 ⟨gw, rfl, hfw, hlp, hb1⟩
  replace hx := hx.below hb1 (Nat.le_refl _)
  replace hb := hb.trans (hb1.mono hb.size)
  clear hb1
  go_wp2_with fail
  refine (sqrt_any hlp (by omega)).mono ?_
  rintro e w2 ⟨ps, ns, cs, rfl, hs, hb2⟩
  replace hx := hx.below hb2 (Nat.le_refl _)
  replace hfw := hfw.below hb2 (Nat.le_refl _)
  replace hlp := hlp.below hb2 (Nat.le_refl _)
  replace hb := hb.trans (hb2.mono hb.size)
  clear hb2
  go_wp2_with fail
  refine (rsqrt_any hx (by omega)).mono ?_
  rintro e w3 ⟨pt, nt, ct, rfl, ht, hb3⟩
  replace hx := hx.below hb3 (Nat.le_refl _)
  replace hfw := hfw.below hb3 (Nat.le_refl _)
  replace hlp := hlp.below hb3 (Nat.le_refl _)
  replace hs := hs.below hb3 (Nat.le_refl _)
  replace hb := hb.trans (hb3.mono hb.size)
  clear hb3
  go_wp2_with fail
  refine (same_yes hs.sl ht.sl).mono ?_
  rintro e w4 ⟨rfl, hb4⟩
  clear hs ht
  replace hx := hx.below hb4 (Nat.le_refl _)
  replace hfw := hfw.below hb4 (Nat.le_refl _)
  replace hlp := hlp.below hb4 (Nat.le_refl _)
  replace hb := hb.trans (hb4.mono hb.size)
  clear hb4
  go_wp2_with fail
  refine (rlen_any hx (by omega)).mono ?_
  rintro e w5 ⟨rfl, hb5⟩
  replace hx := hx.below hb5 (Nat.le_refl _)
  replace hfw := hfw.below hb5 (Nat.le_refl _)
  replace hlp := hlp.below hb5 (Nat.le_refl _)
  replace hb := hb.trans (hb5.mono hb.size)
  clear hb5
  go_wp2_with fail
  refine (pow_zero hlp (by omega) (by omega) h3 HD.out).mono ?_
  rw [← HE.out]
  rintro e w6 ⟨px, nx, cx, rfl, hpx, hb6⟩
  clear hlp
  replace hx := hx.below hb6 (Nat.le_refl _)
  replace hfw := hfw.below hb6 (Nat.le_refl _)
  replace hb := hb.trans (hb6.mono hb.size)
  clear hb6
  go_wp2_with fail
  refine (rpow_small hx (by omega) (by omega) HC.out).mono ?_
  rintro e w7 ⟨py, ny, cy, rfl, hpy, hb7⟩
  replace hx := hx.below hb7 (Nat.le_refl _)
  replace hfw := hfw.below hb7 (Nat.le_refl _)
  replace hpx := hpx.below hb7 (Nat.le_refl _)
  replace hb := hb.trans (hb7.mono hb.size)
  clear hb7
  go_wp2_with fail
  refine (same_yes hpx.sl hpy.sl).mono ?_
  rintro e w8 ⟨rfl, hb8⟩
  clear hpx hpy
  replace hx := hx.below hb8 (Nat.le_refl _)
  replace hfw := hfw.below hb8 (Nat.le_refl _)
  replace hb := hb.trans (hb8.mono hb.size)
  clear hb8
  go_wp2_with fail
  refine (kept_any hfw.sl hx (by omega)).mono ?_
  rintro e w9 ⟨rfl, hb9⟩
  clear hx hfw
  replace hb := hb.trans (hb9.mono hb.size)
  clear hb9
  go_wp2_with fail
  refine (lives_any).mono ?_
  rintro e w10 ⟨rfl, hb10⟩
  replace hb := hb.trans (hb10.mono hb.size)
  clear hb10
  go_wp2_with fail
  go_ret
  exact ⟨rfl, hb⟩

set_option maxHeartbeats 8000000 in
theorem powers_k0 {p : Option Addr} {n c : Nat} {xs : List Nat} {w : World} {k : Nat} (hx : Sl w p n c xs) (hn : n ≤ 1048576) (hk : k ≤ 9223372036854775807) (h1 : 1 < blen (val xs)) (h2 : k = 0) :
    Calls Try.prog 8 #[.slice p n c, .int .i64 (k : Int)] w (RetB w true) := by
  have hbl := blen_len hx.lims
  rw [hx.len] at hbl
  have hz1 : decide ((1 : Int) < ((blen (val xs) : Nat) : Int)) = true := by simp <;> omega
  have hz4 : decide ((0 : Int) < (k : Int)) = false := by simp <;> omega
  have hz5 : decide (0 < k) = false := by simp <;> omega
  have hz6 : decide ((k : Int) < 0) = false := by simp <;> omega
  have HE : Hid (val xs ^ k = 1) := by
    show _ = _
    rw [h2, Nat.pow_zero]
  have HF : Hid (blen (val xs) * k ≤ 67108863) := by show _ ≤ _; rw [h2, Nat.mul_zero]; omega
  have HC := Lib.hid h1
  have HD := Lib.hid h2
  clear h2
  have hb : Below w.heap.size w w := Below.refl _ _
  go_enter Try.func8, Try.ntmps8
  go_wp2_with fail
  refine (lend_any hx (by omega)).mono ?_
  rintro e w1 ⟨gw, rfl, hfw, hlp, hb1⟩
  replace hx := hx.below hb1 (Nat.le_refl _)
  replace hb := hb.trans (hb1.mono hb.size)
  clear hb1
  go_wp2_with fail
  refine (sqrt_any hlp (by omega)).mono ?_
  rintro e w2 ⟨ps, ns, cs, rfl, hs, hb2⟩
  replace hx := hx.below hb2 (Nat.le_refl _)
  replace hfw := hfw.below hb2 (Nat.le_refl _)
  replace hlp := hlp.below hb2 (Nat.le_refl _)
  replace hb := hb.trans (hb2.mono hb.size)
  clear hb2
  go_wp2_with fail
  refine (rsqrt_any hx (by omega)).mono ?_
  rintro e w3 ⟨pt, nt, ct, rfl, ht, hb3⟩
  replace hx := hx.below hb3 (Nat.le_refl _)
  replace hfw := hfw.below hb3 (Nat.le_refl _)
  replace hlp := hlp.below hb3 (Nat.le_refl _)
  replace hs := hs.below hb3 (Nat.le_refl _)
  replace hb := hb.trans (hb3.mono hb.size)
  clear hb3
  go_wp2_with fail
  refine (same_yes hs.sl ht.sl).mono ?_
  rintro e w4 ⟨rfl, hb4⟩
  clear hs ht
  replace hx := hx.below hb4 (Nat.le_refl _)
  replace hfw := hfw.below hb4 (Nat.le_refl _)
  replace hlp := hlp.below hb4 (Nat.le_refl _)
  replace hb := hb.trans (hb4.mono hb.size)
  clear hb4
  go_wp2_with fail
  refine (rlen_any hx (by omega)).mono ?_
  rintro e w5 ⟨rfl, hb5⟩
  replace hx := hx.below hb5 (Nat.le_refl _)
  replace hfw := hfw.below hb5 (Nat.le_refl _)
  replace hlp := hlp.below hb5 (Nat.le_refl _)
  replace hb := hb.trans (hb5.mono hb.size)
  clear hb5
  go_wp2_with fail
  refine (pow_one hlp (by omega) (by omega) (Or.inl HD.out)).mono ?_
  rw [← HE.out]
  rintro e w6 ⟨px, nx, cx, rfl, hpx, hb6⟩
  clear hlp
  replace hx := hx.below hb6 (Nat.le_refl _)
  replace hfw := hfw.below hb6 (Nat.le_refl _)
  replace hb := hb.trans (hb6.mono hb.size)
  clear hb6
  go_wp2_with fail
  refine (rpow_ok hx (by omega) HC.out HF.out).mono ?_
  rintro e w7 ⟨py, ny, cy, rfl, hpy, hb7⟩
  replace hx := hx.below hb7 (Nat.le_refl _)
  replace hfw := hfw.below hb7 (Nat.le_refl _)
  replace hpx := hpx.below hb7 (Nat.le_refl _)
  replace hb := hb.trans (hb7.mono hb.size)
  clear hb7
  go_wp2_with fail
  refine (same_yes hpx.sl hpy.sl).mono ?_
  rintro e w8 ⟨rfl, hb8⟩
  clear hpx hpy
  replace hx := hx.below hb8 (Nat.le_refl _)
  replace hfw := hfw.below hb8 (Nat.le_refl _)
  replace hb := hb.trans (hb8.mono hb.size)
  clear hb8
  go_wp2_with fail
  refine (kept_any hfw.sl hx (by omega)).mono ?_
  rintro e w9 ⟨rfl, hb9⟩
  clear hx hfw
  replace hb := hb.trans (hb9.mono hb.size)
  clear hb9
  go_wp2_with fail
  refine (lives_any).mono ?_
  rintro e w10 ⟨rfl, hb10⟩
  replace hb := hb.trans (hb10.mono hb.size)
  clear hb10
  go_wp2_with fail
  go_ret
  exact ⟨rfl, hb⟩

set_option maxHeartbeats 8000000 in
theorem powers_skip {p : Option Addr} {n c : Nat} {xs : List Nat} {w : World} {k : Nat} (hx : Sl w p n c xs) (hn : n ≤ 1048576) (hk : k ≤ 9223372036854775807) (h1 : 1 < blen (val xs)) (h3 : 0 < k) (h4 : k < 67108864) (h5 : 40000 < blen (val xs) * k) (h2 : (blen (val xs) - 1) * k < 67108864) :
    Calls Try.prog 8 #[.slice p n c, .int .i64 (k : Int)] w (RetB w true) := by
  have hbl := blen_len hx.lims
  rw [hx.len] at hbl
  have hz1 : decide ((1 : Int) < ((blen (val xs) : Nat) : Int)) = true := by simp <;> omega
  have hz3 : decide ((0 : Int) < (k : Int)) = true := by simp <;> omega
  have hz6 : decide ((k : Int) < 0) = false := by simp <;> omega
  have hz7 : decide ((k : Int) < 67108864) = true := by simp <;> omega
  have hw1 := wrap_mul (B := blen (val xs)) (k := k) (by omega) (by omega)
  have hw2 := wrap_mul1 (B := blen (val xs)) (k := k) h1 (by omega) (by omega)
  have hy1 : decide ((40000 : Int) < ((blen (val xs) : Nat) : Int) * (k : Int)) = true := dec_mul1 h5
  have hy2 : decide ((((blen (val xs) : Nat) : Int) - 1) * (k : Int) < 67108864) = true := dec_mulM1 h1 h2
  have HC := Lib.hid h1
  have HD := Lib.hid h2
  clear h2 h5
  have hb : Below w.heap.size w w := Below.refl _ _
  go_enter Try.func8, Try.ntmps8
  go_wp2_with fail
  refine (lend_any hx (by omega)).mono ?_
  rintro e w1 ⟨gw, rfl, hfw, hlp, hb1⟩
  replace hx := hx.below hb1 (Nat.le_refl _)
  replace hb := hb.trans (hb1.mono hb.size)
  clear hb1
  clear hfw
  go_wp2_with fail
  refine (sqrt_any hlp (by omega)).mono ?_
  rintro e w2 ⟨ps, ns, cs, rfl, hs, hb2⟩
  clear hlp
  replace hx := hx.below hb2 (Nat.le_refl _)
  replace hb := hb.trans (hb2.mono hb.size)
  clear hb2
  go_wp2_with fail
  refine (rsqrt_any hx (by omega)).mono ?_
  rintro e w3 ⟨pt, nt, ct, rfl, ht, hb3⟩
  replace hx := hx.below hb3 (Nat.le_refl _)
  replace hs := hs.below hb3 (Nat.le_refl _)
  replace hb := hb.trans (hb3.mono hb.size)
  clear hb3
  go_wp2_with fail
  refine (same_yes hs.sl ht.sl).mono ?_
  rintro e w4 ⟨rfl, hb4⟩
  clear hs ht
  replace hx := hx.below hb4 (Nat.le_refl _)
  replace hb := hb.trans (hb4.mono hb.size)
  clear hb4
  go_wp2_with fail
  refine (rlen_any hx (by omega)).mono ?_
  rintro e w5 ⟨rfl, hb5⟩
  clear hx
  replace hb := hb.trans (hb5.mono hb.size)
  clear hb5
  go_wp2_with fail
  refine (lives_any).mono ?_
  rintro e w6 ⟨rfl, hb6⟩
  replace hb := hb.trans (hb6.mono hb.size)
  clear hb6
  go_wp2_with fail
  go_ret
  exact ⟨rfl, hb⟩

set_option maxHeartbeats 8000000 in
theorem powers_big {p : Option Addr} {n c : Nat} {xs : List Nat} {w : World} {k : Nat} (hx : Sl w p n c xs) (hn : n ≤ 1048576) (hk : k ≤ 9223372036854775807) (h1 : 1 < blen (val xs)) (h3 : 67108864 ≤ k) (h0 : 0 < k) (h2 : 67108864 < k ∨ 67108864 ≤ (blen (val xs) - 1) * k) :
    Calls Try.prog 8 #[.slice p n c, .int .i64 (k : Int)] w (RetB w true) := by
  have hbl := blen_len hx.lims
  rw [hx.len] at hbl
  have hz1 : decide ((1 : Int) < ((blen (val xs) : Nat) : Int)) = true := by simp <;> omega
  have hz3 : decide ((0 : Int) < (k : Int)) = true := by simp <;> omega
  have hz6 : decide ((k : Int) < 0) = false := by simp <;> omega
  have hkm : ¬ ((k : Int) < 67108864) := by omega
  have HH3 := Lib.hid h3
  clear h3
  have hz8 : decide ((k : Int) < 67108864) = false := by simp <;> omega
  have HC := Lib.hid h1
  have HD := Lib.hid h2
  clear h2
  have hb : Below w.heap.size w w := Below.refl _ _
  go_enter Try.func8, Try.ntmps8
  go_wp2_with fail
  refine (lend_any hx (by omega)).mono ?_
  rintro e w1 ⟨gw, rfl, hfw, hlp, hb1⟩
  replace hx := hx.below hb1 (Nat.le_refl _)
  replace hb := hb.trans (hb1.mono hb.size)
  clear hb1
  clear hfw
  go_wp2_with fail
  refine (sqrt_any hlp (by omega)).mono ?_
  rintro e w2 ⟨ps, ns, cs, rfl, hs, hb2⟩
  replace hx := hx.below hb2 (Nat.le_refl _)
  replace hlp := hlp.below hb2 (Nat.le_refl _)
  replace hb := hb.trans (hb2.mono hb.size)
  clear hb2
  go_wp2_with fail
  refine (rsqrt_any hx (by omega)).mono ?_
  rintro e w3 ⟨pt, nt, ct, rfl, ht, hb3⟩
  replace hx := hx.below hb3 (Nat.le_refl _)
  replace hlp := hlp.below hb3 (Nat.le_refl _)
  replace hs := hs.below hb3 (Nat.le_refl _)
  replace hb := hb.trans (hb3.mono hb.size)
  clear hb3
  go_wp2_with fail
  refine (same_yes hs.sl ht.sl).mono ?_
  rintro e w4 ⟨rfl, hb4⟩
  clear hs ht
  replace hx := hx.below hb4 (Nat.le_refl _)
  replace hlp := hlp.below hb4 (Nat.le_refl _)
  replace hb := hb.trans (hb4.mono hb.size)
  clear hb4
  go_wp2_with fail
  refine (rlen_any hx (by omega)).mono ?_
  rintro e w5 ⟨rfl, hb5⟩
  replace hx := hx.below hb5 (Nat.le_refl _)
  replace hlp := hlp.below hb5 (Nat.le_refl _)
  replace hb := hb.trans (hb5.mono hb.size)
  clear hb5
  go_wp2_with fail
  refine (pow_big hlp (by omega) (by omega) HC.out HD.out).mono ?_
  rintro e w6 ⟨px, nx, cx, rfl, hpx, hb6⟩
  clear hlp
  replace hx := hx.below hb6 (Nat.le_refl _)
  replace hb := hb.trans (hb6.mono hb.size)
  clear hb6
  obtain rfl : nx = 0 := hpx.len.symm
  clear hpx
  go_wp2_with fail
  refine (rpow_big hx (by omega) (by omega) HC.out HD.out).mono ?_
  rintro e w7 ⟨py, ny, cy, rfl, hpy, hb7⟩
  clear hx
  replace hb := hb.trans (hb7.mono hb.size)
  clear hb7
  clear hpy
  go_wp2_with fail
  refine (lives_any).mono ?_
  rintro e w8 ⟨rfl, hb8⟩
  replace hb := hb.trans (hb8.mono hb.size)
  clear hb8
  go_wp2_with fail
  go_ret
  exact ⟨rfl, hb⟩

set_option maxHeartbeats 8000000 in
theorem powers_big2 {p : Option Addr} {n c : Nat} {xs : List Nat} {w : World} {k : Nat} (hx : Sl w p n c xs) (hn : n ≤ 1048576) (hk : k ≤ 9223372036854775807) (h1 : 1 < blen (val xs)) (h3 : 0 < k) (h4 : k < 67108864) (h5 : 40000 < blen (val xs) * k) (h6 : 67108864 ≤ (blen (val xs) - 1) * k) :
    Calls Try.prog 8 #[.slice p n c, .int .i64 (k : Int)] w (RetB w true) := by
  have hbl := blen_len hx.lims
  rw [hx.len] at hbl
  have hz1 : decide ((1 : Int) < ((blen (val xs) : Nat) : Int)) = true := by simp <;> omega
  have hz3 : decide ((0 : Int) < (k : Int)) = true := by simp <;> omega
  have hz6 : decide ((k : Int) < 0) = false := by simp <;> omega
  have hz7 : decide ((k : Int) < 67108864) = true := by simp <;> omega
  have hw1 := wrap_mul (B := blen (val xs)) (k := k) (by omega) (by omega)
  have hw2 := wrap_mul1 (B := blen (val xs)) (k := k) h1 (by omega) (by omega)
  have hy1 : decide ((40000 : Int) < ((blen (val xs) : Nat) : Int) * (k : Int)) = true := dec_mul1 h5
  have hy2 : decide ((((blen (val xs) : Nat) : Int) - 1) * (k : Int) < 67108864) = false := dec_mulM0 h1 h6
  have h2 : 67108864 < k ∨ 67108864 ≤ (blen (val xs) - 1) * k := Or.inr h6
  have HC := Lib.hid h1
  have HD := Lib.hid h2
  clear h2 h5 h6
  have hb : Below w.heap.size w w := Below.refl _ _
  go_enter Try.func8, Try.ntmps8
  go_wp2_with fail
  refine (lend_any hx (by omega)).mono ?_
  rintro e w1 ⟨gw, rfl, hfw, hlp, hb1⟩
  replace hx := hx.below hb1 (Nat.le_refl _)
  replace hb := hb.trans (hb1.mono hb.size)
  clear hb1
  clear hfw
  go_wp2_with fail
  refine (sqrt_any hlp (by omega)).mono ?_
  rintro e w2 ⟨ps, ns, cs, rfl, hs, hb2⟩
  replace hx := hx.below hb2 (Nat.le_refl _)
  replace hlp := hlp.below hb2 (Nat.le_refl _)
  replace hb := hb.trans (hb2.mono hb.size)
  clear hb2
  go_wp2_with fail
  refine (rsqrt_any hx (by omega)).mono ?_
  rintro e w3 ⟨pt, nt, ct, rfl, ht, hb3⟩
  replace hx := hx.below hb3 (Nat.le_refl _)
  replace hlp := hlp.below hb3 (Nat.le_refl _)
  replace hs := hs.below hb3 (Nat.le_refl _)
  replace hb := hb.trans (hb3.mono hb.size)
  clear hb3
  go_wp2_with fail
  refine (same_yes hs.sl ht.sl).mono ?_
  rintro e w4 ⟨rfl, hb4⟩
  clear hs ht
  replace hx := hx.below hb4 (Nat.le_refl _)
  replace hlp := hlp.below hb4 (Nat.le_refl _)
  replace hb := hb.trans (hb4.mono hb.size)
  clear hb4
  go_wp2_with fail
  refine (rlen_any hx (by omega)).mono ?_
  rintro e w5 ⟨rfl, hb5⟩
  replace hx := hx.below hb5 (Nat.le_refl _)
  replace hlp := hlp.below hb5 (Nat.le_refl _)
  replace hb := hb.trans (hb5.mono hb.size)
  clear hb5
  go_wp2_with fail
  refine (pow_big hlp (by omega) (by omega) HC.out HD.out).mono ?_
  rintro e w6 ⟨px, nx, cx, rfl, hpx, hb6⟩
  clear hlp
  replace hx := hx.below hb6 (Nat.le_refl _)
  replace hb := hb.trans (hb6.mono hb.size)
  clear hb6
  obtain rfl : nx = 0 := hpx.len.symm
  clear hpx
  go_wp2_with fail
  refine (rpow_big hx (by omega) (by omega) HC.out HD.out).mono ?_
  rintro e w7 ⟨py, ny, cy, rfl, hpy, hb7⟩
  clear hx
  replace hb := hb.trans (hb7.mono hb.size)
  clear hb7
  clear hpy
  go_wp2_with fail
  refine (lives_any).mono ?_
  rintro e w8 ⟨rfl, hb8⟩
  replace hb := hb.trans (hb8.mono hb.size)
  clear hb8
  go_wp2_with fail
  go_ret
  exact ⟨rfl, hb⟩

set_option maxHeartbeats 8000000 in
theorem powers_ok {p : Option Addr} {n c : Nat} {xs : List Nat} {w : World} {k : Nat} (hx : Sl w p n c xs) (hn : n ≤ 1048576) (hk : k ≤ 9223372036854775807) (h1 : 1 < blen (val xs)) (h3 : 0 < k) (h4 : k < 67108864) (h2 : blen (val xs) * k ≤ 40000) :
    Calls Try.prog 8 #[.slice p n c, .int .i64 (k : Int)] w (RetB w true) := by
  have hbl := blen_len hx.lims
  rw [hx.len] at hbl
  have hz1 : decide ((1 : Int) < ((blen (val xs) : Nat) : Int)) = true := by simp <;> omega
  have hz3 : decide ((0 : Int) < (k : Int)) = true := by simp <;> omega
  have hz6 : decide ((k : Int) < 0) = false := by simp <;> omega
  have hz7 : decide ((k : Int) < 67108864) = true := by simp <;> omega
  have hw1 := wrap_mul (B := blen (val xs)) (k := k) (by omega) (by omega)
  have hw2 := wrap_mul1 (B := blen (val xs)) (k := k) h1 (by omega) (by omega)
  have hy1 : decide ((40000 : Int) < ((blen (val xs) : Nat) : Int) * (k : Int)) = false := dec_mul0 h2
  have HC := Lib.hid h1
  have HD := Lib.hid h2
  clear h2
  have hb : Below w.heap.size w w := Below.refl _ _
  go_enter Try.func8, Try.ntmps8
  go_wp2_with fail
  refine (lend_any hx (by omega)).mono ?_
  rintro e w1 ⟨gw, rfl, hfw, hlp, hb1⟩
  replace hx := hx.below hb1 (Nat.le_refl _)
  replace hb := hb.trans (hb1.mono hb.size)
  clear hb1
  go_wp2_with fail
  refine (sqrt_any hlp (by omega)).mono ?_
  rintro e w2 ⟨ps, ns, cs, rfl, hs, hb2⟩
  replace hx := hx.below hb2 (Nat.le_refl _)
  replace hfw := hfw.below hb2 (Nat.le_refl _)
  replace hlp := hlp.below hb2 (Nat.le_refl _)
  replace hb := hb.trans (hb2.mono hb.size)
  clear hb2
  go_wp2_with fail
  refine (rsqrt_any hx (by omega)).mono ?_
  rintro e w3 ⟨pt, nt, ct, rfl, ht, hb3⟩
  replace hx := hx.below hb3 (Nat.le_refl _)
  replace hfw := hfw.below hb3 (Nat.le_refl _)
  replace hlp := hlp.below hb3 (Nat.le_refl _)
  replace hs := hs.below hb3 (Nat.le_refl _)
  replace hb := hb.trans (hb3.mono hb.size)
  clear hb3
  go_wp2_with fail
  refine (same_yes hs.sl ht.sl).mono ?_
  rintro e w4 ⟨rfl, hb4⟩
  clear hs ht
  replace hx := hx.below hb4 (Nat.le_refl _)
  replace hfw := hfw.below hb4 (Nat.le_refl _)
  replace hlp := hlp.below hb4 (Nat.le_refl _)
  replace hb := hb.trans (hb4.mono hb.size)
  clear hb4
  go_wp2_with fail
  refine (rlen_any hx (by omega)).mono ?_
  rintro e w5 ⟨rfl, hb5⟩
  replace hx := hx.below hb5 (Nat.le_refl _)
  replace hfw := hfw.below hb5 (Nat.le_refl _)
  replace hlp := hlp.below hb5 (Nat.le_refl _)
  replace hb := hb.trans (hb5.mono hb.size)
  clear hb5
  go_wp2_with fail
  refine (pow_ok hlp (by omega) h3 HC.out (Nat.le_trans HD.out (by omega))).mono ?_
  rintro e w6 ⟨px, nx, cx, rfl, hpx, hb6⟩
  clear hlp
  replace hx := hx.below hb6 (Nat.le_refl _)
  replace hfw := hfw.below hb6 (Nat.le_refl _)
  replace hb := hb.trans (hb6.mono hb.size)
  clear hb6
  go_wp2_with fail
  refine (rpow_ok hx (by omega) HC.out (Nat.le_trans HD.out (by omega))).mono ?_
  rintro e w7 ⟨py, ny, cy, rfl, hpy, hb7⟩
  replace hx := hx.below hb7 (Nat.le_refl _)
  replace hfw := hfw.below hb7 (Nat.le_refl _)
  replace hpx := hpx.below hb7 (Nat.le_refl _)
  replace hb := hb.trans (hb7.mono hb.size)
  clear hb7
  go_wp2_with fail
  refine (same_yes hpx.sl hpy.sl).mono ?_
  rintro e w8 ⟨rfl, hb8⟩
  clear hpx hpy
  replace hx := hx.below hb8 (Nat.le_refl _)
  replace hfw := hfw.below hb8 (Nat.le_refl _)
  replace hb := hb.trans (hb8.mono hb.size)
  clear hb8
  go_wp2_with fail
  refine (kept_any hfw.sl hx (by omega)).mono ?_
  rintro e w9 ⟨rfl, hb9⟩
  clear hx hfw
  replace hb := hb.trans (hb9.mono hb.size)
  clear hb9
  go_wp2_with fail
  refine (lives_any).mono ?_
  rintro e w10 ⟨rfl, hb10⟩
  replace hb := hb.trans (hb10.mono hb.size)
  clear hb10
  go_wp2_with fail
  go_ret
  exact ⟨rfl, hb⟩

/-- The law, of any number of at most so many limbs. -/
theorem powers_any {p : Option Addr} {n c : Nat} {xs : List Nat} {k : Int} {w : World} (hx : Sl w p n c xs) (hn : n ≤ 1048576) (hk : k ≤ 9223372036854775807) :
    Calls Try.prog 8 #[.slice p n c, .int .i64 k] w (RetB w true) := by
  rcases Int.lt_or_le k 0 with h | h
  · rcases Nat.lt_or_ge 1 (blen (val xs)) with h1 | h1
    · exact powers_negA hx hn hk h h1
    · exact powers_negB hx hn hk h h1
  · obtain ⟨m, rfl⟩ := Int.eq_ofNat_of_zero_le h
    have hm : m ≤ 9223372036854775807 := by omega
    rcases Nat.lt_or_ge 1 (blen (val xs)) with h1 | h1
    · rcases Nat.eq_zero_or_pos m with h0 | h0
      · exact powers_k0 hx hn hm h1 h0
      · have hbig : 67108864 ≤ m → 67108864 ≤ (blen (val xs) - 1) * m := by
          intro hM
          have : 1 * m ≤ (blen (val xs) - 1) * m := Nat.mul_le_mul_right _ (by omega)
          omega
        rcases Nat.lt_or_ge m 67108864 with h4 | h4
        · rcases Nat.lt_or_ge 40000 (blen (val xs) * m) with h5 | h5
          · rcases Nat.lt_or_ge ((blen (val xs) - 1) * m) 67108864 with h6 | h6
            · exact powers_skip hx hn hm h1 h0 h4 h5 h6
            · exact powers_big2 hx hn hm h1 h0 h4 h5 h6
          · exact powers_ok hx hn hm h1 h0 h4 h5
        · exact powers_big hx hn hm h1 h4 h0 (Or.inr (hbig h4))
    · by_cases h0 : val xs = 0
      · rcases Nat.eq_zero_or_pos m with h2 | h2
        · exact powers_one hx hn hm h1 (Or.inl h2)
        · exact powers_nil hx hn hm h1 h0 h2
      · have := blen_pos h0
        exact powers_one hx hn hm h1 (Or.inr (by omega))

end Go.Proofs.Ytgemncfpehmdeaa
