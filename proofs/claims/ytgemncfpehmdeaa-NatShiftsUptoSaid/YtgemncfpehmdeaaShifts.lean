/-
  The walk of similelaw01.NatShifts.
-/
import Derived.Test.YtgemncfpehmdeaaLives
import Derived.Test.YtgemncfpehmdeaaRefF
namespace Go.Proofs.Ytgemncfpehmdeaa
open Go.RowKit

theorem blen_val {w : World} {p : Option Addr} {n c : Nat} {xs : List Nat} (h : Sl w p n c xs) : blen (val xs) ≤ 32 * n := by
  refine blen_le ?_
  have := val_lt h.lims
  rw [h.len] at this
  rw [Nat.pow_mul]
  exact this

set_option maxHeartbeats 2000000 in
theorem shifts_neg {p : Option Addr} {n c : Nat} {xs : List Nat} {s : Int} {w : World} (hx : Sl w p n c xs) (hn : n ≤ 1048576) (hs : s < 0) :
    Calls Try.prog 5 #[.slice p n c, .int .i64 s] w (RetB w true) := by
  go_enter Try.func5, Try.ntmps5
  go_wp2_with fail
  refine (lend_any hx (by omega)).mono ?_
  rintro e w1 ⟨g, rfl, hfw, hsp, hb1⟩
  go_wp2_with fail
  refine (left_neg hs).mono ?_
  rintro e w2 ⟨p2, n2, c2, rfl, hf2, hb2⟩
  obtain rfl : n2 = 0 := hf2.len.symm
  go_wp2_with fail
  refine (right_neg hs).mono ?_
  rintro e w3 ⟨p3, n3, c3, rfl, hf3, hb3⟩
  obtain rfl : n3 = 0 := hf3.len.symm
  have hb13 := hb2.trans (hb3.mono hb2.size)
  have hb03 := hb1.trans (hb13.mono hb1.size)
  have hx3 := hx.below hb03 (Nat.le_refl _)
  have hw3 := (hfw.below hb13 (Nat.le_refl _)).sl
  clear hb13 hb3 hb2 hb1 hf2 hf3 hsp hfw
  go_wp2_with fail
  refine (kept_any hw3 hx3 (by omega)).mono ?_
  rintro e w4 ⟨rfl, hb4⟩
  go_wp2_with fail
  refine lives_any.mono ?_
  rintro e w5 ⟨rfl, hb5⟩
  go_wp2_with fail
  go_ret
  exact ⟨rfl, hb03.trans ((hb4.trans (hb5.mono hb4.size)).mono hb03.size)⟩

set_option maxHeartbeats 4000000 in
theorem shifts_zero {p : Option Addr} {n c : Nat} {xs : List Nat} {s : Nat} {w : World} (hx : Sl w p n c xs) (hn : n ≤ 1048576) (hs : s ≤ 9223372036854775807) (h0 : val xs = 0) :
    Calls Try.prog 5 #[.slice p n c, .int .i64 (s : Int)] w (RetB w true) := by
  have H0 := Lib.hid h0
  clear h0
  have hs1 : decide ((s : Int) < 0) = false := by simp
  go_enter Try.func5, Try.ntmps5
  go_wp2_with fail
  refine (lend_any hx (by omega)).mono ?_
  rintro e w1 ⟨g, rfl, hfw, hsp, hb1⟩
  go_wp2_with fail
  refine (left_zero hsp (by omega) H0.out).mono ?_
  rintro e w2 ⟨p2, n2, c2, rfl, hf2, hb2⟩
  obtain rfl : n2 = 0 := hf2.len.symm
  go_wp2_with fail
  refine (right_any (hsp.below hb2 (Nat.le_refl _)) (by omega) hs).mono ?_
  rintro e w3 ⟨p3, n3, c3, rfl, hf3, hb3⟩
  have hb13 := hb2.trans (hb3.mono hb2.size)
  have hb03 := hb1.trans (hb13.mono hb1.size)
  have hx3 := hx.below hb03 (Nat.le_refl _)
  have hw3 := (hfw.below hb13 (Nat.le_refl _)).sl
  clear hb13 hb3 hb2 hb1 hf2 hsp hfw
  go_wp2_with fail
  refine (kept_any hw3 hx3 (by omega)).mono ?_
  rintro e w4 ⟨rfl, hb4⟩
  have hb04 := hb03.trans (hb4.mono hb03.size)
  have hf4 := hf3.below hb4 (Nat.le_refl _)
  clear hw3 hx3 hf3 hb4
  go_wp2_with fail
  refine (rright_any (hx.below hb04 (Nat.le_refl _)) hs (by omega)).mono ?_
  rintro e w5 ⟨p5, n5, c5, rfl, hf5, hb5⟩
  go_wp2_with fail
  refine (same_yes (hf4.below hb5 (Nat.le_refl _)).sl hf5.sl).mono ?_
  rintro e w6 ⟨rfl, hb6⟩
  have hb46 := hb5.trans (hb6.mono hb5.size)
  have hb06 := hb04.trans (hb46.mono hb04.size)
  clear hf4 hf5 hb5 hb6 hb46 hb03
  go_wp2_with fail
  refine (zero_yes (hx.below hb06 (Nat.le_refl _)) H0.out).mono ?_
  rintro e w7 ⟨rfl, hb7⟩
  go_wp2_with fail
  refine lives_any.mono ?_
  rintro e w8 ⟨rfl, hb8⟩
  go_wp2_with fail
  go_ret
  exact ⟨rfl, hb06.trans ((hb7.trans (hb8.mono hb7.size)).mono hb06.size)⟩

set_option maxHeartbeats 4000000 in
theorem shifts_big {p : Option Addr} {n c : Nat} {xs : List Nat} {s : Nat} {w : World} (hx : Sl w p n c xs) (hn : n ≤ 1048576) (hs : s ≤ 9223372036854775807) (h0 : val xs ≠ 0) (hbig : 67108864 < s + blen (val xs)) :
    Calls Try.prog 5 #[.slice p n c, .int .i64 (s : Int)] w (RetB w true) := by
  have H0 := Lib.hid h0
  clear h0
  have hbl := blen_val hx
  have HB := Lib.hid hbig
  have hs1 : decide ((s : Int) < 0) = false := by simp
  go_enter Try.func5, Try.ntmps5
  go_wp2_with fail
  refine (lend_any hx (by omega)).mono ?_
  rintro e w1 ⟨g, rfl, hfw, hsp, hb1⟩
  go_wp2_with fail
  refine (left_big hsp (by omega) H0.out HB.out (by omega)).mono ?_
  rintro e w2 ⟨p2, n2, c2, rfl, hf2, hb2⟩
  obtain rfl : n2 = 0 := hf2.len.symm
  go_wp2_with fail
  refine (right_any (hsp.below hb2 (Nat.le_refl _)) (by omega) hs).mono ?_
  rintro e w3 ⟨p3, n3, c3, rfl, hf3, hb3⟩
  have hb13 := hb2.trans (hb3.mono hb2.size)
  have hb03 := hb1.trans (hb13.mono hb1.size)
  have hx3 := hx.below hb03 (Nat.le_refl _)
  have hw3 := (hfw.below hb13 (Nat.le_refl _)).sl
  clear hb13 hb3 hb2 hb1 hf2 hsp hfw
  go_wp2_with fail
  refine (kept_any hw3 hx3 (by omega)).mono ?_
  rintro e w4 ⟨rfl, hb4⟩
  have hb04 := hb03.trans (hb4.mono hb03.size)
  have hf4 := hf3.below hb4 (Nat.le_refl _)
  clear hw3 hx3 hf3 hb4
  go_wp2_with fail
  refine (rright_any (hx.below hb04 (Nat.le_refl _)) hs (by omega)).mono ?_
  rintro e w5 ⟨p5, n5, c5, rfl, hf5, hb5⟩
  go_wp2_with fail
  refine (same_yes (hf4.below hb5 (Nat.le_refl _)).sl hf5.sl).mono ?_
  rintro e w6 ⟨rfl, hb6⟩
  have hb46 := hb5.trans (hb6.mono hb5.size)
  have hb06 := hb04.trans (hb46.mono hb04.size)
  clear hf4 hf5 hb5 hb6 hb46 hb03
  go_wp2_with fail
  refine (zero_no (hx.below hb06 (Nat.le_refl _)) H0.out).mono ?_
  rintro e w7 ⟨rfl, hb7⟩
  have hb07 := hb06.trans (hb7.mono hb06.size)
  clear hb06 hb7
  rcases Nat.lt_or_ge 67108864 s with hgt | hle
  · have hs2 : decide ((67108864 : Int) < (s : Int)) = true := by simp; omega
    go_wp2_with fail
    refine lives_any.mono ?_
    rintro e w8 ⟨rfl, hb8⟩
    go_wp2_with fail
    go_ret
    exact ⟨rfl, hb07.trans (hb8.mono hb07.size)⟩
  · have hs2 : decide ((67108864 : Int) < (s : Int)) = false := by simp; omega
    go_wp2_with fail
    refine (rlen_any (hx.below hb07 (Nat.le_refl _)) (by omega)).mono ?_
    generalize blen (val xs) = B at *
    rintro e w8 ⟨rfl, hb8⟩
    have hb08 := hb07.trans (hb8.mono hb07.size)
    have hs3 : decide ((67108864 : Int) - (s : Int) < (B : Int)) = true := by simp; omega
    go_wp2_with fail
    refine lives_any.mono ?_
    rintro e w9 ⟨rfl, hb9⟩
    go_wp2_with fail
    go_ret
    exact ⟨rfl, hb08.trans (hb9.mono hb08.size)⟩

set_option maxHeartbeats 4000000 in
theorem shifts_ok {p : Option Addr} {n c : Nat} {xs : List Nat} {s : Nat} {w : World} (hx : Sl w p n c xs) (hn : n ≤ 1048576) (h0 : val xs ≠ 0) (hfit : s + blen (val xs) ≤ 67108864) :
    Calls Try.prog 5 #[.slice p n c, .int .i64 (s : Int)] w (RetB w true) := by
  have H0 := Lib.hid h0
  clear h0
  have hs : s ≤ 9223372036854775807 := by omega
  have HB := Lib.hid hfit
  have hs1 : decide ((s : Int) < 0) = false := by simp
  go_enter Try.func5, Try.ntmps5
  go_wp2_with fail
  refine (lend_any hx (by omega)).mono ?_
  rintro e w1 ⟨g, rfl, hfw, hsp, hb1⟩
  go_wp2_with fail
  refine (left_ok hsp (by omega) H0.out HB.out).mono ?_
  rintro e w2 ⟨p2, n2, c2, rfl, hf2, hb2⟩
  go_wp2_with fail
  refine (right_any (hsp.below hb2 (Nat.le_refl _)) (by omega) hs).mono ?_
  rintro e w3 ⟨p3, n3, c3, rfl, hf3, hb3⟩
  have hb13 := hb2.trans (hb3.mono hb2.size)
  have hb03 := hb1.trans (hb13.mono hb1.size)
  have hx3 := hx.below hb03 (Nat.le_refl _)
  have hw3 := (hfw.below hb13 (Nat.le_refl _)).sl
  have hf23 := hf2.below hb3 (Nat.le_refl _)
  clear hb13 hb3 hb2 hb1 hf2 hsp hfw
  go_wp2_with fail
  refine (kept_any hw3 hx3 (by omega)).mono ?_
  rintro e w4 ⟨rfl, hb4⟩
  have hb04 := hb03.trans (hb4.mono hb03.size)
  have hf4 := hf3.below hb4 (Nat.le_refl _)
  have hf24 := hf23.below hb4 (Nat.le_refl _)
  clear hw3 hx3 hf3 hb4 hf23
  go_wp2_with fail
  refine (rright_any (hx.below hb04 (Nat.le_refl _)) hs (by omega)).mono ?_
  rintro e w5 ⟨p5, n5, c5, rfl, hf5, hb5⟩
  go_wp2_with fail
  refine (same_yes (hf4.below hb5 (Nat.le_refl _)).sl hf5.sl).mono ?_
  rintro e w6 ⟨rfl, hb6⟩
  have hb46 := hb5.trans (hb6.mono hb5.size)
  have hb06 := hb04.trans (hb46.mono hb04.size)
  have hf26 := hf24.below hb46 (Nat.le_refl _)
  clear hf4 hf5 hb5 hb6 hb46 hb03 hf24
  go_wp2_with fail
  refine (zero_no (hx.below hb06 (Nat.le_refl _)) H0.out).mono ?_
  rintro e w7 ⟨rfl, hb7⟩
  have hb07 := hb06.trans (hb7.mono hb06.size)
  have hf27 := hf26.below hb7 (Nat.le_refl _)
  clear hb06 hb7 hf26
  have hs2 : decide ((67108864 : Int) < (s : Int)) = false := by simp; omega
  go_wp2_with fail
  refine (rlen_any (hx.below hb07 (Nat.le_refl _)) (by omega)).mono ?_
  generalize blen (val xs) = B at *
  rintro e w8 ⟨rfl, hb8⟩
  have hb08 := hb07.trans (hb8.mono hb07.size)
  have hf28 := hf27.below hb8 (Nat.le_refl _)
  clear hb07 hb8 hf27
  have hs3 : decide ((67108864 : Int) - (s : Int) < (B : Int)) = false := by simp; omega
  go_wp2_with fail
  refine (rleft_any (hx.below hb08 (Nat.le_refl _)) (by omega) (by omega)).mono ?_
  rintro e w9 ⟨p9, n9, c9, rfl, hf9, hb9⟩
  go_wp2_with fail
  refine (same_yes (hf28.below hb9 (Nat.le_refl _)).sl hf9.sl).mono ?_
  rintro e w10 ⟨rfl, hb10⟩
  have hb810 := hb9.trans (hb10.mono hb9.size)
  have hb010 := hb08.trans (hb810.mono hb08.size)
  go_wp2_with fail
  refine lives_any.mono ?_
  rintro e w11 ⟨rfl, hb11⟩
  go_wp2_with fail
  go_ret
  exact ⟨rfl, hb010.trans (hb11.mono hb010.size)⟩

/-- The law, of any number of at most so many limbs. -/
theorem shifts_any {p : Option Addr} {n c : Nat} {xs : List Nat} {s : Int} {w : World} (hx : Sl w p n c xs) (hn : n ≤ 1048576) (hs : s ≤ 9223372036854775807) :
    Calls Try.prog 5 #[.slice p n c, .int .i64 s] w (RetB w true) := by
  rcases Int.lt_or_le s 0 with h | h
  · exact shifts_neg hx hn h
  · obtain ⟨k, rfl⟩ := Int.eq_ofNat_of_zero_le h
    have hk : k ≤ 9223372036854775807 := by omega
    by_cases h0 : val xs = 0
    · exact shifts_zero hx hn hk h0
    · rcases Nat.lt_or_ge 67108864 (k + blen (val xs)) with hb | hb
      · exact shifts_big hx hn hk h0 hb
      · exact shifts_ok hx hn h0 hb

end Go.Proofs.Ytgemncfpehmdeaa
