
/-
  The walk of similelaw03.ZintPowers.
-/
import Derived.Test.YtlnilkghbbbhbaaZR5
import Derived.Test.YtlnilkghbbbhbaaZLives
import Derived.Test.YtlnilkghbbbhbaaPowFacts
namespace Go.Proofs.Ytlnilkghbbbhbaa
open Go.RowKit

theorem zpow_ok_any {p : Option Addr} {n c : Nat} {b : Bool} {xs : List Nat} {w : World} {k : Nat} (hx : Sl w p n c xs) (hn : n ≤ 1048576000) (hk : k ≤ 9223372036854775807) (hk0 : 0 < k) (h1 : 1 < blen (val xs)) (h2 : blen (val xs) * k ≤ 67108864) :
    Calls Try.prog 55 #[.agg #[.bool b, .slice p n c], .int .i64 (k : Int)] w (RetZE w (zv b (val xs) ^ k) 0) := by
  cases b
  · exact zpow_ok_p hx hn hk hk0 h1 h2
  · rcases Nat.mod_two_eq_zero_or_one k with he | he
    · exact zpow_ok_e hx hn hk hk0 h1 h2 he
    · exact zpow_ok_o hx hn hk hk0 h1 h2 he

theorem zpow_one_any {p : Option Addr} {n c : Nat} {b : Bool} {xs : List Nat} {w : World} {k : Nat} (hx : Sl w p n c xs) (hn : n ≤ 1048576000) (hk : k ≤ 9223372036854775807) (h1 : k = 0 ∨ blen (val xs) = 1) :
    Calls Try.prog 55 #[.agg #[.bool b, .slice p n c], .int .i64 (k : Int)] w (RetZE w (zv b (val xs) ^ k) 0) := by
  cases b
  · exact zpow_one_p hx hn hk h1
  · rcases Nat.mod_two_eq_zero_or_one k with he | he
    · exact zpow_one_e hx hn hk h1 he
    · exact zpow_one_o hx hn hk h1 he

theorem zpow_nil_any {p : Option Addr} {n c : Nat} {b : Bool} {xs : List Nat} {w : World} {k : Nat} (hx : Sl w p n c xs) (hn : n ≤ 1048576000) (hk : k ≤ 9223372036854775807) (hk0 : 0 < k) (h1 : val xs = 0) :
    Calls Try.prog 55 #[.agg #[.bool b, .slice p n c], .int .i64 (k : Int)] w (RetZE w (zv b (val xs) ^ k) 0) := by
  cases b
  · exact zpow_nil_p hx hn hk hk0 h1
  · rcases Nat.mod_two_eq_zero_or_one k with he | he
    · exact zpow_nil_e hx hn hk hk0 h1 he
    · exact zpow_nil_o hx hn hk hk0 h1 he

theorem qpow_ok_any {p : Option Addr} {n c : Nat} {b : Bool} {xs : List Nat} {w : World} {k : Nat} (hx : Sl w p n c xs) (hn : n ≤ 1048576000) (hk : k ≤ 9223372036854775807) (hL : ll (val xs ^ k) ≤ 17592186044416) (h1 : 1 < blen (val xs)) (h2 : blen (val xs) * k ≤ 67108863) :
    Calls Try.prog 56 #[.agg #[.bool b, .slice p n c], .int .i64 (k : Int)] w (RetZB w (zv b (val xs) ^ k) true) := by
  cases b
  · exact qpow_ok_p hx hn hk hL h1 h2
  · rcases Nat.mod_two_eq_zero_or_one k with he | he
    · exact qpow_ok_e hx hn hk hL h1 h2 he
    · exact qpow_ok_o hx hn hk hL h1 h2 he

theorem qpow_small_any {p : Option Addr} {n c : Nat} {b : Bool} {xs : List Nat} {w : World} {k : Nat} (hx : Sl w p n c xs) (hn : n ≤ 1048576000) (hk : k ≤ 9223372036854775807) (hL : ll (val xs ^ k) ≤ 17592186044416) (h1 : blen (val xs) ≤ 1) :
    Calls Try.prog 56 #[.agg #[.bool b, .slice p n c], .int .i64 (k : Int)] w (RetZB w (zv b (val xs) ^ k) true) := by
  cases b
  · exact qpow_small_p hx hn hk hL h1
  · rcases Nat.mod_two_eq_zero_or_one k with he | he
    · exact qpow_small_e hx hn hk hL h1 he
    · exact qpow_small_o hx hn hk hL h1 he

set_option maxRecDepth 100000 in
set_option maxHeartbeats 8000000 in
theorem zpowers_negA {p : Option Addr} {n c : Nat} {b : Bool} {xs : List Nat} {w : World} {k : Int} (hx : Sl w p n c xs) (hn : n ≤ 1048576) (hk : k ≤ 9223372036854775807) (h : k < 0) (h1 : 1 < blen (val xs)) :
    Calls Try.prog 8 #[.agg #[.bool b, .slice p n c], .int .i64 k] w (RetB w true) := by
  have hz1 : decide ((1 : Int) < ((blen (val xs) : Nat) : Int)) = true := by simp <;> omega
  have hz1 : decide (k < 0) = true := by simp; omega
  have hz2 : decide ((0 : Int) < k) = false := by simp; omega
  have hng0 : ng 0 = false := rfl
  go_enter Try.func8, Try.ntmps8
  go_wp2_with fail
  obtain ⟨W, hW⟩ : ∃ W : World, W = (w.alloc (.cells #[.bool b, .slice p n c] 25)) := ⟨_, rfl⟩
  rw [← hW]
  have hA00 : W.cell? ⟨w.heap.size, 0, none⟩ = some (.bool b) := by rw [hW]; exact (box_c0 (by simp))
  have hA01 : W.cell? ⟨w.heap.size, 1, none⟩ = some (.slice p n c) := by rw [hW]; exact (box_c1 (by simp))
  have hB : Box w (w.heap.size) W := by rw [hW]; exact ⟨by (try simp) <;> omega, ((Below.refl _ _).alloc (Nat.le_refl _) _)⟩
  clear hW
  go_wp2_with fail
  refine (rlen_any (hx.below hB.below (Nat.le_refl _)) (by omega)).mono ?_
  rintro e w1 ⟨rfl, hb1⟩
  replace hA00 := cell_on hA00 hb1
  replace hA01 := cell_on hA01 hb1
  replace hB := hB.on hb1
  clear hb1
  go_wp2_with fail
  refine (zpow_neg (by omega)).mono ?_
  rintro e w2 ⟨p4, n4, c4, rfl, hf4, hb2⟩
  have hlt2 := hB.lt
  replace hA00 := cell_on hA00 hb2
  replace hA01 := cell_on hA01 hb2
  replace hB := hB.on hb2
  clear hb2
  go_upto_region 5 with (fail)
  have hlb0 := hB.lt
  obtain ⟨W1, hW⟩ : ∃ W1 : World, W1 = (w2.alloc (.cells #[.bool (false), .slice p4 n4 c4] 25)) := ⟨_, rfl⟩
  rw [← hW]
  have qhA00 : W1.cell? ⟨w.heap.size, 0, none⟩ = some (.bool b) := by rw [hW]; exact (cell_on hA00 (below_alloc _ _))
  have qhA01 : W1.cell? ⟨w.heap.size, 1, none⟩ = some (.slice p n c) := by rw [hW]; exact (cell_on hA01 (below_alloc _ _))
  have qhf4 : Fr w1.heap.size W1 p4 n4 c4 (lim (0 : Int).natAbs) := by rw [hW]; exact (hf4.below (below_alloc _ _) (Nat.le_refl _))
  have hL00 : W1.cell? ⟨w2.heap.size, 0, none⟩ = some (.bool (false)) := by rw [hW]; exact (box_c0 (by simp))
  have hL01 : W1.cell? ⟨w2.heap.size, 1, none⟩ = some (.slice p4 n4 c4) := by rw [hW]; exact (box_c1 (by simp))
  have hR0 : Cel (w2.heap.size) W1 := by rw [hW]; exact (Cel.ofAlloc (by simp))
  have qhB : Box w (w2.heap.size) W1 := by rw [hW]; exact ⟨by (try simp) <;> omega, (hB.below.alloc (by (try simp) <;> omega) _)⟩
  clear hW hA00 hA01 hf4 hB
  have hA00 := qhA00
  have hA01 := qhA01
  have hf4 := qhf4
  have hB := qhB
  clear qhA00 qhA01 qhf4 qhB
  go_wp2_with fail
  refine (lsame_yes (b := false) hf4.sl (Sl.nil _)).mono ?_
  rintro e w3 ⟨rfl, hb3⟩
  clear hf4
  replace hA00 := cell_on hA00 hb3
  replace hA01 := cell_on hA01 hb3
  replace hB := hB.on hb3
  replace hL00 := cell_on hL00 hb3
  replace hL01 := cell_on hL01 hb3
  replace hR0 := hR0.on hb3
  clear hb3
  go_wp2_with fail
  refine (zlives_any).mono ?_
  rintro e w4 ⟨rfl, hb4⟩
  replace hA00 := cell_on hA00 hb4
  replace hA01 := cell_on hA01 hb4
  replace hB := hB.on hb4
  replace hL00 := cell_on hL00 hb4
  replace hL01 := cell_on hL01 hb4
  replace hR0 := hR0.on hb4
  clear hb4
  go_wp2_with fail
  go_ret
  exact ⟨rfl, hB.below⟩

set_option maxRecDepth 100000 in
set_option maxHeartbeats 8000000 in
theorem zpowers_negB {p : Option Addr} {n c : Nat} {b : Bool} {xs : List Nat} {w : World} {k : Int} (hx : Sl w p n c xs) (hn : n ≤ 1048576) (hk : k ≤ 9223372036854775807) (h : k < 0) (h1 : blen (val xs) ≤ 1) :
    Calls Try.prog 8 #[.agg #[.bool b, .slice p n c], .int .i64 k] w (RetB w true) := by
  have hz2 : decide ((1 : Int) < ((blen (val xs) : Nat) : Int)) = false := by simp <;> omega
  have hz1 : decide (k < 0) = true := by simp; omega
  have hz2 : decide ((0 : Int) < k) = false := by simp; omega
  have hng0 : ng 0 = false := rfl
  go_enter Try.func8, Try.ntmps8
  go_wp2_with fail
  obtain ⟨W, hW⟩ : ∃ W : World, W = (w.alloc (.cells #[.bool b, .slice p n c] 25)) := ⟨_, rfl⟩
  rw [← hW]
  have hA00 : W.cell? ⟨w.heap.size, 0, none⟩ = some (.bool b) := by rw [hW]; exact (box_c0 (by simp))
  have hA01 : W.cell? ⟨w.heap.size, 1, none⟩ = some (.slice p n c) := by rw [hW]; exact (box_c1 (by simp))
  have hB : Box w (w.heap.size) W := by rw [hW]; exact ⟨by (try simp) <;> omega, ((Below.refl _ _).alloc (Nat.le_refl _) _)⟩
  clear hW
  go_wp2_with fail
  refine (rlen_any (hx.below hB.below (Nat.le_refl _)) (by omega)).mono ?_
  rintro e w1 ⟨rfl, hb1⟩
  replace hA00 := cell_on hA00 hb1
  replace hA01 := cell_on hA01 hb1
  replace hB := hB.on hb1
  clear hb1
  go_wp2_with fail
  refine (zpow_neg (by omega)).mono ?_
  rintro e w2 ⟨p4, n4, c4, rfl, hf4, hb2⟩
  have hlt2 := hB.lt
  replace hA00 := cell_on hA00 hb2
  replace hA01 := cell_on hA01 hb2
  replace hB := hB.on hb2
  clear hb2
  go_upto_region 5 with (fail)
  have hlb0 := hB.lt
  obtain ⟨W1, hW⟩ : ∃ W1 : World, W1 = (w2.alloc (.cells #[.bool (false), .slice p4 n4 c4] 25)) := ⟨_, rfl⟩
  rw [← hW]
  have qhA00 : W1.cell? ⟨w.heap.size, 0, none⟩ = some (.bool b) := by rw [hW]; exact (cell_on hA00 (below_alloc _ _))
  have qhA01 : W1.cell? ⟨w.heap.size, 1, none⟩ = some (.slice p n c) := by rw [hW]; exact (cell_on hA01 (below_alloc _ _))
  have qhf4 : Fr w1.heap.size W1 p4 n4 c4 (lim (0 : Int).natAbs) := by rw [hW]; exact (hf4.below (below_alloc _ _) (Nat.le_refl _))
  have hL00 : W1.cell? ⟨w2.heap.size, 0, none⟩ = some (.bool (false)) := by rw [hW]; exact (box_c0 (by simp))
  have hL01 : W1.cell? ⟨w2.heap.size, 1, none⟩ = some (.slice p4 n4 c4) := by rw [hW]; exact (box_c1 (by simp))
  have hR0 : Cel (w2.heap.size) W1 := by rw [hW]; exact (Cel.ofAlloc (by simp))
  have qhB : Box w (w2.heap.size) W1 := by rw [hW]; exact ⟨by (try simp) <;> omega, (hB.below.alloc (by (try simp) <;> omega) _)⟩
  clear hW hA00 hA01 hf4 hB
  have hA00 := qhA00
  have hA01 := qhA01
  have hf4 := qhf4
  have hB := qhB
  clear qhA00 qhA01 qhf4 qhB
  go_wp2_with fail
  refine (lsame_yes (b := false) hf4.sl (Sl.nil _)).mono ?_
  rintro e w3 ⟨rfl, hb3⟩
  clear hf4
  replace hA00 := cell_on hA00 hb3
  replace hA01 := cell_on hA01 hb3
  replace hB := hB.on hb3
  replace hL00 := cell_on hL00 hb3
  replace hL01 := cell_on hL01 hb3
  replace hR0 := hR0.on hb3
  clear hb3
  go_wp2_with fail
  refine (zlives_any).mono ?_
  rintro e w4 ⟨rfl, hb4⟩
  replace hA00 := cell_on hA00 hb4
  replace hA01 := cell_on hA01 hb4
  replace hB := hB.on hb4
  replace hL00 := cell_on hL00 hb4
  replace hL01 := cell_on hL01 hb4
  replace hR0 := hR0.on hb4
  clear hb4
  go_wp2_with fail
  go_ret
  exact ⟨rfl, hB.below⟩

set_option maxRecDepth 100000 in
set_option maxHeartbeats 8000000 in
theorem zpowers_skip {p : Option Addr} {n c : Nat} {b : Bool} {xs : List Nat} {w : World} {k : Nat} (hx : Sl w p n c xs) (hn : n ≤ 1048576) (hk : k ≤ 9223372036854775807) (h1 : 1 < blen (val xs)) (h3 : 0 < k) (h4 : k < 67108864) (h5 : 40000 < blen (val xs) * k) (h2 : (blen (val xs) - 1) * k < 67108864) :
    Calls Try.prog 8 #[.agg #[.bool b, .slice p n c], .int .i64 (k : Int)] w (RetB w true) := by
  have hbl := blen_len hx.lims
  rw [hx.len] at hbl
  have hz1 : decide ((1 : Int) < ((blen (val xs) : Nat) : Int)) = true := by simp <;> omega
  have hz3 : decide ((0 : Int) < (k : Int)) = true := by simp <;> omega
  have hz6 : decide ((k : Int) < 0) = false := by simp <;> omega
  have hz7 : decide ((k : Int) < 67108864) = true := by simp <;> omega
  have hw1 := wrap_mul (B := blen (val xs)) (k := k) (by omega) (by omega)
  have hw2 := wrap_mul1 (B := blen (val xs)) (k := k) h1 (by omega) (by omega)
  have hy1 : decide ((40000 : Int) < ((blen (val xs) : Nat) : Int) * (k : Int)) = true := dec_mul1 h5
  have hy2 : decide ((((blen (val xs) : Nat) : Int) - 1) * (k : Int) < 67108864) = true := dec_mulM1 h1 h2
  have HC := Lib.hid h1
  have HD := Lib.hid h2
  clear h2 h5
  have hng0 : ng 0 = false := rfl
  go_enter Try.func8, Try.ntmps8
  go_wp2_with fail
  obtain ⟨W, hW⟩ : ∃ W : World, W = (w.alloc (.cells #[.bool b, .slice p n c] 25)) := ⟨_, rfl⟩
  rw [← hW]
  have hA00 : W.cell? ⟨w.heap.size, 0, none⟩ = some (.bool b) := by rw [hW]; exact (box_c0 (by simp))
  have hA01 : W.cell? ⟨w.heap.size, 1, none⟩ = some (.slice p n c) := by rw [hW]; exact (box_c1 (by simp))
  have hB : Box w (w.heap.size) W := by rw [hW]; exact ⟨by (try simp) <;> omega, ((Below.refl _ _).alloc (Nat.le_refl _) _)⟩
  clear hW
  go_wp2_with fail
  refine (rlen_any (hx.below hB.below (Nat.le_refl _)) (by omega)).mono ?_
  rintro e w1 ⟨rfl, hb1⟩
  replace hA00 := cell_on hA00 hb1
  replace hA01 := cell_on hA01 hb1
  replace hB := hB.on hb1
  clear hb1
  go_wp2_with fail
  refine (zlives_any).mono ?_
  rintro e w2 ⟨rfl, hb2⟩
  replace hA00 := cell_on hA00 hb2
  replace hA01 := cell_on hA01 hb2
  replace hB := hB.on hb2
  clear hb2
  go_wp2_with fail
  go_ret
  exact ⟨rfl, hB.below⟩

set_option maxRecDepth 100000 in
set_option maxHeartbeats 8000000 in
theorem zpowers_big {p : Option Addr} {n c : Nat} {b : Bool} {xs : List Nat} {w : World} {k : Nat} (hx : Sl w p n c xs) (hn : n ≤ 1048576) (hk : k ≤ 9223372036854775807) (h1 : 1 < blen (val xs)) (h3 : 67108864 ≤ k) (h0 : 0 < k) (h2 : 67108864 < k ∨ 67108864 ≤ (blen (val xs) - 1) * k) :
    Calls Try.prog 8 #[.agg #[.bool b, .slice p n c], .int .i64 (k : Int)] w (RetB w true) := by
  have hbl := blen_len hx.lims
  rw [hx.len] at hbl
  have hz1 : decide ((1 : Int) < ((blen (val xs) : Nat) : Int)) = true := by simp <;> omega
  have hz3 : decide ((0 : Int) < (k : Int)) = true := by simp <;> omega
  have hz6 : decide ((k : Int) < 0) = false := by simp <;> omega
  have hkm : ¬ ((k : Int) < 67108864) := by omega
  have HH3 := Lib.hid h3
  clear h3
  have hz8 : decide ((k : Int) < 67108864) = false := by simp <;> omega
  have HC := Lib.hid h1
  have HD := Lib.hid h2
  clear h2
  have hng0 : ng 0 = false := rfl
  go_enter Try.func8, Try.ntmps8
  go_wp2_with fail
  obtain ⟨W, hW⟩ : ∃ W : World, W = (w.alloc (.cells #[.bool b, .slice p n c] 25)) := ⟨_, rfl⟩
  rw [← hW]
  have hA00 : W.cell? ⟨w.heap.size, 0, none⟩ = some (.bool b) := by rw [hW]; exact (box_c0 (by simp))
  have hA01 : W.cell? ⟨w.heap.size, 1, none⟩ = some (.slice p n c) := by rw [hW]; exact (box_c1 (by simp))
  have hB : Box w (w.heap.size) W := by rw [hW]; exact ⟨by (try simp) <;> omega, ((Below.refl _ _).alloc (Nat.le_refl _) _)⟩
  clear hW
  go_wp2_with fail
  refine (rlen_any (hx.below hB.below (Nat.le_refl _)) (by omega)).mono ?_
  rintro e w1 ⟨rfl, hb1⟩
  replace hA00 := cell_on hA00 hb1
  replace hA01 := cell_on hA01 hb1
  replace hB := hB.on hb1
  clear hb1
  go_wp2_with fail
  refine (zpow_big (hx.below hB.below (Nat.le_refl _)) (by omega) (by omega) HC.out HD.out).mono ?_
  rintro e w2 ⟨p4, n4, c4, rfl, hf4, hb2⟩
  have hlt2 := hB.lt
  replace hA00 := cell_on hA00 hb2
  replace hA01 := cell_on hA01 hb2
  replace hB := hB.on hb2
  clear hb2
  go_upto_region 5 with (fail)
  have hlb0 := hB.lt
  obtain ⟨W1, hW⟩ : ∃ W1 : World, W1 = (w2.alloc (.cells #[.bool (false), .slice p4 n4 c4] 25)) := ⟨_, rfl⟩
  rw [← hW]
  have qhA00 : W1.cell? ⟨w.heap.size, 0, none⟩ = some (.bool b) := by rw [hW]; exact (cell_on hA00 (below_alloc _ _))
  have qhA01 : W1.cell? ⟨w.heap.size, 1, none⟩ = some (.slice p n c) := by rw [hW]; exact (cell_on hA01 (below_alloc _ _))
  have qhf4 : Fr w1.heap.size W1 p4 n4 c4 (lim (0 : Int).natAbs) := by rw [hW]; exact (hf4.below (below_alloc _ _) (Nat.le_refl _))
  have hL00 : W1.cell? ⟨w2.heap.size, 0, none⟩ = some (.bool (false)) := by rw [hW]; exact (box_c0 (by simp))
  have hL01 : W1.cell? ⟨w2.heap.size, 1, none⟩ = some (.slice p4 n4 c4) := by rw [hW]; exact (box_c1 (by simp))
  have hR0 : Cel (w2.heap.size) W1 := by rw [hW]; exact (Cel.ofAlloc (by simp))
  have qhB : Box w (w2.heap.size) W1 := by rw [hW]; exact ⟨by (try simp) <;> omega, (hB.below.alloc (by (try simp) <;> omega) _)⟩
  clear hW hA00 hA01 hf4 hB
  have hA00 := qhA00
  have hA01 := qhA01
  have hf4 := qhf4
  have hB := qhB
  clear qhA00 qhA01 qhf4 qhB
  go_wp2_with fail
  refine (qpow_big (hx.below hB.below (Nat.le_refl _)) (by omega) (by omega) HC.out HD.out).mono ?_
  rintro e w3 ⟨p5, n5, c5, rfl, hf5, hb3⟩
  have hlt3 := hB.lt
  replace hA00 := cell_on hA00 hb3
  replace hA01 := cell_on hA01 hb3
  replace hB := hB.on hb3
  replace hf4 := hf4.below hb3 (Nat.le_refl _)
  replace hL00 := cell_on hL00 hb3
  replace hL01 := cell_on hL01 hb3
  replace hR0 := hR0.on hb3
  clear hb3
  clear hf5
  go_upto_region 8 with (fail)
  have hlb1 := hB.lt
  obtain ⟨Wb, hW⟩ : ∃ Wb : World, Wb = (w3.alloc (.cells #[.bool (false), .slice p5 n5 c5] 25)) := ⟨_, rfl⟩
  rw [← hW]
  have qhA00 : Wb.cell? ⟨w.heap.size, 0, none⟩ = some (.bool b) := by rw [hW]; exact (cell_on hA00 (below_alloc _ _))
  have qhA01 : Wb.cell? ⟨w.heap.size, 1, none⟩ = some (.slice p n c) := by rw [hW]; exact (cell_on hA01 (below_alloc _ _))
  have qhL00 : Wb.cell? ⟨w2.heap.size, 0, none⟩ = some (.bool (false)) := by rw [hW]; exact (cell_on hL00 (below_alloc _ _))
  have qhL01 : Wb.cell? ⟨w2.heap.size, 1, none⟩ = some (.slice p4 n4 c4) := by rw [hW]; exact (cell_on hL01 (below_alloc _ _))
  have qhR0 : Cel (w2.heap.size) Wb := by rw [hW]; exact (hR0.on (below_alloc _ _))
  have qhf4 : Fr w1.heap.size Wb p4 n4 c4 (lim (0 : Int).natAbs) := by rw [hW]; exact (hf4.below (below_alloc _ _) (Nat.le_refl _))
  have hL10 : Wb.cell? ⟨w3.heap.size, 0, none⟩ = some (.bool (false)) := by rw [hW]; exact (box_c0 (by simp))
  have hL11 : Wb.cell? ⟨w3.heap.size, 1, none⟩ = some (.slice p5 n5 c5) := by rw [hW]; exact (box_c1 (by simp))
  have hR1 : Cel (w3.heap.size) Wb := by rw [hW]; exact (Cel.ofAlloc (by simp))
  have qhB : Box w (w3.heap.size) Wb := by rw [hW]; exact ⟨by (try simp) <;> omega, (hB.below.alloc (by (try simp) <;> omega) _)⟩
  clear hW hA00 hA01 hL00 hL01 hR0 hf4 hB
  have hA00 := qhA00
  have hA01 := qhA01
  have hL00 := qhL00
  have hL01 := qhL01
  have hR0 := qhR0
  have hf4 := qhf4
  have hB := qhB
  clear qhA00 qhA01 qhL00 qhL01 qhR0 qhf4 qhB
  go_wp2_with fail
  refine (lsame_yes (b := false) hf4.sl (Sl.nil _)).mono ?_
  rintro e w4 ⟨rfl, hb4⟩
  clear hf4
  replace hA00 := cell_on hA00 hb4
  replace hA01 := cell_on hA01 hb4
  replace hB := hB.on hb4
  replace hL00 := cell_on hL00 hb4
  replace hL01 := cell_on hL01 hb4
  replace hR0 := hR0.on hb4
  replace hL10 := cell_on hL10 hb4
  replace hL11 := cell_on hL11 hb4
  replace hR1 := hR1.on hb4
  clear hb4
  go_wp2_with fail
  refine (zlives_any).mono ?_
  rintro e w5 ⟨rfl, hb5⟩
  replace hA00 := cell_on hA00 hb5
  replace hA01 := cell_on hA01 hb5
  replace hB := hB.on hb5
  replace hL00 := cell_on hL00 hb5
  replace hL01 := cell_on hL01 hb5
  replace hR0 := hR0.on hb5
  replace hL10 := cell_on hL10 hb5
  replace hL11 := cell_on hL11 hb5
  replace hR1 := hR1.on hb5
  clear hb5
  go_wp2_with fail
  go_ret
  exact ⟨rfl, hB.below⟩

set_option maxRecDepth 100000 in
set_option maxHeartbeats 8000000 in
theorem zpowers_big2 {p : Option Addr} {n c : Nat} {b : Bool} {xs : List Nat} {w : World} {k : Nat} (hx : Sl w p n c xs) (hn : n ≤ 1048576) (hk : k ≤ 9223372036854775807) (h1 : 1 < blen (val xs)) (h3 : 0 < k) (h4 : k < 67108864) (h5 : 40000 < blen (val xs) * k) (h6 : 67108864 ≤ (blen (val xs) - 1) * k) :
    Calls Try.prog 8 #[.agg #[.bool b, .slice p n c], .int .i64 (k : Int)] w (RetB w true) := by
  have hbl := blen_len hx.lims
  rw [hx.len] at hbl
  have hz1 : decide ((1 : Int) < ((blen (val xs) : Nat) : Int)) = true := by simp <;> omega
  have hz3 : decide ((0 : Int) < (k : Int)) = true := by simp <;> omega
  have hz6 : decide ((k : Int) < 0) = false := by simp <;> omega
  have hz7 : decide ((k : Int) < 67108864) = true := by simp <;> omega
  have hw1 := wrap_mul (B := blen (val xs)) (k := k) (by omega) (by omega)
  have hw2 := wrap_mul1 (B := blen (val xs)) (k := k) h1 (by omega) (by omega)
  have hy1 : decide ((40000 : Int) < ((blen (val xs) : Nat) : Int) * (k : Int)) = true := dec_mul1 h5
  have hy2 : decide ((((blen (val xs) : Nat) : Int) - 1) * (k : Int) < 67108864) = false := dec_mulM0 h1 h6
  have h2 : 67108864 < k ∨ 67108864 ≤ (blen (val xs) - 1) * k := Or.inr h6
  have HC := Lib.hid h1
  have HD := Lib.hid h2
  clear h2 h5 h6
  have hng0 : ng 0 = false := rfl
  go_enter Try.func8, Try.ntmps8
  go_wp2_with fail
  obtain ⟨W, hW⟩ : ∃ W : World, W = (w.alloc (.cells #[.bool b, .slice p n c] 25)) := ⟨_, rfl⟩
  rw [← hW]
  have hA00 : W.cell? ⟨w.heap.size, 0, none⟩ = some (.bool b) := by rw [hW]; exact (box_c0 (by simp))
  have hA01 : W.cell? ⟨w.heap.size, 1, none⟩ = some (.slice p n c) := by rw [hW]; exact (box_c1 (by simp))
  have hB : Box w (w.heap.size) W := by rw [hW]; exact ⟨by (try simp) <;> omega, ((Below.refl _ _).alloc (Nat.le_refl _) _)⟩
  clear hW
  go_wp2_with fail
  refine (rlen_any (hx.below hB.below (Nat.le_refl _)) (by omega)).mono ?_
  rintro e w1 ⟨rfl, hb1⟩
  replace hA00 := cell_on hA00 hb1
  replace hA01 := cell_on hA01 hb1
  replace hB := hB.on hb1
  clear hb1
  go_wp2_with fail
  refine (zpow_big (hx.below hB.below (Nat.le_refl _)) (by omega) (by omega) HC.out HD.out).mono ?_
  rintro e w2 ⟨p4, n4, c4, rfl, hf4, hb2⟩
  have hlt2 := hB.lt
  replace hA00 := cell_on hA00 hb2
  replace hA01 := cell_on hA01 hb2
  replace hB := hB.on hb2
  clear hb2
  go_upto_region 5 with (fail)
  have hlb0 := hB.lt
  obtain ⟨W1, hW⟩ : ∃ W1 : World, W1 = (w2.alloc (.cells #[.bool (false), .slice p4 n4 c4] 25)) := ⟨_, rfl⟩
  rw [← hW]
  have qhA00 : W1.cell? ⟨w.heap.size, 0, none⟩ = some (.bool b) := by rw [hW]; exact (cell_on hA00 (below_alloc _ _))
  have qhA01 : W1.cell? ⟨w.heap.size, 1, none⟩ = some (.slice p n c) := by rw [hW]; exact (cell_on hA01 (below_alloc _ _))
  have qhf4 : Fr w1.heap.size W1 p4 n4 c4 (lim (0 : Int).natAbs) := by rw [hW]; exact (hf4.below (below_alloc _ _) (Nat.le_refl _))
  have hL00 : W1.cell? ⟨w2.heap.size, 0, none⟩ = some (.bool (false)) := by rw [hW]; exact (box_c0 (by simp))
  have hL01 : W1.cell? ⟨w2.heap.size, 1, none⟩ = some (.slice p4 n4 c4) := by rw [hW]; exact (box_c1 (by simp))
  have hR0 : Cel (w2.heap.size) W1 := by rw [hW]; exact (Cel.ofAlloc (by simp))
  have qhB : Box w (w2.heap.size) W1 := by rw [hW]; exact ⟨by (try simp) <;> omega, (hB.below.alloc (by (try simp) <;> omega) _)⟩
  clear hW hA00 hA01 hf4 hB
  have hA00 := qhA00
  have hA01 := qhA01
  have hf4 := qhf4
  have hB := qhB
  clear qhA00 qhA01 qhf4 qhB
  go_wp2_with fail
  refine (qpow_big (hx.below hB.below (Nat.le_refl _)) (by omega) (by omega) HC.out HD.out).mono ?_
  rintro e w3 ⟨p5, n5, c5, rfl, hf5, hb3⟩
  have hlt3 := hB.lt
  replace hA00 := cell_on hA00 hb3
  replace hA01 := cell_on hA01 hb3
  replace hB := hB.on hb3
  replace hf4 := hf4.below hb3 (Nat.le_refl _)
  replace hL00 := cell_on hL00 hb3
  replace hL01 := cell_on hL01 hb3
  replace hR0 := hR0.on hb3
  clear hb3
  clear hf5
  go_upto_region 8 with (fail)
  have hlb1 := hB.lt
  obtain ⟨Wb, hW⟩ : ∃ Wb : World, Wb = (w3.alloc (.cells #[.bool (false), .slice p5 n5 c5] 25)) := ⟨_, rfl⟩
  rw [← hW]
  have qhA00 : Wb.cell? ⟨w.heap.size, 0, none⟩ = some (.bool b) := by rw [hW]; exact (cell_on hA00 (below_alloc _ _))
  have qhA01 : Wb.cell? ⟨w.heap.size, 1, none⟩ = some (.slice p n c) := by rw [hW]; exact (cell_on hA01 (below_alloc _ _))
  have qhL00 : Wb.cell? ⟨w2.heap.size, 0, none⟩ = some (.bool (false)) := by rw [hW]; exact (cell_on hL00 (below_alloc _ _))
  have qhL01 : Wb.cell? ⟨w2.heap.size, 1, none⟩ = some (.slice p4 n4 c4) := by rw [hW]; exact (cell_on hL01 (below_alloc _ _))
  have qhR0 : Cel (w2.heap.size) Wb := by rw [hW]; exact (hR0.on (below_alloc _ _))
  have qhf4 : Fr w1.heap.size Wb p4 n4 c4 (lim (0 : Int).natAbs) := by rw [hW]; exact (hf4.below (below_alloc _ _) (Nat.le_refl _))
  have hL10 : Wb.cell? ⟨w3.heap.size, 0, none⟩ = some (.bool (false)) := by rw [hW]; exact (box_c0 (by simp))
  have hL11 : Wb.cell? ⟨w3.heap.size, 1, none⟩ = some (.slice p5 n5 c5) := by rw [hW]; exact (box_c1 (by simp))
  have hR1 : Cel (w3.heap.size) Wb := by rw [hW]; exact (Cel.ofAlloc (by simp))
  have qhB : Box w (w3.heap.size) Wb := by rw [hW]; exact ⟨by (try simp) <;> omega, (hB.below.alloc (by (try simp) <;> omega) _)⟩
  clear hW hA00 hA01 hL00 hL01 hR0 hf4 hB
  have hA00 := qhA00
  have hA01 := qhA01
  have hL00 := qhL00
  have hL01 := qhL01
  have hR0 := qhR0
  have hf4 := qhf4
  have hB := qhB
  clear qhA00 qhA01 qhL00 qhL01 qhR0 qhf4 qhB
  go_wp2_with fail
  refine (lsame_yes (b := false) hf4.sl (Sl.nil _)).mono ?_
  rintro e w4 ⟨rfl, hb4⟩
  clear hf4
  replace hA00 := cell_on hA00 hb4
  replace hA01 := cell_on hA01 hb4
  replace hB := hB.on hb4
  replace hL00 := cell_on hL00 hb4
  replace hL01 := cell_on hL01 hb4
  replace hR0 := hR0.on hb4
  replace hL10 := cell_on hL10 hb4
  replace hL11 := cell_on hL11 hb4
  replace hR1 := hR1.on hb4
  clear hb4
  go_wp2_with fail
  refine (zlives_any).mono ?_
  rintro e w5 ⟨rfl, hb5⟩
  replace hA00 := cell_on hA00 hb5
  replace hA01 := cell_on hA01 hb5
  replace hB := hB.on hb5
  replace hL00 := cell_on hL00 hb5
  replace hL01 := cell_on hL01 hb5
  replace hR0 := hR0.on hb5
  replace hL10 := cell_on hL10 hb5
  replace hL11 := cell_on hL11 hb5
  replace hR1 := hR1.on hb5
  clear hb5
  go_wp2_with fail
  go_ret
  exact ⟨rfl, hB.below⟩

set_option maxRecDepth 100000 in
set_option maxHeartbeats 8000000 in
theorem zpowers_ok {p : Option Addr} {n c : Nat} {b : Bool} {xs : List Nat} {w : World} {k : Nat} (hx : Sl w p n c xs) (hn : n ≤ 1048576) (hk : k ≤ 9223372036854775807) (h1 : 1 < blen (val xs)) (h3 : 0 < k) (h4 : k < 67108864) (h2 : blen (val xs) * k ≤ 40000) :
    Calls Try.prog 8 #[.agg #[.bool b, .slice p n c], .int .i64 (k : Int)] w (RetB w true) := by
  have HL : Hid (ll (val xs ^ k) ≤ 17592186044416) := by
    show _ ≤ _
    have h9 := pow_len (e := k) (L := 1250) (lt_blen (val xs)) (by omega) (Nat.le_refl k)
    omega
  have hbl := blen_len hx.lims
  rw [hx.len] at hbl
  have hz1 : decide ((1 : Int) < ((blen (val xs) : Nat) : Int)) = true := by simp <;> omega
  have hz3 : decide ((0 : Int) < (k : Int)) = true := by simp <;> omega
  have hz6 : decide ((k : Int) < 0) = false := by simp <;> omega
  have hz7 : decide ((k : Int) < 67108864) = true := by simp <;> omega
  have hw1 := wrap_mul (B := blen (val xs)) (k := k) (by omega) (by omega)
  have hw2 := wrap_mul1 (B := blen (val xs)) (k := k) h1 (by omega) (by omega)
  have hy1 : decide ((40000 : Int) < ((blen (val xs) : Nat) : Int) * (k : Int)) = false := dec_mul0 h2
  have HC := Lib.hid h1
  have HD := Lib.hid h2
  clear h2
  have hng0 : ng 0 = false := rfl
  go_enter Try.func8, Try.ntmps8
  go_wp2_with fail
  obtain ⟨W, hW⟩ : ∃ W : World, W = (w.alloc (.cells #[.bool b, .slice p n c] 25)) := ⟨_, rfl⟩
  rw [← hW]
  have hA00 : W.cell? ⟨w.heap.size, 0, none⟩ = some (.bool b) := by rw [hW]; exact (box_c0 (by simp))
  have hA01 : W.cell? ⟨w.heap.size, 1, none⟩ = some (.slice p n c) := by rw [hW]; exact (box_c1 (by simp))
  have hB : Box w (w.heap.size) W := by rw [hW]; exact ⟨by (try simp) <;> omega, ((Below.refl _ _).alloc (Nat.le_refl _) _)⟩
  clear hW
  go_wp2_with fail
  refine (rlen_any (hx.below hB.below (Nat.le_refl _)) (by omega)).mono ?_
  rintro e w1 ⟨rfl, hb1⟩
  replace hA00 := cell_on hA00 hb1
  replace hA01 := cell_on hA01 hb1
  replace hB := hB.on hb1
  clear hb1
  go_wp2_with fail
  refine (zpow_ok_any (hx.below hB.below (Nat.le_refl _)) (by omega) (by omega) h3 HC.out (Nat.le_trans HD.out (by omega))).mono ?_
  rintro e w2 ⟨p4, n4, c4, rfl, hf4, hb2⟩
  have hlt2 := hB.lt
  replace hA00 := cell_on hA00 hb2
  replace hA01 := cell_on hA01 hb2
  replace hB := hB.on hb2
  clear hb2
  go_upto_region 5 with (fail)
  have hlb0 := hB.lt
  obtain ⟨W1, hW⟩ : ∃ W1 : World, W1 = (w2.alloc (.cells #[.bool (ng (zv b (val xs) ^ k)), .slice p4 n4 c4] 25)) := ⟨_, rfl⟩
  rw [← hW]
  have qhA00 : W1.cell? ⟨w.heap.size, 0, none⟩ = some (.bool b) := by rw [hW]; exact (cell_on hA00 (below_alloc _ _))
  have qhA01 : W1.cell? ⟨w.heap.size, 1, none⟩ = some (.slice p n c) := by rw [hW]; exact (cell_on hA01 (below_alloc _ _))
  have qhf4 : Fr w1.heap.size W1 p4 n4 c4 (lim (zv b (val xs) ^ k).natAbs) := by rw [hW]; exact (hf4.below (below_alloc _ _) (Nat.le_refl _))
  have hL00 : W1.cell? ⟨w2.heap.size, 0, none⟩ = some (.bool (ng (zv b (val xs) ^ k))) := by rw [hW]; exact (box_c0 (by simp))
  have hL01 : W1.cell? ⟨w2.heap.size, 1, none⟩ = some (.slice p4 n4 c4) := by rw [hW]; exact (box_c1 (by simp))
  have hR0 : Cel (w2.heap.size) W1 := by rw [hW]; exact (Cel.ofAlloc (by simp))
  have qhB : Box w (w2.heap.size) W1 := by rw [hW]; exact ⟨by (try simp) <;> omega, (hB.below.alloc (by (try simp) <;> omega) _)⟩
  clear hW hA00 hA01 hf4 hB
  have hA00 := qhA00
  have hA01 := qhA01
  have hf4 := qhf4
  have hB := qhB
  clear qhA00 qhA01 qhf4 qhB
  go_wp2_with fail
  refine (qpow_ok_any (hx.below hB.below (Nat.le_refl _)) (by omega) (by omega) HL.out HC.out (Nat.le_trans HD.out (by omega))).mono ?_
  rintro e w3 ⟨p5, n5, c5, rfl, hf5, hb3⟩
  have hlt3 := hB.lt
  replace hA00 := cell_on hA00 hb3
  replace hA01 := cell_on hA01 hb3
  replace hB := hB.on hb3
  replace hf4 := hf4.below hb3 (Nat.le_refl _)
  replace hL00 := cell_on hL00 hb3
  replace hL01 := cell_on hL01 hb3
  replace hR0 := hR0.on hb3
  clear hb3
  go_upto_region 8 with (fail)
  have hlb1 := hB.lt
  obtain ⟨Wb, hW⟩ : ∃ Wb : World, Wb = (w3.alloc (.cells #[.bool (ng (zv b (val xs) ^ k)), .slice p5 n5 c5] 25)) := ⟨_, rfl⟩
  rw [← hW]
  have qhA00 : Wb.cell? ⟨w.heap.size, 0, none⟩ = some (.bool b) := by rw [hW]; exact (cell_on hA00 (below_alloc _ _))
  have qhA01 : Wb.cell? ⟨w.heap.size, 1, none⟩ = some (.slice p n c) := by rw [hW]; exact (cell_on hA01 (below_alloc _ _))
  have qhL00 : Wb.cell? ⟨w2.heap.size, 0, none⟩ = some (.bool (ng (zv b (val xs) ^ k))) := by rw [hW]; exact (cell_on hL00 (below_alloc _ _))
  have qhL01 : Wb.cell? ⟨w2.heap.size, 1, none⟩ = some (.slice p4 n4 c4) := by rw [hW]; exact (cell_on hL01 (below_alloc _ _))
  have qhR0 : Cel (w2.heap.size) Wb := by rw [hW]; exact (hR0.on (below_alloc _ _))
  have qhf4 : Fr w1.heap.size Wb p4 n4 c4 (lim (zv b (val xs) ^ k).natAbs) := by rw [hW]; exact (hf4.below (below_alloc _ _) (Nat.le_refl _))
  have qhf5 : Fr W1.heap.size Wb p5 n5 c5 (lim (zv b (val xs) ^ k).natAbs) := by rw [hW]; exact (hf5.below (below_alloc _ _) (Nat.le_refl _))
  have hL10 : Wb.cell? ⟨w3.heap.size, 0, none⟩ = some (.bool (ng (zv b (val xs) ^ k))) := by rw [hW]; exact (box_c0 (by simp))
  have hL11 : Wb.cell? ⟨w3.heap.size, 1, none⟩ = some (.slice p5 n5 c5) := by rw [hW]; exact (box_c1 (by simp))
  have hR1 : Cel (w3.heap.size) Wb := by rw [hW]; exact (Cel.ofAlloc (by simp))
  have qhB : Box w (w3.heap.size) Wb := by rw [hW]; exact ⟨by (try simp) <;> omega, (hB.below.alloc (by (try simp) <;> omega) _)⟩
  clear hW hA00 hA01 hL00 hL01 hR0 hf4 hf5 hB
  have hA00 := qhA00
  have hA01 := qhA01
  have hL00 := qhL00
  have hL01 := qhL01
  have hR0 := qhR0
  have hf4 := qhf4
  have hf5 := qhf5
  have hB := qhB
  clear qhA00 qhA01 qhL00 qhL01 qhR0 qhf4 qhf5 qhB
  go_wp2_with fail
  refine (lsame_yes hf4.sl hf5.sl).mono ?_
  rintro e w4 ⟨rfl, hb4⟩
  clear hf4 hf5
  replace hA00 := cell_on hA00 hb4
  replace hA01 := cell_on hA01 hb4
  replace hB := hB.on hb4
  replace hL00 := cell_on hL00 hb4
  replace hL01 := cell_on hL01 hb4
  replace hR0 := hR0.on hb4
  replace hL10 := cell_on hL10 hb4
  replace hL11 := cell_on hL11 hb4
  replace hR1 := hR1.on hb4
  clear hb4
  go_wp2_with fail
  refine (zlives_any).mono ?_
  rintro e w5 ⟨rfl, hb5⟩
  replace hA00 := cell_on hA00 hb5
  replace hA01 := cell_on hA01 hb5
  replace hB := hB.on hb5
  replace hL00 := cell_on hL00 hb5
  replace hL01 := cell_on hL01 hb5
  replace hR0 := hR0.on hb5
  replace hL10 := cell_on hL10 hb5
  replace hL11 := cell_on hL11 hb5
  replace hR1 := hR1.on hb5
  clear hb5
  go_wp2_with fail
  go_ret
  exact ⟨rfl, hB.below⟩

set_option maxRecDepth 100000 in
set_option maxHeartbeats 8000000 in
theorem zpowers_k0 {p : Option Addr} {n c : Nat} {b : Bool} {xs : List Nat} {w : World} {k : Nat} (hx : Sl w p n c xs) (hn : n ≤ 1048576) (hk : k ≤ 9223372036854775807) (h1 : 1 < blen (val xs)) (h2 : k = 0) :
    Calls Try.prog 8 #[.agg #[.bool b, .slice p n c], .int .i64 (k : Int)] w (RetB w true) := by
  have HL : Hid (ll (val xs ^ k) ≤ 17592186044416) := by
    show _ ≤ _
    rw [h2, Nat.pow_zero]; exact Nat.le_trans (ll_le (n := 1) (k := 1) (by omega)) (by omega)
  have hbl := blen_len hx.lims
  rw [hx.len] at hbl
  have hz1 : decide ((1 : Int) < ((blen (val xs) : Nat) : Int)) = true := by simp <;> omega
  have hz4 : decide ((0 : Int) < (k : Int)) = false := by simp <;> omega
  have hz5 : decide (0 < k) = false := by simp <;> omega
  have hz6 : decide ((k : Int) < 0) = false := by simp <;> omega
  have HF : Hid (blen (val xs) * k ≤ 67108863) := by show _ ≤ _; rw [h2, Nat.mul_zero]; omega
  have HC := Lib.hid h1
  have HD := Lib.hid h2
  clear h2
  have hng0 : ng 0 = false := rfl
  go_enter Try.func8, Try.ntmps8
  go_wp2_with fail
  obtain ⟨W, hW⟩ : ∃ W : World, W = (w.alloc (.cells #[.bool b, .slice p n c] 25)) := ⟨_, rfl⟩
  rw [← hW]
  have hA00 : W.cell? ⟨w.heap.size, 0, none⟩ = some (.bool b) := by rw [hW]; exact (box_c0 (by simp))
  have hA01 : W.cell? ⟨w.heap.size, 1, none⟩ = some (.slice p n c) := by rw [hW]; exact (box_c1 (by simp))
  have hB : Box w (w.heap.size) W := by rw [hW]; exact ⟨by (try simp) <;> omega, ((Below.refl _ _).alloc (Nat.le_refl _) _)⟩
  clear hW
  go_wp2_with fail
  refine (rlen_any (hx.below hB.below (Nat.le_refl _)) (by omega)).mono ?_
  rintro e w1 ⟨rfl, hb1⟩
  replace hA00 := cell_on hA00 hb1
  replace hA01 := cell_on hA01 hb1
  replace hB := hB.on hb1
  clear hb1
  go_wp2_with fail
  refine (zpow_one_any (hx.below hB.below (Nat.le_refl _)) (by omega) (by omega) (Or.inl HD.out)).mono ?_
  rintro e w2 ⟨p4, n4, c4, rfl, hf4, hb2⟩
  have hlt2 := hB.lt
  replace hA00 := cell_on hA00 hb2
  replace hA01 := cell_on hA01 hb2
  replace hB := hB.on hb2
  clear hb2
  go_upto_region 5 with (fail)
  have hlb0 := hB.lt
  obtain ⟨W1, hW⟩ : ∃ W1 : World, W1 = (w2.alloc (.cells #[.bool (ng (zv b (val xs) ^ k)), .slice p4 n4 c4] 25)) := ⟨_, rfl⟩
  rw [← hW]
  have qhA00 : W1.cell? ⟨w.heap.size, 0, none⟩ = some (.bool b) := by rw [hW]; exact (cell_on hA00 (below_alloc _ _))
  have qhA01 : W1.cell? ⟨w.heap.size, 1, none⟩ = some (.slice p n c) := by rw [hW]; exact (cell_on hA01 (below_alloc _ _))
  have qhf4 : Fr w1.heap.size W1 p4 n4 c4 (lim (zv b (val xs) ^ k).natAbs) := by rw [hW]; exact (hf4.below (below_alloc _ _) (Nat.le_refl _))
  have hL00 : W1.cell? ⟨w2.heap.size, 0, none⟩ = some (.bool (ng (zv b (val xs) ^ k))) := by rw [hW]; exact (box_c0 (by simp))
  have hL01 : W1.cell? ⟨w2.heap.size, 1, none⟩ = some (.slice p4 n4 c4) := by rw [hW]; exact (box_c1 (by simp))
  have hR0 : Cel (w2.heap.size) W1 := by rw [hW]; exact (Cel.ofAlloc (by simp))
  have qhB : Box w (w2.heap.size) W1 := by rw [hW]; exact ⟨by (try simp) <;> omega, (hB.below.alloc (by (try simp) <;> omega) _)⟩
  clear hW hA00 hA01 hf4 hB
  have hA00 := qhA00
  have hA01 := qhA01
  have hf4 := qhf4
  have hB := qhB
  clear qhA00 qhA01 qhf4 qhB
  go_wp2_with fail
  refine (qpow_ok_any (hx.below hB.below (Nat.le_refl _)) (by omega) (by omega) HL.out HC.out HF.out).mono ?_
  rintro e w3 ⟨p5, n5, c5, rfl, hf5, hb3⟩
  have hlt3 := hB.lt
  replace hA00 := cell_on hA00 hb3
  replace hA01 := cell_on hA01 hb3
  replace hB := hB.on hb3
  replace hf4 := hf4.below hb3 (Nat.le_refl _)
  replace hL00 := cell_on hL00 hb3
  replace hL01 := cell_on hL01 hb3
  replace hR0 := hR0.on hb3
  clear hb3
  go_upto_region 8 with (fail)
  have hlb1 := hB.lt
  obtain ⟨Wb, hW⟩ : ∃ Wb : World, Wb = (w3.alloc (.cells #[.bool (ng (zv b (val xs) ^ k)), .slice p5 n5 c5] 25)) := ⟨_, rfl⟩
  rw [← hW]
  have qhA00 : Wb.cell? ⟨w.heap.size, 0, none⟩ = some (.bool b) := by rw [hW]; exact (cell_on hA00 (below_alloc _ _))
  have qhA01 : Wb.cell? ⟨w.heap.size, 1, none⟩ = some (.slice p n c) := by rw [hW]; exact (cell_on hA01 (below_alloc _ _))
  have qhL00 : Wb.cell? ⟨w2.heap.size, 0, none⟩ = some (.bool (ng (zv b (val xs) ^ k))) := by rw [hW]; exact (cell_on hL00 (below_alloc _ _))
  have qhL01 : Wb.cell? ⟨w2.heap.size, 1, none⟩ = some (.slice p4 n4 c4) := by rw [hW]; exact (cell_on hL01 (below_alloc _ _))
  have qhR0 : Cel (w2.heap.size) Wb := by rw [hW]; exact (hR0.on (below_alloc _ _))
  have qhf4 : Fr w1.heap.size Wb p4 n4 c4 (lim (zv b (val xs) ^ k).natAbs) := by rw [hW]; exact (hf4.below (below_alloc _ _) (Nat.le_refl _))
  have qhf5 : Fr W1.heap.size Wb p5 n5 c5 (lim (zv b (val xs) ^ k).natAbs) := by rw [hW]; exact (hf5.below (below_alloc _ _) (Nat.le_refl _))
  have hL10 : Wb.cell? ⟨w3.heap.size, 0, none⟩ = some (.bool (ng (zv b (val xs) ^ k))) := by rw [hW]; exact (box_c0 (by simp))
  have hL11 : Wb.cell? ⟨w3.heap.size, 1, none⟩ = some (.slice p5 n5 c5) := by rw [hW]; exact (box_c1 (by simp))
  have hR1 : Cel (w3.heap.size) Wb := by rw [hW]; exact (Cel.ofAlloc (by simp))
  have qhB : Box w (w3.heap.size) Wb := by rw [hW]; exact ⟨by (try simp) <;> omega, (hB.below.alloc (by (try simp) <;> omega) _)⟩
  clear hW hA00 hA01 hL00 hL01 hR0 hf4 hf5 hB
  have hA00 := qhA00
  have hA01 := qhA01
  have hL00 := qhL00
  have hL01 := qhL01
  have hR0 := qhR0
  have hf4 := qhf4
  have hf5 := qhf5
  have hB := qhB
  clear qhA00 qhA01 qhL00 qhL01 qhR0 qhf4 qhf5 qhB
  go_wp2_with fail
  refine (lsame_yes hf4.sl hf5.sl).mono ?_
  rintro e w4 ⟨rfl, hb4⟩
  clear hf4 hf5
  replace hA00 := cell_on hA00 hb4
  replace hA01 := cell_on hA01 hb4
  replace hB := hB.on hb4
  replace hL00 := cell_on hL00 hb4
  replace hL01 := cell_on hL01 hb4
  replace hR0 := hR0.on hb4
  replace hL10 := cell_on hL10 hb4
  replace hL11 := cell_on hL11 hb4
  replace hR1 := hR1.on hb4
  clear hb4
  go_wp2_with fail
  refine (zlives_any).mono ?_
  rintro e w5 ⟨rfl, hb5⟩
  replace hA00 := cell_on hA00 hb5
  replace hA01 := cell_on hA01 hb5
  replace hB := hB.on hb5
  replace hL00 := cell_on hL00 hb5
  replace hL01 := cell_on hL01 hb5
  replace hR0 := hR0.on hb5
  replace hL10 := cell_on hL10 hb5
  replace hL11 := cell_on hL11 hb5
  replace hR1 := hR1.on hb5
  clear hb5
  go_wp2_with fail
  go_ret
  exact ⟨rfl, hB.below⟩

set_option maxRecDepth 100000 in
set_option maxHeartbeats 8000000 in
theorem zpowers_one {p : Option Addr} {n c : Nat} {b : Bool} {xs : List Nat} {w : World} {k : Nat} (hx : Sl w p n c xs) (hn : n ≤ 1048576) (hk : k ≤ 9223372036854775807) (h1 : blen (val xs) ≤ 1) (h2 : k = 0 ∨ blen (val xs) = 1) :
    Calls Try.prog 8 #[.agg #[.bool b, .slice p n c], .int .i64 (k : Int)] w (RetB w true) := by
  have HL : Hid (ll (val xs ^ k) ≤ 17592186044416) := by
    show _ ≤ _
    rcases Nat.eq_zero_or_pos k with h | h
    · rw [h, Nat.pow_zero]; exact Nat.le_trans (ll_le (n := 1) (k := 1) (by omega)) (by omega)
    · rw [pow_tiny h1 h]; have h9 := val_ll hx.lims; rw [hx.len] at h9; omega
  have hz2 : decide ((1 : Int) < ((blen (val xs) : Nat) : Int)) = false := by simp <;> omega
  have hz6 : decide ((k : Int) < 0) = false := by simp <;> omega
  have HC := Lib.hid h1
  have HD := Lib.hid h2
  clear h2
  have hng0 : ng 0 = false := rfl
  go_enter Try.func8, Try.ntmps8
  go_wp2_with fail
  obtain ⟨W, hW⟩ : ∃ W : World, W = (w.alloc (.cells #[.bool b, .slice p n c] 25)) := ⟨_, rfl⟩
  rw [← hW]
  have hA00 : W.cell? ⟨w.heap.size, 0, none⟩ = some (.bool b) := by rw [hW]; exact (box_c0 (by simp))
  have hA01 : W.cell? ⟨w.heap.size, 1, none⟩ = some (.slice p n c) := by rw [hW]; exact (box_c1 (by simp))
  have hB : Box w (w.heap.size) W := by rw [hW]; exact ⟨by (try simp) <;> omega, ((Below.refl _ _).alloc (Nat.le_refl _) _)⟩
  clear hW
  go_wp2_with fail
  refine (rlen_any (hx.below hB.below (Nat.le_refl _)) (by omega)).mono ?_
  rintro e w1 ⟨rfl, hb1⟩
  replace hA00 := cell_on hA00 hb1
  replace hA01 := cell_on hA01 hb1
  replace hB := hB.on hb1
  clear hb1
  go_wp2_with fail
  refine (zpow_one_any (hx.below hB.below (Nat.le_refl _)) (by omega) (by omega) HD.out).mono ?_
  rintro e w2 ⟨p4, n4, c4, rfl, hf4, hb2⟩
  have hlt2 := hB.lt
  replace hA00 := cell_on hA00 hb2
  replace hA01 := cell_on hA01 hb2
  replace hB := hB.on hb2
  clear hb2
  go_upto_region 5 with (fail)
  have hlb0 := hB.lt
  obtain ⟨W1, hW⟩ : ∃ W1 : World, W1 = (w2.alloc (.cells #[.bool (ng (zv b (val xs) ^ k)), .slice p4 n4 c4] 25)) := ⟨_, rfl⟩
  rw [← hW]
  have qhA00 : W1.cell? ⟨w.heap.size, 0, none⟩ = some (.bool b) := by rw [hW]; exact (cell_on hA00 (below_alloc _ _))
  have qhA01 : W1.cell? ⟨w.heap.size, 1, none⟩ = some (.slice p n c) := by rw [hW]; exact (cell_on hA01 (below_alloc _ _))
  have qhf4 : Fr w1.heap.size W1 p4 n4 c4 (lim (zv b (val xs) ^ k).natAbs) := by rw [hW]; exact (hf4.below (below_alloc _ _) (Nat.le_refl _))
  have hL00 : W1.cell? ⟨w2.heap.size, 0, none⟩ = some (.bool (ng (zv b (val xs) ^ k))) := by rw [hW]; exact (box_c0 (by simp))
  have hL01 : W1.cell? ⟨w2.heap.size, 1, none⟩ = some (.slice p4 n4 c4) := by rw [hW]; exact (box_c1 (by simp))
  have hR0 : Cel (w2.heap.size) W1 := by rw [hW]; exact (Cel.ofAlloc (by simp))
  have qhB : Box w (w2.heap.size) W1 := by rw [hW]; exact ⟨by (try simp) <;> omega, (hB.below.alloc (by (try simp) <;> omega) _)⟩
  clear hW hA00 hA01 hf4 hB
  have hA00 := qhA00
  have hA01 := qhA01
  have hf4 := qhf4
  have hB := qhB
  clear qhA00 qhA01 qhf4 qhB
  go_wp2_with fail
  refine (qpow_small_any (hx.below hB.below (Nat.le_refl _)) (by omega) (by omega) HL.out HC.out).mono ?_
  rintro e w3 ⟨p5, n5, c5, rfl, hf5, hb3⟩
  have hlt3 := hB.lt
  replace hA00 := cell_on hA00 hb3
  replace hA01 := cell_on hA01 hb3
  replace hB := hB.on hb3
  replace hf4 := hf4.below hb3 (Nat.le_refl _)
  replace hL00 := cell_on hL00 hb3
  replace hL01 := cell_on hL01 hb3
  replace hR0 := hR0.on hb3
  clear hb3
  go_upto_region 8 with (fail)
  have hlb1 := hB.lt
  obtain ⟨Wb, hW⟩ : ∃ Wb : World, Wb = (w3.alloc (.cells #[.bool (ng (zv b (val xs) ^ k)), .slice p5 n5 c5] 25)) := ⟨_, rfl⟩
  rw [← hW]
  have qhA00 : Wb.cell? ⟨w.heap.size, 0, none⟩ = some (.bool b) := by rw [hW]; exact (cell_on hA00 (below_alloc _ _))
  have qhA01 : Wb.cell? ⟨w.heap.size, 1, none⟩ = some (.slice p n c) := by rw [hW]; exact (cell_on hA01 (below_alloc _ _))
  have qhL00 : Wb.cell? ⟨w2.heap.size, 0, none⟩ = some (.bool (ng (zv b (val xs) ^ k))) := by rw [hW]; exact (cell_on hL00 (below_alloc _ _))
  have qhL01 : Wb.cell? ⟨w2.heap.size, 1, none⟩ = some (.slice p4 n4 c4) := by rw [hW]; exact (cell_on hL01 (below_alloc _ _))
  have qhR0 : Cel (w2.heap.size) Wb := by rw [hW]; exact (hR0.on (below_alloc _ _))
  have qhf4 : Fr w1.heap.size Wb p4 n4 c4 (lim (zv b (val xs) ^ k).natAbs) := by rw [hW]; exact (hf4.below (below_alloc _ _) (Nat.le_refl _))
  have qhf5 : Fr W1.heap.size Wb p5 n5 c5 (lim (zv b (val xs) ^ k).natAbs) := by rw [hW]; exact (hf5.below (below_alloc _ _) (Nat.le_refl _))
  have hL10 : Wb.cell? ⟨w3.heap.size, 0, none⟩ = some (.bool (ng (zv b (val xs) ^ k))) := by rw [hW]; exact (box_c0 (by simp))
  have hL11 : Wb.cell? ⟨w3.heap.size, 1, none⟩ = some (.slice p5 n5 c5) := by rw [hW]; exact (box_c1 (by simp))
  have hR1 : Cel (w3.heap.size) Wb := by rw [hW]; exact (Cel.ofAlloc (by simp))
  have qhB : Box w (w3.heap.size) Wb := by rw [hW]; exact ⟨by (try simp) <;> omega, (hB.below.alloc (by (try simp) <;> omega) _)⟩
  clear hW hA00 hA01 hL00 hL01 hR0 hf4 hf5 hB
  have hA00 := qhA00
  have hA01 := qhA01
  have hL00 := qhL00
  have hL01 := qhL01
  have hR0 := qhR0
  have hf4 := qhf4
  have hf5 := qhf5
  have hB := qhB
  clear qhA00 qhA01 qhL00 qhL01 qhR0 qhf4 qhf5 qhB
  go_wp2_with fail
  refine (lsame_yes hf4.sl hf5.sl).mono ?_
  rintro e w4 ⟨rfl, hb4⟩
  clear hf4 hf5
  replace hA00 := cell_on hA00 hb4
  replace hA01 := cell_on hA01 hb4
  replace hB := hB.on hb4
  replace hL00 := cell_on hL00 hb4
  replace hL01 := cell_on hL01 hb4
  replace hR0 := hR0.on hb4
  replace hL10 := cell_on hL10 hb4
  replace hL11 := cell_on hL11 hb4
  replace hR1 := hR1.on hb4
  clear hb4
  go_wp2_with fail
  refine (zlives_any).mono ?_
  rintro e w5 ⟨rfl, hb5⟩
  replace hA00 := cell_on hA00 hb5
  replace hA01 := cell_on hA01 hb5
  replace hB := hB.on hb5
  replace hL00 := cell_on hL00 hb5
  replace hL01 := cell_on hL01 hb5
  replace hR0 := hR0.on hb5
  replace hL10 := cell_on hL10 hb5
  replace hL11 := cell_on hL11 hb5
  replace hR1 := hR1.on hb5
  clear hb5
  go_wp2_with fail
  go_ret
  exact ⟨rfl, hB.below⟩

set_option maxRecDepth 100000 in
set_option maxHeartbeats 8000000 in
theorem zpowers_nil {p : Option Addr} {n c : Nat} {b : Bool} {xs : List Nat} {w : World} {k : Nat} (hx : Sl w p n c xs) (hn : n ≤ 1048576) (hk : k ≤ 9223372036854775807) (h1 : blen (val xs) ≤ 1) (h2 : val xs = 0) (h3 : 0 < k) :
    Calls Try.prog 8 #[.agg #[.bool b, .slice p n c], .int .i64 (k : Int)] w (RetB w true) := by
  have HL : Hid (ll (val xs ^ k) ≤ 17592186044416) := by
    show _ ≤ _
    rcases Nat.eq_zero_or_pos k with h | h
    · rw [h, Nat.pow_zero]; exact Nat.le_trans (ll_le (n := 1) (k := 1) (by omega)) (by omega)
    · rw [pow_tiny h1 h]; have h9 := val_ll hx.lims; rw [hx.len] at h9; omega
  have hz2 : decide ((1 : Int) < ((blen (val xs) : Nat) : Int)) = false := by simp <;> omega
  have hz6 : decide ((k : Int) < 0) = false := by simp <;> omega
  have HC := Lib.hid h1
  have HD := Lib.hid h2
  clear h2
  have hng0 : ng 0 = false := rfl
  go_enter Try.func8, Try.ntmps8
  go_wp2_with fail
  obtain ⟨W, hW⟩ : ∃ W : World, W = (w.alloc (.cells #[.bool b, .slice p n c] 25)) := ⟨_, rfl⟩
  rw [← hW]
  have hA00 : W.cell? ⟨w.heap.size, 0, none⟩ = some (.bool b) := by rw [hW]; exact (box_c0 (by simp))
  have hA01 : W.cell? ⟨w.heap.size, 1, none⟩ = some (.slice p n c) := by rw [hW]; exact (box_c1 (by simp))
  have hB : Box w (w.heap.size) W := by rw [hW]; exact ⟨by (try simp) <;> omega, ((Below.refl _ _).alloc (Nat.le_refl _) _)⟩
  clear hW
  go_wp2_with fail
  refine (rlen_any (hx.below hB.below (Nat.le_refl _)) (by omega)).mono ?_
  rintro e w1 ⟨rfl, hb1⟩
  replace hA00 := cell_on hA00 hb1
  replace hA01 := cell_on hA01 hb1
  replace hB := hB.on hb1
  clear hb1
  go_wp2_with fail
  refine (zpow_nil_any (hx.below hB.below (Nat.le_refl _)) (by omega) (by omega) h3 HD.out).mono ?_
  rintro e w2 ⟨p4, n4, c4, rfl, hf4, hb2⟩
  have hlt2 := hB.lt
  replace hA00 := cell_on hA00 hb2
  replace hA01 := cell_on hA01 hb2
  replace hB := hB.on hb2
  clear hb2
  go_upto_region 5 with (fail)
  have hlb0 := hB.lt
  obtain ⟨W1, hW⟩ : ∃ W1 : World, W1 = (w2.alloc (.cells #[.bool (ng (zv b (val xs) ^ k)), .slice p4 n4 c4] 25)) := ⟨_, rfl⟩
  rw [← hW]
  have qhA00 : W1.cell? ⟨w.heap.size, 0, none⟩ = some (.bool b) := by rw [hW]; exact (cell_on hA00 (below_alloc _ _))
  have qhA01 : W1.cell? ⟨w.heap.size, 1, none⟩ = some (.slice p n c) := by rw [hW]; exact (cell_on hA01 (below_alloc _ _))
  have qhf4 : Fr w1.heap.size W1 p4 n4 c4 (lim (zv b (val xs) ^ k).natAbs) := by rw [hW]; exact (hf4.below (below_alloc _ _) (Nat.le_refl _))
  have hL00 : W1.cell? ⟨w2.heap.size, 0, none⟩ = some (.bool (ng (zv b (val xs) ^ k))) := by rw [hW]; exact (box_c0 (by simp))
  have hL01 : W1.cell? ⟨w2.heap.size, 1, none⟩ = some (.slice p4 n4 c4) := by rw [hW]; exact (box_c1 (by simp))
  have hR0 : Cel (w2.heap.size) W1 := by rw [hW]; exact (Cel.ofAlloc (by simp))
  have qhB : Box w (w2.heap.size) W1 := by rw [hW]; exact ⟨by (try simp) <;> omega, (hB.below.alloc (by (try simp) <;> omega) _)⟩
  clear hW hA00 hA01 hf4 hB
  have hA00 := qhA00
  have hA01 := qhA01
  have hf4 := qhf4
  have hB := qhB
  clear qhA00 qhA01 qhf4 qhB
  go_wp2_with fail
  refine (qpow_small_any (hx.below hB.below (Nat.le_refl _)) (by omega) (by omega) HL.out HC.out).mono ?_
  rintro e w3 ⟨p5, n5, c5, rfl, hf5, hb3⟩
  have hlt3 := hB.lt
  replace hA00 := cell_on hA00 hb3
  replace hA01 := cell_on hA01 hb3
  replace hB := hB.on hb3
  replace hf4 := hf4.below hb3 (Nat.le_refl _)
  replace hL00 := cell_on hL00 hb3
  replace hL01 := cell_on hL01 hb3
  replace hR0 := hR0.on hb3
  clear hb3
  go_upto_region 8 with (fail)
  have hlb1 := hB.lt
  obtain ⟨Wb, hW⟩ : ∃ Wb : World, Wb = (w3.alloc (.cells #[.bool (ng (zv b (val xs) ^ k)), .slice p5 n5 c5] 25)) := ⟨_, rfl⟩
  rw [← hW]
  have qhA00 : Wb.cell? ⟨w.heap.size, 0, none⟩ = some (.bool b) := by rw [hW]; exact (cell_on hA00 (below_alloc _ _))
  have qhA01 : Wb.cell? ⟨w.heap.size, 1, none⟩ = some (.slice p n c) := by rw [hW]; exact (cell_on hA01 (below_alloc _ _))
  have qhL00 : Wb.cell? ⟨w2.heap.size, 0, none⟩ = some (.bool (ng (zv b (val xs) ^ k))) := by rw [hW]; exact (cell_on hL00 (below_alloc _ _))
  have qhL01 : Wb.cell? ⟨w2.heap.size, 1, none⟩ = some (.slice p4 n4 c4) := by rw [hW]; exact (cell_on hL01 (below_alloc _ _))
  have qhR0 : Cel (w2.heap.size) Wb := by rw [hW]; exact (hR0.on (below_alloc _ _))
  have qhf4 : Fr w1.heap.size Wb p4 n4 c4 (lim (zv b (val xs) ^ k).natAbs) := by rw [hW]; exact (hf4.below (below_alloc _ _) (Nat.le_refl _))
  have qhf5 : Fr W1.heap.size Wb p5 n5 c5 (lim (zv b (val xs) ^ k).natAbs) := by rw [hW]; exact (hf5.below (below_alloc _ _) (Nat.le_refl _))
  have hL10 : Wb.cell? ⟨w3.heap.size, 0, none⟩ = some (.bool (ng (zv b (val xs) ^ k))) := by rw [hW]; exact (box_c0 (by simp))
  have hL11 : Wb.cell? ⟨w3.heap.size, 1, none⟩ = some (.slice p5 n5 c5) := by rw [hW]; exact (box_c1 (by simp))
  have hR1 : Cel (w3.heap.size) Wb := by rw [hW]; exact (Cel.ofAlloc (by simp))
  have qhB : Box w (w3.heap.size) Wb := by rw [hW]; exact ⟨by (try simp) <;> omega, (hB.below.alloc (by (try simp) <;> omega) _)⟩
  clear hW hA00 hA01 hL00 hL01 hR0 hf4 hf5 hB
  have hA00 := qhA00
  have hA01 := qhA01
  have hL00 := qhL00
  have hL01 := qhL01
  have hR0 := qhR0
  have hf4 := qhf4
  have hf5 := qhf5
  have hB := qhB
  clear qhA00 qhA01 qhL00 qhL01 qhR0 qhf4 qhf5 qhB
  go_wp2_with fail
  refine (lsame_yes hf4.sl hf5.sl).mono ?_
  rintro e w4 ⟨rfl, hb4⟩
  clear hf4 hf5
  replace hA00 := cell_on hA00 hb4
  replace hA01 := cell_on hA01 hb4
  replace hB := hB.on hb4
  replace hL00 := cell_on hL00 hb4
  replace hL01 := cell_on hL01 hb4
  replace hR0 := hR0.on hb4
  replace hL10 := cell_on hL10 hb4
  replace hL11 := cell_on hL11 hb4
  replace hR1 := hR1.on hb4
  clear hb4
  go_wp2_with fail
  refine (zlives_any).mono ?_
  rintro e w5 ⟨rfl, hb5⟩
  replace hA00 := cell_on hA00 hb5
  replace hA01 := cell_on hA01 hb5
  replace hB := hB.on hb5
  replace hL00 := cell_on hL00 hb5
  replace hL01 := cell_on hL01 hb5
  replace hR0 := hR0.on hb5
  replace hL10 := cell_on hL10 hb5
  replace hL11 := cell_on hL11 hb5
  replace hR1 := hR1.on hb5
  clear hb5
  go_wp2_with fail
  go_ret
  exact ⟨rfl, hB.below⟩

/-- The law, of any number of at most so many limbs. -/
theorem zpowers_any {p : Option Addr} {n c : Nat} {b : Bool} {xs : List Nat} {k : Int} {w : World} (hx : Sl w p n c xs) (hn : n ≤ 1048576) (hk : k ≤ 9223372036854775807) :
    Calls Try.prog 8 #[.agg #[.bool b, .slice p n c], .int .i64 k] w (RetB w true) := by
  rcases Int.lt_or_le k 0 with h | h
  · rcases Nat.lt_or_ge 1 (blen (val xs)) with h1 | h1
    · exact zpowers_negA hx hn hk h h1
    · exact zpowers_negB hx hn hk h h1
  · obtain ⟨m, rfl⟩ := Int.eq_ofNat_of_zero_le h
    have hm : m ≤ 9223372036854775807 := by omega
    rcases Nat.lt_or_ge 1 (blen (val xs)) with h1 | h1
    · rcases Nat.eq_zero_or_pos m with h0 | h0
      · exact zpowers_k0 hx hn hm h1 h0
      · have hbig : 67108864 ≤ m → 67108864 ≤ (blen (val xs) - 1) * m := by
          intro hM
          have : 1 * m ≤ (blen (val xs) - 1) * m := Nat.mul_le_mul_right _ (by omega)
          omega
        rcases Nat.lt_or_ge m 67108864 with h4 | h4
        · rcases Nat.lt_or_ge 40000 (blen (val xs) * m) with h5 | h5
          · rcases Nat.lt_or_ge ((blen (val xs) - 1) * m) 67108864 with h6 | h6
            · exact zpowers_skip hx hn hm h1 h0 h4 h5 h6
            · exact zpowers_big2 hx hn hm h1 h0 h4 h5 h6
          · exact zpowers_ok hx hn hm h1 h0 h4 h5
        · exact zpowers_big hx hn hm h1 h4 h0 (Or.inr (hbig h4))
    · by_cases h0 : val xs = 0
      · rcases Nat.eq_zero_or_pos m with h2 | h2
        · exact zpowers_one hx hn hm h1 (Or.inl h2)
        · exact zpowers_nil hx hn hm h1 h0 h2
      · have := blen_pos h0
        exact zpowers_one hx hn hm h1 (Or.inr (by omega))

end Go.Proofs.Ytlnilkghbbbhbaa
