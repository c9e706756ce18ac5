/-
  Contracts and lemmas, joined in one text.
-/
import Derived.Test.YtoinfkimlhhmpaaZG
import Derived.Test.YtoinfkimlhhmpaaBC
import Derived.Test.YtoinfkimlhhmpaaBF
set_option linter.unusedVariables false
set_option linter.unusedSimpArgs false

/-
  The walks of zint: Near by nothing, Pow.
-/
namespace Go.Proofs.Ytoinfkimlhhmpaa
open Go.RowKit

theorem ng_nn (n : Nat) : ng ((n : Nat) : Int) = false := ng_nat n

set_option maxHeartbeats 2000000 in
theorem zpow_neg {p : Option Addr} {n c : Nat} {b : Bool} {w : World} {k : Int} (hk : k < 0) :
    Calls Try.prog 86 #[.agg #[.bool b, .slice p n c], .int .i64 k] w (RetZE w 0 1) := by
  go_enter Try.func86, Try.ntmps86
  go_wp2_with fail
  obtain ⟨W, hW⟩ : ∃ W : World, W = ((w.alloc (.cells #[.bool b, .slice p n c] 25)).alloc (.cells #[.bool false, .slice none 0 0] 25)) := ⟨_, rfl⟩
  rw [← hW]
  have hA00 : W.cell? ⟨w.heap.size, 0, none⟩ = some (.bool b) := by rw [hW]; exact (cell_on (box_c0 (by simp)) (below_alloc _ _))
  have hA01 : W.cell? ⟨w.heap.size, 1, none⟩ = some (.slice p n c) := by rw [hW]; exact (cell_on (box_c1 (by simp)) (below_alloc _ _))
  have hR0 : Cel (w.heap.size + 1) W := by rw [hW]; exact (Cel.ofAlloc (by simp))
  have hB : Box w (w.heap.size + 1) W := by rw [hW]; exact ⟨by (try simp) <;> omega, (((Below.refl _ _).alloc (Nat.le_refl _) _).alloc (by (try simp) <;> omega) _)⟩
  clear hW
  go_wp2_with fail
  refine (pow_neg hk).mono ?_
  rintro e w1 ⟨p4, n4, c4, rfl, hf4, hb1⟩
  have hlt1 := hB.lt
  replace hA00 := cell_on hA00 hb1
  replace hA01 := cell_on hA01 hb1
  replace hR0 := hR0.on hb1
  replace hB := hB.on hb1
  clear hb1
  clear hf4
  obtain ⟨⟨u0, hu0⟩, ⟨u1, hu1⟩, hug0, hug1⟩ := hR0
  go_wp2_with fail
  refine bodyPost_ret (v := .tuple #[.agg #[.bool false, .slice none 0 0], .int .i64 1]) (by simp [results, Try.results86, go_sem, hu0, hu1]) rfl ?_
  exact ⟨_, _, _, rfl, Fr.nil _ _, ((hB.set (by omega) _ _).set (by omega) _ _).below⟩

set_option maxHeartbeats 2000000 in
theorem zpow_big {p : Option Addr} {n c : Nat} {b : Bool} {xs : List Nat} {w : World} {k : Nat} (hx : Sl w p n c xs) (hn : n ≤ 1048576000) (hk : k ≤ 9223372036854775807) (h1 : 1 < blen (val xs)) (h2 : 67108864 < k ∨ 67108864 ≤ (blen (val xs) - 1) * k) :
    Calls Try.prog 86 #[.agg #[.bool b, .slice p n c], .int .i64 (k : Int)] w (RetZE w 0 4) := by
  have HC := Lib.hid h1
  have HD := Lib.hid h2
  clear h1 h2
  go_enter Try.func86, Try.ntmps86
  go_wp2_with fail
  obtain ⟨W, hW⟩ : ∃ W : World, W = ((w.alloc (.cells #[.bool b, .slice p n c] 25)).alloc (.cells #[.bool false, .slice none 0 0] 25)) := ⟨_, rfl⟩
  rw [← hW]
  have hA00 : W.cell? ⟨w.heap.size, 0, none⟩ = some (.bool b) := by rw [hW]; exact (cell_on (box_c0 (by simp)) (below_alloc _ _))
  have hA01 : W.cell? ⟨w.heap.size, 1, none⟩ = some (.slice p n c) := by rw [hW]; exact (cell_on (box_c1 (by simp)) (below_alloc _ _))
  have hR0 : Cel (w.heap.size + 1) W := by rw [hW]; exact (Cel.ofAlloc (by simp))
  have hB : Box w (w.heap.size + 1) W := by rw [hW]; exact ⟨by (try simp) <;> omega, (((Below.refl _ _).alloc (Nat.le_refl _) _).alloc (by (try simp) <;> omega) _)⟩
  clear hW
  go_wp2_with fail
  refine (pow_big (hx.below hB.below (Nat.le_refl _)) hn hk HC.out HD.out).mono ?_
  rintro e w1 ⟨p4, n4, c4, rfl, hf4, hb1⟩
  have hlt1 := hB.lt
  replace hA00 := cell_on hA00 hb1
  replace hA01 := cell_on hA01 hb1
  replace hR0 := hR0.on hb1
  replace hB := hB.on hb1
  clear hb1
  clear hf4
  obtain ⟨⟨u0, hu0⟩, ⟨u1, hu1⟩, hug0, hug1⟩ := hR0
  go_wp2_with fail
  refine bodyPost_ret (v := .tuple #[.agg #[.bool false, .slice none 0 0], .int .i64 4]) (by simp [results, Try.results86, go_sem, hu0, hu1]) rfl ?_
  exact ⟨_, _, _, rfl, Fr.nil _ _, ((hB.set (by omega) _ _).set (by omega) _ _).below⟩

theorem zv_pow_false (n k : Nat) : zv false (n ^ k) = zv false n ^ k := by rw [zv_false, zv_false, Int.natCast_pow]
theorem zv_pow_even {n k : Nat} (h : k % 2 = 0) : zv false (n ^ k) = zv true n ^ k := by
  obtain ⟨j, rfl⟩ : ∃ j, k = 2 * j := ⟨k / 2, by omega⟩
  rw [zv_false, zv_true, Int.natCast_pow, Int.pow_mul, Int.pow_mul]
  congr 1
  rw [Int.pow_succ, Int.pow_succ, Int.pow_zero, Int.pow_succ, Int.pow_succ, Int.pow_zero, Int.one_mul, Int.one_mul, Int.neg_mul_neg]
theorem zv_pow_odd {n k : Nat} (h : k % 2 = 1) : zv true (n ^ k) = zv true n ^ k := by
  obtain ⟨j, rfl⟩ : ∃ j, k = j + 1 := ⟨k - 1, by omega⟩
  have h1 := zv_pow_even (n := n) (k := j) (by omega)
  rw [Int.pow_succ, ← h1, zv_false, zv_true, zv_true, Nat.pow_succ, Int.natCast_mul, Int.mul_neg]

set_option maxHeartbeats 2000000 in
theorem zpow_ok_p {p : Option Addr} {n c : Nat} {xs : List Nat} {w : World} {k : Nat} (hx : Sl w p n c xs) (hn : n ≤ 1048576000) (hk : k ≤ 9223372036854775807) (hk0 : 0 < k) (h1 : 1 < blen (val xs)) (h2 : blen (val xs) * k ≤ 67108864) :
    Calls Try.prog 86 #[.agg #[.bool false, .slice p n c], .int .i64 (k : Int)] w (RetZE w (zv false (val xs) ^ k) 0) := by
  have _ := hk
  have HZ : Hid (zv false (val xs ^ k) = zv false (val xs) ^ k) := by
    show _ = _
    first | exact zv_pow_false _ _ | exact zv_pow_even he | exact zv_pow_odd he
  have HC := Lib.hid h1
  have HD := Lib.hid h2
  clear h1 h2
  go_enter Try.func86, Try.ntmps86
  go_wp2_with fail
  obtain ⟨W, hW⟩ : ∃ W : World, W = ((w.alloc (.cells #[.bool false, .slice p n c] 25)).alloc (.cells #[.bool false, .slice none 0 0] 25)) := ⟨_, rfl⟩
  rw [← hW]
  have hA00 : W.cell? ⟨w.heap.size, 0, none⟩ = some (.bool false) := by rw [hW]; exact (cell_on (box_c0 (by simp)) (below_alloc _ _))
  have hA01 : W.cell? ⟨w.heap.size, 1, none⟩ = some (.slice p n c) := by rw [hW]; exact (cell_on (box_c1 (by simp)) (below_alloc _ _))
  have hR0 : Cel (w.heap.size + 1) W := by rw [hW]; exact (Cel.ofAlloc (by simp))
  have hB : Box w (w.heap.size + 1) W := by rw [hW]; exact ⟨by (try simp) <;> omega, (((Below.refl _ _).alloc (Nat.le_refl _) _).alloc (by (try simp) <;> omega) _)⟩
  clear hW
  go_wp2_with fail
  refine (pow_ok (hx.below hB.below (Nat.le_refl _)) hn hk0 HC.out HD.out).mono ?_
  rintro e w1 ⟨p4, n4, c4, rfl, hf4, hb1⟩
  have hlt1 := hB.lt
  replace hA00 := cell_on hA00 hb1
  replace hA01 := cell_on hA01 hb1
  replace hR0 := hR0.on hb1
  replace hB := hB.on hb1
  clear hb1
  go_wp2_with fail
  refine (make1_any).mono ?_
  rintro e w2 ⟨rfl, hb2⟩
  replace hA00 := cell_on hA00 hb2
  replace hA01 := cell_on hA01 hb2
  replace hR0 := hR0.on hb2
  replace hB := hB.on hb2
  replace hf4 := hf4.below hb2 (Nat.le_refl _)
  clear hb2
  obtain ⟨⟨u0, hu0⟩, ⟨u1, hu1⟩, hug0, hug1⟩ := hR0
  go_wp2_with fail
  refine bodyPost_ret (v := .tuple #[.agg #[.bool (false && decide (0 < n4)), .slice p4 n4 c4], .int .i64 0]) (by simp [results, Try.results86, go_sem, hu0, hu1]) rfl ?_
  exact ⟨_, _, _, by rw [mk_ng hf4.sl.lln, HZ.out], by rw [← HZ.out, natAbs_zv]; exact hf4.setBox (by omega) (by omega), ((hB.set (by omega) _ _).set (by omega) _ _).below⟩

set_option maxHeartbeats 2000000 in
theorem zpow_ok_e {p : Option Addr} {n c : Nat} {xs : List Nat} {w : World} {k : Nat} (hx : Sl w p n c xs) (hn : n ≤ 1048576000) (hk : k ≤ 9223372036854775807) (hk0 : 0 < k) (h1 : 1 < blen (val xs)) (h2 : blen (val xs) * k ≤ 67108864) (he : k % 2 = 0) :
    Calls Try.prog 86 #[.agg #[.bool true, .slice p n c], .int .i64 (k : Int)] w (RetZE w (zv true (val xs) ^ k) 0) := by
  have _ := hk
  have HZ : Hid (zv false (val xs ^ k) = zv true (val xs) ^ k) := by
    show _ = _
    first | exact zv_pow_false _ _ | exact zv_pow_even he | exact zv_pow_odd he
  have hz : ((k : Int) % 2 == 1) = false := by simp; omega
  clear he
  have HC := Lib.hid h1
  have HD := Lib.hid h2
  clear h1 h2
  go_enter Try.func86, Try.ntmps86
  go_wp2_with fail
  obtain ⟨W, hW⟩ : ∃ W : World, W = ((w.alloc (.cells #[.bool true, .slice p n c] 25)).alloc (.cells #[.bool false, .slice none 0 0] 25)) := ⟨_, rfl⟩
  rw [← hW]
  have hA00 : W.cell? ⟨w.heap.size, 0, none⟩ = some (.bool true) := by rw [hW]; exact (cell_on (box_c0 (by simp)) (below_alloc _ _))
  have hA01 : W.cell? ⟨w.heap.size, 1, none⟩ = some (.slice p n c) := by rw [hW]; exact (cell_on (box_c1 (by simp)) (below_alloc _ _))
  have hR0 : Cel (w.heap.size + 1) W := by rw [hW]; exact (Cel.ofAlloc (by simp))
  have hB : Box w (w.heap.size + 1) W := by rw [hW]; exact ⟨by (try simp) <;> omega, (((Below.refl _ _).alloc (Nat.le_refl _) _).alloc (by (try simp) <;> omega) _)⟩
  clear hW
  go_wp2_with fail
  refine (pow_ok (hx.below hB.below (Nat.le_refl _)) hn hk0 HC.out HD.out).mono ?_
  rintro e w1 ⟨p4, n4, c4, rfl, hf4, hb1⟩
  have hlt1 := hB.lt
  replace hA00 := cell_on hA00 hb1
  replace hA01 := cell_on hA01 hb1
  replace hR0 := hR0.on hb1
  replace hB := hB.on hb1
  clear hb1
  go_wp2_with fail
  refine (make1_any).mono ?_
  rintro e w2 ⟨rfl, hb2⟩
  replace hA00 := cell_on hA00 hb2
  replace hA01 := cell_on hA01 hb2
  replace hR0 := hR0.on hb2
  replace hB := hB.on hb2
  replace hf4 := hf4.below hb2 (Nat.le_refl _)
  clear hb2
  obtain ⟨⟨u0, hu0⟩, ⟨u1, hu1⟩, hug0, hug1⟩ := hR0
  go_wp2_with fail
  refine bodyPost_ret (v := .tuple #[.agg #[.bool (false && decide (0 < n4)), .slice p4 n4 c4], .int .i64 0]) (by simp [results, Try.results86, go_sem, hu0, hu1]) rfl ?_
  exact ⟨_, _, _, by rw [mk_ng hf4.sl.lln, HZ.out], by rw [← HZ.out, natAbs_zv]; exact hf4.setBox (by omega) (by omega), ((hB.set (by omega) _ _).set (by omega) _ _).below⟩

set_option maxHeartbeats 2000000 in
theorem zpow_ok_o {p : Option Addr} {n c : Nat} {xs : List Nat} {w : World} {k : Nat} (hx : Sl w p n c xs) (hn : n ≤ 1048576000) (hk : k ≤ 9223372036854775807) (hk0 : 0 < k) (h1 : 1 < blen (val xs)) (h2 : blen (val xs) * k ≤ 67108864) (he : k % 2 = 1) :
    Calls Try.prog 86 #[.agg #[.bool true, .slice p n c], .int .i64 (k : Int)] w (RetZE w (zv true (val xs) ^ k) 0) := by
  have _ := hk
  have HZ : Hid (zv true (val xs ^ k) = zv true (val xs) ^ k) := by
    show _ = _
    first | exact zv_pow_false _ _ | exact zv_pow_even he | exact zv_pow_odd he
  have hz : ((k : Int) % 2 == 1) = true := by simp; omega
  clear he
  have HC := Lib.hid h1
  have HD := Lib.hid h2
  clear h1 h2
  go_enter Try.func86, Try.ntmps86
  go_wp2_with fail
  obtain ⟨W, hW⟩ : ∃ W : World, W = ((w.alloc (.cells #[.bool true, .slice p n c] 25)).alloc (.cells #[.bool false, .slice none 0 0] 25)) := ⟨_, rfl⟩
  rw [← hW]
  have hA00 : W.cell? ⟨w.heap.size, 0, none⟩ = some (.bool true) := by rw [hW]; exact (cell_on (box_c0 (by simp)) (below_alloc _ _))
  have hA01 : W.cell? ⟨w.heap.size, 1, none⟩ = some (.slice p n c) := by rw [hW]; exact (cell_on (box_c1 (by simp)) (below_alloc _ _))
  have hR0 : Cel (w.heap.size + 1) W := by rw [hW]; exact (Cel.ofAlloc (by simp))
  have hB : Box w (w.heap.size + 1) W := by rw [hW]; exact ⟨by (try simp) <;> omega, (((Below.refl _ _).alloc (Nat.le_refl _) _).alloc (by (try simp) <;> omega) _)⟩
  clear hW
  go_wp2_with fail
  refine (pow_ok (hx.below hB.below (Nat.le_refl _)) hn hk0 HC.out HD.out).mono ?_
  rintro e w1 ⟨p4, n4, c4, rfl, hf4, hb1⟩
  have hlt1 := hB.lt
  replace hA00 := cell_on hA00 hb1
  replace hA01 := cell_on hA01 hb1
  replace hR0 := hR0.on hb1
  replace hB := hB.on hb1
  clear hb1
  go_wp2_with fail
  refine (make1_any).mono ?_
  rintro e w2 ⟨rfl, hb2⟩
  replace hA00 := cell_on hA00 hb2
  replace hA01 := cell_on hA01 hb2
  replace hR0 := hR0.on hb2
  replace hB := hB.on hb2
  replace hf4 := hf4.below hb2 (Nat.le_refl _)
  clear hb2
  obtain ⟨⟨u0, hu0⟩, ⟨u1, hu1⟩, hug0, hug1⟩ := hR0
  go_wp2_with fail
  refine bodyPost_ret (v := .tuple #[.agg #[.bool (true && decide (0 < n4)), .slice p4 n4 c4], .int .i64 0]) (by simp [results, Try.results86, go_sem, hu0, hu1]) rfl ?_
  exact ⟨_, _, _, by rw [mk_ng hf4.sl.lln, HZ.out], by rw [← HZ.out, natAbs_zv]; exact hf4.setBox (by omega) (by omega), ((hB.set (by omega) _ _).set (by omega) _ _).below⟩

set_option maxHeartbeats 2000000 in
theorem zpow_one_p {p : Option Addr} {n c : Nat} {xs : List Nat} {w : World} {k : Nat} (hx : Sl w p n c xs) (hn : n ≤ 1048576000) (hk : k ≤ 9223372036854775807) (h1 : k = 0 ∨ blen (val xs) = 1) :
    Calls Try.prog 86 #[.agg #[.bool false, .slice p n c], .int .i64 (k : Int)] w (RetZE w (zv false (val xs) ^ k) 0) := by
  have HZ : Hid (zv false (1) = zv false (val xs) ^ k) := by
    show _ = _
    have e1 : (1 : Nat) = val xs ^ k := by
      rcases h1 with h | h
      · rw [h, Nat.pow_zero]
      · rw [blen_one h, Nat.one_pow]
    rw [e1]
    first | exact zv_pow_false _ _ | exact zv_pow_even he | exact zv_pow_odd he
  have HD := Lib.hid h1
  clear h1
  go_enter Try.func86, Try.ntmps86
  go_wp2_with fail
  obtain ⟨W, hW⟩ : ∃ W : World, W = ((w.alloc (.cells #[.bool false, .slice p n c] 25)).alloc (.cells #[.bool false, .slice none 0 0] 25)) := ⟨_, rfl⟩
  rw [← hW]
  have hA00 : W.cell? ⟨w.heap.size, 0, none⟩ = some (.bool false) := by rw [hW]; exact (cell_on (box_c0 (by simp)) (below_alloc _ _))
  have hA01 : W.cell? ⟨w.heap.size, 1, none⟩ = some (.slice p n c) := by rw [hW]; exact (cell_on (box_c1 (by simp)) (below_alloc _ _))
  have hR0 : Cel (w.heap.size + 1) W := by rw [hW]; exact (Cel.ofAlloc (by simp))
  have hB : Box w (w.heap.size + 1) W := by rw [hW]; exact ⟨by (try simp) <;> omega, (((Below.refl _ _).alloc (Nat.le_refl _) _).alloc (by (try simp) <;> omega) _)⟩
  clear hW
  go_wp2_with fail
  refine (pow_one (hx.below hB.below (Nat.le_refl _)) hn hk HD.out).mono ?_
  rintro e w1 ⟨p4, n4, c4, rfl, hf4, hb1⟩
  have hlt1 := hB.lt
  replace hA00 := cell_on hA00 hb1
  replace hA01 := cell_on hA01 hb1
  replace hR0 := hR0.on hb1
  replace hB := hB.on hb1
  clear hb1
  go_wp2_with fail
  refine (make1_any).mono ?_
  rintro e w2 ⟨rfl, hb2⟩
  replace hA00 := cell_on hA00 hb2
  replace hA01 := cell_on hA01 hb2
  replace hR0 := hR0.on hb2
  replace hB := hB.on hb2
  replace hf4 := hf4.below hb2 (Nat.le_refl _)
  clear hb2
  obtain ⟨⟨u0, hu0⟩, ⟨u1, hu1⟩, hug0, hug1⟩ := hR0
  go_wp2_with fail
  refine bodyPost_ret (v := .tuple #[.agg #[.bool (false && decide (0 < n4)), .slice p4 n4 c4], .int .i64 0]) (by simp [results, Try.results86, go_sem, hu0, hu1]) rfl ?_
  exact ⟨_, _, _, by rw [mk_ng hf4.sl.lln, HZ.out], by rw [← HZ.out, natAbs_zv]; exact hf4.setBox (by omega) (by omega), ((hB.set (by omega) _ _).set (by omega) _ _).below⟩

set_option maxHeartbeats 2000000 in
theorem zpow_one_e {p : Option Addr} {n c : Nat} {xs : List Nat} {w : World} {k : Nat} (hx : Sl w p n c xs) (hn : n ≤ 1048576000) (hk : k ≤ 9223372036854775807) (h1 : k = 0 ∨ blen (val xs) = 1) (he : k % 2 = 0) :
    Calls Try.prog 86 #[.agg #[.bool true, .slice p n c], .int .i64 (k : Int)] w (RetZE w (zv true (val xs) ^ k) 0) := by
  have HZ : Hid (zv false (1) = zv true (val xs) ^ k) := by
    show _ = _
    have e1 : (1 : Nat) = val xs ^ k := by
      rcases h1 with h | h
      · rw [h, Nat.pow_zero]
      · rw [blen_one h, Nat.one_pow]
    rw [e1]
    first | exact zv_pow_false _ _ | exact zv_pow_even he | exact zv_pow_odd he
  have hz : ((k : Int) % 2 == 1) = false := by simp; omega
  clear he
  have HD := Lib.hid h1
  clear h1
  go_enter Try.func86, Try.ntmps86
  go_wp2_with fail
  obtain ⟨W, hW⟩ : ∃ W : World, W = ((w.alloc (.cells #[.bool true, .slice p n c] 25)).alloc (.cells #[.bool false, .slice none 0 0] 25)) := ⟨_, rfl⟩
  rw [← hW]
  have hA00 : W.cell? ⟨w.heap.size, 0, none⟩ = some (.bool true) := by rw [hW]; exact (cell_on (box_c0 (by simp)) (below_alloc _ _))
  have hA01 : W.cell? ⟨w.heap.size, 1, none⟩ = some (.slice p n c) := by rw [hW]; exact (cell_on (box_c1 (by simp)) (below_alloc _ _))
  have hR0 : Cel (w.heap.size + 1) W := by rw [hW]; exact (Cel.ofAlloc (by simp))
  have hB : Box w (w.heap.size + 1) W := by rw [hW]; exact ⟨by (try simp) <;> omega, (((Below.refl _ _).alloc (Nat.le_refl _) _).alloc (by (try simp) <;> omega) _)⟩
  clear hW
  go_wp2_with fail
  refine (pow_one (hx.below hB.below (Nat.le_refl _)) hn hk HD.out).mono ?_
  rintro e w1 ⟨p4, n4, c4, rfl, hf4, hb1⟩
  have hlt1 := hB.lt
  replace hA00 := cell_on hA00 hb1
  replace hA01 := cell_on hA01 hb1
  replace hR0 := hR0.on hb1
  replace hB := hB.on hb1
  clear hb1
  go_wp2_with fail
  refine (make1_any).mono ?_
  rintro e w2 ⟨rfl, hb2⟩
  replace hA00 := cell_on hA00 hb2
  replace hA01 := cell_on hA01 hb2
  replace hR0 := hR0.on hb2
  replace hB := hB.on hb2
  replace hf4 := hf4.below hb2 (Nat.le_refl _)
  clear hb2
  obtain ⟨⟨u0, hu0⟩, ⟨u1, hu1⟩, hug0, hug1⟩ := hR0
  go_wp2_with fail
  refine bodyPost_ret (v := .tuple #[.agg #[.bool (false && decide (0 < n4)), .slice p4 n4 c4], .int .i64 0]) (by simp [results, Try.results86, go_sem, hu0, hu1]) rfl ?_
  exact ⟨_, _, _, by rw [mk_ng hf4.sl.lln, HZ.out], by rw [← HZ.out, natAbs_zv]; exact hf4.setBox (by omega) (by omega), ((hB.set (by omega) _ _).set (by omega) _ _).below⟩

set_option maxHeartbeats 2000000 in
theorem zpow_one_o {p : Option Addr} {n c : Nat} {xs : List Nat} {w : World} {k : Nat} (hx : Sl w p n c xs) (hn : n ≤ 1048576000) (hk : k ≤ 9223372036854775807) (h1 : k = 0 ∨ blen (val xs) = 1) (he : k % 2 = 1) :
    Calls Try.prog 86 #[.agg #[.bool true, .slice p n c], .int .i64 (k : Int)] w (RetZE w (zv true (val xs) ^ k) 0) := by
  have HZ : Hid (zv true (1) = zv true (val xs) ^ k) := by
    show _ = _
    have e1 : (1 : Nat) = val xs ^ k := by
      rcases h1 with h | h
      · rw [h, Nat.pow_zero]
      · rw [blen_one h, Nat.one_pow]
    rw [e1]
    first | exact zv_pow_false _ _ | exact zv_pow_even he | exact zv_pow_odd he
  have hz : ((k : Int) % 2 == 1) = true := by simp; omega
  clear he
  have HD := Lib.hid h1
  clear h1
  go_enter Try.func86, Try.ntmps86
  go_wp2_with fail
  obtain ⟨W, hW⟩ : ∃ W : World, W = ((w.alloc (.cells #[.bool true, .slice p n c] 25)).alloc (.cells #[.bool false, .slice none 0 0] 25)) := ⟨_, rfl⟩
  rw [← hW]
  have hA00 : W.cell? ⟨w.heap.size, 0, none⟩ = some (.bool true) := by rw [hW]; exact (cell_on (box_c0 (by simp)) (below_alloc _ _))
  have hA01 : W.cell? ⟨w.heap.size, 1, none⟩ = some (.slice p n c) := by rw [hW]; exact (cell_on (box_c1 (by simp)) (below_alloc _ _))
  have hR0 : Cel (w.heap.size + 1) W := by rw [hW]; exact (Cel.ofAlloc (by simp))
  have hB : Box w (w.heap.size + 1) W := by rw [hW]; exact ⟨by (try simp) <;> omega, (((Below.refl _ _).alloc (Nat.le_refl _) _).alloc (by (try simp) <;> omega) _)⟩
  clear hW
  go_wp2_with fail
  refine (pow_one (hx.below hB.below (Nat.le_refl _)) hn hk HD.out).mono ?_
  rintro e w1 ⟨p4, n4, c4, rfl, hf4, hb1⟩
  have hlt1 := hB.lt
  replace hA00 := cell_on hA00 hb1
  replace hA01 := cell_on hA01 hb1
  replace hR0 := hR0.on hb1
  replace hB := hB.on hb1
  clear hb1
  go_wp2_with fail
  refine (make1_any).mono ?_
  rintro e w2 ⟨rfl, hb2⟩
  replace hA00 := cell_on hA00 hb2
  replace hA01 := cell_on hA01 hb2
  replace hR0 := hR0.on hb2
  replace hB := hB.on hb2
  replace hf4 := hf4.below hb2 (Nat.le_refl _)
  clear hb2
  obtain ⟨⟨u0, hu0⟩, ⟨u1, hu1⟩, hug0, hug1⟩ := hR0
  go_wp2_with fail
  refine bodyPost_ret (v := .tuple #[.agg #[.bool (true && decide (0 < n4)), .slice p4 n4 c4], .int .i64 0]) (by simp [results, Try.results86, go_sem, hu0, hu1]) rfl ?_
  exact ⟨_, _, _, by rw [mk_ng hf4.sl.lln, HZ.out], by rw [← HZ.out, natAbs_zv]; exact hf4.setBox (by omega) (by omega), ((hB.set (by omega) _ _).set (by omega) _ _).below⟩

set_option maxHeartbeats 2000000 in
theorem zpow_nil_p {p : Option Addr} {n c : Nat} {xs : List Nat} {w : World} {k : Nat} (hx : Sl w p n c xs) (hn : n ≤ 1048576000) (hk : k ≤ 9223372036854775807) (hk0 : 0 < k) (h1 : val xs = 0) :
    Calls Try.prog 86 #[.agg #[.bool false, .slice p n c], .int .i64 (k : Int)] w (RetZE w (zv false (val xs) ^ k) 0) := by
  have HZ : Hid (zv false (0) = zv false (val xs) ^ k) := by
    show _ = _
    have e1 : (0 : Nat) = val xs ^ k := by rw [h1, Nat.zero_pow hk0]
    rw [e1]
    first | exact zv_pow_false _ _ | exact zv_pow_even he | exact zv_pow_odd he
  have HD := Lib.hid h1
  clear h1
  go_enter Try.func86, Try.ntmps86
  go_wp2_with fail
  obtain ⟨W, hW⟩ : ∃ W : World, W = ((w.alloc (.cells #[.bool false, .slice p n c] 25)).alloc (.cells #[.bool false, .slice none 0 0] 25)) := ⟨_, rfl⟩
  rw [← hW]
  have hA00 : W.cell? ⟨w.heap.size, 0, none⟩ = some (.bool false) := by rw [hW]; exact (cell_on (box_c0 (by simp)) (below_alloc _ _))
  have hA01 : W.cell? ⟨w.heap.size, 1, none⟩ = some (.slice p n c) := by rw [hW]; exact (cell_on (box_c1 (by simp)) (below_alloc _ _))
  have hR0 : Cel (w.heap.size + 1) W := by rw [hW]; exact (Cel.ofAlloc (by simp))
  have hB : Box w (w.heap.size + 1) W := by rw [hW]; exact ⟨by (try simp) <;> omega, (((Below.refl _ _).alloc (Nat.le_refl _) _).alloc (by (try simp) <;> omega) _)⟩
  clear hW
  go_wp2_with fail
  refine (pow_zero (hx.below hB.below (Nat.le_refl _)) hn hk hk0 HD.out).mono ?_
  rintro e w1 ⟨p4, n4, c4, rfl, hf4, hb1⟩
  have hlt1 := hB.lt
  replace hA00 := cell_on hA00 hb1
  replace hA01 := cell_on hA01 hb1
  replace hR0 := hR0.on hb1
  replace hB := hB.on hb1
  clear hb1
  change Fr _ _ _ _ _ (lim 0) at hf4
  go_wp2_with fail
  refine (make1_any).mono ?_
  rintro e w2 ⟨rfl, hb2⟩
  replace hA00 := cell_on hA00 hb2
  replace hA01 := cell_on hA01 hb2
  replace hR0 := hR0.on hb2
  replace hB := hB.on hb2
  replace hf4 := hf4.below hb2 (Nat.le_refl _)
  clear hb2
  obtain ⟨⟨u0, hu0⟩, ⟨u1, hu1⟩, hug0, hug1⟩ := hR0
  go_wp2_with fail
  refine bodyPost_ret (v := .tuple #[.agg #[.bool (false && decide (0 < n4)), .slice p4 n4 c4], .int .i64 0]) (by simp [results, Try.results86, go_sem, hu0, hu1]) rfl ?_
  exact ⟨_, _, _, by rw [mk_ng hf4.sl.lln, HZ.out], by rw [← HZ.out, natAbs_zv]; exact hf4.setBox (by omega) (by omega), ((hB.set (by omega) _ _).set (by omega) _ _).below⟩

set_option maxHeartbeats 2000000 in
theorem zpow_nil_e {p : Option Addr} {n c : Nat} {xs : List Nat} {w : World} {k : Nat} (hx : Sl w p n c xs) (hn : n ≤ 1048576000) (hk : k ≤ 9223372036854775807) (hk0 : 0 < k) (h1 : val xs = 0) (he : k % 2 = 0) :
    Calls Try.prog 86 #[.agg #[.bool true, .slice p n c], .int .i64 (k : Int)] w (RetZE w (zv true (val xs) ^ k) 0) := by
  have HZ : Hid (zv false (0) = zv true (val xs) ^ k) := by
    show _ = _
    have e1 : (0 : Nat) = val xs ^ k := by rw [h1, Nat.zero_pow hk0]
    rw [e1]
    first | exact zv_pow_false _ _ | exact zv_pow_even he | exact zv_pow_odd he
  have hz : ((k : Int) % 2 == 1) = false := by simp; omega
  clear he
  have HD := Lib.hid h1
  clear h1
  go_enter Try.func86, Try.ntmps86
  go_wp2_with fail
  obtain ⟨W, hW⟩ : ∃ W : World, W = ((w.alloc (.cells #[.bool true, .slice p n c] 25)).alloc (.cells #[.bool false, .slice none 0 0] 25)) := ⟨_, rfl⟩
  rw [← hW]
  have hA00 : W.cell? ⟨w.heap.size, 0, none⟩ = some (.bool true) := by rw [hW]; exact (cell_on (box_c0 (by simp)) (below_alloc _ _))
  have hA01 : W.cell? ⟨w.heap.size, 1, none⟩ = some (.slice p n c) := by rw [hW]; exact (cell_on (box_c1 (by simp)) (below_alloc _ _))
  have hR0 : Cel (w.heap.size + 1) W := by rw [hW]; exact (Cel.ofAlloc (by simp))
  have hB : Box w (w.heap.size + 1) W := by rw [hW]; exact ⟨by (try simp) <;> omega, (((Below.refl _ _).alloc (Nat.le_refl _) _).alloc (by (try simp) <;> omega) _)⟩
  clear hW
  go_wp2_with fail
  refine (pow_zero (hx.below hB.below (Nat.le_refl _)) hn hk hk0 HD.out).mono ?_
  rintro e w1 ⟨p4, n4, c4, rfl, hf4, hb1⟩
  have hlt1 := hB.lt
  replace hA00 := cell_on hA00 hb1
  replace hA01 := cell_on hA01 hb1
  replace hR0 := hR0.on hb1
  replace hB := hB.on hb1
  clear hb1
  change Fr _ _ _ _ _ (lim 0) at hf4
  go_wp2_with fail
  refine (make1_any).mono ?_
  rintro e w2 ⟨rfl, hb2⟩
  replace hA00 := cell_on hA00 hb2
  replace hA01 := cell_on hA01 hb2
  replace hR0 := hR0.on hb2
  replace hB := hB.on hb2
  replace hf4 := hf4.below hb2 (Nat.le_refl _)
  clear hb2
  obtain ⟨⟨u0, hu0⟩, ⟨u1, hu1⟩, hug0, hug1⟩ := hR0
  go_wp2_with fail
  refine bodyPost_ret (v := .tuple #[.agg #[.bool (false && decide (0 < n4)), .slice p4 n4 c4], .int .i64 0]) (by simp [results, Try.results86, go_sem, hu0, hu1]) rfl ?_
  exact ⟨_, _, _, by rw [mk_ng hf4.sl.lln, HZ.out], by rw [← HZ.out, natAbs_zv]; exact hf4.setBox (by omega) (by omega), ((hB.set (by omega) _ _).set (by omega) _ _).below⟩

set_option maxHeartbeats 2000000 in
theorem zpow_nil_o {p : Option Addr} {n c : Nat} {xs : List Nat} {w : World} {k : Nat} (hx : Sl w p n c xs) (hn : n ≤ 1048576000) (hk : k ≤ 9223372036854775807) (hk0 : 0 < k) (h1 : val xs = 0) (he : k % 2 = 1) :
    Calls Try.prog 86 #[.agg #[.bool true, .slice p n c], .int .i64 (k : Int)] w (RetZE w (zv true (val xs) ^ k) 0) := by
  have HZ : Hid (zv true (0) = zv true (val xs) ^ k) := by
    show _ = _
    have e1 : (0 : Nat) = val xs ^ k := by rw [h1, Nat.zero_pow hk0]
    rw [e1]
    first | exact zv_pow_false _ _ | exact zv_pow_even he | exact zv_pow_odd he
  have hz : ((k : Int) % 2 == 1) = true := by simp; omega
  clear he
  have HD := Lib.hid h1
  clear h1
  go_enter Try.func86, Try.ntmps86
  go_wp2_with fail
  obtain ⟨W, hW⟩ : ∃ W : World, W = ((w.alloc (.cells #[.bool true, .slice p n c] 25)).alloc (.cells #[.bool false, .slice none 0 0] 25)) := ⟨_, rfl⟩
  rw [← hW]
  have hA00 : W.cell? ⟨w.heap.size, 0, none⟩ = some (.bool true) := by rw [hW]; exact (cell_on (box_c0 (by simp)) (below_alloc _ _))
  have hA01 : W.cell? ⟨w.heap.size, 1, none⟩ = some (.slice p n c) := by rw [hW]; exact (cell_on (box_c1 (by simp)) (below_alloc _ _))
  have hR0 : Cel (w.heap.size + 1) W := by rw [hW]; exact (Cel.ofAlloc (by simp))
  have hB : Box w (w.heap.size + 1) W := by rw [hW]; exact ⟨by (try simp) <;> omega, (((Below.refl _ _).alloc (Nat.le_refl _) _).alloc (by (try simp) <;> omega) _)⟩
  clear hW
  go_wp2_with fail
  refine (pow_zero (hx.below hB.below (Nat.le_refl _)) hn hk hk0 HD.out).mono ?_
  rintro e w1 ⟨p4, n4, c4, rfl, hf4, hb1⟩
  have hlt1 := hB.lt
  replace hA00 := cell_on hA00 hb1
  replace hA01 := cell_on hA01 hb1
  replace hR0 := hR0.on hb1
  replace hB := hB.on hb1
  clear hb1
  change Fr _ _ _ _ _ (lim 0) at hf4
  go_wp2_with fail
  refine (make1_any).mono ?_
  rintro e w2 ⟨rfl, hb2⟩
  replace hA00 := cell_on hA00 hb2
  replace hA01 := cell_on hA01 hb2
  replace hR0 := hR0.on hb2
  replace hB := hB.on hb2
  replace hf4 := hf4.below hb2 (Nat.le_refl _)
  clear hb2
  obtain ⟨⟨u0, hu0⟩, ⟨u1, hu1⟩, hug0, hug1⟩ := hR0
  go_wp2_with fail
  refine bodyPost_ret (v := .tuple #[.agg #[.bool (true && decide (0 < n4)), .slice p4 n4 c4], .int .i64 0]) (by simp [results, Try.results86, go_sem, hu0, hu1]) rfl ?_
  exact ⟨_, _, _, by rw [mk_ng hf4.sl.lln, HZ.out], by rw [← HZ.out, natAbs_zv]; exact hf4.setBox (by omega) (by omega), ((hB.set (by omega) _ _).set (by omega) _ _).below⟩

end Go.Proofs.Ytoinfkimlhhmpaa

/-
  The walks of simileref03: Gcd, Pow.
-/
namespace Go.Proofs.Ytoinfkimlhhmpaa
open Go.RowKit

set_option maxHeartbeats 1000000 in
theorem qgcd_any {p q : Option Addr} {n m c d : Nat} {b b2 : Bool} {xs ys : List Nat} {w : World} (hx : Sl w p n c xs) (hy : Sl w q m d ys) (hn : n ≤ 549755813888) (hm : m ≤ 549755813888) :
    Calls Try.prog 102 #[.agg #[.bool b, .slice p n c], .agg #[.bool b2, .slice q m d]] w (RetZ w ((Int.gcd (zv b (val xs)) (zv b2 (val ys)) : Nat) : Int)) := by
  go_enter Try.func102, Try.ntmps102
  go_wp2_with fail
  obtain ⟨W, hW⟩ : ∃ W : World, W = (((w.alloc (.cells #[.bool b, .slice p n c] 25)).alloc (.cells #[.bool b2, .slice q m d] 25)).alloc (.cells #[.bool false, .slice none 0 0] 25)) := ⟨_, rfl⟩
  rw [← hW]
  have hA00 : W.cell? ⟨w.heap.size, 0, none⟩ = some (.bool b) := by rw [hW]; exact (cell_on (cell_on (box_c0 (by simp)) (below_alloc _ _)) (below_alloc _ _))
  have hA01 : W.cell? ⟨w.heap.size, 1, none⟩ = some (.slice p n c) := by rw [hW]; exact (cell_on (cell_on (box_c1 (by simp)) (below_alloc _ _)) (below_alloc _ _))
  have hA10 : W.cell? ⟨w.heap.size + 1, 0, none⟩ = some (.bool b2) := by rw [hW]; exact (cell_on (box_c0 (by simp)) (below_alloc _ _))
  have hA11 : W.cell? ⟨w.heap.size + 1, 1, none⟩ = some (.slice q m d) := by rw [hW]; exact (cell_on (box_c1 (by simp)) (below_alloc _ _))
  have hR0 : Cel (w.heap.size + 2) W := by rw [hW]; exact (Cel.ofAlloc (by simp))
  have hB : Box w (w.heap.size + 2) W := by rw [hW]; exact ⟨by (try simp) <;> omega, ((((Below.refl _ _).alloc (Nat.le_refl _) _).alloc (by (try simp) <;> omega) _).alloc (by (try simp) <;> omega) _)⟩
  clear hW
  go_wp2_with fail
  refine (rgcd_any (hx.below hB.below (Nat.le_refl _)) (hy.below hB.below (Nat.le_refl _)) hn hm).mono ?_
  rintro e w1 ⟨p4, n4, c4, rfl, hf4, hb1⟩
  have hlt1 := hB.lt
  replace hA00 := cell_on hA00 hb1
  replace hA01 := cell_on hA01 hb1
  replace hA10 := cell_on hA10 hb1
  replace hA11 := cell_on hA11 hb1
  replace hR0 := hR0.on hb1
  replace hB := hB.on hb1
  clear hb1
  obtain ⟨⟨u0, hu0⟩, ⟨u1, hu1⟩, hug0, hug1⟩ := hR0
  go_wp2_with fail
  refine bodyPost_ret (v := .agg #[.bool false, .slice p4 n4 c4]) (by simp [results, Try.results102, go_sem, hu0, hu1]) rfl ?_
  exact retZ_box (b := false) hf4 (by omega) (by omega) ((hB.set (by omega) _ _).set (by omega) _ _).below (by unfold Int.gcd; rw [natAbs_zv, natAbs_zv]; rfl)

set_option maxHeartbeats 2000000 in
theorem qpow_big {p : Option Addr} {n c : Nat} {b : Bool} {xs : List Nat} {w : World} {k : Nat} (hx : Sl w p n c xs) (hn : n ≤ 1048576000) (hk : k ≤ 9223372036854775807) (h1 : 1 < blen (val xs)) (h2 : 67108864 < k ∨ 67108864 ≤ (blen (val xs) - 1) * k) :
    Calls Try.prog 88 #[.agg #[.bool b, .slice p n c], .int .i64 (k : Int)] w (RetZB w 0 false) := by
  have HC := Lib.hid h1
  have HD := Lib.hid h2
  clear h1 h2
  go_enter Try.func88, Try.ntmps88
  go_wp2_with fail
  obtain ⟨W, hW⟩ : ∃ W : World, W = ((w.alloc (.cells #[.bool b, .slice p n c] 25)).alloc (.cells #[.bool false, .slice none 0 0] 25)) := ⟨_, rfl⟩
  rw [← hW]
  have hA00 : W.cell? ⟨w.heap.size, 0, none⟩ = some (.bool b) := by rw [hW]; exact (cell_on (box_c0 (by simp)) (below_alloc _ _))
  have hA01 : W.cell? ⟨w.heap.size, 1, none⟩ = some (.slice p n c) := by rw [hW]; exact (cell_on (box_c1 (by simp)) (below_alloc _ _))
  have hR0 : Cel (w.heap.size + 1) W := by rw [hW]; exact (Cel.ofAlloc (by simp))
  have hB : Box w (w.heap.size + 1) W := by rw [hW]; exact ⟨by (try simp) <;> omega, (((Below.refl _ _).alloc (Nat.le_refl _) _).alloc (by (try simp) <;> omega) _)⟩
  clear hW
  go_wp2_with fail
  refine (rpow_big (hx.below hB.below (Nat.le_refl _)) hn hk HC.out HD.out).mono ?_
  rintro e w1 ⟨p4, n4, c4, rfl, hf4, hb1⟩
  have hlt1 := hB.lt
  replace hA00 := cell_on hA00 hb1
  replace hA01 := cell_on hA01 hb1
  replace hR0 := hR0.on hb1
  replace hB := hB.on hb1
  clear hb1
  obtain ⟨⟨u0, hu0⟩, ⟨u1, hu1⟩, hug0, hug1⟩ := hR0
  clear hf4
  go_wp2_with fail
  refine bodyPost_ret (v := .tuple #[.agg #[.bool false, .slice none 0 0], .bool false]) (by simp [results, Try.results88, go_sem, hu0, hu1]) rfl ?_
  exact ⟨_, _, _, rfl, Fr.nil _ _, ((hB.set (by omega) _ _).set (by omega) _ _).below⟩

set_option maxHeartbeats 2000000 in
theorem qpow_ok_p {p : Option Addr} {n c : Nat} {xs : List Nat} {w : World} {k : Nat} (hx : Sl w p n c xs) (hn : n ≤ 1048576000) (hk : k ≤ 9223372036854775807) (hL : ll (val xs ^ k) ≤ 17592186044416) (h1 : 1 < blen (val xs)) (h2 : blen (val xs) * k ≤ 67108863) :
    Calls Try.prog 88 #[.agg #[.bool false, .slice p n c], .int .i64 (k : Int)] w (RetZB w (zv false (val xs) ^ k) true) := by
  have HZ : Hid (zv false (val (lim (val xs ^ k))) = zv false (val xs) ^ k) := by
    show _ = _
    rw [val_lim]
    first | exact zv_pow_false _ _ | exact zv_pow_even he | exact zv_pow_odd he
  have HL := Lib.hid hL
  clear hL
  have HC := Lib.hid h1
  have HD := Lib.hid h2
  clear h1 h2
  go_enter Try.func88, Try.ntmps88
  go_wp2_with fail
  obtain ⟨W, hW⟩ : ∃ W : World, W = ((w.alloc (.cells #[.bool false, .slice p n c] 25)).alloc (.cells #[.bool false, .slice none 0 0] 25)) := ⟨_, rfl⟩
  rw [← hW]
  have hA00 : W.cell? ⟨w.heap.size, 0, none⟩ = some (.bool false) := by rw [hW]; exact (cell_on (box_c0 (by simp)) (below_alloc _ _))
  have hA01 : W.cell? ⟨w.heap.size, 1, none⟩ = some (.slice p n c) := by rw [hW]; exact (cell_on (box_c1 (by simp)) (below_alloc _ _))
  have hR0 : Cel (w.heap.size + 1) W := by rw [hW]; exact (Cel.ofAlloc (by simp))
  have hB : Box w (w.heap.size + 1) W := by rw [hW]; exact ⟨by (try simp) <;> omega, (((Below.refl _ _).alloc (Nat.le_refl _) _).alloc (by (try simp) <;> omega) _)⟩
  clear hW
  go_wp2_with fail
  refine (rpow_ok (hx.below hB.below (Nat.le_refl _)) hn HC.out HD.out).mono ?_
  rintro e w1 ⟨p4, n4, c4, rfl, hf4, hb1⟩
  have hlt1 := hB.lt
  replace hA00 := cell_on hA00 hb1
  replace hA01 := cell_on hA01 hb1
  replace hR0 := hR0.on hb1
  replace hB := hB.on hb1
  clear hb1
  have hn4 : n4 ≤ 17592186044416 := by rw [hf4.sl.lln]; exact HL.out
  go_wp2_with fail
  refine (qnorm_of (z := zv false (val xs) ^ k) (b := false) hf4.sl hn4 HZ).mono ?_
  rintro e w2 ⟨p5, n5, c5, rfl, hf5, hb2⟩
  clear hf4
  have hlt2 := hB.lt
  replace hA00 := cell_on hA00 hb2
  replace hA01 := cell_on hA01 hb2
  replace hR0 := hR0.on hb2
  replace hB := hB.on hb2
  clear hb2
  obtain ⟨⟨u0, hu0⟩, ⟨u1, hu1⟩, hug0, hug1⟩ := hR0
  go_wp2_with fail
  refine bodyPost_ret (v := .tuple #[.agg #[.bool (ng (zv false (val xs) ^ k)), .slice p5 n5 c5], .bool true]) (by simp [results, Try.results88, go_sem, hu0, hu1]) rfl ?_
  exact ⟨_, _, _, rfl, hf5.setBox (by omega) (by omega), ((hB.set (by omega) _ _).set (by omega) _ _).below⟩

set_option maxHeartbeats 2000000 in
theorem qpow_ok_e {p : Option Addr} {n c : Nat} {xs : List Nat} {w : World} {k : Nat} (hx : Sl w p n c xs) (hn : n ≤ 1048576000) (hk : k ≤ 9223372036854775807) (hL : ll (val xs ^ k) ≤ 17592186044416) (h1 : 1 < blen (val xs)) (h2 : blen (val xs) * k ≤ 67108863) (he : k % 2 = 0) :
    Calls Try.prog 88 #[.agg #[.bool true, .slice p n c], .int .i64 (k : Int)] w (RetZB w (zv true (val xs) ^ k) true) := by
  have HZ : Hid (zv false (val (lim (val xs ^ k))) = zv true (val xs) ^ k) := by
    show _ = _
    rw [val_lim]
    first | exact zv_pow_false _ _ | exact zv_pow_even he | exact zv_pow_odd he
  have HL := Lib.hid hL
  clear hL
  have hz : ((k : Int) % 2 == 1) = false := by simp; omega
  clear he
  have HC := Lib.hid h1
  have HD := Lib.hid h2
  clear h1 h2
  go_enter Try.func88, Try.ntmps88
  go_wp2_with fail
  obtain ⟨W, hW⟩ : ∃ W : World, W = ((w.alloc (.cells #[.bool true, .slice p n c] 25)).alloc (.cells #[.bool false, .slice none 0 0] 25)) := ⟨_, rfl⟩
  rw [← hW]
  have hA00 : W.cell? ⟨w.heap.size, 0, none⟩ = some (.bool true) := by rw [hW]; exact (cell_on (box_c0 (by simp)) (below_alloc _ _))
  have hA01 : W.cell? ⟨w.heap.size, 1, none⟩ = some (.slice p n c) := by rw [hW]; exact (cell_on (box_c1 (by simp)) (below_alloc _ _))
  have hR0 : Cel (w.heap.size + 1) W := by rw [hW]; exact (Cel.ofAlloc (by simp))
  have hB : Box w (w.heap.size + 1) W := by rw [hW]; exact ⟨by (try simp) <;> omega, (((Below.refl _ _).alloc (Nat.le_refl _) _).alloc (by (try simp) <;> omega) _)⟩
  clear hW
  go_wp2_with fail
  refine (rpow_ok (hx.below hB.below (Nat.le_refl _)) hn HC.out HD.out).mono ?_
  rintro e w1 ⟨p4, n4, c4, rfl, hf4, hb1⟩
  have hlt1 := hB.lt
  replace hA00 := cell_on hA00 hb1
  replace hA01 := cell_on hA01 hb1
  replace hR0 := hR0.on hb1
  replace hB := hB.on hb1
  clear hb1
  have hn4 : n4 ≤ 17592186044416 := by rw [hf4.sl.lln]; exact HL.out
  go_wp2_with fail
  refine (qnorm_of (z := zv true (val xs) ^ k) (b := false) hf4.sl hn4 HZ).mono ?_
  rintro e w2 ⟨p5, n5, c5, rfl, hf5, hb2⟩
  clear hf4
  have hlt2 := hB.lt
  replace hA00 := cell_on hA00 hb2
  replace hA01 := cell_on hA01 hb2
  replace hR0 := hR0.on hb2
  replace hB := hB.on hb2
  clear hb2
  obtain ⟨⟨u0, hu0⟩, ⟨u1, hu1⟩, hug0, hug1⟩ := hR0
  go_wp2_with fail
  refine bodyPost_ret (v := .tuple #[.agg #[.bool (ng (zv true (val xs) ^ k)), .slice p5 n5 c5], .bool true]) (by simp [results, Try.results88, go_sem, hu0, hu1]) rfl ?_
  exact ⟨_, _, _, rfl, hf5.setBox (by omega) (by omega), ((hB.set (by omega) _ _).set (by omega) _ _).below⟩

set_option maxHeartbeats 2000000 in
theorem qpow_ok_o {p : Option Addr} {n c : Nat} {xs : List Nat} {w : World} {k : Nat} (hx : Sl w p n c xs) (hn : n ≤ 1048576000) (hk : k ≤ 9223372036854775807) (hL : ll (val xs ^ k) ≤ 17592186044416) (h1 : 1 < blen (val xs)) (h2 : blen (val xs) * k ≤ 67108863) (he : k % 2 = 1) :
    Calls Try.prog 88 #[.agg #[.bool true, .slice p n c], .int .i64 (k : Int)] w (RetZB w (zv true (val xs) ^ k) true) := by
  have HZ : Hid (zv true (val (lim (val xs ^ k))) = zv true (val xs) ^ k) := by
    show _ = _
    rw [val_lim]
    first | exact zv_pow_false _ _ | exact zv_pow_even he | exact zv_pow_odd he
  have HL := Lib.hid hL
  clear hL
  have hz : ((k : Int) % 2 == 1) = true := by simp; omega
  clear he
  have HC := Lib.hid h1
  have HD := Lib.hid h2
  clear h1 h2
  go_enter Try.func88, Try.ntmps88
  go_wp2_with fail
  obtain ⟨W, hW⟩ : ∃ W : World, W = ((w.alloc (.cells #[.bool true, .slice p n c] 25)).alloc (.cells #[.bool false, .slice none 0 0] 25)) := ⟨_, rfl⟩
  rw [← hW]
  have hA00 : W.cell? ⟨w.heap.size, 0, none⟩ = some (.bool true) := by rw [hW]; exact (cell_on (box_c0 (by simp)) (below_alloc _ _))
  have hA01 : W.cell? ⟨w.heap.size, 1, none⟩ = some (.slice p n c) := by rw [hW]; exact (cell_on (box_c1 (by simp)) (below_alloc _ _))
  have hR0 : Cel (w.heap.size + 1) W := by rw [hW]; exact (Cel.ofAlloc (by simp))
  have hB : Box w (w.heap.size + 1) W := by rw [hW]; exact ⟨by (try simp) <;> omega, (((Below.refl _ _).alloc (Nat.le_refl _) _).alloc (by (try simp) <;> omega) _)⟩
  clear hW
  go_wp2_with fail
  refine (rpow_ok (hx.below hB.below (Nat.le_refl _)) hn HC.out HD.out).mono ?_
  rintro e w1 ⟨p4, n4, c4, rfl, hf4, hb1⟩
  have hlt1 := hB.lt
  replace hA00 := cell_on hA00 hb1
  replace hA01 := cell_on hA01 hb1
  replace hR0 := hR0.on hb1
  replace hB := hB.on hb1
  clear hb1
  have hn4 : n4 ≤ 17592186044416 := by rw [hf4.sl.lln]; exact HL.out
  go_wp2_with fail
  refine (qnorm_of (z := zv true (val xs) ^ k) (b := true) hf4.sl hn4 HZ).mono ?_
  rintro e w2 ⟨p5, n5, c5, rfl, hf5, hb2⟩
  clear hf4
  have hlt2 := hB.lt
  replace hA00 := cell_on hA00 hb2
  replace hA01 := cell_on hA01 hb2
  replace hR0 := hR0.on hb2
  replace hB := hB.on hb2
  clear hb2
  obtain ⟨⟨u0, hu0⟩, ⟨u1, hu1⟩, hug0, hug1⟩ := hR0
  go_wp2_with fail
  refine bodyPost_ret (v := .tuple #[.agg #[.bool (ng (zv true (val xs) ^ k)), .slice p5 n5 c5], .bool true]) (by simp [results, Try.results88, go_sem, hu0, hu1]) rfl ?_
  exact ⟨_, _, _, rfl, hf5.setBox (by omega) (by omega), ((hB.set (by omega) _ _).set (by omega) _ _).below⟩

set_option maxHeartbeats 2000000 in
theorem qpow_small_p {p : Option Addr} {n c : Nat} {xs : List Nat} {w : World} {k : Nat} (hx : Sl w p n c xs) (hn : n ≤ 1048576000) (hk : k ≤ 9223372036854775807) (hL : ll (val xs ^ k) ≤ 17592186044416) (h1 : blen (val xs) ≤ 1) :
    Calls Try.prog 88 #[.agg #[.bool false, .slice p n c], .int .i64 (k : Int)] w (RetZB w (zv false (val xs) ^ k) true) := by
  have HZ : Hid (zv false (val (lim (val xs ^ k))) = zv false (val xs) ^ k) := by
    show _ = _
    rw [val_lim]
    first | exact zv_pow_false _ _ | exact zv_pow_even he | exact zv_pow_odd he
  have HL := Lib.hid hL
  clear hL
  have HC := Lib.hid h1
  clear h1
  go_enter Try.func88, Try.ntmps88
  go_wp2_with fail
  obtain ⟨W, hW⟩ : ∃ W : World, W = ((w.alloc (.cells #[.bool false, .slice p n c] 25)).alloc (.cells #[.bool false, .slice none 0 0] 25)) := ⟨_, rfl⟩
  rw [← hW]
  have hA00 : W.cell? ⟨w.heap.size, 0, none⟩ = some (.bool false) := by rw [hW]; exact (cell_on (box_c0 (by simp)) (below_alloc _ _))
  have hA01 : W.cell? ⟨w.heap.size, 1, none⟩ = some (.slice p n c) := by rw [hW]; exact (cell_on (box_c1 (by simp)) (below_alloc _ _))
  have hR0 : Cel (w.heap.size + 1) W := by rw [hW]; exact (Cel.ofAlloc (by simp))
  have hB : Box w (w.heap.size + 1) W := by rw [hW]; exact ⟨by (try simp) <;> omega, (((Below.refl _ _).alloc (Nat.le_refl _) _).alloc (by (try simp) <;> omega) _)⟩
  clear hW
  go_wp2_with fail
  refine (rpow_small (hx.below hB.below (Nat.le_refl _)) hn hk HC.out).mono ?_
  rintro e w1 ⟨p4, n4, c4, rfl, hf4, hb1⟩
  have hlt1 := hB.lt
  replace hA00 := cell_on hA00 hb1
  replace hA01 := cell_on hA01 hb1
  replace hR0 := hR0.on hb1
  replace hB := hB.on hb1
  clear hb1
  have hn4 : n4 ≤ 17592186044416 := by rw [hf4.sl.lln]; exact HL.out
  go_wp2_with fail
  refine (qnorm_of (z := zv false (val xs) ^ k) (b := false) hf4.sl hn4 HZ).mono ?_
  rintro e w2 ⟨p5, n5, c5, rfl, hf5, hb2⟩
  clear hf4
  have hlt2 := hB.lt
  replace hA00 := cell_on hA00 hb2
  replace hA01 := cell_on hA01 hb2
  replace hR0 := hR0.on hb2
  replace hB := hB.on hb2
  clear hb2
  obtain ⟨⟨u0, hu0⟩, ⟨u1, hu1⟩, hug0, hug1⟩ := hR0
  go_wp2_with fail
  refine bodyPost_ret (v := .tuple #[.agg #[.bool (ng (zv false (val xs) ^ k)), .slice p5 n5 c5], .bool true]) (by simp [results, Try.results88, go_sem, hu0, hu1]) rfl ?_
  exact ⟨_, _, _, rfl, hf5.setBox (by omega) (by omega), ((hB.set (by omega) _ _).set (by omega) _ _).below⟩

set_option maxHeartbeats 2000000 in
theorem qpow_small_e {p : Option Addr} {n c : Nat} {xs : List Nat} {w : World} {k : Nat} (hx : Sl w p n c xs) (hn : n ≤ 1048576000) (hk : k ≤ 9223372036854775807) (hL : ll (val xs ^ k) ≤ 17592186044416) (h1 : blen (val xs) ≤ 1) (he : k % 2 = 0) :
    Calls Try.prog 88 #[.agg #[.bool true, .slice p n c], .int .i64 (k : Int)] w (RetZB w (zv true (val xs) ^ k) true) := by
  have HZ : Hid (zv false (val (lim (val xs ^ k))) = zv true (val xs) ^ k) := by
    show _ = _
    rw [val_lim]
    first | exact zv_pow_false _ _ | exact zv_pow_even he | exact zv_pow_odd he
  have HL := Lib.hid hL
  clear hL
  have hz : ((k : Int) % 2 == 1) = false := by simp; omega
  clear he
  have HC := Lib.hid h1
  clear h1
  go_enter Try.func88, Try.ntmps88
  go_wp2_with fail
  obtain ⟨W, hW⟩ : ∃ W : World, W = ((w.alloc (.cells #[.bool true, .slice p n c] 25)).alloc (.cells #[.bool false, .slice none 0 0] 25)) := ⟨_, rfl⟩
  rw [← hW]
  have hA00 : W.cell? ⟨w.heap.size, 0, none⟩ = some (.bool true) := by rw [hW]; exact (cell_on (box_c0 (by simp)) (below_alloc _ _))
  have hA01 : W.cell? ⟨w.heap.size, 1, none⟩ = some (.slice p n c) := by rw [hW]; exact (cell_on (box_c1 (by simp)) (below_alloc _ _))
  have hR0 : Cel (w.heap.size + 1) W := by rw [hW]; exact (Cel.ofAlloc (by simp))
  have hB : Box w (w.heap.size + 1) W := by rw [hW]; exact ⟨by (try simp) <;> omega, (((Below.refl _ _).alloc (Nat.le_refl _) _).alloc (by (try simp) <;> omega) _)⟩
  clear hW
  go_wp2_with fail
  refine (rpow_small (hx.below hB.below (Nat.le_refl _)) hn hk HC.out).mono ?_
  rintro e w1 ⟨p4, n4, c4, rfl, hf4, hb1⟩
  have hlt1 := hB.lt
  replace hA00 := cell_on hA00 hb1
  replace hA01 := cell_on hA01 hb1
  replace hR0 := hR0.on hb1
  replace hB := hB.on hb1
  clear hb1
  have hn4 : n4 ≤ 17592186044416 := by rw [hf4.sl.lln]; exact HL.out
  go_wp2_with fail
  refine (qnorm_of (z := zv true (val xs) ^ k) (b := false) hf4.sl hn4 HZ).mono ?_
  rintro e w2 ⟨p5, n5, c5, rfl, hf5, hb2⟩
  clear hf4
  have hlt2 := hB.lt
  replace hA00 := cell_on hA00 hb2
  replace hA01 := cell_on hA01 hb2
  replace hR0 := hR0.on hb2
  replace hB := hB.on hb2
  clear hb2
  obtain ⟨⟨u0, hu0⟩, ⟨u1, hu1⟩, hug0, hug1⟩ := hR0
  go_wp2_with fail
  refine bodyPost_ret (v := .tuple #[.agg #[.bool (ng (zv true (val xs) ^ k)), .slice p5 n5 c5], .bool true]) (by simp [results, Try.results88, go_sem, hu0, hu1]) rfl ?_
  exact ⟨_, _, _, rfl, hf5.setBox (by omega) (by omega), ((hB.set (by omega) _ _).set (by omega) _ _).below⟩

set_option maxHeartbeats 2000000 in
theorem qpow_small_o {p : Option Addr} {n c : Nat} {xs : List Nat} {w : World} {k : Nat} (hx : Sl w p n c xs) (hn : n ≤ 1048576000) (hk : k ≤ 9223372036854775807) (hL : ll (val xs ^ k) ≤ 17592186044416) (h1 : blen (val xs) ≤ 1) (he : k % 2 = 1) :
    Calls Try.prog 88 #[.agg #[.bool true, .slice p n c], .int .i64 (k : Int)] w (RetZB w (zv true (val xs) ^ k) true) := by
  have HZ : Hid (zv true (val (lim (val xs ^ k))) = zv true (val xs) ^ k) := by
    show _ = _
    rw [val_lim]
    first | exact zv_pow_false _ _ | exact zv_pow_even he | exact zv_pow_odd he
  have HL := Lib.hid hL
  clear hL
  have hz : ((k : Int) % 2 == 1) = true := by simp; omega
  clear he
  have HC := Lib.hid h1
  clear h1
  go_enter Try.func88, Try.ntmps88
  go_wp2_with fail
  obtain ⟨W, hW⟩ : ∃ W : World, W = ((w.alloc (.cells #[.bool true, .slice p n c] 25)).alloc (.cells #[.bool false, .slice none 0 0] 25)) := ⟨_, rfl⟩
  rw [← hW]
  have hA00 : W.cell? ⟨w.heap.size, 0, none⟩ = some (.bool true) := by rw [hW]; exact (cell_on (box_c0 (by simp)) (below_alloc _ _))
  have hA01 : W.cell? ⟨w.heap.size, 1, none⟩ = some (.slice p n c) := by rw [hW]; exact (cell_on (box_c1 (by simp)) (below_alloc _ _))
  have hR0 : Cel (w.heap.size + 1) W := by rw [hW]; exact (Cel.ofAlloc (by simp))
  have hB : Box w (w.heap.size + 1) W := by rw [hW]; exact ⟨by (try simp) <;> omega, (((Below.refl _ _).alloc (Nat.le_refl _) _).alloc (by (try simp) <;> omega) _)⟩
  clear hW
  go_wp2_with fail
  refine (rpow_small (hx.below hB.below (Nat.le_refl _)) hn hk HC.out).mono ?_
  rintro e w1 ⟨p4, n4, c4, rfl, hf4, hb1⟩
  have hlt1 := hB.lt
  replace hA00 := cell_on hA00 hb1
  replace hA01 := cell_on hA01 hb1
  replace hR0 := hR0.on hb1
  replace hB := hB.on hb1
  clear hb1
  have hn4 : n4 ≤ 17592186044416 := by rw [hf4.sl.lln]; exact HL.out
  go_wp2_with fail
  refine (qnorm_of (z := zv true (val xs) ^ k) (b := true) hf4.sl hn4 HZ).mono ?_
  rintro e w2 ⟨p5, n5, c5, rfl, hf5, hb2⟩
  clear hf4
  have hlt2 := hB.lt
  replace hA00 := cell_on hA00 hb2
  replace hA01 := cell_on hA01 hb2
  replace hR0 := hR0.on hb2
  replace hB := hB.on hb2
  clear hb2
  obtain ⟨⟨u0, hu0⟩, ⟨u1, hu1⟩, hug0, hug1⟩ := hR0
  go_wp2_with fail
  refine bodyPost_ret (v := .tuple #[.agg #[.bool (ng (zv true (val xs) ^ k)), .slice p5 n5 c5], .bool true]) (by simp [results, Try.results88, go_sem, hu0, hu1]) rfl ?_
  exact ⟨_, _, _, rfl, hf5.setBox (by omega) (by omega), ((hB.set (by omega) _ _).set (by omega) _ _).below⟩

end Go.Proofs.Ytoinfkimlhhmpaa

/-
  The walk of similelaw03.lives: the document's examples.
-/
namespace Go.Proofs.Ytoinfkimlhhmpaa
open Go.RowKit

theorem len_small {w : World} {B n c : Nat} {p : Option Addr} {z : Int} (h : Fr B w p n c (lim z.natAbs)) (hz : z.natAbs < 4294967296) : n ≤ 1 := z_len h (ll_le (k := 1) (by omega))

theorem near_five : nearZ (-5) 2 = -2 := by decide

end Go.Proofs.Ytoinfkimlhhmpaa
