/-
  Contracts and lemmas, joined in one text.
-/
import Derived.Test.YtlnilkghbbbhbaaZG
import Derived.Test.YtlnilkghbbbhbaaBC
import Derived.Test.YtlnilkghbbbhbaaBF
set_option linter.unusedVariables false
set_option linter.unusedSimpArgs false

/-
  The walks of zint: Near by nothing, Pow.
-/
namespace Go.Proofs.Ytlnilkghbbbhbaa
open Go.RowKit

theorem ng_nn (n : Nat) : ng ((n : Nat) : Int) = false := ng_nat n

set_option maxHeartbeats 4000000 in
theorem znear_zero {p q : Option Addr} {n m c d : Nat} {b b2 : Bool} {xs ys : List Nat} {w : World} (hx : Sl w p n c xs) (hy : Sl w q m d ys) (hn : n ≤ 1099511627776) (hm : m ≤ 1099511627776) (h0 : val ys = 0) :
    Calls Try.prog 35 #[.agg #[.bool b, .slice p n c], .agg #[.bool b2, .slice q m d]] w (RetZE w 0 5) := by
  have HS : Hid (0 = (zv b2 (val ys)).sign) := by show _ = _; rw [h0, zv_zero]; rfl
  have H0 := Lib.hid h0
  clear h0
  go_enter Try.func35, Try.ntmps35
  go_wp2_with fail
  obtain ⟨W, hW⟩ : ∃ W : World, W = (((w.alloc (.cells #[.bool b, .slice p n c] 25)).alloc (.cells #[.bool b2, .slice q m d] 25)).alloc (.cells #[.bool false, .slice none 0 0] 25)) := ⟨_, rfl⟩
  rw [← hW]
  have hA00 : W.cell? ⟨w.heap.size, 0, none⟩ = some (.bool b) := by rw [hW]; exact (cell_on (cell_on (box_c0 (by simp)) (below_alloc _ _)) (below_alloc _ _))
  have hA01 : W.cell? ⟨w.heap.size, 1, none⟩ = some (.slice p n c) := by rw [hW]; exact (cell_on (cell_on (box_c1 (by simp)) (below_alloc _ _)) (below_alloc _ _))
  have hA10 : W.cell? ⟨w.heap.size + 1, 0, none⟩ = some (.bool b2) := by rw [hW]; exact (cell_on (box_c0 (by simp)) (below_alloc _ _))
  have hA11 : W.cell? ⟨w.heap.size + 1, 1, none⟩ = some (.slice q m d) := by rw [hW]; exact (cell_on (box_c1 (by simp)) (below_alloc _ _))
  have hR0 : Cel (w.heap.size + 2) W := by rw [hW]; exact (Cel.ofAlloc (by simp))
  have hB : Box w (w.heap.size + 2) W := by rw [hW]; exact ⟨by (try simp) <;> omega, ((((Below.refl _ _).alloc (Nat.le_refl _) _).alloc (by (try simp) <;> omega) _).alloc (by (try simp) <;> omega) _)⟩
  clear hW
  go_wp2_with fail
  refine (zsign_of (s := 0) (hy.below hB.below (Nat.le_refl _)) (by omega) HS).mono ?_
  rintro e w1 ⟨rfl, hb1⟩
  replace hA00 := cell_on hA00 hb1
  replace hA01 := cell_on hA01 hb1
  replace hA10 := cell_on hA10 hb1
  replace hA11 := cell_on hA11 hb1
  replace hR0 := hR0.on hb1
  replace hB := hB.on hb1
  clear hb1
  go_wp2_with fail
  refine (zeuclid_zero (hx.below hB.below (Nat.le_refl _)) (hy.below hB.below (Nat.le_refl _)) hn hm H0.out).mono ?_
  rintro e w2 ⟨p4, n4, c4, p5, n5, c5, rfl, hf4, hf5, hb2⟩
  have hlt2 := hB.lt
  replace hA00 := cell_on hA00 hb2
  replace hA01 := cell_on hA01 hb2
  replace hA10 := cell_on hA10 hb2
  replace hA11 := cell_on hA11 hb2
  replace hR0 := hR0.on hb2
  replace hB := hB.on hb2
  clear hb2
  clear hf4 hf5
  go_upto_region 4 with (fail)
  have hlb0 := hB.lt
  obtain ⟨W1, hW⟩ : ∃ W1 : World, W1 = ((w2.alloc (.cells #[.bool (ng 0), .slice p4 n4 c4] 25)).alloc (.cells #[.bool (ng 0), .slice p5 n5 c5] 25)) := ⟨_, rfl⟩
  rw [← hW]
  have qhA00 : W1.cell? ⟨w.heap.size, 0, none⟩ = some (.bool b) := by rw [hW]; exact (cell_on (cell_on hA00 (below_alloc _ _)) (below_alloc _ _))
  have qhA01 : W1.cell? ⟨w.heap.size, 1, none⟩ = some (.slice p n c) := by rw [hW]; exact (cell_on (cell_on hA01 (below_alloc _ _)) (below_alloc _ _))
  have qhA10 : W1.cell? ⟨w.heap.size + 1, 0, none⟩ = some (.bool b2) := by rw [hW]; exact (cell_on (cell_on hA10 (below_alloc _ _)) (below_alloc _ _))
  have qhA11 : W1.cell? ⟨w.heap.size + 1, 1, none⟩ = some (.slice q m d) := by rw [hW]; exact (cell_on (cell_on hA11 (below_alloc _ _)) (below_alloc _ _))
  have qhR0 : Cel (w.heap.size + 2) W1 := by rw [hW]; exact ((hR0.on (below_alloc _ _)).on (below_alloc _ _))
  have hL00 : W1.cell? ⟨w2.heap.size, 0, none⟩ = some (.bool (ng 0)) := by rw [hW]; exact (cell_on (box_c0 (by simp)) (below_alloc _ _))
  have hL01 : W1.cell? ⟨w2.heap.size, 1, none⟩ = some (.slice p4 n4 c4) := by rw [hW]; exact (cell_on (box_c1 (by simp)) (below_alloc _ _))
  have hR1 : Cel (w2.heap.size) W1 := by rw [hW]; exact ((Cel.ofAlloc (by simp)).on (below_alloc _ _))
  have hL10 : W1.cell? ⟨w2.heap.size + 1, 0, none⟩ = some (.bool (ng 0)) := by rw [hW]; exact (box_c0 (by simp))
  have hL11 : W1.cell? ⟨w2.heap.size + 1, 1, none⟩ = some (.slice p5 n5 c5) := by rw [hW]; exact (box_c1 (by simp))
  have hR2 : Cel (w2.heap.size + 1) W1 := by rw [hW]; exact (Cel.ofAlloc (by simp))
  have qhB : Box w (w2.heap.size + 1) W1 := by rw [hW]; exact ⟨by (try simp) <;> omega, ((hB.below.alloc (by (try simp) <;> omega) _).alloc (by (try simp) <;> omega) _)⟩
  clear hW hA00 hA01 hA10 hA11 hR0 hB
  have hA00 := qhA00
  have hA01 := qhA01
  have hA10 := qhA10
  have hA11 := qhA11
  have hR0 := qhR0
  have hB := qhB
  clear qhA00 qhA01 qhA10 qhA11 qhR0 qhB
  obtain ⟨⟨u0, hu0⟩, ⟨u1, hu1⟩, hug0, hug1⟩ := id hR0
  go_wp2_with fail
  refine bodyPost_ret (v := .tuple #[.agg #[.bool false, .slice none 0 0], .int .i64 5]) (by simp [results, Try.results35, go_sem, hu0, hu1]) rfl ?_
  exact ⟨_, _, _, rfl, Fr.nil _ _, ((hB.set (by omega) _ _).set (by omega) _ _).below⟩

set_option maxHeartbeats 2000000 in
theorem zpow_neg {p : Option Addr} {n c : Nat} {b : Bool} {w : World} {k : Int} (hk : k < 0) :
    Calls Try.prog 55 #[.agg #[.bool b, .slice p n c], .int .i64 k] w (RetZE w 0 1) := by
  go_enter Try.func55, Try.ntmps55
  go_wp2_with fail
  obtain ⟨W, hW⟩ : ∃ W : World, W = ((w.alloc (.cells #[.bool b, .slice p n c] 25)).alloc (.cells #[.bool false, .slice none 0 0] 25)) := ⟨_, rfl⟩
  rw [← hW]
  have hA00 : W.cell? ⟨w.heap.size, 0, none⟩ = some (.bool b) := by rw [hW]; exact (cell_on (box_c0 (by simp)) (below_alloc _ _))
  have hA01 : W.cell? ⟨w.heap.size, 1, none⟩ = some (.slice p n c) := by rw [hW]; exact (cell_on (box_c1 (by simp)) (below_alloc _ _))
  have hR0 : Cel (w.heap.size + 1) W := by rw [hW]; exact (Cel.ofAlloc (by simp))
  have hB : Box w (w.heap.size + 1) W := by rw [hW]; exact ⟨by (try simp) <;> omega, (((Below.refl _ _).alloc (Nat.le_refl _) _).alloc (by (try simp) <;> omega) _)⟩
  clear hW
  go_wp2_with fail
  refine (pow_neg hk).mono ?_
  rintro e w1 ⟨p4, n4, c4, rfl, hf4, hb1⟩
  have hlt1 := hB.lt
  replace hA00 := cell_on hA00 hb1
  replace hA01 := cell_on hA01 hb1
  replace hR0 := hR0.on hb1
  replace hB := hB.on hb1
  clear hb1
  clear hf4
  obtain ⟨⟨u0, hu0⟩, ⟨u1, hu1⟩, hug0, hug1⟩ := hR0
  go_wp2_with fail
  refine bodyPost_ret (v := .tuple #[.agg #[.bool false, .slice none 0 0], .int .i64 1]) (by simp [results, Try.results55, go_sem, hu0, hu1]) rfl ?_
  exact ⟨_, _, _, rfl, Fr.nil _ _, ((hB.set (by omega) _ _).set (by omega) _ _).below⟩

set_option maxHeartbeats 2000000 in
theorem zpow_big {p : Option Addr} {n c : Nat} {b : Bool} {xs : List Nat} {w : World} {k : Nat} (hx : Sl w p n c xs) (hn : n ≤ 1048576000) (hk : k ≤ 9223372036854775807) (h1 : 1 < blen (val xs)) (h2 : 67108864 < k ∨ 67108864 ≤ (blen (val xs) - 1) * k) :
    Calls Try.prog 55 #[.agg #[.bool b, .slice p n c], .int .i64 (k : Int)] w (RetZE w 0 4) := by
  have HC := Lib.hid h1
  have HD := Lib.hid h2
  clear h1 h2
  go_enter Try.func55, Try.ntmps55
  go_wp2_with fail
  obtain ⟨W, hW⟩ : ∃ W : World, W = ((w.alloc (.cells #[.bool b, .slice p n c] 25)).alloc (.cells #[.bool false, .slice none 0 0] 25)) := ⟨_, rfl⟩
  rw [← hW]
  have hA00 : W.cell? ⟨w.heap.size, 0, none⟩ = some (.bool b) := by rw [hW]; exact (cell_on (box_c0 (by simp)) (below_alloc _ _))
  have hA01 : W.cell? ⟨w.heap.size, 1, none⟩ = some (.slice p n c) := by rw [hW]; exact (cell_on (box_c1 (by simp)) (below_alloc _ _))
  have hR0 : Cel (w.heap.size + 1) W := by rw [hW]; exact (Cel.ofAlloc (by simp))
  have hB : Box w (w.heap.size + 1) W := by rw [hW]; exact ⟨by (try simp) <;> omega, (((Below.refl _ _).alloc (Nat.le_refl _) _).alloc (by (try simp) <;> omega) _)⟩
  clear hW
  go_wp2_with fail
  refine (pow_big (hx.below hB.below (Nat.le_refl _)) hn hk HC.out HD.out).mono ?_
  rintro e w1 ⟨p4, n4, c4, rfl, hf4, hb1⟩
  have hlt1 := hB.lt
  replace hA00 := cell_on hA00 hb1
  replace hA01 := cell_on hA01 hb1
  replace hR0 := hR0.on hb1
  replace hB := hB.on hb1
  clear hb1
  clear hf4
  obtain ⟨⟨u0, hu0⟩, ⟨u1, hu1⟩, hug0, hug1⟩ := hR0
  go_wp2_with fail
  refine bodyPost_ret (v := .tuple #[.agg #[.bool false, .slice none 0 0], .int .i64 4]) (by simp [results, Try.results55, go_sem, hu0, hu1]) rfl ?_
  exact ⟨_, _, _, rfl, Fr.nil _ _, ((hB.set (by omega) _ _).set (by omega) _ _).below⟩

theorem zv_pow_false (n k : Nat) : zv false (n ^ k) = zv false n ^ k := by rw [zv_false, zv_false, Int.natCast_pow]
theorem zv_pow_even {n k : Nat} (h : k % 2 = 0) : zv false (n ^ k) = zv true n ^ k := by
  obtain ⟨j, rfl⟩ : ∃ j, k = 2 * j := ⟨k / 2, by omega⟩
  rw [zv_false, zv_true, Int.natCast_pow, Int.pow_mul, Int.pow_mul]
  congr 1
  rw [Int.pow_succ, Int.pow_succ, Int.pow_zero, Int.pow_succ, Int.pow_succ, Int.pow_zero, Int.one_mul, Int.one_mul, Int.neg_mul_neg]
theorem zv_pow_odd {n k : Nat} (h : k % 2 = 1) : zv true (n ^ k) = zv true n ^ k := by
  obtain ⟨j, rfl⟩ : ∃ j, k = j + 1 := ⟨k - 1, by omega⟩
  have h1 := zv_pow_even (n := n) (k := j) (by omega)
  rw [Int.pow_succ, ← h1, zv_false, zv_true, zv_true, Nat.pow_succ, Int.natCast_mul, Int.mul_neg]

set_option maxHeartbeats 2000000 in
theorem zpow_ok_p {p : Option Addr} {n c : Nat} {xs : List Nat} {w : World} {k : Nat} (hx : Sl w p n c xs) (hn : n ≤ 1048576000) (hk : k ≤ 9223372036854775807) (hk0 : 0 < k) (h1 : 1 < blen (val xs)) (h2 : blen (val xs) * k ≤ 67108864) :
    Calls Try.prog 55 #[.agg #[.bool false, .slice p n c], .int .i64 (k : Int)] w (RetZE w (zv false (val xs) ^ k) 0) := by
  have _ := hk
  have HZ : Hid (zv false (val xs ^ k) = zv false (val xs) ^ k) := by
    show _ = _
    first | exact zv_pow_false _ _ | exact zv_pow_even he | exact zv_pow_odd he
  have HC := Lib.hid h1
  have HD := Lib.hid h2
  clear h1 h2
  go_enter Try.func55, Try.ntmps55
  go_wp2_with fail
  obtain ⟨W, hW⟩ : ∃ W : World, W = ((w.alloc (.cells #[.bool false, .slice p n c] 25)).alloc (.cells #[.bool false, .slice none 0 0] 25)) := ⟨_, rfl⟩
  rw [← hW]
  have hA00 : W.cell? ⟨w.heap.size, 0, none⟩ = some (.bool false) := by rw [hW]; exact (cell_on (box_c0 (by simp)) (below_alloc _ _))
  have hA01 : W.cell? ⟨w.heap.size, 1, none⟩ = some (.slice p n c) := by rw [hW]; exact (cell_on (box_c1 (by simp)) (below_alloc _ _))
  have hR0 : Cel (w.heap.size + 1) W := by rw [hW]; exact (Cel.ofAlloc (by simp))
  have hB : Box w (w.heap.size + 1) W := by rw [hW]; exact ⟨by (try simp) <;> omega, (((Below.refl _ _).alloc (Nat.le_refl _) _).alloc (by (try simp) <;> omega) _)⟩
  clear hW
  go_wp2_with fail
  refine (pow_ok (hx.below hB.below (Nat.le_refl _)) hn hk0 HC.out HD.out).mono ?_
  rintro e w1 ⟨p4, n4, c4, rfl, hf4, hb1⟩
  have hlt1 := hB.lt
  replace hA00 := cell_on hA00 hb1
  replace hA01 := cell_on hA01 hb1
  replace hR0 := hR0.on hb1
  replace hB := hB.on hb1
  clear hb1
  go_wp2_with fail
  refine (make1_any).mono ?_
  rintro e w2 ⟨rfl, hb2⟩
  replace hA00 := cell_on hA00 hb2
  replace hA01 := cell_on hA01 hb2
  replace hR0 := hR0.on hb2
  replace hB := hB.on hb2
  replace hf4 := hf4.below hb2 (Nat.le_refl _)
  clear hb2
  obtain ⟨⟨u0, hu0⟩, ⟨u1, hu1⟩, hug0, hug1⟩ := hR0
  go_wp2_with fail
  refine bodyPost_ret (v := .tuple #[.agg #[.bool (false && decide (0 < n4)), .slice p4 n4 c4], .int .i64 0]) (by simp [results, Try.results55, go_sem, hu0, hu1]) rfl ?_
  exact ⟨_, _, _, by rw [mk_ng hf4.sl.lln, HZ.out], by rw [← HZ.out, natAbs_zv]; exact hf4.setBox (by omega) (by omega), ((hB.set (by omega) _ _).set (by omega) _ _).below⟩

set_option maxHeartbeats 2000000 in
theorem zpow_ok_e {p : Option Addr} {n c : Nat} {xs : List Nat} {w : World} {k : Nat} (hx : Sl w p n c xs) (hn : n ≤ 1048576000) (hk : k ≤ 9223372036854775807) (hk0 : 0 < k) (h1 : 1 < blen (val xs)) (h2 : blen (val xs) * k ≤ 67108864) (he : k % 2 = 0) :
    Calls Try.prog 55 #[.agg #[.bool true, .slice p n c], .int .i64 (k : Int)] w (RetZE w (zv true (val xs) ^ k) 0) := by
  have _ := hk
  have HZ : Hid (zv false (val xs ^ k) = zv true (val xs) ^ k) := by
    show _ = _
    first | exact zv_pow_false _ _ | exact zv_pow_even he | exact zv_pow_odd he
  have hz : ((k : Int) % 2 == 1) = false := by simp; omega
  clear he
  have HC := Lib.hid h1
  have HD := Lib.hid h2
  clear h1 h2
  go_enter Try.func55, Try.ntmps55
  go_wp2_with fail
  obtain ⟨W, hW⟩ : ∃ W : World, W = ((w.alloc (.cells #[.bool true, .slice p n c] 25)).alloc (.cells #[.bool false, .slice none 0 0] 25)) := ⟨_, rfl⟩
  rw [← hW]
  have hA00 : W.cell? ⟨w.heap.size, 0, none⟩ = some (.bool true) := by rw [hW]; exact (cell_on (box_c0 (by simp)) (below_alloc _ _))
  have hA01 : W.cell? ⟨w.heap.size, 1, none⟩ = some (.slice p n c) := by rw [hW]; exact (cell_on (box_c1 (by simp)) (below_alloc _ _))
  have hR0 : Cel (w.heap.size + 1) W := by rw [hW]; exact (Cel.ofAlloc (by simp))
  have hB : Box w (w.heap.size + 1) W := by rw [hW]; exact ⟨by (try simp) <;> omega, (((Below.refl _ _).alloc (Nat.le_refl _) _).alloc (by (try simp) <;> omega) _)⟩
  clear hW
  go_wp2_with fail
  refine (pow_ok (hx.below hB.below (Nat.le_refl _)) hn hk0 HC.out HD.out).mono ?_
  rintro e w1 ⟨p4, n4, c4, rfl, hf4, hb1⟩
  have hlt1 := hB.lt
  replace hA00 := cell_on hA00 hb1
  replace hA01 := cell_on hA01 hb1
  replace hR0 := hR0.on hb1
  replace hB := hB.on hb1
  clear hb1
  go_wp2_with fail
  refine (make1_any).mono ?_
  rintro e w2 ⟨rfl, hb2⟩
  replace hA00 := cell_on hA00 hb2
  replace hA01 := cell_on hA01 hb2
  replace hR0 := hR0.on hb2
  replace hB := hB.on hb2
  replace hf4 := hf4.below hb2 (Nat.le_refl _)
  clear hb2
  obtain ⟨⟨u0, hu0⟩, ⟨u1, hu1⟩, hug0, hug1⟩ := hR0
  go_wp2_with fail
  refine bodyPost_ret (v := .tuple #[.agg #[.bool (false && decide (0 < n4)), .slice p4 n4 c4], .int .i64 0]) (by simp [results, Try.results55, go_sem, hu0, hu1]) rfl ?_
  exact ⟨_, _, _, by rw [mk_ng hf4.sl.lln, HZ.out], by rw [← HZ.out, natAbs_zv]; exact hf4.setBox (by omega) (by omega), ((hB.set (by omega) _ _).set (by omega) _ _).below⟩

set_option maxHeartbeats 2000000 in
theorem zpow_ok_o {p : Option Addr} {n c : Nat} {xs : List Nat} {w : World} {k : Nat} (hx : Sl w p n c xs) (hn : n ≤ 1048576000) (hk : k ≤ 9223372036854775807) (hk0 : 0 < k) (h1 : 1 < blen (val xs)) (h2 : blen (val xs) * k ≤ 67108864) (he : k % 2 = 1) :
    Calls Try.prog 55 #[.agg #[.bool true, .slice p n c], .int .i64 (k : Int)] w (RetZE w (zv true (val xs) ^ k) 0) := by
  have _ := hk
  have HZ : Hid (zv true (val xs ^ k) = zv true (val xs) ^ k) := by
    show _ = _
    first | exact zv_pow_false _ _ | exact zv_pow_even he | exact zv_pow_odd he
  have hz : ((k : Int) % 2 == 1) = true := by simp; omega
  clear he
  have HC := Lib.hid h1
  have HD := Lib.hid h2
  clear h1 h2
  go_enter Try.func55, Try.ntmps55
  go_wp2_with fail
  obtain ⟨W, hW⟩ : ∃ W : World, W = ((w.alloc (.cells #[.bool true, .slice p n c] 25)).alloc (.cells #[.bool false, .slice none 0 0] 25)) := ⟨_, rfl⟩
  rw [← hW]
  have hA00 : W.cell? ⟨w.heap.size, 0, none⟩ = some (.bool true) := by rw [hW]; exact (cell_on (box_c0 (by simp)) (below_alloc _ _))
  have hA01 : W.cell? ⟨w.heap.size, 1, none⟩ = some (.slice p n c) := by rw [hW]; exact (cell_on (box_c1 (by simp)) (below_alloc _ _))
  have hR0 : Cel (w.heap.size + 1) W := by rw [hW]; exact (Cel.ofAlloc (by simp))
  have hB : Box w (w.heap.size + 1) W := by rw [hW]; exact ⟨by (try simp) <;> omega, (((Below.refl _ _).alloc (Nat.le_refl _) _).alloc (by (try simp) <;> omega) _)⟩
  clear hW
  go_wp2_with fail
  refine (pow_ok (hx.below hB.below (Nat.le_refl _)) hn hk0 HC.out HD.out).mono ?_
  rintro e w1 ⟨p4, n4, c4, rfl, hf4, hb1⟩
  have hlt1 := hB.lt
  replace hA00 := cell_on hA00 hb1
  replace hA01 := cell_on hA01 hb1
  replace hR0 := hR0.on hb1
  replace hB := hB.on hb1
  clear hb1
  go_wp2_with fail
  refine (make1_any).mono ?_
  rintro e w2 ⟨rfl, hb2⟩
  replace hA00 := cell_on hA00 hb2
  replace hA01 := cell_on hA01 hb2
  replace hR0 := hR0.on hb2
  replace hB := hB.on hb2
  replace hf4 := hf4.below hb2 (Nat.le_refl _)
  clear hb2
  obtain ⟨⟨u0, hu0⟩, ⟨u1, hu1⟩, hug0, hug1⟩ := hR0
  go_wp2_with fail
  refine bodyPost_ret (v := .tuple #[.agg #[.bool (true && decide (0 < n4)), .slice p4 n4 c4], .int .i64 0]) (by simp [results, Try.results55, go_sem, hu0, hu1]) rfl ?_
  exact ⟨_, _, _, by rw [mk_ng hf4.sl.lln, HZ.out], by rw [← HZ.out, natAbs_zv]; exact hf4.setBox (by omega) (by omega), ((hB.set (by omega) _ _).set (by omega) _ _).below⟩

set_option maxHeartbeats 2000000 in
theorem zpow_one_p {p : Option Addr} {n c : Nat} {xs : List Nat} {w : World} {k : Nat} (hx : Sl w p n c xs) (hn : n ≤ 1048576000) (hk : k ≤ 9223372036854775807) (h1 : k = 0 ∨ blen (val xs) = 1) :
    Calls Try.prog 55 #[.agg #[.bool false, .slice p n c], .int .i64 (k : Int)] w (RetZE w (zv false (val xs) ^ k) 0) := by
  have HZ : Hid (zv false (1) = zv false (val xs) ^ k) := by
    show _ = _
    have e1 : (1 : Nat) = val xs ^ k := by
      rcases h1 with h | h
      · rw [h, Nat.pow_zero]
      · rw [blen_one h, Nat.one_pow]
    rw [e1]
    first | exact zv_pow_false _ _ | exact zv_pow_even he | exact zv_pow_odd he
  have HD := Lib.hid h1
  clear h1
  go_enter Try.func55, Try.ntmps55
  go_wp2_with fail
  obtain ⟨W, hW⟩ : ∃ W : World, W = ((w.alloc (.cells #[.bool false, .slice p n c] 25)).alloc (.cells #[.bool false, .slice none 0 0] 25)) := ⟨_, rfl⟩
  rw [← hW]
  have hA00 : W.cell? ⟨w.heap.size, 0, none⟩ = some (.bool false) := by rw [hW]; exact (cell_on (box_c0 (by simp)) (below_alloc _ _))
  have hA01 : W.cell? ⟨w.heap.size, 1, none⟩ = some (.slice p n c) := by rw [hW]; exact (cell_on (box_c1 (by simp)) (below_alloc _ _))
  have hR0 : Cel (w.heap.size + 1) W := by rw [hW]; exact (Cel.ofAlloc (by simp))
  have hB : Box w (w.heap.size + 1) W := by rw [hW]; exact ⟨by (try simp) <;> omega, (((Below.refl _ _).alloc (Nat.le_refl _) _).alloc (by (try simp) <;> omega) _)⟩
  clear hW
  go_wp2_with fail
  refine (pow_one (hx.below hB.below (Nat.le_refl _)) hn hk HD.out).mono ?_
  rintro e w1 ⟨p4, n4, c4, rfl, hf4, hb1⟩
  have hlt1 := hB.lt
  replace hA00 := cell_on hA00 hb1
  replace hA01 := cell_on hA01 hb1
  replace hR0 := hR0.on hb1
  replace hB := hB.on hb1
  clear hb1
  go_wp2_with fail
  refine (make1_any).mono ?_
  rintro e w2 ⟨rfl, hb2⟩
  replace hA00 := cell_on hA00 hb2
  replace hA01 := cell_on hA01 hb2
  replace hR0 := hR0.on hb2
  replace hB := hB.on hb2
  replace hf4 := hf4.below hb2 (Nat.le_refl _)
  clear hb2
  obtain ⟨⟨u0, hu0⟩, ⟨u1, hu1⟩, hug0, hug1⟩ := hR0
  go_wp2_with fail
  refine bodyPost_ret (v := .tuple #[.agg #[.bool (false && decide (0 < n4)), .slice p4 n4 c4], .int .i64 0]) (by simp [results, Try.results55, go_sem, hu0, hu1]) rfl ?_
  exact ⟨_, _, _, by rw [mk_ng hf4.sl.lln, HZ.out], by rw [← HZ.out, natAbs_zv]; exact hf4.setBox (by omega) (by omega), ((hB.set (by omega) _ _).set (by omega) _ _).below⟩

set_option maxHeartbeats 2000000 in
theorem zpow_one_e {p : Option Addr} {n c : Nat} {xs : List Nat} {w : World} {k : Nat} (hx : Sl w p n c xs) (hn : n ≤ 1048576000) (hk : k ≤ 9223372036854775807) (h1 : k = 0 ∨ blen (val xs) = 1) (he : k % 2 = 0) :
    Calls Try.prog 55 #[.agg #[.bool true, .slice p n c], .int .i64 (k : Int)] w (RetZE w (zv true (val xs) ^ k) 0) := by
  have HZ : Hid (zv false (1) = zv true (val xs) ^ k) := by
    show _ = _
    have e1 : (1 : Nat) = val xs ^ k := by
      rcases h1 with h | h
      · rw [h, Nat.pow_zero]
      · rw [blen_one h, Nat.one_pow]
    rw [e1]
    first | exact zv_pow_false _ _ | exact zv_pow_even he | exact zv_pow_odd he
  have hz : ((k : Int) % 2 == 1) = false := by simp; omega
  clear he
  have HD := Lib.hid h1
  clear h1
  go_enter Try.func55, Try.ntmps55
  go_wp2_with fail
  obtain ⟨W, hW⟩ : ∃ W : World, W = ((w.alloc (.cells #[.bool true, .slice p n c] 25)).alloc (.cells #[.bool false, .slice none 0 0] 25)) := ⟨_, rfl⟩
  rw [← hW]
  have hA00 : W.cell? ⟨w.heap.size, 0, none⟩ = some (.bool true) := by rw [hW]; exact (cell_on (box_c0 (by simp)) (below_alloc _ _))
  have hA01 : W.cell? ⟨w.heap.size, 1, none⟩ = some (.slice p n c) := by rw [hW]; exact (cell_on (box_c1 (by simp)) (below_alloc _ _))
  have hR0 : Cel (w.heap.size + 1) W := by rw [hW]; exact (Cel.ofAlloc (by simp))
  have hB : Box w (w.heap.size + 1) W := by rw [hW]; exact ⟨by (try simp) <;> omega, (((Below.refl _ _).alloc (Nat.le_refl _) _).alloc (by (try simp) <;> omega) _)⟩
  clear hW
  go_wp2_with fail
  refine (pow_one (hx.below hB.below (Nat.le_refl _)) hn hk HD.out).mono ?_
  rintro e w1 ⟨p4, n4, c4, rfl, hf4, hb1⟩
  have hlt1 := hB.lt
  replace hA00 := cell_on hA00 hb1
  replace hA01 := cell_on hA01 hb1
  replace hR0 := hR0.on hb1
  replace hB := hB.on hb1
  clear hb1
  go_wp2_with fail
  refine (make1_any).mono ?_
  rintro e w2 ⟨rfl, hb2⟩
  replace hA00 := cell_on hA00 hb2
  replace hA01 := cell_on hA01 hb2
  replace hR0 := hR0.on hb2
  replace hB := hB.on hb2
  replace hf4 := hf4.below hb2 (Nat.le_refl _)
  clear hb2
  obtain ⟨⟨u0, hu0⟩, ⟨u1, hu1⟩, hug0, hug1⟩ := hR0
  go_wp2_with fail
  refine bodyPost_ret (v := .tuple #[.agg #[.bool (false && decide (0 < n4)), .slice p4 n4 c4], .int .i64 0]) (by simp [results, Try.results55, go_sem, hu0, hu1]) rfl ?_
  exact ⟨_, _, _, by rw [mk_ng hf4.sl.lln, HZ.out], by rw [← HZ.out, natAbs_zv]; exact hf4.setBox (by omega) (by omega), ((hB.set (by omega) _ _).set (by omega) _ _).below⟩

set_option maxHeartbeats 2000000 in
theorem zpow_one_o {p : Option Addr} {n c : Nat} {xs : List Nat} {w : World} {k : Nat} (hx : Sl w p n c xs) (hn : n ≤ 1048576000) (hk : k ≤ 9223372036854775807) (h1 : k = 0 ∨ blen (val xs) = 1) (he : k % 2 = 1) :
    Calls Try.prog 55 #[.agg #[.bool true, .slice p n c], .int .i64 (k : Int)] w (RetZE w (zv true (val xs) ^ k) 0) := by
  have HZ : Hid (zv true (1) = zv true (val xs) ^ k) := by
    show _ = _
    have e1 : (1 : Nat) = val xs ^ k := by
      rcases h1 with h | h
      · rw [h, Nat.pow_zero]
      · rw [blen_one h, Nat.one_pow]
    rw [e1]
    first | exact zv_pow_false _ _ | exact zv_pow_even he | exact zv_pow_odd he
  have hz : ((k : Int) % 2 == 1) = true := by simp; omega
  clear he
  have HD := Lib.hid h1
  clear h1
  go_enter Try.func55, Try.ntmps55
  go_wp2_with fail
  obtain ⟨W, hW⟩ : ∃ W : World, W = ((w.alloc (.cells #[.bool true, .slice p n c] 25)).alloc (.cells #[.bool false, .slice none 0 0] 25)) := ⟨_, rfl⟩
  rw [← hW]
  have hA00 : W.cell? ⟨w.heap.size, 0, none⟩ = some (.bool true) := by rw [hW]; exact (cell_on (box_c0 (by simp)) (below_alloc _ _))
  have hA01 : W.cell? ⟨w.heap.size, 1, none⟩ = some (.slice p n c) := by rw [hW]; exact (cell_on (box_c1 (by simp)) (below_alloc _ _))
  have hR0 : Cel (w.heap.size + 1) W := by rw [hW]; exact (Cel.ofAlloc (by simp))
  have hB : Box w (w.heap.size + 1) W := by rw [hW]; exact ⟨by (try simp) <;> omega, (((Below.refl _ _).alloc (Nat.le_refl _) _).alloc (by (try simp) <;> omega) _)⟩
  clear hW
  go_wp2_with fail
  refine (pow_one (hx.below hB.below (Nat.le_refl _)) hn hk HD.out).mono ?_
  rintro e w1 ⟨p4, n4, c4, rfl, hf4, hb1⟩
  have hlt1 := hB.lt
  replace hA00 := cell_on hA00 hb1
  replace hA01 := cell_on hA01 hb1
  replace hR0 := hR0.on hb1
  replace hB := hB.on hb1
  clear hb1
  go_wp2_with fail
  refine (make1_any).mono ?_
  rintro e w2 ⟨rfl, hb2⟩
  replace hA00 := cell_on hA00 hb2
  replace hA01 := cell_on hA01 hb2
  replace hR0 := hR0.on hb2
  replace hB := hB.on hb2
  replace hf4 := hf4.below hb2 (Nat.le_refl _)
  clear hb2
  obtain ⟨⟨u0, hu0⟩, ⟨u1, hu1⟩, hug0, hug1⟩ := hR0
  go_wp2_with fail
  refine bodyPost_ret (v := .tuple #[.agg #[.bool (true && decide (0 < n4)), .slice p4 n4 c4], .int .i64 0]) (by simp [results, Try.results55, go_sem, hu0, hu1]) rfl ?_
  exact ⟨_, _, _, by rw [mk_ng hf4.sl.lln, HZ.out], by rw [← HZ.out, natAbs_zv]; exact hf4.setBox (by omega) (by omega), ((hB.set (by omega) _ _).set (by omega) _ _).below⟩

set_option maxHeartbeats 2000000 in
theorem zpow_nil_p {p : Option Addr} {n c : Nat} {xs : List Nat} {w : World} {k : Nat} (hx : Sl w p n c xs) (hn : n ≤ 1048576000) (hk : k ≤ 9223372036854775807) (hk0 : 0 < k) (h1 : val xs = 0) :
    Calls Try.prog 55 #[.agg #[.bool false, .slice p n c], .int .i64 (k : Int)] w (RetZE w (zv false (val xs) ^ k) 0) := by
  have HZ : Hid (zv false (0) = zv false (val xs) ^ k) := by
    show _ = _
    have e1 : (0 : Nat) = val xs ^ k := by rw [h1, Nat.zero_pow hk0]
    rw [e1]
    first | exact zv_pow_false _ _ | exact zv_pow_even he | exact zv_pow_odd he
  have HD := Lib.hid h1
  clear h1
  go_enter Try.func55, Try.ntmps55
  go_wp2_with fail
  obtain ⟨W, hW⟩ : ∃ W : World, W = ((w.alloc (.cells #[.bool false, .slice p n c] 25)).alloc (.cells #[.bool false, .slice none 0 0] 25)) := ⟨_, rfl⟩
  rw [← hW]
  have hA00 : W.cell? ⟨w.heap.size, 0, none⟩ = some (.bool false) := by rw [hW]; exact (cell_on (box_c0 (by simp)) (below_alloc _ _))
  have hA01 : W.cell? ⟨w.heap.size, 1, none⟩ = some (.slice p n c) := by rw [hW]; exact (cell_on (box_c1 (by simp)) (below_alloc _ _))
  have hR0 : Cel (w.heap.size + 1) W := by rw [hW]; exact (Cel.ofAlloc (by simp))
  have hB : Box w (w.heap.size + 1) W := by rw [hW]; exact ⟨by (try simp) <;> omega, (((Below.refl _ _).alloc (Nat.le_refl _) _).alloc (by (try simp) <;> omega) _)⟩
  clear hW
  go_wp2_with fail
  refine (pow_zero (hx.below hB.below (Nat.le_refl _)) hn hk hk0 HD.out).mono ?_
  rintro e w1 ⟨p4, n4, c4, rfl, hf4, hb1⟩
  have hlt1 := hB.lt
  replace hA00 := cell_on hA00 hb1
  replace hA01 := cell_on hA01 hb1
  replace hR0 := hR0.on hb1
  replace hB := hB.on hb1
  clear hb1
  change Fr _ _ _ _ _ (lim 0) at hf4
  go_wp2_with fail
  refine (make1_any).mono ?_
  rintro e w2 ⟨rfl, hb2⟩
  replace hA00 := cell_on hA00 hb2
  replace hA01 := cell_on hA01 hb2
  replace hR0 := hR0.on hb2
  replace hB := hB.on hb2
  replace hf4 := hf4.below hb2 (Nat.le_refl _)
  clear hb2
  obtain ⟨⟨u0, hu0⟩, ⟨u1, hu1⟩, hug0, hug1⟩ := hR0
  go_wp2_with fail
  refine bodyPost_ret (v := .tuple #[.agg #[.bool (false && decide (0 < n4)), .slice p4 n4 c4], .int .i64 0]) (by simp [results, Try.results55, go_sem, hu0, hu1]) rfl ?_
  exact ⟨_, _, _, by rw [mk_ng hf4.sl.lln, HZ.out], by rw [← HZ.out, natAbs_zv]; exact hf4.setBox (by omega) (by omega), ((hB.set (by omega) _ _).set (by omega) _ _).below⟩

set_option maxHeartbeats 2000000 in
theorem zpow_nil_e {p : Option Addr} {n c : Nat} {xs : List Nat} {w : World} {k : Nat} (hx : Sl w p n c xs) (hn : n ≤ 1048576000) (hk : k ≤ 9223372036854775807) (hk0 : 0 < k) (h1 : val xs = 0) (he : k % 2 = 0) :
    Calls Try.prog 55 #[.agg #[.bool true, .slice p n c], .int .i64 (k : Int)] w (RetZE w (zv true (val xs) ^ k) 0) := by
  have HZ : Hid (zv false (0) = zv true (val xs) ^ k) := by
    show _ = _
    have e1 : (0 : Nat) = val xs ^ k := by rw [h1, Nat.zero_pow hk0]
    rw [e1]
    first | exact zv_pow_false _ _ | exact zv_pow_even he | exact zv_pow_odd he
  have hz : ((k : Int) % 2 == 1) = false := by simp; omega
  clear he
  have HD := Lib.hid h1
  clear h1
  go_enter Try.func55, Try.ntmps55
  go_wp2_with fail
  obtain ⟨W, hW⟩ : ∃ W : World, W = ((w.alloc (.cells #[.bool true, .slice p n c] 25)).alloc (.cells #[.bool false, .slice none 0 0] 25)) := ⟨_, rfl⟩
  rw [← hW]
  have hA00 : W.cell? ⟨w.heap.size, 0, none⟩ = some (.bool true) := by rw [hW]; exact (cell_on (box_c0 (by simp)) (below_alloc _ _))
  have hA01 : W.cell? ⟨w.heap.size, 1, none⟩ = some (.slice p n c) := by rw [hW]; exact (cell_on (box_c1 (by simp)) (below_alloc _ _))
  have hR0 : Cel (w.heap.size + 1) W := by rw [hW]; exact (Cel.ofAlloc (by simp))
  have hB : Box w (w.heap.size + 1) W := by rw [hW]; exact ⟨by (try simp) <;> omega, (((Below.refl _ _).alloc (Nat.le_refl _) _).alloc (by (try simp) <;> omega) _)⟩
  clear hW
  go_wp2_with fail
  refine (pow_zero (hx.below hB.below (Nat.le_refl _)) hn hk hk0 HD.out).mono ?_
  rintro e w1 ⟨p4, n4, c4, rfl, hf4, hb1⟩
  have hlt1 := hB.lt
  replace hA00 := cell_on hA00 hb1
  replace hA01 := cell_on hA01 hb1
  replace hR0 := hR0.on hb1
  replace hB := hB.on hb1
  clear hb1
  change Fr _ _ _ _ _ (lim 0) at hf4
  go_wp2_with fail
  refine (make1_any).mono ?_
  rintro e w2 ⟨rfl, hb2⟩
  replace hA00 := cell_on hA00 hb2
  replace hA01 := cell_on hA01 hb2
  replace hR0 := hR0.on hb2
  replace hB := hB.on hb2
  replace hf4 := hf4.below hb2 (Nat.le_refl _)
  clear hb2
  obtain ⟨⟨u0, hu0⟩, ⟨u1, hu1⟩, hug0, hug1⟩ := hR0
  go_wp2_with fail
  refine bodyPost_ret (v := .tuple #[.agg #[.bool (false && decide (0 < n4)), .slice p4 n4 c4], .int .i64 0]) (by simp [results, Try.results55, go_sem, hu0, hu1]) rfl ?_
  exact ⟨_, _, _, by rw [mk_ng hf4.sl.lln, HZ.out], by rw [← HZ.out, natAbs_zv]; exact hf4.setBox (by omega) (by omega), ((hB.set (by omega) _ _).set (by omega) _ _).below⟩

set_option maxHeartbeats 2000000 in
theorem zpow_nil_o {p : Option Addr} {n c : Nat} {xs : List Nat} {w : World} {k : Nat} (hx : Sl w p n c xs) (hn : n ≤ 1048576000) (hk : k ≤ 9223372036854775807) (hk0 : 0 < k) (h1 : val xs = 0) (he : k % 2 = 1) :
    Calls Try.prog 55 #[.agg #[.bool true, .slice p n c], .int .i64 (k : Int)] w (RetZE w (zv true (val xs) ^ k) 0) := by
  have HZ : Hid (zv true (0) = zv true (val xs) ^ k) := by
    show _ = _
    have e1 : (0 : Nat) = val xs ^ k := by rw [h1, Nat.zero_pow hk0]
    rw [e1]
    first | exact zv_pow_false _ _ | exact zv_pow_even he | exact zv_pow_odd he
  have hz : ((k : Int) % 2 == 1) = true := by simp; omega
  clear he
  have HD := Lib.hid h1
  clear h1
  go_enter Try.func55, Try.ntmps55
  go_wp2_with fail
  obtain ⟨W, hW⟩ : ∃ W : World, W = ((w.alloc (.cells #[.bool true, .slice p n c] 25)).alloc (.cells #[.bool false, .slice none 0 0] 25)) := ⟨_, rfl⟩
  rw [← hW]
  have hA00 : W.cell? ⟨w.heap.size, 0, none⟩ = some (.bool true) := by rw [hW]; exact (cell_on (box_c0 (by simp)) (below_alloc _ _))
  have hA01 : W.cell? ⟨w.heap.size, 1, none⟩ = some (.slice p n c) := by rw [hW]; exact (cell_on (box_c1 (by simp)) (below_alloc _ _))
  have hR0 : Cel (w.heap.size + 1) W := by rw [hW]; exact (Cel.ofAlloc (by simp))
  have hB : Box w (w.heap.size + 1) W := by rw [hW]; exact ⟨by (try simp) <;> omega, (((Below.refl _ _).alloc (Nat.le_refl _) _).alloc (by (try simp) <;> omega) _)⟩
  clear hW
  go_wp2_with fail
  refine (pow_zero (hx.below hB.below (Nat.le_refl _)) hn hk hk0 HD.out).mono ?_
  rintro e w1 ⟨p4, n4, c4, rfl, hf4, hb1⟩
  have hlt1 := hB.lt
  replace hA00 := cell_on hA00 hb1
  replace hA01 := cell_on hA01 hb1
  replace hR0 := hR0.on hb1
  replace hB := hB.on hb1
  clear hb1
  change Fr _ _ _ _ _ (lim 0) at hf4
  go_wp2_with fail
  refine (make1_any).mono ?_
  rintro e w2 ⟨rfl, hb2⟩
  replace hA00 := cell_on hA00 hb2
  replace hA01 := cell_on hA01 hb2
  replace hR0 := hR0.on hb2
  replace hB := hB.on hb2
  replace hf4 := hf4.below hb2 (Nat.le_refl _)
  clear hb2
  obtain ⟨⟨u0, hu0⟩, ⟨u1, hu1⟩, hug0, hug1⟩ := hR0
  go_wp2_with fail
  refine bodyPost_ret (v := .tuple #[.agg #[.bool (true && decide (0 < n4)), .slice p4 n4 c4], .int .i64 0]) (by simp [results, Try.results55, go_sem, hu0, hu1]) rfl ?_
  exact ⟨_, _, _, by rw [mk_ng hf4.sl.lln, HZ.out], by rw [← HZ.out, natAbs_zv]; exact hf4.setBox (by omega) (by omega), ((hB.set (by omega) _ _).set (by omega) _ _).below⟩

end Go.Proofs.Ytlnilkghbbbhbaa

/-
  The walks of simileref03: Gcd, Pow.
-/
namespace Go.Proofs.Ytlnilkghbbbhbaa
open Go.RowKit

set_option maxHeartbeats 1000000 in
theorem qgcd_any {p q : Option Addr} {n m c d : Nat} {b b2 : Bool} {xs ys : List Nat} {w : World} (hx : Sl w p n c xs) (hy : Sl w q m d ys) (hn : n ≤ 549755813888) (hm : m ≤ 549755813888) :
    Calls Try.prog 79 #[.agg #[.bool b, .slice p n c], .agg #[.bool b2, .slice q m d]] w (RetZ w ((Int.gcd (zv b (val xs)) (zv b2 (val ys)) : Nat) : Int)) := by
  go_enter Try.func79, Try.ntmps79
  go_wp2_with fail
  obtain ⟨W, hW⟩ : ∃ W : World, W = (((w.alloc (.cells #[.bool b, .slice p n c] 25)).alloc (.cells #[.bool b2, .slice q m d] 25)).alloc (.cells #[.bool false, .slice none 0 0] 25)) := ⟨_, rfl⟩
  rw [← hW]
  have hA00 : W.cell? ⟨w.heap.size, 0, none⟩ = some (.bool b) := by rw [hW]; exact (cell_on (cell_on (box_c0 (by simp)) (below_alloc _ _)) (below_alloc _ _))
  have hA01 : W.cell? ⟨w.heap.size, 1, none⟩ = some (.slice p n c) := by rw [hW]; exact (cell_on (cell_on (box_c1 (by simp)) (below_alloc _ _)) (below_alloc _ _))
  have hA10 : W.cell? ⟨w.heap.size + 1, 0, none⟩ = some (.bool b2) := by rw [hW]; exact (cell_on (box_c0 (by simp)) (below_alloc _ _))
  have hA11 : W.cell? ⟨w.heap.size + 1, 1, none⟩ = some (.slice q m d) := by rw [hW]; exact (cell_on (box_c1 (by simp)) (below_alloc _ _))
  have hR0 : Cel (w.heap.size + 2) W := by rw [hW]; exact (Cel.ofAlloc (by simp))
  have hB : Box w (w.heap.size + 2) W := by rw [hW]; exact ⟨by (try simp) <;> omega, ((((Below.refl _ _).alloc (Nat.le_refl _) _).alloc (by (try simp) <;> omega) _).alloc (by (try simp) <;> omega) _)⟩
  clear hW
  go_wp2_with fail
  refine (rgcd_any (hx.below hB.below (Nat.le_refl _)) (hy.below hB.below (Nat.le_refl _)) hn hm).mono ?_
  rintro e w1 ⟨p4, n4, c4, rfl, hf4, hb1⟩
  have hlt1 := hB.lt
  replace hA00 := cell_on hA00 hb1
  replace hA01 := cell_on hA01 hb1
  replace hA10 := cell_on hA10 hb1
  replace hA11 := cell_on hA11 hb1
  replace hR0 := hR0.on hb1
  replace hB := hB.on hb1
  clear hb1
  obtain ⟨⟨u0, hu0⟩, ⟨u1, hu1⟩, hug0, hug1⟩ := hR0
  go_wp2_with fail
  refine bodyPost_ret (v := .agg #[.bool false, .slice p4 n4 c4]) (by simp [results, Try.results79, go_sem, hu0, hu1]) rfl ?_
  exact retZ_box (b := false) hf4 (by omega) (by omega) ((hB.set (by omega) _ _).set (by omega) _ _).below (by unfold Int.gcd; rw [natAbs_zv, natAbs_zv]; rfl)

set_option maxHeartbeats 2000000 in
theorem qpow_big {p : Option Addr} {n c : Nat} {b : Bool} {xs : List Nat} {w : World} {k : Nat} (hx : Sl w p n c xs) (hn : n ≤ 1048576000) (hk : k ≤ 9223372036854775807) (h1 : 1 < blen (val xs)) (h2 : 67108864 < k ∨ 67108864 ≤ (blen (val xs) - 1) * k) :
    Calls Try.prog 56 #[.agg #[.bool b, .slice p n c], .int .i64 (k : Int)] w (RetZB w 0 false) := by
  have HC := Lib.hid h1
  have HD := Lib.hid h2
  clear h1 h2
  go_enter Try.func56, Try.ntmps56
  go_wp2_with fail
  obtain ⟨W, hW⟩ : ∃ W : World, W = ((w.alloc (.cells #[.bool b, .slice p n c] 25)).alloc (.cells #[.bool false, .slice none 0 0] 25)) := ⟨_, rfl⟩
  rw [← hW]
  have hA00 : W.cell? ⟨w.heap.size, 0, none⟩ = some (.bool b) := by rw [hW]; exact (cell_on (box_c0 (by simp)) (below_alloc _ _))
  have hA01 : W.cell? ⟨w.heap.size, 1, none⟩ = some (.slice p n c) := by rw [hW]; exact (cell_on (box_c1 (by simp)) (below_alloc _ _))
  have hR0 : Cel (w.heap.size + 1) W := by rw [hW]; exact (Cel.ofAlloc (by simp))
  have hB : Box w (w.heap.size + 1) W := by rw [hW]; exact ⟨by (try simp) <;> omega, (((Below.refl _ _).alloc (Nat.le_refl _) _).alloc (by (try simp) <;> omega) _)⟩
  clear hW
  go_wp2_with fail
  refine (rpow_big (hx.below hB.below (Nat.le_refl _)) hn hk HC.out HD.out).mono ?_
  rintro e w1 ⟨p4, n4, c4, rfl, hf4, hb1⟩
  have hlt1 := hB.lt
  replace hA00 := cell_on hA00 hb1
  replace hA01 := cell_on hA01 hb1
  replace hR0 := hR0.on hb1
  replace hB := hB.on hb1
  clear hb1
  obtain ⟨⟨u0, hu0⟩, ⟨u1, hu1⟩, hug0, hug1⟩ := hR0
  clear hf4
  go_wp2_with fail
  refine bodyPost_ret (v := .tuple #[.agg #[.bool false, .slice none 0 0], .bool false]) (by simp [results, Try.results56, go_sem, hu0, hu1]) rfl ?_
  exact ⟨_, _, _, rfl, Fr.nil _ _, ((hB.set (by omega) _ _).set (by omega) _ _).below⟩

set_option maxHeartbeats 2000000 in
theorem qpow_ok_p {p : Option Addr} {n c : Nat} {xs : List Nat} {w : World} {k : Nat} (hx : Sl w p n c xs) (hn : n ≤ 1048576000) (hk : k ≤ 9223372036854775807) (hL : ll (val xs ^ k) ≤ 17592186044416) (h1 : 1 < blen (val xs)) (h2 : blen (val xs) * k ≤ 67108863) :
    Calls Try.prog 56 #[.agg #[.bool false, .slice p n c], .int .i64 (k : Int)] w (RetZB w (zv false (val xs) ^ k) true) := by
  have HZ : Hid (zv false (val (lim (val xs ^ k))) = zv false (val xs) ^ k) := by
    show _ = _
    rw [val_lim]
    first | exact zv_pow_false _ _ | exact zv_pow_even he | exact zv_pow_odd he
  have HL := Lib.hid hL
  clear hL
  have HC := Lib.hid h1
  have HD := Lib.hid h2
  clear h1 h2
  go_enter Try.func56, Try.ntmps56
  go_wp2_with fail
  obtain ⟨W, hW⟩ : ∃ W : World, W = ((w.alloc (.cells #[.bool false, .slice p n c] 25)).alloc (.cells #[.bool false, .slice none 0 0] 25)) := ⟨_, rfl⟩
  rw [← hW]
  have hA00 : W.cell? ⟨w.heap.size, 0, none⟩ = some (.bool false) := by rw [hW]; exact (cell_on (box_c0 (by simp)) (below_alloc _ _))
  have hA01 : W.cell? ⟨w.heap.size, 1, none⟩ = some (.slice p n c) := by rw [hW]; exact (cell_on (box_c1 (by simp)) (below_alloc _ _))
  have hR0 : Cel (w.heap.size + 1) W := by rw [hW]; exact (Cel.ofAlloc (by simp))
  have hB : Box w (w.heap.size + 1) W := by rw [hW]; exact ⟨by (try simp) <;> omega, (((Below.refl _ _).alloc (Nat.le_refl _) _).alloc (by (try simp) <;> omega) _)⟩
  clear hW
  go_wp2_with fail
  refine (rpow_ok (hx.below hB.below (Nat.le_refl _)) hn HC.out HD.out).mono ?_
  rintro e w1 ⟨p4, n4, c4, rfl, hf4, hb1⟩
  have hlt1 := hB.lt
  replace hA00 := cell_on hA00 hb1
  replace hA01 := cell_on hA01 hb1
  replace hR0 := hR0.on hb1
  replace hB := hB.on hb1
  clear hb1
  have hn4 : n4 ≤ 17592186044416 := by rw [hf4.sl.lln]; exact HL.out
  go_wp2_with fail
  refine (qnorm_of (z := zv false (val xs) ^ k) (b := false) hf4.sl hn4 HZ).mono ?_
  rintro e w2 ⟨p5, n5, c5, rfl, hf5, hb2⟩
  clear hf4
  have hlt2 := hB.lt
  replace hA00 := cell_on hA00 hb2
  replace hA01 := cell_on hA01 hb2
  replace hR0 := hR0.on hb2
  replace hB := hB.on hb2
  clear hb2
  obtain ⟨⟨u0, hu0⟩, ⟨u1, hu1⟩, hug0, hug1⟩ := hR0
  go_wp2_with fail
  refine bodyPost_ret (v := .tuple #[.agg #[.bool (ng (zv false (val xs) ^ k)), .slice p5 n5 c5], .bool true]) (by simp [results, Try.results56, go_sem, hu0, hu1]) rfl ?_
  exact ⟨_, _, _, rfl, hf5.setBox (by omega) (by omega), ((hB.set (by omega) _ _).set (by omega) _ _).below⟩

set_option maxHeartbeats 2000000 in
theorem qpow_ok_e {p : Option Addr} {n c : Nat} {xs : List Nat} {w : World} {k : Nat} (hx : Sl w p n c xs) (hn : n ≤ 1048576000) (hk : k ≤ 9223372036854775807) (hL : ll (val xs ^ k) ≤ 17592186044416) (h1 : 1 < blen (val xs)) (h2 : blen (val xs) * k ≤ 67108863) (he : k % 2 = 0) :
    Calls Try.prog 56 #[.agg #[.bool true, .slice p n c], .int .i64 (k : Int)] w (RetZB w (zv true (val xs) ^ k) true) := by
  have HZ : Hid (zv false (val (lim (val xs ^ k))) = zv true (val xs) ^ k) := by
    show _ = _
    rw [val_lim]
    first | exact zv_pow_false _ _ | exact zv_pow_even he | exact zv_pow_odd he
  have HL := Lib.hid hL
  clear hL
  have hz : ((k : Int) % 2 == 1) = false := by simp; omega
  clear he
  have HC := Lib.hid h1
  have HD := Lib.hid h2
  clear h1 h2
  go_enter Try.func56, Try.ntmps56
  go_wp2_with fail
  obtain ⟨W, hW⟩ : ∃ W : World, W = ((w.alloc (.cells #[.bool true, .slice p n c] 25)).alloc (.cells #[.bool false, .slice none 0 0] 25)) := ⟨_, rfl⟩
  rw [← hW]
  have hA00 : W.cell? ⟨w.heap.size, 0, none⟩ = some (.bool true) := by rw [hW]; exact (cell_on (box_c0 (by simp)) (below_alloc _ _))
  have hA01 : W.cell? ⟨w.heap.size, 1, none⟩ = some (.slice p n c) := by rw [hW]; exact (cell_on (box_c1 (by simp)) (below_alloc _ _))
  have hR0 : Cel (w.heap.size + 1) W := by rw [hW]; exact (Cel.ofAlloc (by simp))
  have hB : Box w (w.heap.size + 1) W := by rw [hW]; exact ⟨by (try simp) <;> omega, (((Below.refl _ _).alloc (Nat.le_refl _) _).alloc (by (try simp) <;> omega) _)⟩
  clear hW
  go_wp2_with fail
  refine (rpow_ok (hx.below hB.below (Nat.le_refl _)) hn HC.out HD.out).mono ?_
  rintro e w1 ⟨p4, n4, c4, rfl, hf4, hb1⟩
  have hlt1 := hB.lt
  replace hA00 := cell_on hA00 hb1
  replace hA01 := cell_on hA01 hb1
  replace hR0 := hR0.on hb1
  replace hB := hB.on hb1
  clear hb1
  have hn4 : n4 ≤ 17592186044416 := by rw [hf4.sl.lln]; exact HL.out
  go_wp2_with fail
  refine (qnorm_of (z := zv true (val xs) ^ k) (b := false) hf4.sl hn4 HZ).mono ?_
  rintro e w2 ⟨p5, n5, c5, rfl, hf5, hb2⟩
  clear hf4
  have hlt2 := hB.lt
  replace hA00 := cell_on hA00 hb2
  replace hA01 := cell_on hA01 hb2
  replace hR0 := hR0.on hb2
  replace hB := hB.on hb2
  clear hb2
  obtain ⟨⟨u0, hu0⟩, ⟨u1, hu1⟩, hug0, hug1⟩ := hR0
  go_wp2_with fail
  refine bodyPost_ret (v := .tuple #[.agg #[.bool (ng (zv true (val xs) ^ k)), .slice p5 n5 c5], .bool true]) (by simp [results, Try.results56, go_sem, hu0, hu1]) rfl ?_
  exact ⟨_, _, _, rfl, hf5.setBox (by omega) (by omega), ((hB.set (by omega) _ _).set (by omega) _ _).below⟩

set_option maxHeartbeats 2000000 in
theorem qpow_ok_o {p : Option Addr} {n c : Nat} {xs : List Nat} {w : World} {k : Nat} (hx : Sl w p n c xs) (hn : n ≤ 1048576000) (hk : k ≤ 9223372036854775807) (hL : ll (val xs ^ k) ≤ 17592186044416) (h1 : 1 < blen (val xs)) (h2 : blen (val xs) * k ≤ 67108863) (he : k % 2 = 1) :
    Calls Try.prog 56 #[.agg #[.bool true, .slice p n c], .int .i64 (k : Int)] w (RetZB w (zv true (val xs) ^ k) true) := by
  have HZ : Hid (zv true (val (lim (val xs ^ k))) = zv true (val xs) ^ k) := by
    show _ = _
    rw [val_lim]
    first | exact zv_pow_false _ _ | exact zv_pow_even he | exact zv_pow_odd he
  have HL := Lib.hid hL
  clear hL
  have hz : ((k : Int) % 2 == 1) = true := by simp; omega
  clear he
  have HC := Lib.hid h1
  have HD := Lib.hid h2
  clear h1 h2
  go_enter Try.func56, Try.ntmps56
  go_wp2_with fail
  obtain ⟨W, hW⟩ : ∃ W : World, W = ((w.alloc (.cells #[.bool true, .slice p n c] 25)).alloc (.cells #[.bool false, .slice none 0 0] 25)) := ⟨_, rfl⟩
  rw [← hW]
  have hA00 : W.cell? ⟨w.heap.size, 0, none⟩ = some (.bool true) := by rw [hW]; exact (cell_on (box_c0 (by simp)) (below_alloc _ _))
  have hA01 : W.cell? ⟨w.heap.size, 1, none⟩ = some (.slice p n c) := by rw [hW]; exact (cell_on (box_c1 (by simp)) (below_alloc _ _))
  have hR0 : Cel (w.heap.size + 1) W := by rw [hW]; exact (Cel.ofAlloc (by simp))
  have hB : Box w (w.heap.size + 1) W := by rw [hW]; exact ⟨by (try simp) <;> omega, (((Below.refl _ _).alloc (Nat.le_refl _) _).alloc (by (try simp) <;> omega) _)⟩
  clear hW
  go_wp2_with fail
  refine (rpow_ok (hx.below hB.below (Nat.le_refl _)) hn HC.out HD.out).mono ?_
  rintro e w1 ⟨p4, n4, c4, rfl, hf4, hb1⟩
  have hlt1 := hB.lt
  replace hA00 := cell_on hA00 hb1
  replace hA01 := cell_on hA01 hb1
  replace hR0 := hR0.on hb1
  replace hB := hB.on hb1
  clear hb1
  have hn4 : n4 ≤ 17592186044416 := by rw [hf4.sl.lln]; exact HL.out
  go_wp2_with fail
  refine (qnorm_of (z := zv true (val xs) ^ k) (b := true) hf4.sl hn4 HZ).mono ?_
  rintro e w2 ⟨p5, n5, c5, rfl, hf5, hb2⟩
  clear hf4
  have hlt2 := hB.lt
  replace hA00 := cell_on hA00 hb2
  replace hA01 := cell_on hA01 hb2
  replace hR0 := hR0.on hb2
  replace hB := hB.on hb2
  clear hb2
  obtain ⟨⟨u0, hu0⟩, ⟨u1, hu1⟩, hug0, hug1⟩ := hR0
  go_wp2_with fail
  refine bodyPost_ret (v := .tuple #[.agg #[.bool (ng (zv true (val xs) ^ k)), .slice p5 n5 c5], .bool true]) (by simp [results, Try.results56, go_sem, hu0, hu1]) rfl ?_
  exact ⟨_, _, _, rfl, hf5.setBox (by omega) (by omega), ((hB.set (by omega) _ _).set (by omega) _ _).below⟩

set_option maxHeartbeats 2000000 in
theorem qpow_small_p {p : Option Addr} {n c : Nat} {xs : List Nat} {w : World} {k : Nat} (hx : Sl w p n c xs) (hn : n ≤ 1048576000) (hk : k ≤ 9223372036854775807) (hL : ll (val xs ^ k) ≤ 17592186044416) (h1 : blen (val xs) ≤ 1) :
    Calls Try.prog 56 #[.agg #[.bool false, .slice p n c], .int .i64 (k : Int)] w (RetZB w (zv false (val xs) ^ k) true) := by
  have HZ : Hid (zv false (val (lim (val xs ^ k))) = zv false (val xs) ^ k) := by
    show _ = _
    rw [val_lim]
    first | exact zv_pow_false _ _ | exact zv_pow_even he | exact zv_pow_odd he
  have HL := Lib.hid hL
  clear hL
  have HC := Lib.hid h1
  clear h1
  go_enter Try.func56, Try.ntmps56
  go_wp2_with fail
  obtain ⟨W, hW⟩ : ∃ W : World, W = ((w.alloc (.cells #[.bool false, .slice p n c] 25)).alloc (.cells #[.bool false, .slice none 0 0] 25)) := ⟨_, rfl⟩
  rw [← hW]
  have hA00 : W.cell? ⟨w.heap.size, 0, none⟩ = some (.bool false) := by rw [hW]; exact (cell_on (box_c0 (by simp)) (below_alloc _ _))
  have hA01 : W.cell? ⟨w.heap.size, 1, none⟩ = some (.slice p n c) := by rw [hW]; exact (cell_on (box_c1 (by simp)) (below_alloc _ _))
  have hR0 : Cel (w.heap.size + 1) W := by rw [hW]; exact (Cel.ofAlloc (by simp))
  have hB : Box w (w.heap.size + 1) W := by rw [hW]; exact ⟨by (try simp) <;> omega, (((Below.refl _ _).alloc (Nat.le_refl _) _).alloc (by (try simp) <;> omega) _)⟩
  clear hW
  go_wp2_with fail
  refine (rpow_small (hx.below hB.below (Nat.le_refl _)) hn hk HC.out).mono ?_
  rintro e w1 ⟨p4, n4, c4, rfl, hf4, hb1⟩
  have hlt1 := hB.lt
  replace hA00 := cell_on hA00 hb1
  replace hA01 := cell_on hA01 hb1
  replace hR0 := hR0.on hb1
  replace hB := hB.on hb1
  clear hb1
  have hn4 : n4 ≤ 17592186044416 := by rw [hf4.sl.lln]; exact HL.out
  go_wp2_with fail
  refine (qnorm_of (z := zv false (val xs) ^ k) (b := false) hf4.sl hn4 HZ).mono ?_
  rintro e w2 ⟨p5, n5, c5, rfl, hf5, hb2⟩
  clear hf4
  have hlt2 := hB.lt
  replace hA00 := cell_on hA00 hb2
  replace hA01 := cell_on hA01 hb2
  replace hR0 := hR0.on hb2
  replace hB := hB.on hb2
  clear hb2
  obtain ⟨⟨u0, hu0⟩, ⟨u1, hu1⟩, hug0, hug1⟩ := hR0
  go_wp2_with fail
  refine bodyPost_ret (v := .tuple #[.agg #[.bool (ng (zv false (val xs) ^ k)), .slice p5 n5 c5], .bool true]) (by simp [results, Try.results56, go_sem, hu0, hu1]) rfl ?_
  exact ⟨_, _, _, rfl, hf5.setBox (by omega) (by omega), ((hB.set (by omega) _ _).set (by omega) _ _).below⟩

set_option maxHeartbeats 2000000 in
theorem qpow_small_e {p : Option Addr} {n c : Nat} {xs : List Nat} {w : World} {k : Nat} (hx : Sl w p n c xs) (hn : n ≤ 1048576000) (hk : k ≤ 9223372036854775807) (hL : ll (val xs ^ k) ≤ 17592186044416) (h1 : blen (val xs) ≤ 1) (he : k % 2 = 0) :
    Calls Try.prog 56 #[.agg #[.bool true, .slice p n c], .int .i64 (k : Int)] w (RetZB w (zv true (val xs) ^ k) true) := by
  have HZ : Hid (zv false (val (lim (val xs ^ k))) = zv true (val xs) ^ k) := by
    show _ = _
    rw [val_lim]
    first | exact zv_pow_false _ _ | exact zv_pow_even he | exact zv_pow_odd he
  have HL := Lib.hid hL
  clear hL
  have hz : ((k : Int) % 2 == 1) = false := by simp; omega
  clear he
  have HC := Lib.hid h1
  clear h1
  go_enter Try.func56, Try.ntmps56
  go_wp2_with fail
  obtain ⟨W, hW⟩ : ∃ W : World, W = ((w.alloc (.cells #[.bool true, .slice p n c] 25)).alloc (.cells #[.bool false, .slice none 0 0] 25)) := ⟨_, rfl⟩
  rw [← hW]
  have hA00 : W.cell? ⟨w.heap.size, 0, none⟩ = some (.bool true) := by rw [hW]; exact (cell_on (box_c0 (by simp)) (below_alloc _ _))
  have hA01 : W.cell? ⟨w.heap.size, 1, none⟩ = some (.slice p n c) := by rw [hW]; exact (cell_on (box_c1 (by simp)) (below_alloc _ _))
  have hR0 : Cel (w.heap.size + 1) W := by rw [hW]; exact (Cel.ofAlloc (by simp))
  have hB : Box w (w.heap.size + 1) W := by rw [hW]; exact ⟨by (try simp) <;> omega, (((Below.refl _ _).alloc (Nat.le_refl _) _).alloc (by (try simp) <;> omega) _)⟩
  clear hW
  go_wp2_with fail
  refine (rpow_small (hx.below hB.below (Nat.le_refl _)) hn hk HC.out).mono ?_
  rintro e w1 ⟨p4, n4, c4, rfl, hf4, hb1⟩
  have hlt1 := hB.lt
  replace hA00 := cell_on hA00 hb1
  replace hA01 := cell_on hA01 hb1
  replace hR0 := hR0.on hb1
  replace hB := hB.on hb1
  clear hb1
  have hn4 : n4 ≤ 17592186044416 := by rw [hf4.sl.lln]; exact HL.out
  go_wp2_with fail
  refine (qnorm_of (z := zv true (val xs) ^ k) (b := false) hf4.sl hn4 HZ).mono ?_
  rintro e w2 ⟨p5, n5, c5, rfl, hf5, hb2⟩
  clear hf4
  have hlt2 := hB.lt
  replace hA00 := cell_on hA00 hb2
  replace hA01 := cell_on hA01 hb2
  replace hR0 := hR0.on hb2
  replace hB := hB.on hb2
  clear hb2
  obtain ⟨⟨u0, hu0⟩, ⟨u1, hu1⟩, hug0, hug1⟩ := hR0
  go_wp2_with fail
  refine bodyPost_ret (v := .tuple #[.agg #[.bool (ng (zv true (val xs) ^ k)), .slice p5 n5 c5], .bool true]) (by simp [results, Try.results56, go_sem, hu0, hu1]) rfl ?_
  exact ⟨_, _, _, rfl, hf5.setBox (by omega) (by omega), ((hB.set (by omega) _ _).set (by omega) _ _).below⟩

set_option maxHeartbeats 2000000 in
theorem qpow_small_o {p : Option Addr} {n c : Nat} {xs : List Nat} {w : World} {k : Nat} (hx : Sl w p n c xs) (hn : n ≤ 1048576000) (hk : k ≤ 9223372036854775807) (hL : ll (val xs ^ k) ≤ 17592186044416) (h1 : blen (val xs) ≤ 1) (he : k % 2 = 1) :
    Calls Try.prog 56 #[.agg #[.bool true, .slice p n c], .int .i64 (k : Int)] w (RetZB w (zv true (val xs) ^ k) true) := by
  have HZ : Hid (zv true (val (lim (val xs ^ k))) = zv true (val xs) ^ k) := by
    show _ = _
    rw [val_lim]
    first | exact zv_pow_false _ _ | exact zv_pow_even he | exact zv_pow_odd he
  have HL := Lib.hid hL
  clear hL
  have hz : ((k : Int) % 2 == 1) = true := by simp; omega
  clear he
  have HC := Lib.hid h1
  clear h1
  go_enter Try.func56, Try.ntmps56
  go_wp2_with fail
  obtain ⟨W, hW⟩ : ∃ W : World, W = ((w.alloc (.cells #[.bool true, .slice p n c] 25)).alloc (.cells #[.bool false, .slice none 0 0] 25)) := ⟨_, rfl⟩
  rw [← hW]
  have hA00 : W.cell? ⟨w.heap.size, 0, none⟩ = some (.bool true) := by rw [hW]; exact (cell_on (box_c0 (by simp)) (below_alloc _ _))
  have hA01 : W.cell? ⟨w.heap.size, 1, none⟩ = some (.slice p n c) := by rw [hW]; exact (cell_on (box_c1 (by simp)) (below_alloc _ _))
  have hR0 : Cel (w.heap.size + 1) W := by rw [hW]; exact (Cel.ofAlloc (by simp))
  have hB : Box w (w.heap.size + 1) W := by rw [hW]; exact ⟨by (try simp) <;> omega, (((Below.refl _ _).alloc (Nat.le_refl _) _).alloc (by (try simp) <;> omega) _)⟩
  clear hW
  go_wp2_with fail
  refine (rpow_small (hx.below hB.below (Nat.le_refl _)) hn hk HC.out).mono ?_
  rintro e w1 ⟨p4, n4, c4, rfl, hf4, hb1⟩
  have hlt1 := hB.lt
  replace hA00 := cell_on hA00 hb1
  replace hA01 := cell_on hA01 hb1
  replace hR0 := hR0.on hb1
  replace hB := hB.on hb1
  clear hb1
  have hn4 : n4 ≤ 17592186044416 := by rw [hf4.sl.lln]; exact HL.out
  go_wp2_with fail
  refine (qnorm_of (z := zv true (val xs) ^ k) (b := true) hf4.sl hn4 HZ).mono ?_
  rintro e w2 ⟨p5, n5, c5, rfl, hf5, hb2⟩
  clear hf4
  have hlt2 := hB.lt
  replace hA00 := cell_on hA00 hb2
  replace hA01 := cell_on hA01 hb2
  replace hR0 := hR0.on hb2
  replace hB := hB.on hb2
  clear hb2
  obtain ⟨⟨u0, hu0⟩, ⟨u1, hu1⟩, hug0, hug1⟩ := hR0
  go_wp2_with fail
  refine bodyPost_ret (v := .tuple #[.agg #[.bool (ng (zv true (val xs) ^ k)), .slice p5 n5 c5], .bool true]) (by simp [results, Try.results56, go_sem, hu0, hu1]) rfl ?_
  exact ⟨_, _, _, rfl, hf5.setBox (by omega) (by omega), ((hB.set (by omega) _ _).set (by omega) _ _).below⟩

end Go.Proofs.Ytlnilkghbbbhbaa

/-
  The walk of similelaw03.lives: the document's examples.
-/
namespace Go.Proofs.Ytlnilkghbbbhbaa
open Go.RowKit

theorem len_small {w : World} {B n c : Nat} {p : Option Addr} {z : Int} (h : Fr B w p n c (lim z.natAbs)) (hz : z.natAbs < 4294967296) : n ≤ 1 := z_len h (ll_le (k := 1) (by omega))

theorem near_five : nearZ (-5) 2 = -2 := by decide

set_option maxHeartbeats 8000000 in
theorem zlives_any {w : World} : Calls Try.prog 19 #[] w (RetB w true) := by
  go_enter Try.func19, Try.ntmps19
  go_wp2_with fail
  refine (lof_any (z := -7) (by omega) (by omega)).mono ?_
  rintro e w1 ⟨p1, n1, c1, rfl, hf1, hb1⟩
  have hl1 := len_small hf1 (by decide)
  go_wp2_with fail
  refine (lof_any (z := -2) (by omega) (by omega)).mono ?_
  rintro e w2 ⟨p2, n2, c2, rfl, hf2, hb2⟩
  have hl2 := len_small hf2 (by decide)
  have hbw := hb1.trans (hb2.mono hb1.size)
  replace hf1 := hf1.below hb2 (Nat.le_refl _)
  clear hb1 hb2
  go_wp2_with fail
  refine (zeuclid_of (Q := 4) (R := 1) hf1.sl hf2.sl (by omega) (by omega) (by rw [val_lim]; decide) (by show _ = _; rw [val_lim, val_lim, zv_ng, zv_ng]; decide) (by show _ = _; rw [val_lim, val_lim, zv_ng, zv_ng]; decide)).mono ?_
  rintro e w3 ⟨p3, n3, c3, p4, n4, c4, rfl, hf3, hf4, hb3⟩
  replace hbw := hbw.trans (hb3.mono hbw.size)
  clear hb3 hf1 hf2
  go_upto_region 2 with (fail)
  have hlb0 := hbw.size
  obtain ⟨W1, hW⟩ : ∃ W1 : World, W1 = ((w3.alloc (.cells #[.bool (ng 4), .slice p3 n3 c3] 25)).alloc (.cells #[.bool (ng 1), .slice p4 n4 c4] 25)) := ⟨_, rfl⟩
  rw [← hW]
  have qhf3 : Fr w2.heap.size W1 p3 n3 c3 (lim (4 : Int).natAbs) := by rw [hW]; exact ((hf3.below (below_alloc _ _) (Nat.le_refl _)).below (below_alloc _ _) (Nat.le_refl _))
  have qhf4 : Fr w2.heap.size W1 p4 n4 c4 (lim (1 : Int).natAbs) := by rw [hW]; exact ((hf4.below (below_alloc _ _) (Nat.le_refl _)).below (below_alloc _ _) (Nat.le_refl _))
  have hL00 : W1.cell? ⟨w3.heap.size, 0, none⟩ = some (.bool (ng 4)) := by rw [hW]; exact (cell_on (box_c0 (by simp)) (below_alloc _ _))
  have hL01 : W1.cell? ⟨w3.heap.size, 1, none⟩ = some (.slice p3 n3 c3) := by rw [hW]; exact (cell_on (box_c1 (by simp)) (below_alloc _ _))
  have hR0 : Cel (w3.heap.size) W1 := by rw [hW]; exact ((Cel.ofAlloc (by simp)).on (below_alloc _ _))
  have hL10 : W1.cell? ⟨w3.heap.size + 1, 0, none⟩ = some (.bool (ng 1)) := by rw [hW]; exact (box_c0 (by simp))
  have hL11 : W1.cell? ⟨w3.heap.size + 1, 1, none⟩ = some (.slice p4 n4 c4) := by rw [hW]; exact (box_c1 (by simp))
  have hR1 : Cel (w3.heap.size + 1) W1 := by rw [hW]; exact (Cel.ofAlloc (by simp))
  have qhB : Box w (w3.heap.size + 1) W1 := by rw [hW]; exact ⟨by (try simp) <;> omega, ((hbw.alloc (by (try simp) <;> omega) _).alloc (by (try simp) <;> omega) _)⟩
  clear hW hf3 hf4 hbw
  have hf3 := qhf3
  have hf4 := qhf4
  have hB := qhB
  clear qhf3 qhf4 qhB
  go_wp2_with fail
  refine (lof_any (z := -5) (by omega) (by omega)).mono ?_
  rintro e w4 ⟨p5, n5, c5, rfl, hf5, hb4⟩
  have hlt4 := hB.lt
  replace hf3 := hf3.below hb4 (Nat.le_refl _)
  replace hf4 := hf4.below hb4 (Nat.le_refl _)
  replace hB := hB.on hb4
  replace hL00 := cell_on hL00 hb4
  replace hL01 := cell_on hL01 hb4
  replace hL10 := cell_on hL10 hb4
  replace hL11 := cell_on hL11 hb4
  replace hR0 := hR0.on hb4
  replace hR1 := hR1.on hb4
  clear hb4
  have hl5 := len_small hf5 (by decide)
  go_wp2_with fail
  refine (lof_any (z := 2) (by omega) (by omega)).mono ?_
  rintro e w5 ⟨p6, n6, c6, rfl, hf6, hb5⟩
  have hlt5 := hB.lt
  replace hf3 := hf3.below hb5 (Nat.le_refl _)
  replace hf4 := hf4.below hb5 (Nat.le_refl _)
  replace hB := hB.on hb5
  replace hL00 := cell_on hL00 hb5
  replace hL01 := cell_on hL01 hb5
  replace hL10 := cell_on hL10 hb5
  replace hL11 := cell_on hL11 hb5
  replace hR0 := hR0.on hb5
  replace hR1 := hR1.on hb5
  replace hf5 := hf5.below hb5 (Nat.le_refl _)
  clear hb5
  have hl6 := len_small hf6 (by decide)
  go_wp2_with fail
  refine (znear_of (z := -2) hf5.sl hf6.sl (by omega) (by omega) (by rw [val_lim]; decide) (by show _ = _; rw [val_lim, val_lim, zv_ng, zv_ng]; exact near_five)).mono ?_
  rintro e w6 ⟨p7, n7, c7, rfl, hf7, hb6⟩
  clear hf5 hf6
  have hlt6 := hB.lt
  replace hf3 := hf3.below hb6 (Nat.le_refl _)
  replace hf4 := hf4.below hb6 (Nat.le_refl _)
  replace hB := hB.on hb6
  replace hL00 := cell_on hL00 hb6
  replace hL01 := cell_on hL01 hb6
  replace hL10 := cell_on hL10 hb6
  replace hL11 := cell_on hL11 hb6
  replace hR0 := hR0.on hb6
  replace hR1 := hR1.on hb6
  clear hb6
  go_upto_region 3 with (fail)
  have hlb2 := hB.lt
  obtain ⟨Wb, hW⟩ : ∃ Wb : World, Wb = (w6.alloc (.cells #[.bool (ng (-2)), .slice p7 n7 c7] 25)) := ⟨_, rfl⟩
  rw [← hW]
  have qhL00 : Wb.cell? ⟨w3.heap.size, 0, none⟩ = some (.bool (ng 4)) := by rw [hW]; exact (cell_on hL00 (below_alloc _ _))
  have qhL01 : Wb.cell? ⟨w3.heap.size, 1, none⟩ = some (.slice p3 n3 c3) := by rw [hW]; exact (cell_on hL01 (below_alloc _ _))
  have qhL10 : Wb.cell? ⟨w3.heap.size + 1, 0, none⟩ = some (.bool (ng 1)) := by rw [hW]; exact (cell_on hL10 (below_alloc _ _))
  have qhL11 : Wb.cell? ⟨w3.heap.size + 1, 1, none⟩ = some (.slice p4 n4 c4) := by rw [hW]; exact (cell_on hL11 (below_alloc _ _))
  have qhR0 : Cel (w3.heap.size) Wb := by rw [hW]; exact (hR0.on (below_alloc _ _))
  have qhR1 : Cel (w3.heap.size + 1) Wb := by rw [hW]; exact (hR1.on (below_alloc _ _))
  have qhf3 : Fr w2.heap.size Wb p3 n3 c3 (lim (4 : Int).natAbs) := by rw [hW]; exact (hf3.below (below_alloc _ _) (Nat.le_refl _))
  have qhf4 : Fr w2.heap.size Wb p4 n4 c4 (lim (1 : Int).natAbs) := by rw [hW]; exact (hf4.below (below_alloc _ _) (Nat.le_refl _))
  have qhf7 : Fr w5.heap.size Wb p7 n7 c7 (lim (-2 : Int).natAbs) := by rw [hW]; exact (hf7.below (below_alloc _ _) (Nat.le_refl _))
  have hL20 : Wb.cell? ⟨w6.heap.size, 0, none⟩ = some (.bool (ng (-2))) := by rw [hW]; exact (box_c0 (by simp))
  have hL21 : Wb.cell? ⟨w6.heap.size, 1, none⟩ = some (.slice p7 n7 c7) := by rw [hW]; exact (box_c1 (by simp))
  have hR2 : Cel (w6.heap.size) Wb := by rw [hW]; exact (Cel.ofAlloc (by simp))
  have qhB : Box w (w6.heap.size) Wb := by rw [hW]; exact ⟨by (try simp) <;> omega, (hB.below.alloc (by (try simp) <;> omega) _)⟩
  clear hW hL00 hL01 hL10 hL11 hR0 hR1 hf3 hf4 hf7 hB
  have hL00 := qhL00
  have hL01 := qhL01
  have hL10 := qhL10
  have hL11 := qhL11
  have hR0 := qhR0
  have hR1 := qhR1
  have hf3 := qhf3
  have hf4 := qhf4
  have hf7 := qhf7
  have hB := qhB
  clear qhL00 qhL01 qhL10 qhL11 qhR0 qhR1 qhf3 qhf4 qhf7 qhB
  go_wp2_with fail
  go_region_held3 (fun w' => w'.cell? ⟨w3.heap.size, 0, none⟩ = some (.bool (ng 4)) ∧ w'.cell? ⟨w3.heap.size, 1, none⟩ = some (.slice p3 n3 c3) ∧ w'.cell? ⟨w3.heap.size + 1, 0, none⟩ = some (.bool (ng 1)) ∧ w'.cell? ⟨w3.heap.size + 1, 1, none⟩ = some (.slice p4 n4 c4) ∧ w'.cell? ⟨w6.heap.size, 0, none⟩ = some (.bool (ng (-2))) ∧ w'.cell? ⟨w6.heap.size, 1, none⟩ = some (.slice p7 n7 c7) ∧ Cel (w3.heap.size) w' ∧ Cel (w3.heap.size + 1) w' ∧ Cel (w6.heap.size) w' ∧ Fr w2.heap.size w' p3 n3 c3 (lim (4 : Int).natAbs) ∧ Fr w2.heap.size w' p4 n4 c4 (lim (1 : Int).natAbs) ∧ Fr w5.heap.size w' p7 n7 c7 (lim (-2 : Int).natAbs) ∧ Box w (w6.heap.size) w')
    (first | exact ⟨by simpa using hL00, by simpa using hL01, by simpa using hL10, by simpa using hL11, by simpa using hL20, by simpa using hL21, hR0.drew, hR1.drew, hR2.drew, hf3.below (Below.refl _ _).drew (Nat.le_refl _), hf4.below (Below.refl _ _).drew (Nat.le_refl _), hf7.below (Below.refl _ _).drew (Nat.le_refl _), hB.drew⟩ | exact ‹World.cell? _ _ = some _ ∧ World.cell? _ _ = some _ ∧ World.cell? _ _ = some _ ∧ World.cell? _ _ = some _ ∧ World.cell? _ _ = some _ ∧ World.cell? _ _ = some _ ∧ Cel _ _ ∧ Cel _ _ ∧ Cel _ _ ∧ Fr _ _ _ _ _ _ ∧ Fr _ _ _ _ _ _ ∧ Fr _ _ _ _ _ _ ∧ Box w _ _› | (have hS := ‹World.cell? _ _ = some _ ∧ World.cell? _ _ = some _ ∧ World.cell? _ _ = some _ ∧ World.cell? _ _ = some _ ∧ World.cell? _ _ = some _ ∧ World.cell? _ _ = some _ ∧ Cel _ _ ∧ Cel _ _ ∧ Cel _ _ ∧ Fr _ _ _ _ _ _ ∧ Fr _ _ _ _ _ _ ∧ Fr _ _ _ _ _ _ ∧ Box w _ _›; exact ⟨cell_on hS.1 hb7, cell_on hS.2.1 hb7, cell_on hS.2.2.1 hb7, cell_on hS.2.2.2.1 hb7, cell_on hS.2.2.2.2.1 hb7, cell_on hS.2.2.2.2.2.1 hb7, hS.2.2.2.2.2.2.1.on hb7, hS.2.2.2.2.2.2.2.1.on hb7, hS.2.2.2.2.2.2.2.2.1.on hb7, hS.2.2.2.2.2.2.2.2.2.1.below hb7 (Nat.le_refl _), hS.2.2.2.2.2.2.2.2.2.2.1.below hb7 (Nat.le_refl _), hS.2.2.2.2.2.2.2.2.2.2.2.1.below hb7 (Nat.le_refl _), hS.2.2.2.2.2.2.2.2.2.2.2.2.on hb7⟩) | (have hS := ‹World.cell? _ _ = some _ ∧ World.cell? _ _ = some _ ∧ World.cell? _ _ = some _ ∧ World.cell? _ _ = some _ ∧ World.cell? _ _ = some _ ∧ World.cell? _ _ = some _ ∧ Cel _ _ ∧ Cel _ _ ∧ Cel _ _ ∧ Fr _ _ _ _ _ _ ∧ Fr _ _ _ _ _ _ ∧ Fr _ _ _ _ _ _ ∧ Box w _ _›; exact ⟨cell_on hS.1 hb8, cell_on hS.2.1 hb8, cell_on hS.2.2.1 hb8, cell_on hS.2.2.2.1 hb8, cell_on hS.2.2.2.2.1 hb8, cell_on hS.2.2.2.2.2.1 hb8, hS.2.2.2.2.2.2.1.on hb8, hS.2.2.2.2.2.2.2.1.on hb8, hS.2.2.2.2.2.2.2.2.1.on hb8, hS.2.2.2.2.2.2.2.2.2.1.below hb8 (Nat.le_refl _), hS.2.2.2.2.2.2.2.2.2.2.1.below hb8 (Nat.le_refl _), hS.2.2.2.2.2.2.2.2.2.2.2.1.below hb8 (Nat.le_refl _), hS.2.2.2.2.2.2.2.2.2.2.2.2.on hb8⟩) | (have hS := ‹World.cell? _ _ = some _ ∧ World.cell? _ _ = some _ ∧ World.cell? _ _ = some _ ∧ World.cell? _ _ = some _ ∧ World.cell? _ _ = some _ ∧ World.cell? _ _ = some _ ∧ Cel _ _ ∧ Cel _ _ ∧ Cel _ _ ∧ Fr _ _ _ _ _ _ ∧ Fr _ _ _ _ _ _ ∧ Fr _ _ _ _ _ _ ∧ Box w _ _›; exact ⟨cell_on hS.1 hb9, cell_on hS.2.1 hb9, cell_on hS.2.2.1 hb9, cell_on hS.2.2.2.1 hb9, cell_on hS.2.2.2.2.1 hb9, cell_on hS.2.2.2.2.2.1 hb9, hS.2.2.2.2.2.2.1.on hb9, hS.2.2.2.2.2.2.2.1.on hb9, hS.2.2.2.2.2.2.2.2.1.on hb9, hS.2.2.2.2.2.2.2.2.2.1.below hb9 (Nat.le_refl _), hS.2.2.2.2.2.2.2.2.2.2.1.below hb9 (Nat.le_refl _), hS.2.2.2.2.2.2.2.2.2.2.2.1.below hb9 (Nat.le_refl _), hS.2.2.2.2.2.2.2.2.2.2.2.2.on hb9⟩) | (have hS := ‹World.cell? _ _ = some _ ∧ World.cell? _ _ = some _ ∧ World.cell? _ _ = some _ ∧ World.cell? _ _ = some _ ∧ World.cell? _ _ = some _ ∧ World.cell? _ _ = some _ ∧ Cel _ _ ∧ Cel _ _ ∧ Cel _ _ ∧ Fr _ _ _ _ _ _ ∧ Fr _ _ _ _ _ _ ∧ Fr _ _ _ _ _ _ ∧ Box w _ _›; exact ⟨cell_on hS.1 hb10, cell_on hS.2.1 hb10, cell_on hS.2.2.1 hb10, cell_on hS.2.2.2.1 hb10, cell_on hS.2.2.2.2.1 hb10, cell_on hS.2.2.2.2.2.1 hb10, hS.2.2.2.2.2.2.1.on hb10, hS.2.2.2.2.2.2.2.1.on hb10, hS.2.2.2.2.2.2.2.2.1.on hb10, hS.2.2.2.2.2.2.2.2.2.1.below hb10 (Nat.le_refl _), hS.2.2.2.2.2.2.2.2.2.2.1.below hb10 (Nat.le_refl _), hS.2.2.2.2.2.2.2.2.2.2.2.1.below hb10 (Nat.le_refl _), hS.2.2.2.2.2.2.2.2.2.2.2.2.on hb10⟩) | (have hS := ‹World.cell? _ _ = some _ ∧ World.cell? _ _ = some _ ∧ World.cell? _ _ = some _ ∧ World.cell? _ _ = some _ ∧ World.cell? _ _ = some _ ∧ World.cell? _ _ = some _ ∧ Cel _ _ ∧ Cel _ _ ∧ Cel _ _ ∧ Fr _ _ _ _ _ _ ∧ Fr _ _ _ _ _ _ ∧ Fr _ _ _ _ _ _ ∧ Box w _ _›; exact ⟨cell_on hS.1 hb11, cell_on hS.2.1 hb11, cell_on hS.2.2.1 hb11, cell_on hS.2.2.2.1 hb11, cell_on hS.2.2.2.2.1 hb11, cell_on hS.2.2.2.2.2.1 hb11, hS.2.2.2.2.2.2.1.on hb11, hS.2.2.2.2.2.2.2.1.on hb11, hS.2.2.2.2.2.2.2.2.1.on hb11, hS.2.2.2.2.2.2.2.2.2.1.below hb11 (Nat.le_refl _), hS.2.2.2.2.2.2.2.2.2.2.1.below hb11 (Nat.le_refl _), hS.2.2.2.2.2.2.2.2.2.2.2.1.below hb11 (Nat.le_refl _), hS.2.2.2.2.2.2.2.2.2.2.2.2.on hb11⟩) | (have hS := ‹World.cell? _ _ = some _ ∧ World.cell? _ _ = some _ ∧ World.cell? _ _ = some _ ∧ World.cell? _ _ = some _ ∧ World.cell? _ _ = some _ ∧ World.cell? _ _ = some _ ∧ Cel _ _ ∧ Cel _ _ ∧ Cel _ _ ∧ Fr _ _ _ _ _ _ ∧ Fr _ _ _ _ _ _ ∧ Fr _ _ _ _ _ _ ∧ Box w _ _›; exact ⟨cell_on hS.1 hb12, cell_on hS.2.1 hb12, cell_on hS.2.2.1 hb12, cell_on hS.2.2.2.1 hb12, cell_on hS.2.2.2.2.1 hb12, cell_on hS.2.2.2.2.2.1 hb12, hS.2.2.2.2.2.2.1.on hb12, hS.2.2.2.2.2.2.2.1.on hb12, hS.2.2.2.2.2.2.2.2.1.on hb12, hS.2.2.2.2.2.2.2.2.2.1.below hb12 (Nat.le_refl _), hS.2.2.2.2.2.2.2.2.2.2.1.below hb12 (Nat.le_refl _), hS.2.2.2.2.2.2.2.2.2.2.2.1.below hb12 (Nat.le_refl _), hS.2.2.2.2.2.2.2.2.2.2.2.2.on hb12⟩) | (have hS := ‹World.cell? _ _ = some _ ∧ World.cell? _ _ = some _ ∧ World.cell? _ _ = some _ ∧ World.cell? _ _ = some _ ∧ World.cell? _ _ = some _ ∧ World.cell? _ _ = some _ ∧ Cel _ _ ∧ Cel _ _ ∧ Cel _ _ ∧ Fr _ _ _ _ _ _ ∧ Fr _ _ _ _ _ _ ∧ Fr _ _ _ _ _ _ ∧ Box w _ _›; exact ⟨cell_set (cell_set hS.1 (by omega)) (by omega), cell_set (cell_set hS.2.1 (by omega)) (by omega), cell_set (cell_set hS.2.2.1 (by omega)) (by omega), cell_set (cell_set hS.2.2.2.1 (by omega)) (by omega), cell_set (cell_set hS.2.2.2.2.1 (by omega)) (by omega), cell_set (cell_set hS.2.2.2.2.2.1 (by omega)) (by omega), (hS.2.2.2.2.2.2.1.set _ _ _).set _ _ _, (hS.2.2.2.2.2.2.2.1.set _ _ _).set _ _ _, (hS.2.2.2.2.2.2.2.2.1.set _ _ _).set _ _ _, (hS.2.2.2.2.2.2.2.2.2.1.setLow (by omega) _ _).setLow (by omega) _ _, (hS.2.2.2.2.2.2.2.2.2.2.1.setLow (by omega) _ _).setLow (by omega) _ _, (hS.2.2.2.2.2.2.2.2.2.2.2.1.setLow (by omega) _ _).setLow (by omega) _ _, (hS.2.2.2.2.2.2.2.2.2.2.2.2.set (by omega) _ _).set (by omega) _ _⟩))
    (first | (go_at_call 18; have hS := ‹World.cell? _ _ = some _ ∧ World.cell? _ _ = some _ ∧ World.cell? _ _ = some _ ∧ World.cell? _ _ = some _ ∧ World.cell? _ _ = some _ ∧ World.cell? _ _ = some _ ∧ Cel _ _ ∧ Cel _ _ ∧ Cel _ _ ∧ Fr _ _ _ _ _ _ ∧ Fr _ _ _ _ _ _ ∧ Fr _ _ _ _ _ _ ∧ Box w _ _›; (with_reducible refine (lof_any (z := 4) (by omega) (by omega)).mono ?_); rintro e w7 ⟨p8, n8, c8, rfl, hf8, hb7⟩; have hlt7 := hS.2.2.2.2.2.2.2.2.2.2.2.2.lt; clear hS) | (go_at_call 13; have hS := ‹World.cell? _ _ = some _ ∧ World.cell? _ _ = some _ ∧ World.cell? _ _ = some _ ∧ World.cell? _ _ = some _ ∧ World.cell? _ _ = some _ ∧ World.cell? _ _ = some _ ∧ Cel _ _ ∧ Cel _ _ ∧ Cel _ _ ∧ Fr _ _ _ _ _ _ ∧ Fr _ _ _ _ _ _ ∧ Fr _ _ _ _ _ _ ∧ Box w _ _›; (with_reducible refine (lsame_yes hS.2.2.2.2.2.2.2.2.2.1.sl hf8.sl).mono ?_); rintro e w8 ⟨rfl, hb8⟩; replace hf8 := hf8.below hb8 (Nat.le_refl _); clear hf8; clear hS) | (go_at_call 18; have hS := ‹World.cell? _ _ = some _ ∧ World.cell? _ _ = some _ ∧ World.cell? _ _ = some _ ∧ World.cell? _ _ = some _ ∧ World.cell? _ _ = some _ ∧ World.cell? _ _ = some _ ∧ Cel _ _ ∧ Cel _ _ ∧ Cel _ _ ∧ Fr _ _ _ _ _ _ ∧ Fr _ _ _ _ _ _ ∧ Fr _ _ _ _ _ _ ∧ Box w _ _›; (with_reducible refine (lof_any (z := 1) (by omega) (by omega)).mono ?_); rintro e w9 ⟨p9, n9, c9, rfl, hf9, hb9⟩; have hlt9 := hS.2.2.2.2.2.2.2.2.2.2.2.2.lt; clear hS) | (go_at_call 13; have hS := ‹World.cell? _ _ = some _ ∧ World.cell? _ _ = some _ ∧ World.cell? _ _ = some _ ∧ World.cell? _ _ = some _ ∧ World.cell? _ _ = some _ ∧ World.cell? _ _ = some _ ∧ Cel _ _ ∧ Cel _ _ ∧ Cel _ _ ∧ Fr _ _ _ _ _ _ ∧ Fr _ _ _ _ _ _ ∧ Fr _ _ _ _ _ _ ∧ Box w _ _›; (with_reducible refine (lsame_yes hS.2.2.2.2.2.2.2.2.2.2.1.sl hf9.sl).mono ?_); rintro e w10 ⟨rfl, hb10⟩; replace hf9 := hf9.below hb10 (Nat.le_refl _); clear hf9; clear hS) | (go_at_call 18; have hS := ‹World.cell? _ _ = some _ ∧ World.cell? _ _ = some _ ∧ World.cell? _ _ = some _ ∧ World.cell? _ _ = some _ ∧ World.cell? _ _ = some _ ∧ World.cell? _ _ = some _ ∧ Cel _ _ ∧ Cel _ _ ∧ Cel _ _ ∧ Fr _ _ _ _ _ _ ∧ Fr _ _ _ _ _ _ ∧ Fr _ _ _ _ _ _ ∧ Box w _ _›; (with_reducible refine (lof_any (z := -2) (by omega) (by omega)).mono ?_); rintro e w11 ⟨p10, n10, c10, rfl, hf10, hb11⟩; have hlt11 := hS.2.2.2.2.2.2.2.2.2.2.2.2.lt; clear hS) | (go_at_call 13; have hS := ‹World.cell? _ _ = some _ ∧ World.cell? _ _ = some _ ∧ World.cell? _ _ = some _ ∧ World.cell? _ _ = some _ ∧ World.cell? _ _ = some _ ∧ World.cell? _ _ = some _ ∧ Cel _ _ ∧ Cel _ _ ∧ Cel _ _ ∧ Fr _ _ _ _ _ _ ∧ Fr _ _ _ _ _ _ ∧ Fr _ _ _ _ _ _ ∧ Box w _ _›; (with_reducible refine (lsame_yes hS.2.2.2.2.2.2.2.2.2.2.2.1.sl hf10.sl).mono ?_); rintro e w12 ⟨rfl, hb12⟩; replace hf10 := hf10.below hb12 (Nat.le_refl _); clear hf10; clear hS))
  obtain ⟨hL00, hL01, hL10, hL11, hL20, hL21, hR0, hR1, hR2, hf3, hf4, hf7, hB⟩ := ‹World.cell? _ _ = some _ ∧ World.cell? _ _ = some _ ∧ World.cell? _ _ = some _ ∧ World.cell? _ _ = some _ ∧ World.cell? _ _ = some _ ∧ World.cell? _ _ = some _ ∧ Cel _ _ ∧ Cel _ _ ∧ Cel _ _ ∧ Fr _ _ _ _ _ _ ∧ Fr _ _ _ _ _ _ ∧ Fr _ _ _ _ _ _ ∧ Box w _ _›
  clear hf7
  go_wp2_with fail
  go_ret
  exact ⟨rfl, hB.below⟩

end Go.Proofs.Ytlnilkghbbbhbaa
