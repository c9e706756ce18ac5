
/-
  The walks of zint: Near by nothing, Pow.
-/
import Derived.Test.YtlnilkghbbbhbaaZG
import Derived.Test.YtlnilkghbbbhbaaNatL
namespace Go.Proofs.Ytlnilkghbbbhbaa
open Go.RowKit

theorem ng_nn (n : Nat) : ng ((n : Nat) : Int) = false := ng_nat n

set_option maxHeartbeats 4000000 in
theorem znear_zero {p q : Option Addr} {n m c d : Nat} {b b2 : Bool} {xs ys : List Nat} {w : World} (hx : Sl w p n c xs) (hy : Sl w q m d ys) (hn : n ≤ 1099511627776) (hm : m ≤ 1099511627776) (h0 : val ys = 0) :
    Calls Try.prog 35 #[.agg #[.bool b, .slice p n c], .agg #[.bool b2, .slice q m d]] w (RetZE w 0 5) := by
  have HS : Hid (0 = (zv b2 (val ys)).sign) := by show _ = _; rw [h0, zv_zero]; rfl
  have H0 := Lib.hid h0
  clear h0
  go_enter Try.func35, Try.ntmps35
  go_wp2_with fail
  obtain ⟨W, hW⟩ : ∃ W : World, W = (((w.alloc (.cells #[.bool b, .slice p n c] 25)).alloc (.cells #[.bool b2, .slice q m d] 25)).alloc (.cells #[.bool false, .slice none 0 0] 25)) := ⟨_, rfl⟩
  rw [← hW]
  have hA00 : W.cell? ⟨w.heap.size, 0, none⟩ = some (.bool b) := by rw [hW]; exact (cell_on (cell_on (box_c0 (by simp)) (below_alloc _ _)) (below_alloc _ _))
  have hA01 : W.cell? ⟨w.heap.size, 1, none⟩ = some (.slice p n c) := by rw [hW]; exact (cell_on (cell_on (box_c1 (by simp)) (below_alloc _ _)) (below_alloc _ _))
  have hA10 : W.cell? ⟨w.heap.size + 1, 0, none⟩ = some (.bool b2) := by rw [hW]; exact (cell_on (box_c0 (by simp)) (below_alloc _ _))
  have hA11 : W.cell? ⟨w.heap.size + 1, 1, none⟩ = some (.slice q m d) := by rw [hW]; exact (cell_on (box_c1 (by simp)) (below_alloc _ _))
  have hR0 : Cel (w.heap.size + 2) W := by rw [hW]; exact (Cel.ofAlloc (by simp))
  have hB : Box w (w.heap.size + 2) W := by rw [hW]; exact ⟨by (try simp) <;> omega, ((((Below.refl _ _).alloc (Nat.le_refl _) _).alloc (by (try simp) <;> omega) _).alloc (by (try simp) <;> omega) _)⟩
  clear hW
  go_wp2_with fail
  refine (zsign_of (s := 0) (hy.below hB.below (Nat.le_refl _)) (by omega) HS).mono ?_
  rintro e w1 ⟨rfl, hb1⟩
  replace hA00 := cell_on hA00 hb1
  replace hA01 := cell_on hA01 hb1
  replace hA10 := cell_on hA10 hb1
  replace hA11 := cell_on hA11 hb1
  replace hR0 := hR0.on hb1
  replace hB := hB.on hb1
  clear hb1
  go_wp2_with fail
  refine (zeuclid_zero (hx.below hB.below (Nat.le_refl _)) (hy.below hB.below (Nat.le_refl _)) hn hm H0.out).mono ?_
  rintro e w2 ⟨p4, n4, c4, p5, n5, c5, rfl, hf4, hf5, hb2⟩
  have hlt2 := hB.lt
  replace hA00 := cell_on hA00 hb2
  replace hA01 := cell_on hA01 hb2
  replace hA10 := cell_on hA10 hb2
  replace hA11 := cell_on hA11 hb2
  replace hR0 := hR0.on hb2
  replace hB := hB.on hb2
  clear hb2
  clear hf4 hf5
  go_upto_region 4 with (fail)
  have hlb0 := hB.lt
  obtain ⟨W1, hW⟩ : ∃ W1 : World, W1 = ((w2.alloc (.cells #[.bool (ng 0), .slice p4 n4 c4] 25)).alloc (.cells #[.bool (ng 0), .slice p5 n5 c5] 25)) := ⟨_, rfl⟩
  rw [← hW]
  have qhA00 : W1.cell? ⟨w.heap.size, 0, none⟩ = some (.bool b) := by rw [hW]; exact (cell_on (cell_on hA00 (below_alloc _ _)) (below_alloc _ _))
  have qhA01 : W1.cell? ⟨w.heap.size, 1, none⟩ = some (.slice p n c) := by rw [hW]; exact (cell_on (cell_on hA01 (below_alloc _ _)) (below_alloc _ _))
  have qhA10 : W1.cell? ⟨w.heap.size + 1, 0, none⟩ = some (.bool b2) := by rw [hW]; exact (cell_on (cell_on hA10 (below_alloc _ _)) (below_alloc _ _))
  have qhA11 : W1.cell? ⟨w.heap.size + 1, 1, none⟩ = some (.slice q m d) := by rw [hW]; exact (cell_on (cell_on hA11 (below_alloc _ _)) (below_alloc _ _))
  have qhR0 : Cel (w.heap.size + 2) W1 := by rw [hW]; exact ((hR0.on (below_alloc _ _)).on (below_alloc _ _))
  have hL00 : W1.cell? ⟨w2.heap.size, 0, none⟩ = some (.bool (ng 0)) := by rw [hW]; exact (cell_on (box_c0 (by simp)) (below_alloc _ _))
  have hL01 : W1.cell? ⟨w2.heap.size, 1, none⟩ = some (.slice p4 n4 c4) := by rw [hW]; exact (cell_on (box_c1 (by simp)) (below_alloc _ _))
  have hR1 : Cel (w2.heap.size) W1 := by rw [hW]; exact ((Cel.ofAlloc (by simp)).on (below_alloc _ _))
  have hL10 : W1.cell? ⟨w2.heap.size + 1, 0, none⟩ = some (.bool (ng 0)) := by rw [hW]; exact (box_c0 (by simp))
  have hL11 : W1.cell? ⟨w2.heap.size + 1, 1, none⟩ = some (.slice p5 n5 c5) := by rw [hW]; exact (box_c1 (by simp))
  have hR2 : Cel (w2.heap.size + 1) W1 := by rw [hW]; exact (Cel.ofAlloc (by simp))
  have qhB : Box w (w2.heap.size + 1) W1 := by rw [hW]; exact ⟨by (try simp) <;> omega, ((hB.below.alloc (by (try simp) <;> omega) _).alloc (by (try simp) <;> omega) _)⟩
  clear hW hA00 hA01 hA10 hA11 hR0 hB
  have hA00 := qhA00
  have hA01 := qhA01
  have hA10 := qhA10
  have hA11 := qhA11
  have hR0 := qhR0
  have hB := qhB
  clear qhA00 qhA01 qhA10 qhA11 qhR0 qhB
  obtain ⟨⟨u0, hu0⟩, ⟨u1, hu1⟩, hug0, hug1⟩ := id hR0
  go_wp2_with fail
  refine bodyPost_ret (v := .tuple #[.agg #[.bool false, .slice none 0 0], .int .i64 5]) (by simp [results, Try.results35, go_sem, hu0, hu1]) rfl ?_
  exact ⟨_, _, _, rfl, Fr.nil _ _, ((hB.set (by omega) _ _).set (by omega) _ _).below⟩

set_option maxHeartbeats 2000000 in
theorem zpow_neg {p : Option Addr} {n c : Nat} {b : Bool} {w : World} {k : Int} (hk : k < 0) :
    Calls Try.prog 55 #[.agg #[.bool b, .slice p n c], .int .i64 k] w (RetZE w 0 1) := by
  go_enter Try.func55, Try.ntmps55
  go_wp2_with fail
  obtain ⟨W, hW⟩ : ∃ W : World, W = ((w.alloc (.cells #[.bool b, .slice p n c] 25)).alloc (.cells #[.bool false, .slice none 0 0] 25)) := ⟨_, rfl⟩
  rw [← hW]
  have hA00 : W.cell? ⟨w.heap.size, 0, none⟩ = some (.bool b) := by rw [hW]; exact (cell_on (box_c0 (by simp)) (below_alloc _ _))
  have hA01 : W.cell? ⟨w.heap.size, 1, none⟩ = some (.slice p n c) := by rw [hW]; exact (cell_on (box_c1 (by simp)) (below_alloc _ _))
  have hR0 : Cel (w.heap.size + 1) W := by rw [hW]; exact (Cel.ofAlloc (by simp))
  have hB : Box w (w.heap.size + 1) W := by rw [hW]; exact ⟨by (try simp) <;> omega, (((Below.refl _ _).alloc (Nat.le_refl _) _).alloc (by (try simp) <;> omega) _)⟩
  clear hW
  go_wp2_with fail
  refine (pow_neg hk).mono ?_
  rintro e w1 ⟨p4, n4, c4, rfl, hf4, hb1⟩
  have hlt1 := hB.lt
  replace hA00 := cell_on hA00 hb1
  replace hA01 := cell_on hA01 hb1
  replace hR0 := hR0.on hb1
  replace hB := hB.on hb1
  clear hb1
  clear hf4
  obtain ⟨⟨u0, hu0⟩, ⟨u1, hu1⟩, hug0, hug1⟩ := hR0
  go_wp2_with fail
  refine bodyPost_ret (v := .tuple #[.agg #[.bool false, .slice none 0 0], .int .i64 1]) (by simp [results, Try.results55, go_sem, hu0, hu1]) rfl ?_
  exact ⟨_, _, _, rfl, Fr.nil _ _, ((hB.set (by omega) _ _).set (by omega) _ _).below⟩

set_option maxHeartbeats 2000000 in
theorem zpow_big {p : Option Addr} {n c : Nat} {b : Bool} {xs : List Nat} {w : World} {k : Nat} (hx : Sl w p n c xs) (hn : n ≤ 1048576000) (hk : k ≤ 9223372036854775807) (h1 : 1 < blen (val xs)) (h2 : 67108864 < k ∨ 67108864 ≤ (blen (val xs) - 1) * k) :
    Calls Try.prog 55 #[.agg #[.bool b, .slice p n c], .int .i64 (k : Int)] w (RetZE w 0 4) := by
  have HC := Lib.hid h1
  have HD := Lib.hid h2
  clear h1 h2
  go_enter Try.func55, Try.ntmps55
  go_wp2_with fail
  obtain ⟨W, hW⟩ : ∃ W : World, W = ((w.alloc (.cells #[.bool b, .slice p n c] 25)).alloc (.cells #[.bool false, .slice none 0 0] 25)) := ⟨_, rfl⟩
  rw [← hW]
  have hA00 : W.cell? ⟨w.heap.size, 0, none⟩ = some (.bool b) := by rw [hW]; exact (cell_on (box_c0 (by simp)) (below_alloc _ _))
  have hA01 : W.cell? ⟨w.heap.size, 1, none⟩ = some (.slice p n c) := by rw [hW]; exact (cell_on (box_c1 (by simp)) (below_alloc _ _))
  have hR0 : Cel (w.heap.size + 1) W := by rw [hW]; exact (Cel.ofAlloc (by simp))
  have hB : Box w (w.heap.size + 1) W := by rw [hW]; exact ⟨by (try simp) <;> omega, (((Below.refl _ _).alloc (Nat.le_refl _) _).alloc (by (try simp) <;> omega) _)⟩
  clear hW
  go_wp2_with fail
  refine (pow_big (hx.below hB.below (Nat.le_refl _)) hn hk HC.out HD.out).mono ?_
  rintro e w1 ⟨p4, n4, c4, rfl, hf4, hb1⟩
  have hlt1 := hB.lt
  replace hA00 := cell_on hA00 hb1
  replace hA01 := cell_on hA01 hb1
  replace hR0 := hR0.on hb1
  replace hB := hB.on hb1
  clear hb1
  clear hf4
  obtain ⟨⟨u0, hu0⟩, ⟨u1, hu1⟩, hug0, hug1⟩ := hR0
  go_wp2_with fail
  refine bodyPost_ret (v := .tuple #[.agg #[.bool false, .slice none 0 0], .int .i64 4]) (by simp [results, Try.results55, go_sem, hu0, hu1]) rfl ?_
  exact ⟨_, _, _, rfl, Fr.nil _ _, ((hB.set (by omega) _ _).set (by omega) _ _).below⟩

theorem zv_pow_false (n k : Nat) : zv false (n ^ k) = zv false n ^ k := by rw [zv_false, zv_false, Int.natCast_pow]
theorem zv_pow_even {n k : Nat} (h : k % 2 = 0) : zv false (n ^ k) = zv true n ^ k := by
  obtain ⟨j, rfl⟩ : ∃ j, k = 2 * j := ⟨k / 2, by omega⟩
  rw [zv_false, zv_true, Int.natCast_pow, Int.pow_mul, Int.pow_mul]
  congr 1
  rw [Int.pow_succ, Int.pow_succ, Int.pow_zero, Int.pow_succ, Int.pow_succ, Int.pow_zero, Int.one_mul, Int.one_mul, Int.neg_mul_neg]
theorem zv_pow_odd {n k : Nat} (h : k % 2 = 1) : zv true (n ^ k) = zv true n ^ k := by
  obtain ⟨j, rfl⟩ : ∃ j, k = j + 1 := ⟨k - 1, by omega⟩
  have h1 := zv_pow_even (n := n) (k := j) (by omega)
  rw [Int.pow_succ, ← h1, zv_false, zv_true, zv_true, Nat.pow_succ, Int.natCast_mul, Int.mul_neg]

set_option maxHeartbeats 2000000 in
theorem zpow_ok_p {p : Option Addr} {n c : Nat} {xs : List Nat} {w : World} {k : Nat} (hx : Sl w p n c xs) (hn : n ≤ 1048576000) (hk : k ≤ 9223372036854775807) (hk0 : 0 < k) (h1 : 1 < blen (val xs)) (h2 : blen (val xs) * k ≤ 67108864) :
    Calls Try.prog 55 #[.agg #[.bool false, .slice p n c], .int .i64 (k : Int)] w (RetZE w (zv false (val xs) ^ k) 0) := by
  have _ := hk
  have HZ : Hid (zv false (val xs ^ k) = zv false (val xs) ^ k) := by
    show _ = _
    first | exact zv_pow_false _ _ | exact zv_pow_even he | exact zv_pow_odd he
  have HC := Lib.hid h1
  have HD := Lib.hid h2
  clear h1 h2
  go_enter Try.func55, Try.ntmps55
  go_wp2_with fail
  obtain ⟨W, hW⟩ : ∃ W : World, W = ((w.alloc (.cells #[.bool false, .slice p n c] 25)).alloc (.cells #[.bool false, .slice none 0 0] 25)) := ⟨_, rfl⟩
  rw [← hW]
  have hA00 : W.cell? ⟨w.heap.size, 0, none⟩ = some (.bool false) := by rw [hW]; exact (cell_on (box_c0 (by simp)) (below_alloc _ _))
  have hA01 : W.cell? ⟨w.heap.size, 1, none⟩ = some (.slice p n c) := by rw [hW]; exact (cell_on (box_c1 (by simp)) (below_alloc _ _))
  have hR0 : Cel (w.heap.size + 1) W := by rw [hW]; exact (Cel.ofAlloc (by simp))
  have hB : Box w (w.heap.size + 1) W := by rw [hW]; exact ⟨by (try simp) <;> omega, (((Below.refl _ _).alloc (Nat.le_refl _) _).alloc (by (try simp) <;> omega) _)⟩
  clear hW
  go_wp2_with fail
  refine (pow_ok (hx.below hB.below (Nat.le_refl _)) hn hk0 HC.out HD.out).mono ?_
  rintro e w1 ⟨p4, n4, c4, rfl, hf4, hb1⟩
  have hlt1 := hB.lt
  replace hA00 := cell_on hA00 hb1
  replace hA01 := cell_on hA01 hb1
  replace hR0 := hR0.on hb1
  replace hB := hB.on hb1
  clear hb1
  go_wp2_with fail
  refine (make1_any).mono ?_
  rintro e w2 ⟨rfl, hb2⟩
  replace hA00 := cell_on hA00 hb2
  replace hA01 := cell_on hA01 hb2
  replace hR0 := hR0.on hb2
  replace hB := hB.on hb2
  replace hf4 := hf4.below hb2 (Nat.le_refl _)
  clear hb2
  obtain ⟨⟨u0, hu0⟩, ⟨u1, hu1⟩, hug0, hug1⟩ := hR0
  go_wp2_with fail
  refine bodyPost_ret (v := .tuple #[.agg #[.bool (false && decide (0 < n4)), .slice p4 n4 c4], .int .i64 0]) (by simp [results, Try.results55, go_sem, hu0, hu1]) rfl ?_
  exact ⟨_, _, _, by rw [mk_ng hf4.sl.lln, HZ.out], by rw [← HZ.out, natAbs_zv]; exact hf4.setBox (by omega) (by omega), ((hB.set (by omega) _ _).set (by omega) _ _).below⟩

set_option maxHeartbeats 2000000 in
theorem zpow_ok_e {p : Option Addr} {n c : Nat} {xs : List Nat} {w : World} {k : Nat} (hx : Sl w p n c xs) (hn : n ≤ 1048576000) (hk : k ≤ 9223372036854775807) (hk0 : 0 < k) (h1 : 1 < blen (val xs)) (h2 : blen (val xs) * k ≤ 67108864) (he : k % 2 = 0) :
    Calls Try.prog 55 #[.agg #[.bool true, .slice p n c], .int .i64 (k : Int)] w (RetZE w (zv true (val xs) ^ k) 0) := by
  have _ := hk
  have HZ : Hid (zv false (val xs ^ k) = zv true (val xs) ^ k) := by
    show _ = _
    first | exact zv_pow_false _ _ | exact zv_pow_even he | exact zv_pow_odd he
  have hz : ((k : Int) % 2 == 1) = false := by simp; omega
  clear he
  have HC := Lib.hid h1
  have HD := Lib.hid h2
  clear h1 h2
  go_enter Try.func55, Try.ntmps55
  go_wp2_with fail
  obtain ⟨W, hW⟩ : ∃ W : World, W = ((w.alloc (.cells #[.bool true, .slice p n c] 25)).alloc (.cells #[.bool false, .slice none 0 0] 25)) := ⟨_, rfl⟩
  rw [← hW]
  have hA00 : W.cell? ⟨w.heap.size, 0, none⟩ = some (.bool true) := by rw [hW]; exact (cell_on (box_c0 (by simp)) (below_alloc _ _))
  have hA01 : W.cell? ⟨w.heap.size, 1, none⟩ = some (.slice p n c) := by rw [hW]; exact (cell_on (box_c1 (by simp)) (below_alloc _ _))
  have hR0 : Cel (w.heap.size + 1) W := by rw [hW]; exact (Cel.ofAlloc (by simp))
  have hB : Box w (w.heap.size + 1) W := by rw [hW]; exact ⟨by (try simp) <;> omega, (((Below.refl _ _).alloc (Nat.le_refl _) _).alloc (by (try simp) <;> omega) _)⟩
  clear hW
  go_wp2_with fail
  refine (pow_ok (hx.below hB.below (Nat.le_refl _)) hn hk0 HC.out HD.out).mono ?_
  rintro e w1 ⟨p4, n4, c4, rfl, hf4, hb1⟩
  have hlt1 := hB.lt
  replace hA00 := cell_on hA00 hb1
  replace hA01 := cell_on hA01 hb1
  replace hR0 := hR0.on hb1
  replace hB := hB.on hb1
  clear hb1
  go_wp2_with fail
  refine (make1_any).mono ?_
  rintro e w2 ⟨rfl, hb2⟩
  replace hA00 := cell_on hA00 hb2
  replace hA01 := cell_on hA01 hb2
  replace hR0 := hR0.on hb2
  replace hB := hB.on hb2
  replace hf4 := hf4.below hb2 (Nat.le_refl _)
  clear hb2
  obtain ⟨⟨u0, hu0⟩, ⟨u1, hu1⟩, hug0, hug1⟩ := hR0
  go_wp2_with fail
  refine bodyPost_ret (v := .tuple #[.agg #[.bool (false && decide (0 < n4)), .slice p4 n4 c4], .int .i64 0]) (by simp [results, Try.results55, go_sem, hu0, hu1]) rfl ?_
  exact ⟨_, _, _, by rw [mk_ng hf4.sl.lln, HZ.out], by rw [← HZ.out, natAbs_zv]; exact hf4.setBox (by omega) (by omega), ((hB.set (by omega) _ _).set (by omega) _ _).below⟩

set_option maxHeartbeats 2000000 in
theorem zpow_ok_o {p : Option Addr} {n c : Nat} {xs : List Nat} {w : World} {k : Nat} (hx : Sl w p n c xs) (hn : n ≤ 1048576000) (hk : k ≤ 9223372036854775807) (hk0 : 0 < k) (h1 : 1 < blen (val xs)) (h2 : blen (val xs) * k ≤ 67108864) (he : k % 2 = 1) :
    Calls Try.prog 55 #[.agg #[.bool true, .slice p n c], .int .i64 (k : Int)] w (RetZE w (zv true (val xs) ^ k) 0) := by
  have _ := hk
  have HZ : Hid (zv true (val xs ^ k) = zv true (val xs) ^ k) := by
    show _ = _
    first | exact zv_pow_false _ _ | exact zv_pow_even he | exact zv_pow_odd he
  have hz : ((k : Int) % 2 == 1) = true := by simp; omega
  clear he
  have HC := Lib.hid h1
  have HD := Lib.hid h2
  clear h1 h2
  go_enter Try.func55, Try.ntmps55
  go_wp2_with fail
  obtain ⟨W, hW⟩ : ∃ W : World, W = ((w.alloc (.cells #[.bool true, .slice p n c] 25)).alloc (.cells #[.bool false, .slice none 0 0] 25)) := ⟨_, rfl⟩
  rw [← hW]
  have hA00 : W.cell? ⟨w.heap.size, 0, none⟩ = some (.bool true) := by rw [hW]; exact (cell_on (box_c0 (by simp)) (below_alloc _ _))
  have hA01 : W.cell? ⟨w.heap.size, 1, none⟩ = some (.slice p n c) := by rw [hW]; exact (cell_on (box_c1 (by simp)) (below_alloc _ _))
  have hR0 : Cel (w.heap.size + 1) W := by rw [hW]; exact (Cel.ofAlloc (by simp))
  have hB : Box w (w.heap.size + 1) W := by rw [hW]; exact ⟨by (try simp) <;> omega, (((Below.refl _ _).alloc (Nat.le_refl _) _).alloc (by (try simp) <;> omega) _)⟩
  clear hW
  go_wp2_with fail
  refine (pow_ok (hx.below hB.below (Nat.le_refl _)) hn hk0 HC.out HD.out).mono ?_
  rintro e w1 ⟨p4, n4, c4, rfl, hf4, hb1⟩
  have hlt1 := hB.lt
  replace hA00 := cell_on hA00 hb1
  replace hA01 := cell_on hA01 hb1
  replace hR0 := hR0.on hb1
  replace hB := hB.on hb1
  clear hb1
  go_wp2_with fail
  refine (make1_any).mono ?_
  rintro e w2 ⟨rfl, hb2⟩
  replace hA00 := cell_on hA00 hb2
  replace hA01 := cell_on hA01 hb2
  replace hR0 := hR0.on hb2
  replace hB := hB.on hb2
  replace hf4 := hf4.below hb2 (Nat.le_refl _)
  clear hb2
  obtain ⟨⟨u0, hu0⟩, ⟨u1, hu1⟩, hug0, hug1⟩ := hR0
  go_wp2_with fail
  refine bodyPost_ret (v := .tuple #[.agg #[.bool (true && decide (0 < n4)), .slice p4 n4 c4], .int .i64 0]) (by simp [results, Try.results55, go_sem, hu0, hu1]) rfl ?_
  exact ⟨_, _, _, by rw [mk_ng hf4.sl.lln, HZ.out], by rw [← HZ.out, natAbs_zv]; exact hf4.setBox (by omega) (by omega), ((hB.set (by omega) _ _).set (by omega) _ _).below⟩

set_option maxHeartbeats 2000000 in
theorem zpow_one_p {p : Option Addr} {n c : Nat} {xs : List Nat} {w : World} {k : Nat} (hx : Sl w p n c xs) (hn : n ≤ 1048576000) (hk : k ≤ 9223372036854775807) (h1 : k = 0 ∨ blen (val xs) = 1) :
    Calls Try.prog 55 #[.agg #[.bool false, .slice p n c], .int .i64 (k : Int)] w (RetZE w (zv false (val xs) ^ k) 0) := by
  have HZ : Hid (zv false (1) = zv false (val xs) ^ k) := by
    show _ = _
    have e1 : (1 : Nat) = val xs ^ k := by
      rcases h1 with h | h
      · rw [h, Nat.pow_zero]
      · rw [blen_one h, Nat.one_pow]
    rw [e1]
    first | exact zv_pow_false _ _ | exact zv_pow_even he | exact zv_pow_odd he
  have HD := Lib.hid h1
  clear h1
  go_enter Try.func55, Try.ntmps55
  go_wp2_with fail
  obtain ⟨W, hW⟩ : ∃ W : World, W = ((w.alloc (.cells #[.bool false, .slice p n c] 25)).alloc (.cells #[.bool false, .slice none 0 0] 25)) := ⟨_, rfl⟩
  rw [← hW]
  have hA00 : W.cell? ⟨w.heap.size, 0, none⟩ = some (.bool false) := by rw [hW]; exact (cell_on (box_c0 (by simp)) (below_alloc _ _))
  have hA01 : W.cell? ⟨w.heap.size, 1, none⟩ = some (.slice p n c) := by rw [hW]; exact (cell_on (box_c1 (by simp)) (below_alloc _ _))
  have hR0 : Cel (w.heap.size + 1) W := by rw [hW]; exact (Cel.ofAlloc (by simp))
  have hB : Box w (w.heap.size + 1) W := by rw [hW]; exact ⟨by (try simp) <;> omega, (((Below.refl _ _).alloc (Nat.le_refl _) _).alloc (by (try simp) <;> omega) _)⟩
  clear hW
  go_wp2_with fail
  refine (pow_one (hx.below hB.below (Nat.le_refl _)) hn hk HD.out).mono ?_
  rintro e w1 ⟨p4, n4, c4, rfl, hf4, hb1⟩
  have hlt1 := hB.lt
  replace hA00 := cell_on hA00 hb1
  replace hA01 := cell_on hA01 hb1
  replace hR0 := hR0.on hb1
  replace hB := hB.on hb1
  clear hb1
  go_wp2_with fail
  refine (make1_any).mono ?_
  rintro e w2 ⟨rfl, hb2⟩
  replace hA00 := cell_on hA00 hb2
  replace hA01 := cell_on hA01 hb2
  replace hR0 := hR0.on hb2
  replace hB := hB.on hb2
  replace hf4 := hf4.below hb2 (Nat.le_refl _)
  clear hb2
  obtain ⟨⟨u0, hu0⟩, ⟨u1, hu1⟩, hug0, hug1⟩ := hR0
  go_wp2_with fail
  refine bodyPost_ret (v := .tuple #[.agg #[.bool (false && decide (0 < n4)), .slice p4 n4 c4], .int .i64 0]) (by simp [results, Try.results55, go_sem, hu0, hu1]) rfl ?_
  exact ⟨_, _, _, by rw [mk_ng hf4.sl.lln, HZ.out], by rw [← HZ.out, natAbs_zv]; exact hf4.setBox (by omega) (by omega), ((hB.set (by omega) _ _).set (by omega) _ _).below⟩

set_option maxHeartbeats 2000000 in
theorem zpow_one_e {p : Option Addr} {n c : Nat} {xs : List Nat} {w : World} {k : Nat} (hx : Sl w p n c xs) (hn : n ≤ 1048576000) (hk : k ≤ 9223372036854775807) (h1 : k = 0 ∨ blen (val xs) = 1) (he : k % 2 = 0) :
    Calls Try.prog 55 #[.agg #[.bool true, .slice p n c], .int .i64 (k : Int)] w (RetZE w (zv true (val xs) ^ k) 0) := by
  have HZ : Hid (zv false (1) = zv true (val xs) ^ k) := by
    show _ = _
    have e1 : (1 : Nat) = val xs ^ k := by
      rcases h1 with h | h
      · rw [h, Nat.pow_zero]
      · rw [blen_one h, Nat.one_pow]
    rw [e1]
    first | exact zv_pow_false _ _ | exact zv_pow_even he | exact zv_pow_odd he
  have hz : ((k : Int) % 2 == 1) = false := by simp; omega
  clear he
  have HD := Lib.hid h1
  clear h1
  go_enter Try.func55, Try.ntmps55
  go_wp2_with fail
  obtain ⟨W, hW⟩ : ∃ W : World, W = ((w.alloc (.cells #[.bool true, .slice p n c] 25)).alloc (.cells #[.bool false, .slice none 0 0] 25)) := ⟨_, rfl⟩
  rw [← hW]
  have hA00 : W.cell? ⟨w.heap.size, 0, none⟩ = some (.bool true) := by rw [hW]; exact (cell_on (box_c0 (by simp)) (below_alloc _ _))
  have hA01 : W.cell? ⟨w.heap.size, 1, none⟩ = some (.slice p n c) := by rw [hW]; exact (cell_on (box_c1 (by simp)) (below_alloc _ _))
  have hR0 : Cel (w.heap.size + 1) W := by rw [hW]; exact (Cel.ofAlloc (by simp))
  have hB : Box w (w.heap.size + 1) W := by rw [hW]; exact ⟨by (try simp) <;> omega, (((Below.refl _ _).alloc (Nat.le_refl _) _).alloc (by (try simp) <;> omega) _)⟩
  clear hW
  go_wp2_with fail
  refine (pow_one (hx.below hB.below (Nat.le_refl _)) hn hk HD.out).mono ?_
  rintro e w1 ⟨p4, n4, c4, rfl, hf4, hb1⟩
  have hlt1 := hB.lt
  replace hA00 := cell_on hA00 hb1
  replace hA01 := cell_on hA01 hb1
  replace hR0 := hR0.on hb1
  replace hB := hB.on hb1
  clear hb1
  go_wp2_with fail
  refine (make1_any).mono ?_
  rintro e w2 ⟨rfl, hb2⟩
  replace hA00 := cell_on hA00 hb2
  replace hA01 := cell_on hA01 hb2
  replace hR0 := hR0.on hb2
  replace hB := hB.on hb2
  replace hf4 := hf4.below hb2 (Nat.le_refl _)
  clear hb2
  obtain ⟨⟨u0, hu0⟩, ⟨u1, hu1⟩, hug0, hug1⟩ := hR0
  go_wp2_with fail
  refine bodyPost_ret (v := .tuple #[.agg #[.bool (false && decide (0 < n4)), .slice p4 n4 c4], .int .i64 0]) (by simp [results, Try.results55, go_sem, hu0, hu1]) rfl ?_
  exact ⟨_, _, _, by rw [mk_ng hf4.sl.lln, HZ.out], by rw [← HZ.out, natAbs_zv]; exact hf4.setBox (by omega) (by omega), ((hB.set (by omega) _ _).set (by omega) _ _).below⟩

set_option maxHeartbeats 2000000 in
theorem zpow_one_o {p : Option Addr} {n c : Nat} {xs : List Nat} {w : World} {k : Nat} (hx : Sl w p n c xs) (hn : n ≤ 1048576000) (hk : k ≤ 9223372036854775807) (h1 : k = 0 ∨ blen (val xs) = 1) (he : k % 2 = 1) :
    Calls Try.prog 55 #[.agg #[.bool true, .slice p n c], .int .i64 (k : Int)] w (RetZE w (zv true (val xs) ^ k) 0) := by
  have HZ : Hid (zv true (1) = zv true (val xs) ^ k) := by
    show _ = _
    have e1 : (1 : Nat) = val xs ^ k := by
      rcases h1 with h | h
      · rw [h, Nat.pow_zero]
      · rw [blen_one h, Nat.one_pow]
    rw [e1]
    first | exact zv_pow_false _ _ | exact zv_pow_even he | exact zv_pow_odd he
  have hz : ((k : Int) % 2 == 1) = true := by simp; omega
  clear he
  have HD := Lib.hid h1
  clear h1
  go_enter Try.func55, Try.ntmps55
  go_wp2_with fail
  obtain ⟨W, hW⟩ : ∃ W : World, W = ((w.alloc (.cells #[.bool true, .slice p n c] 25)).alloc (.cells #[.bool false, .slice none 0 0] 25)) := ⟨_, rfl⟩
  rw [← hW]
  have hA00 : W.cell? ⟨w.heap.size, 0, none⟩ = some (.bool true) := by rw [hW]; exact (cell_on (box_c0 (by simp)) (below_alloc _ _))
  have hA01 : W.cell? ⟨w.heap.size, 1, none⟩ = some (.slice p n c) := by rw [hW]; exact (cell_on (box_c1 (by simp)) (below_alloc _ _))
  have hR0 : Cel (w.heap.size + 1) W := by rw [hW]; exact (Cel.ofAlloc (by simp))
  have hB : Box w (w.heap.size + 1) W := by rw [hW]; exact ⟨by (try simp) <;> omega, (((Below.refl _ _).alloc (Nat.le_refl _) _).alloc (by (try simp) <;> omega) _)⟩
  clear hW
  go_wp2_with fail
  refine (pow_one (hx.below hB.below (Nat.le_refl _)) hn hk HD.out).mono ?_
  rintro e w1 ⟨p4, n4, c4, rfl, hf4, hb1⟩
  have hlt1 := hB.lt
  replace hA00 := cell_on hA00 hb1
  replace hA01 := cell_on hA01 hb1
  replace hR0 := hR0.on hb1
  replace hB := hB.on hb1
  clear hb1
  go_wp2_with fail
  refine (make1_any).mono ?_
  rintro e w2 ⟨rfl, hb2⟩
  replace hA00 := cell_on hA00 hb2
  replace hA01 := cell_on hA01 hb2
  replace hR0 := hR0.on hb2
  replace hB := hB.on hb2
  replace hf4 := hf4.below hb2 (Nat.le_refl _)
  clear hb2
  obtain ⟨⟨u0, hu0⟩, ⟨u1, hu1⟩, hug0, hug1⟩ := hR0
  go_wp2_with fail
  refine bodyPost_ret (v := .tuple #[.agg #[.bool (true && decide (0 < n4)), .slice p4 n4 c4], .int .i64 0]) (by simp [results, Try.results55, go_sem, hu0, hu1]) rfl ?_
  exact ⟨_, _, _, by rw [mk_ng hf4.sl.lln, HZ.out], by rw [← HZ.out, natAbs_zv]; exact hf4.setBox (by omega) (by omega), ((hB.set (by omega) _ _).set (by omega) _ _).below⟩

set_option maxHeartbeats 2000000 in
theorem zpow_nil_p {p : Option Addr} {n c : Nat} {xs : List Nat} {w : World} {k : Nat} (hx : Sl w p n c xs) (hn : n ≤ 1048576000) (hk : k ≤ 9223372036854775807) (hk0 : 0 < k) (h1 : val xs = 0) :
    Calls Try.prog 55 #[.agg #[.bool false, .slice p n c], .int .i64 (k : Int)] w (RetZE w (zv false (val xs) ^ k) 0) := by
  have HZ : Hid (zv false (0) = zv false (val xs) ^ k) := by
    show _ = _
    have e1 : (0 : Nat) = val xs ^ k := by rw [h1, Nat.zero_pow hk0]
    rw [e1]
    first | exact zv_pow_false _ _ | exact zv_pow_even he | exact zv_pow_odd he
  have HD := Lib.hid h1
  clear h1
  go_enter Try.func55, Try.ntmps55
  go_wp2_with fail
  obtain ⟨W, hW⟩ : ∃ W : World, W = ((w.alloc (.cells #[.bool false, .slice p n c] 25)).alloc (.cells #[.bool false, .slice none 0 0] 25)) := ⟨_, rfl⟩
  rw [← hW]
  have hA00 : W.cell? ⟨w.heap.size, 0, none⟩ = some (.bool false) := by rw [hW]; exact (cell_on (box_c0 (by simp)) (below_alloc _ _))
  have hA01 : W.cell? ⟨w.heap.size, 1, none⟩ = some (.slice p n c) := by rw [hW]; exact (cell_on (box_c1 (by simp)) (below_alloc _ _))
  have hR0 : Cel (w.heap.size + 1) W := by rw [hW]; exact (Cel.ofAlloc (by simp))
  have hB : Box w (w.heap.size + 1) W := by rw [hW]; exact ⟨by (try simp) <;> omega, (((Below.refl _ _).alloc (Nat.le_refl _) _).alloc (by (try simp) <;> omega) _)⟩
  clear hW
  go_wp2_with fail
  refine (pow_zero (hx.below hB.below (Nat.le_refl _)) hn hk hk0 HD.out).mono ?_
  rintro e w1 ⟨p4, n4, c4, rfl, hf4, hb1⟩
  have hlt1 := hB.lt
  replace hA00 := cell_on hA00 hb1
  replace hA01 := cell_on hA01 hb1
  replace hR0 := hR0.on hb1
  replace hB := hB.on hb1
  clear hb1
  change Fr _ _ _ _ _ (lim 0) at hf4
  go_wp2_with fail
  refine (make1_any).mono ?_
  rintro e w2 ⟨rfl, hb2⟩
  replace hA00 := cell_on hA00 hb2
  replace hA01 := cell_on hA01 hb2
  replace hR0 := hR0.on hb2
  replace hB := hB.on hb2
  replace hf4 := hf4.below hb2 (Nat.le_refl _)
  clear hb2
  obtain ⟨⟨u0, hu0⟩, ⟨u1, hu1⟩, hug0, hug1⟩ := hR0
  go_wp2_with fail
  refine bodyPost_ret (v := .tuple #[.agg #[.bool (false && decide (0 < n4)), .slice p4 n4 c4], .int .i64 0]) (by simp [results, Try.results55, go_sem, hu0, hu1]) rfl ?_
  exact ⟨_, _, _, by rw [mk_ng hf4.sl.lln, HZ.out], by rw [← HZ.out, natAbs_zv]; exact hf4.setBox (by omega) (by omega), ((hB.set (by omega) _ _).set (by omega) _ _).below⟩

set_option maxHeartbeats 2000000 in
theorem zpow_nil_e {p : Option Addr} {n c : Nat} {xs : List Nat} {w : World} {k : Nat} (hx : Sl w p n c xs) (hn : n ≤ 1048576000) (hk : k ≤ 9223372036854775807) (hk0 : 0 < k) (h1 : val xs = 0) (he : k % 2 = 0) :
    Calls Try.prog 55 #[.agg #[.bool true, .slice p n c], .int .i64 (k : Int)] w (RetZE w (zv true (val xs) ^ k) 0) := by
  have HZ : Hid (zv false (0) = zv true (val xs) ^ k) := by
    show _ = _
    have e1 : (0 : Nat) = val xs ^ k := by rw [h1, Nat.zero_pow hk0]
    rw [e1]
    first | exact zv_pow_false _ _ | exact zv_pow_even he | exact zv_pow_odd he
  have hz : ((k : Int) % 2 == 1) = false := by simp; omega
  clear he
  have HD := Lib.hid h1
  clear h1
  go_enter Try.func55, Try.ntmps55
  go_wp2_with fail
  obtain ⟨W, hW⟩ : ∃ W : World, W = ((w.alloc (.cells #[.bool true, .slice p n c] 25)).alloc (.cells #[.bool false, .slice none 0 0] 25)) := ⟨_, rfl⟩
  rw [← hW]
  have hA00 : W.cell? ⟨w.heap.size, 0, none⟩ = some (.bool true) := by rw [hW]; exact (cell_on (box_c0 (by simp)) (below_alloc _ _))
  have hA01 : W.cell? ⟨w.heap.size, 1, none⟩ = some (.slice p n c) := by rw [hW]; exact (cell_on (box_c1 (by simp)) (below_alloc _ _))
  have hR0 : Cel (w.heap.size + 1) W := by rw [hW]; exact (Cel.ofAlloc (by simp))
  have hB : Box w (w.heap.size + 1) W := by rw [hW]; exact ⟨by (try simp) <;> omega, (((Below.refl _ _).alloc (Nat.le_refl _) _).alloc (by (try simp) <;> omega) _)⟩
  clear hW
  go_wp2_with fail
  refine (pow_zero (hx.below hB.below (Nat.le_refl _)) hn hk hk0 HD.out).mono ?_
  rintro e w1 ⟨p4, n4, c4, rfl, hf4, hb1⟩
  have hlt1 := hB.lt
  replace hA00 := cell_on hA00 hb1
  replace hA01 := cell_on hA01 hb1
  replace hR0 := hR0.on hb1
  replace hB := hB.on hb1
  clear hb1
  change Fr _ _ _ _ _ (lim 0) at hf4
  go_wp2_with fail
  refine (make1_any).mono ?_
  rintro e w2 ⟨rfl, hb2⟩
  replace hA00 := cell_on hA00 hb2
  replace hA01 := cell_on hA01 hb2
  replace hR0 := hR0.on hb2
  replace hB := hB.on hb2
  replace hf4 := hf4.below hb2 (Nat.le_refl _)
  clear hb2
  obtain ⟨⟨u0, hu0⟩, ⟨u1, hu1⟩, hug0, hug1⟩ := hR0
  go_wp2_with fail
  refine bodyPost_ret (v := .tuple #[.agg #[.bool (false && decide (0 < n4)), .slice p4 n4 c4], .int .i64 0]) (by simp [results, Try.results55, go_sem, hu0, hu1]) rfl ?_
  exact ⟨_, _, _, by rw [mk_ng hf4.sl.lln, HZ.out], by rw [← HZ.out, natAbs_zv]; exact hf4.setBox (by omega) (by omega), ((hB.set (by omega) _ _).set (by omega) _ _).below⟩

set_option maxHeartbeats 2000000 in
theorem zpow_nil_o {p : Option Addr} {n c : Nat} {xs : List Nat} {w : World} {k : Nat} (hx : Sl w p n c xs) (hn : n ≤ 1048576000) (hk : k ≤ 9223372036854775807) (hk0 : 0 < k) (h1 : val xs = 0) (he : k % 2 = 1) :
    Calls Try.prog 55 #[.agg #[.bool true, .slice p n c], .int .i64 (k : Int)] w (RetZE w (zv true (val xs) ^ k) 0) := by
  have HZ : Hid (zv true (0) = zv true (val xs) ^ k) := by
    show _ = _
    have e1 : (0 : Nat) = val xs ^ k := by rw [h1, Nat.zero_pow hk0]
    rw [e1]
    first | exact zv_pow_false _ _ | exact zv_pow_even he | exact zv_pow_odd he
  have hz : ((k : Int) % 2 == 1) = true := by simp; omega
  clear he
  have HD := Lib.hid h1
  clear h1
  go_enter Try.func55, Try.ntmps55
  go_wp2_with fail
  obtain ⟨W, hW⟩ : ∃ W : World, W = ((w.alloc (.cells #[.bool true, .slice p n c] 25)).alloc (.cells #[.bool false, .slice none 0 0] 25)) := ⟨_, rfl⟩
  rw [← hW]
  have hA00 : W.cell? ⟨w.heap.size, 0, none⟩ = some (.bool true) := by rw [hW]; exact (cell_on (box_c0 (by simp)) (below_alloc _ _))
  have hA01 : W.cell? ⟨w.heap.size, 1, none⟩ = some (.slice p n c) := by rw [hW]; exact (cell_on (box_c1 (by simp)) (below_alloc _ _))
  have hR0 : Cel (w.heap.size + 1) W := by rw [hW]; exact (Cel.ofAlloc (by simp))
  have hB : Box w (w.heap.size + 1) W := by rw [hW]; exact ⟨by (try simp) <;> omega, (((Below.refl _ _).alloc (Nat.le_refl _) _).alloc (by (try simp) <;> omega) _)⟩
  clear hW
  go_wp2_with fail
  refine (pow_zero (hx.below hB.below (Nat.le_refl _)) hn hk hk0 HD.out).mono ?_
  rintro e w1 ⟨p4, n4, c4, rfl, hf4, hb1⟩
  have hlt1 := hB.lt
  replace hA00 := cell_on hA00 hb1
  replace hA01 := cell_on hA01 hb1
  replace hR0 := hR0.on hb1
  replace hB := hB.on hb1
  clear hb1
  change Fr _ _ _ _ _ (lim 0) at hf4
  go_wp2_with fail
  refine (make1_any).mono ?_
  rintro e w2 ⟨rfl, hb2⟩
  replace hA00 := cell_on hA00 hb2
  replace hA01 := cell_on hA01 hb2
  replace hR0 := hR0.on hb2
  replace hB := hB.on hb2
  replace hf4 := hf4.below hb2 (Nat.le_refl _)
  clear hb2
  obtain ⟨⟨u0, hu0⟩, ⟨u1, hu1⟩, hug0, hug1⟩ := hR0
  go_wp2_with fail
  refine bodyPost_ret (v := .tuple #[.agg #[.bool (true && decide (0 < n4)), .slice p4 n4 c4], .int .i64 0]) (by simp [results, Try.results55, go_sem, hu0, hu1]) rfl ?_
  exact ⟨_, _, _, by rw [mk_ng hf4.sl.lln, HZ.out], by rw [← HZ.out, natAbs_zv]; exact hf4.setBox (by omega) (by omega), ((hB.set (by omega) _ _).set (by omega) _ _).below⟩

end Go.Proofs.Ytlnilkghbbbhbaa
