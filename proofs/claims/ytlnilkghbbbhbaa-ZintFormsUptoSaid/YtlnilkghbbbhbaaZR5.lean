
/-
  The walks of simileref03: Gcd, Pow.
-/
import Derived.Test.YtlnilkghbbbhbaaZR3
import Derived.Test.YtlnilkghbbbhbaaZH
import Derived.Test.YtlnilkghbbbhbaaRefI
namespace Go.Proofs.Ytlnilkghbbbhbaa
open Go.RowKit

set_option maxHeartbeats 1000000 in
theorem qgcd_any {p q : Option Addr} {n m c d : Nat} {b b2 : Bool} {xs ys : List Nat} {w : World} (hx : Sl w p n c xs) (hy : Sl w q m d ys) (hn : n ≤ 549755813888) (hm : m ≤ 549755813888) :
    Calls Try.prog 79 #[.agg #[.bool b, .slice p n c], .agg #[.bool b2, .slice q m d]] w (RetZ w ((Int.gcd (zv b (val xs)) (zv b2 (val ys)) : Nat) : Int)) := by
  go_enter Try.func79, Try.ntmps79
  go_wp2_with fail
  obtain ⟨W, hW⟩ : ∃ W : World, W = (((w.alloc (.cells #[.bool b, .slice p n c] 25)).alloc (.cells #[.bool b2, .slice q m d] 25)).alloc (.cells #[.bool false, .slice none 0 0] 25)) := ⟨_, rfl⟩
  rw [← hW]
  have hA00 : W.cell? ⟨w.heap.size, 0, none⟩ = some (.bool b) := by rw [hW]; exact (cell_on (cell_on (box_c0 (by simp)) (below_alloc _ _)) (below_alloc _ _))
  have hA01 : W.cell? ⟨w.heap.size, 1, none⟩ = some (.slice p n c) := by rw [hW]; exact (cell_on (cell_on (box_c1 (by simp)) (below_alloc _ _)) (below_alloc _ _))
  have hA10 : W.cell? ⟨w.heap.size + 1, 0, none⟩ = some (.bool b2) := by rw [hW]; exact (cell_on (box_c0 (by simp)) (below_alloc _ _))
  have hA11 : W.cell? ⟨w.heap.size + 1, 1, none⟩ = some (.slice q m d) := by rw [hW]; exact (cell_on (box_c1 (by simp)) (below_alloc _ _))
  have hR0 : Cel (w.heap.size + 2) W := by rw [hW]; exact (Cel.ofAlloc (by simp))
  have hB : Box w (w.heap.size + 2) W := by rw [hW]; exact ⟨by (try simp) <;> omega, ((((Below.refl _ _).alloc (Nat.le_refl _) _).alloc (by (try simp) <;> omega) _).alloc (by (try simp) <;> omega) _)⟩
  clear hW
  go_wp2_with fail
  refine (rgcd_any (hx.below hB.below (Nat.le_refl _)) (hy.below hB.below (Nat.le_refl _)) hn hm).mono ?_
  rintro e w1 ⟨p4, n4, c4, rfl, hf4, hb1⟩
  have hlt1 := hB.lt
  replace hA00 := cell_on hA00 hb1
  replace hA01 := cell_on hA01 hb1
  replace hA10 := cell_on hA10 hb1
  replace hA11 := cell_on hA11 hb1
  replace hR0 := hR0.on hb1
  replace hB := hB.on hb1
  clear hb1
  obtain ⟨⟨u0, hu0⟩, ⟨u1, hu1⟩, hug0, hug1⟩ := hR0
  go_wp2_with fail
  refine bodyPost_ret (v := .agg #[.bool false, .slice p4 n4 c4]) (by simp [results, Try.results79, go_sem, hu0, hu1]) rfl ?_
  exact retZ_box (b := false) hf4 (by omega) (by omega) ((hB.set (by omega) _ _).set (by omega) _ _).below (by unfold Int.gcd; rw [natAbs_zv, natAbs_zv]; rfl)

set_option maxHeartbeats 2000000 in
theorem qpow_big {p : Option Addr} {n c : Nat} {b : Bool} {xs : List Nat} {w : World} {k : Nat} (hx : Sl w p n c xs) (hn : n ≤ 1048576000) (hk : k ≤ 9223372036854775807) (h1 : 1 < blen (val xs)) (h2 : 67108864 < k ∨ 67108864 ≤ (blen (val xs) - 1) * k) :
    Calls Try.prog 56 #[.agg #[.bool b, .slice p n c], .int .i64 (k : Int)] w (RetZB w 0 false) := by
  have HC := Lib.hid h1
  have HD := Lib.hid h2
  clear h1 h2
  go_enter Try.func56, Try.ntmps56
  go_wp2_with fail
  obtain ⟨W, hW⟩ : ∃ W : World, W = ((w.alloc (.cells #[.bool b, .slice p n c] 25)).alloc (.cells #[.bool false, .slice none 0 0] 25)) := ⟨_, rfl⟩
  rw [← hW]
  have hA00 : W.cell? ⟨w.heap.size, 0, none⟩ = some (.bool b) := by rw [hW]; exact (cell_on (box_c0 (by simp)) (below_alloc _ _))
  have hA01 : W.cell? ⟨w.heap.size, 1, none⟩ = some (.slice p n c) := by rw [hW]; exact (cell_on (box_c1 (by simp)) (below_alloc _ _))
  have hR0 : Cel (w.heap.size + 1) W := by rw [hW]; exact (Cel.ofAlloc (by simp))
  have hB : Box w (w.heap.size + 1) W := by rw [hW]; exact ⟨by (try simp) <;> omega, (((Below.refl _ _).alloc (Nat.le_refl _) _).alloc (by (try simp) <;> omega) _)⟩
  clear hW
  go_wp2_with fail
  refine (rpow_big (hx.below hB.below (Nat.le_refl _)) hn hk HC.out HD.out).mono ?_
  rintro e w1 ⟨p4, n4, c4, rfl, hf4, hb1⟩
  have hlt1 := hB.lt
  replace hA00 := cell_on hA00 hb1
  replace hA01 := cell_on hA01 hb1
  replace hR0 := hR0.on hb1
  replace hB := hB.on hb1
  clear hb1
  obtain ⟨⟨u0, hu0⟩, ⟨u1, hu1⟩, hug0, hug1⟩ := hR0
  clear hf4
  go_wp2_with fail
  refine bodyPost_ret (v := .tuple #[.agg #[.bool false, .slice none 0 0], .bool false]) (by simp [results, Try.results56, go_sem, hu0, hu1]) rfl ?_
  exact ⟨_, _, _, rfl, Fr.nil _ _, ((hB.set (by omega) _ _).set (by omega) _ _).below⟩

set_option maxHeartbeats 2000000 in
theorem qpow_ok_p {p : Option Addr} {n c : Nat} {xs : List Nat} {w : World} {k : Nat} (hx : Sl w p n c xs) (hn : n ≤ 1048576000) (hk : k ≤ 9223372036854775807) (hL : ll (val xs ^ k) ≤ 17592186044416) (h1 : 1 < blen (val xs)) (h2 : blen (val xs) * k ≤ 67108863) :
    Calls Try.prog 56 #[.agg #[.bool false, .slice p n c], .int .i64 (k : Int)] w (RetZB w (zv false (val xs) ^ k) true) := by
  have HZ : Hid (zv false (val (lim (val xs ^ k))) = zv false (val xs) ^ k) := by
    show _ = _
    rw [val_lim]
    first | exact zv_pow_false _ _ | exact zv_pow_even he | exact zv_pow_odd he
  have HL := Lib.hid hL
  clear hL
  have HC := Lib.hid h1
  have HD := Lib.hid h2
  clear h1 h2
  go_enter Try.func56, Try.ntmps56
  go_wp2_with fail
  obtain ⟨W, hW⟩ : ∃ W : World, W = ((w.alloc (.cells #[.bool false, .slice p n c] 25)).alloc (.cells #[.bool false, .slice none 0 0] 25)) := ⟨_, rfl⟩
  rw [← hW]
  have hA00 : W.cell? ⟨w.heap.size, 0, none⟩ = some (.bool false) := by rw [hW]; exact (cell_on (box_c0 (by simp)) (below_alloc _ _))
  have hA01 : W.cell? ⟨w.heap.size, 1, none⟩ = some (.slice p n c) := by rw [hW]; exact (cell_on (box_c1 (by simp)) (below_alloc _ _))
  have hR0 : Cel (w.heap.size + 1) W := by rw [hW]; exact (Cel.ofAlloc (by simp))
  have hB : Box w (w.heap.size + 1) W := by rw [hW]; exact ⟨by (try simp) <;> omega, (((Below.refl _ _).alloc (Nat.le_refl _) _).alloc (by (try simp) <;> omega) _)⟩
  clear hW
  go_wp2_with fail
  refine (rpow_ok (hx.below hB.below (Nat.le_refl _)) hn HC.out HD.out).mono ?_
  rintro e w1 ⟨p4, n4, c4, rfl, hf4, hb1⟩
  have hlt1 := hB.lt
  replace hA00 := cell_on hA00 hb1
  replace hA01 := cell_on hA01 hb1
  replace hR0 := hR0.on hb1
  replace hB := hB.on hb1
  clear hb1
  have hn4 : n4 ≤ 17592186044416 := by rw [hf4.sl.lln]; exact HL.out
  go_wp2_with fail
  refine (qnorm_of (z := zv false (val xs) ^ k) (b := false) hf4.sl hn4 HZ).mono ?_
  rintro e w2 ⟨p5, n5, c5, rfl, hf5, hb2⟩
  clear hf4
  have hlt2 := hB.lt
  replace hA00 := cell_on hA00 hb2
  replace hA01 := cell_on hA01 hb2
  replace hR0 := hR0.on hb2
  replace hB := hB.on hb2
  clear hb2
  obtain ⟨⟨u0, hu0⟩, ⟨u1, hu1⟩, hug0, hug1⟩ := hR0
  go_wp2_with fail
  refine bodyPost_ret (v := .tuple #[.agg #[.bool (ng (zv false (val xs) ^ k)), .slice p5 n5 c5], .bool true]) (by simp [results, Try.results56, go_sem, hu0, hu1]) rfl ?_
  exact ⟨_, _, _, rfl, hf5.setBox (by omega) (by omega), ((hB.set (by omega) _ _).set (by omega) _ _).below⟩

set_option maxHeartbeats 2000000 in
theorem qpow_ok_e {p : Option Addr} {n c : Nat} {xs : List Nat} {w : World} {k : Nat} (hx : Sl w p n c xs) (hn : n ≤ 1048576000) (hk : k ≤ 9223372036854775807) (hL : ll (val xs ^ k) ≤ 17592186044416) (h1 : 1 < blen (val xs)) (h2 : blen (val xs) * k ≤ 67108863) (he : k % 2 = 0) :
    Calls Try.prog 56 #[.agg #[.bool true, .slice p n c], .int .i64 (k : Int)] w (RetZB w (zv true (val xs) ^ k) true) := by
  have HZ : Hid (zv false (val (lim (val xs ^ k))) = zv true (val xs) ^ k) := by
    show _ = _
    rw [val_lim]
    first | exact zv_pow_false _ _ | exact zv_pow_even he | exact zv_pow_odd he
  have HL := Lib.hid hL
  clear hL
  have hz : ((k : Int) % 2 == 1) = false := by simp; omega
  clear he
  have HC := Lib.hid h1
  have HD := Lib.hid h2
  clear h1 h2
  go_enter Try.func56, Try.ntmps56
  go_wp2_with fail
  obtain ⟨W, hW⟩ : ∃ W : World, W = ((w.alloc (.cells #[.bool true, .slice p n c] 25)).alloc (.cells #[.bool false, .slice none 0 0] 25)) := ⟨_, rfl⟩
  rw [← hW]
  have hA00 : W.cell? ⟨w.heap.size, 0, none⟩ = some (.bool true) := by rw [hW]; exact (cell_on (box_c0 (by simp)) (below_alloc _ _))
  have hA01 : W.cell? ⟨w.heap.size, 1, none⟩ = some (.slice p n c) := by rw [hW]; exact (cell_on (box_c1 (by simp)) (below_alloc _ _))
  have hR0 : Cel (w.heap.size + 1) W := by rw [hW]; exact (Cel.ofAlloc (by simp))
  have hB : Box w (w.heap.size + 1) W := by rw [hW]; exact ⟨by (try simp) <;> omega, (((Below.refl _ _).alloc (Nat.le_refl _) _).alloc (by (try simp) <;> omega) _)⟩
  clear hW
  go_wp2_with fail
  refine (rpow_ok (hx.below hB.below (Nat.le_refl _)) hn HC.out HD.out).mono ?_
  rintro e w1 ⟨p4, n4, c4, rfl, hf4, hb1⟩
  have hlt1 := hB.lt
  replace hA00 := cell_on hA00 hb1
  replace hA01 := cell_on hA01 hb1
  replace hR0 := hR0.on hb1
  replace hB := hB.on hb1
  clear hb1
  have hn4 : n4 ≤ 17592186044416 := by rw [hf4.sl.lln]; exact HL.out
  go_wp2_with fail
  refine (qnorm_of (z := zv true (val xs) ^ k) (b := false) hf4.sl hn4 HZ).mono ?_
  rintro e w2 ⟨p5, n5, c5, rfl, hf5, hb2⟩
  clear hf4
  have hlt2 := hB.lt
  replace hA00 := cell_on hA00 hb2
  replace hA01 := cell_on hA01 hb2
  replace hR0 := hR0.on hb2
  replace hB := hB.on hb2
  clear hb2
  obtain ⟨⟨u0, hu0⟩, ⟨u1, hu1⟩, hug0, hug1⟩ := hR0
  go_wp2_with fail
  refine bodyPost_ret (v := .tuple #[.agg #[.bool (ng (zv true (val xs) ^ k)), .slice p5 n5 c5], .bool true]) (by simp [results, Try.results56, go_sem, hu0, hu1]) rfl ?_
  exact ⟨_, _, _, rfl, hf5.setBox (by omega) (by omega), ((hB.set (by omega) _ _).set (by omega) _ _).below⟩

set_option maxHeartbeats 2000000 in
theorem qpow_ok_o {p : Option Addr} {n c : Nat} {xs : List Nat} {w : World} {k : Nat} (hx : Sl w p n c xs) (hn : n ≤ 1048576000) (hk : k ≤ 9223372036854775807) (hL : ll (val xs ^ k) ≤ 17592186044416) (h1 : 1 < blen (val xs)) (h2 : blen (val xs) * k ≤ 67108863) (he : k % 2 = 1) :
    Calls Try.prog 56 #[.agg #[.bool true, .slice p n c], .int .i64 (k : Int)] w (RetZB w (zv true (val xs) ^ k) true) := by
  have HZ : Hid (zv true (val (lim (val xs ^ k))) = zv true (val xs) ^ k) := by
    show _ = _
    rw [val_lim]
    first | exact zv_pow_false _ _ | exact zv_pow_even he | exact zv_pow_odd he
  have HL := Lib.hid hL
  clear hL
  have hz : ((k : Int) % 2 == 1) = true := by simp; omega
  clear he
  have HC := Lib.hid h1
  have HD := Lib.hid h2
  clear h1 h2
  go_enter Try.func56, Try.ntmps56
  go_wp2_with fail
  obtain ⟨W, hW⟩ : ∃ W : World, W = ((w.alloc (.cells #[.bool true, .slice p n c] 25)).alloc (.cells #[.bool false, .slice none 0 0] 25)) := ⟨_, rfl⟩
  rw [← hW]
  have hA00 : W.cell? ⟨w.heap.size, 0, none⟩ = some (.bool true) := by rw [hW]; exact (cell_on (box_c0 (by simp)) (below_alloc _ _))
  have hA01 : W.cell? ⟨w.heap.size, 1, none⟩ = some (.slice p n c) := by rw [hW]; exact (cell_on (box_c1 (by simp)) (below_alloc _ _))
  have hR0 : Cel (w.heap.size + 1) W := by rw [hW]; exact (Cel.ofAlloc (by simp))
  have hB : Box w (w.heap.size + 1) W := by rw [hW]; exact ⟨by (try simp) <;> omega, (((Below.refl _ _).alloc (Nat.le_refl _) _).alloc (by (try simp) <;> omega) _)⟩
  clear hW
  go_wp2_with fail
  refine (rpow_ok (hx.below hB.below (Nat.le_refl _)) hn HC.out HD.out).mono ?_
  rintro e w1 ⟨p4, n4, c4, rfl, hf4, hb1⟩
  have hlt1 := hB.lt
  replace hA00 := cell_on hA00 hb1
  replace hA01 := cell_on hA01 hb1
  replace hR0 := hR0.on hb1
  replace hB := hB.on hb1
  clear hb1
  have hn4 : n4 ≤ 17592186044416 := by rw [hf4.sl.lln]; exact HL.out
  go_wp2_with fail
  refine (qnorm_of (z := zv true (val xs) ^ k) (b := true) hf4.sl hn4 HZ).mono ?_
  rintro e w2 ⟨p5, n5, c5, rfl, hf5, hb2⟩
  clear hf4
  have hlt2 := hB.lt
  replace hA00 := cell_on hA00 hb2
  replace hA01 := cell_on hA01 hb2
  replace hR0 := hR0.on hb2
  replace hB := hB.on hb2
  clear hb2
  obtain ⟨⟨u0, hu0⟩, ⟨u1, hu1⟩, hug0, hug1⟩ := hR0
  go_wp2_with fail
  refine bodyPost_ret (v := .tuple #[.agg #[.bool (ng (zv true (val xs) ^ k)), .slice p5 n5 c5], .bool true]) (by simp [results, Try.results56, go_sem, hu0, hu1]) rfl ?_
  exact ⟨_, _, _, rfl, hf5.setBox (by omega) (by omega), ((hB.set (by omega) _ _).set (by omega) _ _).below⟩

set_option maxHeartbeats 2000000 in
theorem qpow_small_p {p : Option Addr} {n c : Nat} {xs : List Nat} {w : World} {k : Nat} (hx : Sl w p n c xs) (hn : n ≤ 1048576000) (hk : k ≤ 9223372036854775807) (hL : ll (val xs ^ k) ≤ 17592186044416) (h1 : blen (val xs) ≤ 1) :
    Calls Try.prog 56 #[.agg #[.bool false, .slice p n c], .int .i64 (k : Int)] w (RetZB w (zv false (val xs) ^ k) true) := by
  have HZ : Hid (zv false (val (lim (val xs ^ k))) = zv false (val xs) ^ k) := by
    show _ = _
    rw [val_lim]
    first | exact zv_pow_false _ _ | exact zv_pow_even he | exact zv_pow_odd he
  have HL := Lib.hid hL
  clear hL
  have HC := Lib.hid h1
  clear h1
  go_enter Try.func56, Try.ntmps56
  go_wp2_with fail
  obtain ⟨W, hW⟩ : ∃ W : World, W = ((w.alloc (.cells #[.bool false, .slice p n c] 25)).alloc (.cells #[.bool false, .slice none 0 0] 25)) := ⟨_, rfl⟩
  rw [← hW]
  have hA00 : W.cell? ⟨w.heap.size, 0, none⟩ = some (.bool false) := by rw [hW]; exact (cell_on (box_c0 (by simp)) (below_alloc _ _))
  have hA01 : W.cell? ⟨w.heap.size, 1, none⟩ = some (.slice p n c) := by rw [hW]; exact (cell_on (box_c1 (by simp)) (below_alloc _ _))
  have hR0 : Cel (w.heap.size + 1) W := by rw [hW]; exact (Cel.ofAlloc (by simp))
  have hB : Box w (w.heap.size + 1) W := by rw [hW]; exact ⟨by (try simp) <;> omega, (((Below.refl _ _).alloc (Nat.le_refl _) _).alloc (by (try simp) <;> omega) _)⟩
  clear hW
  go_wp2_with fail
  refine (rpow_small (hx.below hB.below (Nat.le_refl _)) hn hk HC.out).mono ?_
  rintro e w1 ⟨p4, n4, c4, rfl, hf4, hb1⟩
  have hlt1 := hB.lt
  replace hA00 := cell_on hA00 hb1
  replace hA01 := cell_on hA01 hb1
  replace hR0 := hR0.on hb1
  replace hB := hB.on hb1
  clear hb1
  have hn4 : n4 ≤ 17592186044416 := by rw [hf4.sl.lln]; exact HL.out
  go_wp2_with fail
  refine (qnorm_of (z := zv false (val xs) ^ k) (b := false) hf4.sl hn4 HZ).mono ?_
  rintro e w2 ⟨p5, n5, c5, rfl, hf5, hb2⟩
  clear hf4
  have hlt2 := hB.lt
  replace hA00 := cell_on hA00 hb2
  replace hA01 := cell_on hA01 hb2
  replace hR0 := hR0.on hb2
  replace hB := hB.on hb2
  clear hb2
  obtain ⟨⟨u0, hu0⟩, ⟨u1, hu1⟩, hug0, hug1⟩ := hR0
  go_wp2_with fail
  refine bodyPost_ret (v := .tuple #[.agg #[.bool (ng (zv false (val xs) ^ k)), .slice p5 n5 c5], .bool true]) (by simp [results, Try.results56, go_sem, hu0, hu1]) rfl ?_
  exact ⟨_, _, _, rfl, hf5.setBox (by omega) (by omega), ((hB.set (by omega) _ _).set (by omega) _ _).below⟩

set_option maxHeartbeats 2000000 in
theorem qpow_small_e {p : Option Addr} {n c : Nat} {xs : List Nat} {w : World} {k : Nat} (hx : Sl w p n c xs) (hn : n ≤ 1048576000) (hk : k ≤ 9223372036854775807) (hL : ll (val xs ^ k) ≤ 17592186044416) (h1 : blen (val xs) ≤ 1) (he : k % 2 = 0) :
    Calls Try.prog 56 #[.agg #[.bool true, .slice p n c], .int .i64 (k : Int)] w (RetZB w (zv true (val xs) ^ k) true) := by
  have HZ : Hid (zv false (val (lim (val xs ^ k))) = zv true (val xs) ^ k) := by
    show _ = _
    rw [val_lim]
    first | exact zv_pow_false _ _ | exact zv_pow_even he | exact zv_pow_odd he
  have HL := Lib.hid hL
  clear hL
  have hz : ((k : Int) % 2 == 1) = false := by simp; omega
  clear he
  have HC := Lib.hid h1
  clear h1
  go_enter Try.func56, Try.ntmps56
  go_wp2_with fail
  obtain ⟨W, hW⟩ : ∃ W : World, W = ((w.alloc (.cells #[.bool true, .slice p n c] 25)).alloc (.cells #[.bool false, .slice none 0 0] 25)) := ⟨_, rfl⟩
  rw [← hW]
  have hA00 : W.cell? ⟨w.heap.size, 0, none⟩ = some (.bool true) := by rw [hW]; exact (cell_on (box_c0 (by simp)) (below_alloc _ _))
  have hA01 : W.cell? ⟨w.heap.size, 1, none⟩ = some (.slice p n c) := by rw [hW]; exact (cell_on (box_c1 (by simp)) (below_alloc _ _))
  have hR0 : Cel (w.heap.size + 1) W := by rw [hW]; exact (Cel.ofAlloc (by simp))
  have hB : Box w (w.heap.size + 1) W := by rw [hW]; exact ⟨by (try simp) <;> omega, (((Below.refl _ _).alloc (Nat.le_refl _) _).alloc (by (try simp) <;> omega) _)⟩
  clear hW
  go_wp2_with fail
  refine (rpow_small (hx.below hB.below (Nat.le_refl _)) hn hk HC.out).mono ?_
  rintro e w1 ⟨p4, n4, c4, rfl, hf4, hb1⟩
  have hlt1 := hB.lt
  replace hA00 := cell_on hA00 hb1
  replace hA01 := cell_on hA01 hb1
  replace hR0 := hR0.on hb1
  replace hB := hB.on hb1
  clear hb1
  have hn4 : n4 ≤ 17592186044416 := by rw [hf4.sl.lln]; exact HL.out
  go_wp2_with fail
  refine (qnorm_of (z := zv true (val xs) ^ k) (b := false) hf4.sl hn4 HZ).mono ?_
  rintro e w2 ⟨p5, n5, c5, rfl, hf5, hb2⟩
  clear hf4
  have hlt2 := hB.lt
  replace hA00 := cell_on hA00 hb2
  replace hA01 := cell_on hA01 hb2
  replace hR0 := hR0.on hb2
  replace hB := hB.on hb2
  clear hb2
  obtain ⟨⟨u0, hu0⟩, ⟨u1, hu1⟩, hug0, hug1⟩ := hR0
  go_wp2_with fail
  refine bodyPost_ret (v := .tuple #[.agg #[.bool (ng (zv true (val xs) ^ k)), .slice p5 n5 c5], .bool true]) (by simp [results, Try.results56, go_sem, hu0, hu1]) rfl ?_
  exact ⟨_, _, _, rfl, hf5.setBox (by omega) (by omega), ((hB.set (by omega) _ _).set (by omega) _ _).below⟩

set_option maxHeartbeats 2000000 in
theorem qpow_small_o {p : Option Addr} {n c : Nat} {xs : List Nat} {w : World} {k : Nat} (hx : Sl w p n c xs) (hn : n ≤ 1048576000) (hk : k ≤ 9223372036854775807) (hL : ll (val xs ^ k) ≤ 17592186044416) (h1 : blen (val xs) ≤ 1) (he : k % 2 = 1) :
    Calls Try.prog 56 #[.agg #[.bool true, .slice p n c], .int .i64 (k : Int)] w (RetZB w (zv true (val xs) ^ k) true) := by
  have HZ : Hid (zv true (val (lim (val xs ^ k))) = zv true (val xs) ^ k) := by
    show _ = _
    rw [val_lim]
    first | exact zv_pow_false _ _ | exact zv_pow_even he | exact zv_pow_odd he
  have HL := Lib.hid hL
  clear hL
  have hz : ((k : Int) % 2 == 1) = true := by simp; omega
  clear he
  have HC := Lib.hid h1
  clear h1
  go_enter Try.func56, Try.ntmps56
  go_wp2_with fail
  obtain ⟨W, hW⟩ : ∃ W : World, W = ((w.alloc (.cells #[.bool true, .slice p n c] 25)).alloc (.cells #[.bool false, .slice none 0 0] 25)) := ⟨_, rfl⟩
  rw [← hW]
  have hA00 : W.cell? ⟨w.heap.size, 0, none⟩ = some (.bool true) := by rw [hW]; exact (cell_on (box_c0 (by simp)) (below_alloc _ _))
  have hA01 : W.cell? ⟨w.heap.size, 1, none⟩ = some (.slice p n c) := by rw [hW]; exact (cell_on (box_c1 (by simp)) (below_alloc _ _))
  have hR0 : Cel (w.heap.size + 1) W := by rw [hW]; exact (Cel.ofAlloc (by simp))
  have hB : Box w (w.heap.size + 1) W := by rw [hW]; exact ⟨by (try simp) <;> omega, (((Below.refl _ _).alloc (Nat.le_refl _) _).alloc (by (try simp) <;> omega) _)⟩
  clear hW
  go_wp2_with fail
  refine (rpow_small (hx.below hB.below (Nat.le_refl _)) hn hk HC.out).mono ?_
  rintro e w1 ⟨p4, n4, c4, rfl, hf4, hb1⟩
  have hlt1 := hB.lt
  replace hA00 := cell_on hA00 hb1
  replace hA01 := cell_on hA01 hb1
  replace hR0 := hR0.on hb1
  replace hB := hB.on hb1
  clear hb1
  have hn4 : n4 ≤ 17592186044416 := by rw [hf4.sl.lln]; exact HL.out
  go_wp2_with fail
  refine (qnorm_of (z := zv true (val xs) ^ k) (b := true) hf4.sl hn4 HZ).mono ?_
  rintro e w2 ⟨p5, n5, c5, rfl, hf5, hb2⟩
  clear hf4
  have hlt2 := hB.lt
  replace hA00 := cell_on hA00 hb2
  replace hA01 := cell_on hA01 hb2
  replace hR0 := hR0.on hb2
  replace hB := hB.on hb2
  clear hb2
  obtain ⟨⟨u0, hu0⟩, ⟨u1, hu1⟩, hug0, hug1⟩ := hR0
  go_wp2_with fail
  refine bodyPost_ret (v := .tuple #[.agg #[.bool (ng (zv true (val xs) ^ k)), .slice p5 n5 c5], .bool true]) (by simp [results, Try.results56, go_sem, hu0, hu1]) rfl ?_
  exact ⟨_, _, _, rfl, hf5.setBox (by omega) (by omega), ((hB.set (by omega) _ _).set (by omega) _ _).below⟩

end Go.Proofs.Ytlnilkghbbbhbaa
