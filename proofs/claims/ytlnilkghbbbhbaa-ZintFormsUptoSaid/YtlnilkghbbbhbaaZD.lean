
/-
  The walks of zint: Trunc, Exact.
-/
import Derived.Test.YtlnilkghbbbhbaaZC
import Derived.Test.YtlnilkghbbbhbaaNatI2
import Derived.Deep.Cut
namespace Go.Proofs.Ytlnilkghbbbhbaa
open Go.RowKit

set_option maxHeartbeats 8000000 in
theorem ztrunc_zero {p q : Option Addr} {n m c d : Nat} {b b2 : Bool} {xs ys : List Nat} {w : World} (hx : Sl w p n c xs) (hy : Sl w q m d ys) (_hn : n ≤ 1099511627776) (_hm : m ≤ 1099511627776) (h0 : val ys = 0) :
    Calls Try.prog 33 #[.agg #[.bool b, .slice p n c], .agg #[.bool b2, .slice q m d]] w (RetZZE w 0 0 5) := by
  have H0 := Lib.hid h0
  clear h0
  go_enter Try.func33, Try.ntmps33
  go_wp2_with fail
  obtain ⟨W, hW⟩ : ∃ W : World, W = ((((w.alloc (.cells #[.bool b, .slice p n c] 25)).alloc (.cells #[.bool b2, .slice q m d] 25)).alloc (.cells #[.bool false, .slice none 0 0] 25)).alloc (.cells #[.bool false, .slice none 0 0] 25)) := ⟨_, rfl⟩
  rw [← hW]
  have hA00 : W.cell? ⟨w.heap.size, 0, none⟩ = some (.bool b) := by rw [hW]; exact (cell_on (cell_on (cell_on (box_c0 (by simp)) (below_alloc _ _)) (below_alloc _ _)) (below_alloc _ _))
  have hA01 : W.cell? ⟨w.heap.size, 1, none⟩ = some (.slice p n c) := by rw [hW]; exact (cell_on (cell_on (cell_on (box_c1 (by simp)) (below_alloc _ _)) (below_alloc _ _)) (below_alloc _ _))
  have hA10 : W.cell? ⟨w.heap.size + 1, 0, none⟩ = some (.bool b2) := by rw [hW]; exact (cell_on (cell_on (box_c0 (by simp)) (below_alloc _ _)) (below_alloc _ _))
  have hA11 : W.cell? ⟨w.heap.size + 1, 1, none⟩ = some (.slice q m d) := by rw [hW]; exact (cell_on (cell_on (box_c1 (by simp)) (below_alloc _ _)) (below_alloc _ _))
  have hR0 : Cel (w.heap.size + 2) W := by rw [hW]; exact ((Cel.ofAlloc (by simp)).on (below_alloc _ _))
  have hR1 : Cel (w.heap.size + 3) W := by rw [hW]; exact (Cel.ofAlloc (by simp))
  have hB : Box w (w.heap.size + 3) W := by rw [hW]; exact ⟨by (try simp) <;> omega, (((((Below.refl _ _).alloc (Nat.le_refl _) _).alloc (by (try simp) <;> omega) _).alloc (by (try simp) <;> omega) _).alloc (by (try simp) <;> omega) _)⟩
  clear hW
  go_wp2_with fail
  refine (div_zero (hx.below hB.below (Nat.le_refl _)) (hy.below hB.below (Nat.le_refl _)) H0.out).mono ?_
  rintro e w1 ⟨p4, n4, c4, p5, n5, c5, rfl, hf4, hf5, hb1⟩
  have hlt1 := hB.lt
  replace hA00 := cell_on hA00 hb1
  replace hA01 := cell_on hA01 hb1
  replace hA10 := cell_on hA10 hb1
  replace hA11 := cell_on hA11 hb1
  replace hR0 := hR0.on hb1
  replace hR1 := hR1.on hb1
  replace hB := hB.on hb1
  clear hb1
  obtain ⟨⟨u0, hu0⟩, ⟨u1, hu1⟩, hug0, hug1⟩ := hR0; obtain ⟨⟨v0, hv0⟩, ⟨v1, hv1⟩, hvg0, hvg1⟩ := hR1
  clear hf4 hf5
  go_wp2_with fail
  refine bodyPost_ret (v := .tuple #[.agg #[.bool false, .slice none 0 0], .agg #[.bool false, .slice none 0 0], .int .i64 5]) (by simp [results, Try.results33, go_sem, hu0, hu1, hv0, hv1]) rfl ?_
  exact ⟨_, _, _, _, _, _, rfl, Fr.nil _ _, Fr.nil _ _, ((((hB.set (by omega) _ _).set (by omega) _ _).set (by omega) _ _).set (by omega) _ _).below⟩

set_option maxHeartbeats 8000000 in
theorem ztrunc_any {p q : Option Addr} {n m c d : Nat} {b b2 : Bool} {xs ys : List Nat} {w : World} (hx : Sl w p n c xs) (hy : Sl w q m d ys) (hn : n ≤ 1099511627776) (hm : m ≤ 1099511627776) (h0 : val ys ≠ 0) :
    Calls Try.prog 33 #[.agg #[.bool b, .slice p n c], .agg #[.bool b2, .slice q m d]] w (RetZZE w ((zv b (val xs)).tdiv (zv b2 (val ys))) ((zv b (val xs)).tmod (zv b2 (val ys))) 0) := by
  have H0 := Lib.hid h0
  clear h0
  go_enter Try.func33, Try.ntmps33
  go_wp2_with fail
  obtain ⟨W, hW⟩ : ∃ W : World, W = ((((w.alloc (.cells #[.bool b, .slice p n c] 25)).alloc (.cells #[.bool b2, .slice q m d] 25)).alloc (.cells #[.bool false, .slice none 0 0] 25)).alloc (.cells #[.bool false, .slice none 0 0] 25)) := ⟨_, rfl⟩
  rw [← hW]
  have hA00 : W.cell? ⟨w.heap.size, 0, none⟩ = some (.bool b) := by rw [hW]; exact (cell_on (cell_on (cell_on (box_c0 (by simp)) (below_alloc _ _)) (below_alloc _ _)) (below_alloc _ _))
  have hA01 : W.cell? ⟨w.heap.size, 1, none⟩ = some (.slice p n c) := by rw [hW]; exact (cell_on (cell_on (cell_on (box_c1 (by simp)) (below_alloc _ _)) (below_alloc _ _)) (below_alloc _ _))
  have hA10 : W.cell? ⟨w.heap.size + 1, 0, none⟩ = some (.bool b2) := by rw [hW]; exact (cell_on (cell_on (box_c0 (by simp)) (below_alloc _ _)) (below_alloc _ _))
  have hA11 : W.cell? ⟨w.heap.size + 1, 1, none⟩ = some (.slice q m d) := by rw [hW]; exact (cell_on (cell_on (box_c1 (by simp)) (below_alloc _ _)) (below_alloc _ _))
  have hR0 : Cel (w.heap.size + 2) W := by rw [hW]; exact ((Cel.ofAlloc (by simp)).on (below_alloc _ _))
  have hR1 : Cel (w.heap.size + 3) W := by rw [hW]; exact (Cel.ofAlloc (by simp))
  have hB : Box w (w.heap.size + 3) W := by rw [hW]; exact ⟨by (try simp) <;> omega, (((((Below.refl _ _).alloc (Nat.le_refl _) _).alloc (by (try simp) <;> omega) _).alloc (by (try simp) <;> omega) _).alloc (by (try simp) <;> omega) _)⟩
  clear hW
  go_wp2_with fail
  refine (div_any (hx.below hB.below (Nat.le_refl _)) (hy.below hB.below (Nat.le_refl _)) hn hm H0.out).mono ?_
  rintro e w1 ⟨p4, n4, c4, p5, n5, c5, rfl, hf4, hf5, hb1⟩
  have hlt1 := hB.lt
  replace hA00 := cell_on hA00 hb1
  replace hA01 := cell_on hA01 hb1
  replace hA10 := cell_on hA10 hb1
  replace hA11 := cell_on hA11 hb1
  replace hR0 := hR0.on hb1
  replace hR1 := hR1.on hb1
  replace hB := hB.on hb1
  clear hb1
  go_wp2_with fail
  go_region_held3 (fun w' => w'.cell? ⟨w.heap.size, 0, none⟩ = some (.bool b) ∧ w'.cell? ⟨w.heap.size, 1, none⟩ = some (.slice p n c) ∧ w'.cell? ⟨w.heap.size + 1, 0, none⟩ = some (.bool b2) ∧ w'.cell? ⟨w.heap.size + 1, 1, none⟩ = some (.slice q m d) ∧ Cel (w.heap.size + 2) w' ∧ Cel (w.heap.size + 3) w' ∧ Fr W.heap.size w' p4 n4 c4 (lim (val xs / val ys)) ∧ Fr W.heap.size w' p5 n5 c5 (lim (val xs % val ys)) ∧ Box w (w.heap.size + 3) w')
    (first | exact ⟨by simpa using hA00, by simpa using hA01, by simpa using hA10, by simpa using hA11, hR0.drew, hR1.drew, hf4.below (Below.refl _ _).drew (Nat.le_refl _), hf5.below (Below.refl _ _).drew (Nat.le_refl _), hB.drew⟩ | exact ‹World.cell? _ _ = some _ ∧ World.cell? _ _ = some _ ∧ World.cell? _ _ = some _ ∧ World.cell? _ _ = some _ ∧ Cel _ _ ∧ Cel _ _ ∧ Fr _ _ _ _ _ _ ∧ Fr _ _ _ _ _ _ ∧ Box w _ _› | (have hS := ‹World.cell? _ _ = some _ ∧ World.cell? _ _ = some _ ∧ World.cell? _ _ = some _ ∧ World.cell? _ _ = some _ ∧ Cel _ _ ∧ Cel _ _ ∧ Fr _ _ _ _ _ _ ∧ Fr _ _ _ _ _ _ ∧ Box w _ _›; exact ⟨cell_on hS.1 hb2, cell_on hS.2.1 hb2, cell_on hS.2.2.1 hb2, cell_on hS.2.2.2.1 hb2, hS.2.2.2.2.1.on hb2, hS.2.2.2.2.2.1.on hb2, hS.2.2.2.2.2.2.1.below hb2 (Nat.le_refl _), hS.2.2.2.2.2.2.2.1.below hb2 (Nat.le_refl _), hS.2.2.2.2.2.2.2.2.on hb2⟩) | (have hS := ‹World.cell? _ _ = some _ ∧ World.cell? _ _ = some _ ∧ World.cell? _ _ = some _ ∧ World.cell? _ _ = some _ ∧ Cel _ _ ∧ Cel _ _ ∧ Fr _ _ _ _ _ _ ∧ Fr _ _ _ _ _ _ ∧ Box w _ _›; exact ⟨cell_set (cell_set hS.1 (by omega)) (by omega), cell_set (cell_set hS.2.1 (by omega)) (by omega), cell_set (cell_set hS.2.2.1 (by omega)) (by omega), cell_set (cell_set hS.2.2.2.1 (by omega)) (by omega), (hS.2.2.2.2.1.set _ _ _).set _ _ _, (hS.2.2.2.2.2.1.set _ _ _).set _ _ _, (hS.2.2.2.2.2.2.1.setLow (by omega) _ _).setLow (by omega) _ _, (hS.2.2.2.2.2.2.2.1.setLow (by omega) _ _).setLow (by omega) _ _, (hS.2.2.2.2.2.2.2.2.set (by omega) _ _).set (by omega) _ _⟩))
    (first | (go_at_call 58; have hS := ‹World.cell? _ _ = some _ ∧ World.cell? _ _ = some _ ∧ World.cell? _ _ = some _ ∧ World.cell? _ _ = some _ ∧ Cel _ _ ∧ Cel _ _ ∧ Fr _ _ _ _ _ _ ∧ Fr _ _ _ _ _ _ ∧ Box w _ _›; refine (make1_any).mono ?_; rintro e w2 ⟨rfl, hb2⟩; obtain ⟨⟨u0, hu0⟩, ⟨u1, hu1⟩, hug0, hug1⟩ := (hS.2.2.2.2.1).on hb2; obtain ⟨⟨v0, hv0⟩, ⟨v1, hv1⟩, hvg0, hvg1⟩ := (hS.2.2.2.2.2.1).on hb2; clear hS))
  obtain ⟨hA00, hA01, hA10, hA11, hR0, hR1, hf4, hf5, hB⟩ := ‹World.cell? _ _ = some _ ∧ World.cell? _ _ = some _ ∧ World.cell? _ _ = some _ ∧ World.cell? _ _ = some _ ∧ Cel _ _ ∧ Cel _ _ ∧ Fr _ _ _ _ _ _ ∧ Fr _ _ _ _ _ _ ∧ Box w _ _›
  have e1 : (!(b == b2) && decide (0 < n4)) = ng ((zv b (val xs)).tdiv (zv b2 (val ys))) := by rw [← zv_tdiv]; exact mk_ng hf4.sl.lln
  have e2 : (b && decide (0 < n5)) = ng ((zv b (val xs)).tmod (zv b2 (val ys))) := by rw [← zv_tmod b b2]; exact mk_ng hf5.sl.lln
  have E1 := Lib.hid e1
  have E2 := Lib.hid e2
  clear e1 e2
  go_wp2_with fail
  refine bodyPost_ret (v := .tuple #[.agg #[.bool (!(b == b2) && decide (0 < n4)), .slice p4 n4 c4], .agg #[.bool (b && decide (0 < n5)), .slice p5 n5 c5], .int .i64 0]) (by simp [results, Try.results33, go_sem, hu0, hu1, hv0, hv1]) rfl ?_
  exact ⟨_, _, _, _, _, _, by rw [E1.out, E2.out], by rw [← zv_tdiv, natAbs_zv]; exact hf4.mono (by omega), by rw [← zv_tmod b b2, natAbs_zv]; exact hf5.mono (by omega), hB.below⟩

theorem ztrunc_of {Q R : Int} {p q : Option Addr} {n m c d : Nat} {b b2 : Bool} {xs ys : List Nat} {w : World} (hx : Sl w p n c xs) (hy : Sl w q m d ys) (hn : n ≤ 1099511627776) (hm : m ≤ 1099511627776) (h0 : val ys ≠ 0) (hQ : Hid ((zv b (val xs)).tdiv (zv b2 (val ys)) = Q)) (hR : Hid ((zv b (val xs)).tmod (zv b2 (val ys)) = R)) :
    Calls Try.prog 33 #[.agg #[.bool b, .slice p n c], .agg #[.bool b2, .slice q m d]] w (RetZZE w Q R 0) := by
  rw [← hQ.out, ← hR.out]; exact ztrunc_any hx hy hn hm h0

theorem zadd_of {z : Int} {p q : Option Addr} {n m c d : Nat} {b b2 : Bool} {xs ys : List Nat} {w : World} (hx : Sl w p n c xs) (hy : Sl w q m d ys) (hn : n ≤ 2199023255552) (hm : m ≤ 2199023255552) (hz : Hid (zv b (val xs) + zv b2 (val ys) = z)) :
    Calls Try.prog 11 #[.agg #[.bool b, .slice p n c], .agg #[.bool b2, .slice q m d]] w (RetZ w z) := by
  rw [← hz.out]; exact zadd_any hx hy hn hm

theorem zsub_of {z : Int} {p q : Option Addr} {n m c d : Nat} {b b2 : Bool} {xs ys : List Nat} {w : World} (hx : Sl w p n c xs) (hy : Sl w q m d ys) (hn : n ≤ 2199023255552) (hm : m ≤ 2199023255552) (hz : Hid (zv b (val xs) - zv b2 (val ys) = z)) :
    Calls Try.prog 14 #[.agg #[.bool b, .slice p n c], .agg #[.bool b2, .slice q m d]] w (RetZ w z) := by
  rw [← hz.out]; exact zsub_any hx hy hn hm

theorem zmul_of {z : Int} {p q : Option Addr} {n m c d : Nat} {b b2 : Bool} {xs ys : List Nat} {w : World} (hx : Sl w p n c xs) (hy : Sl w q m d ys) (hn : n ≤ 4398046511104) (hm : m ≤ 4398046511104) (hz : Hid (zv b (val xs) * zv b2 (val ys) = z)) :
    Calls Try.prog 16 #[.agg #[.bool b, .slice p n c], .agg #[.bool b2, .slice q m d]] w (RetZ w z) := by
  rw [← hz.out]; exact zmul_any hx hy hn hm

theorem zneg_of {z : Int} {p : Option Addr} {n c : Nat} {b : Bool} {xs : List Nat} {w : World} (hx : Sl w p n c xs) (hn : n ≤ 17592186044416) (hz : Hid (-(zv b (val xs)) = z)) :
    Calls Try.prog 28 #[.agg #[.bool b, .slice p n c]] w (RetZ w z) := by
  rw [← hz.out]; exact zneg_any hx hn

theorem zabs_of {z : Int} {p : Option Addr} {n c : Nat} {b : Bool} {xs : List Nat} {w : World} (hx : Sl w p n c xs) (hn : n ≤ 17592186044416) (hz : Hid (((zv b (val xs)).natAbs : Int) = z)) :
    Calls Try.prog 30 #[.agg #[.bool b, .slice p n c]] w (RetZ w z) := by
  rw [← hz.out]; exact zabs_any hx hn

theorem znorm_of {z : Int} {p : Option Addr} {n c : Nat} {b : Bool} {xs : List Nat} {w : World} (hx : Sl w p n c xs) (hn : n ≤ 17592186044416) (hz : Hid (zv b (val xs) = z)) :
    Calls Try.prog 23 #[.agg #[.bool b, .slice p n c]] w (RetZ w z) := by
  rw [← hz.out]; exact znorm_any hx hn

set_option maxHeartbeats 8000000 in
theorem zexact_zero {p q : Option Addr} {n m c d : Nat} {b b2 : Bool} {xs ys : List Nat} {w : World} (hx : Sl w p n c xs) (hy : Sl w q m d ys) (hn : n ≤ 1099511627776) (hm : m ≤ 1099511627776) (h0 : val ys = 0) :
    Calls Try.prog 34 #[.agg #[.bool b, .slice p n c], .agg #[.bool b2, .slice q m d]] w (RetZE w 0 5) := by
  have H0 := Lib.hid h0
  clear h0
  go_enter Try.func34, Try.ntmps34
  go_wp2_with fail
  obtain ⟨W, hW⟩ : ∃ W : World, W = (((w.alloc (.cells #[.bool b, .slice p n c] 25)).alloc (.cells #[.bool b2, .slice q m d] 25)).alloc (.cells #[.bool false, .slice none 0 0] 25)) := ⟨_, rfl⟩
  rw [← hW]
  have hA00 : W.cell? ⟨w.heap.size, 0, none⟩ = some (.bool b) := by rw [hW]; exact (cell_on (cell_on (box_c0 (by simp)) (below_alloc _ _)) (below_alloc _ _))
  have hA01 : W.cell? ⟨w.heap.size, 1, none⟩ = some (.slice p n c) := by rw [hW]; exact (cell_on (cell_on (box_c1 (by simp)) (below_alloc _ _)) (below_alloc _ _))
  have hA10 : W.cell? ⟨w.heap.size + 1, 0, none⟩ = some (.bool b2) := by rw [hW]; exact (cell_on (box_c0 (by simp)) (below_alloc _ _))
  have hA11 : W.cell? ⟨w.heap.size + 1, 1, none⟩ = some (.slice q m d) := by rw [hW]; exact (cell_on (box_c1 (by simp)) (below_alloc _ _))
  have hR0 : Cel (w.heap.size + 2) W := by rw [hW]; exact (Cel.ofAlloc (by simp))
  have hB : Box w (w.heap.size + 2) W := by rw [hW]; exact ⟨by (try simp) <;> omega, ((((Below.refl _ _).alloc (Nat.le_refl _) _).alloc (by (try simp) <;> omega) _).alloc (by (try simp) <;> omega) _)⟩
  clear hW
  go_wp2_with fail
  refine (ztrunc_zero (hx.below hB.below (Nat.le_refl _)) (hy.below hB.below (Nat.le_refl _)) hn hm H0.out).mono ?_
  rintro e w1 ⟨p4, n4, c4, p5, n5, c5, rfl, hf4, hf5, hb1⟩
  have hlt1 := hB.lt
  replace hA00 := cell_on hA00 hb1
  replace hA01 := cell_on hA01 hb1
  replace hA10 := cell_on hA10 hb1
  replace hA11 := cell_on hA11 hb1
  replace hR0 := hR0.on hb1
  replace hB := hB.on hb1
  clear hb1
  clear hf5
  go_upto_region 2 with (fail)
  have hlb0 := hB.lt
  obtain ⟨W1, hW⟩ : ∃ W1 : World, W1 = ((w1.alloc (.cells #[.bool (ng 0), .slice p4 n4 c4] 25)).alloc (.cells #[.bool (ng 0), .slice p5 n5 c5] 25)) := ⟨_, rfl⟩
  rw [← hW]
  have qhA00 : W1.cell? ⟨w.heap.size, 0, none⟩ = some (.bool b) := by rw [hW]; exact (cell_on (cell_on hA00 (below_alloc _ _)) (below_alloc _ _))
  have qhA01 : W1.cell? ⟨w.heap.size, 1, none⟩ = some (.slice p n c) := by rw [hW]; exact (cell_on (cell_on hA01 (below_alloc _ _)) (below_alloc _ _))
  have qhA10 : W1.cell? ⟨w.heap.size + 1, 0, none⟩ = some (.bool b2) := by rw [hW]; exact (cell_on (cell_on hA10 (below_alloc _ _)) (below_alloc _ _))
  have qhA11 : W1.cell? ⟨w.heap.size + 1, 1, none⟩ = some (.slice q m d) := by rw [hW]; exact (cell_on (cell_on hA11 (below_alloc _ _)) (below_alloc _ _))
  have qhR0 : Cel (w.heap.size + 2) W1 := by rw [hW]; exact ((hR0.on (below_alloc _ _)).on (below_alloc _ _))
  have qhf4 : Fr W.heap.size W1 p4 n4 c4 (lim ((0 : Int).natAbs)) := by rw [hW]; exact ((hf4.below (below_alloc _ _) (Nat.le_refl _)).below (below_alloc _ _) (Nat.le_refl _))
  have hL00 : W1.cell? ⟨w1.heap.size, 0, none⟩ = some (.bool (ng 0)) := by rw [hW]; exact (cell_on (box_c0 (by simp)) (below_alloc _ _))
  have hL01 : W1.cell? ⟨w1.heap.size, 1, none⟩ = some (.slice p4 n4 c4) := by rw [hW]; exact (cell_on (box_c1 (by simp)) (below_alloc _ _))
  have hR1 : Cel (w1.heap.size) W1 := by rw [hW]; exact ((Cel.ofAlloc (by simp)).on (below_alloc _ _))
  have hL10 : W1.cell? ⟨w1.heap.size + 1, 0, none⟩ = some (.bool (ng 0)) := by rw [hW]; exact (box_c0 (by simp))
  have hL11 : W1.cell? ⟨w1.heap.size + 1, 1, none⟩ = some (.slice p5 n5 c5) := by rw [hW]; exact (box_c1 (by simp))
  have hR2 : Cel (w1.heap.size + 1) W1 := by rw [hW]; exact (Cel.ofAlloc (by simp))
  have qhB : Box w (w1.heap.size + 1) W1 := by rw [hW]; exact ⟨by (try simp) <;> omega, ((hB.below.alloc (by (try simp) <;> omega) _).alloc (by (try simp) <;> omega) _)⟩
  clear hW hA00 hA01 hA10 hA11 hR0 hf4 hB
  have hA00 := qhA00
  have hA01 := qhA01
  have hA10 := qhA10
  have hA11 := qhA11
  have hR0 := qhR0
  have hf4 := qhf4
  have hB := qhB
  clear qhA00 qhA01 qhA10 qhA11 qhR0 qhf4 qhB
  obtain ⟨⟨u0, hu0⟩, ⟨u1, hu1⟩, hug0, hug1⟩ := hR0
  go_wp2_with fail
  refine bodyPost_ret (v := .tuple #[.agg #[.bool (ng 0), .slice p4 n4 c4], .int .i64 5]) (by simp [results, Try.results34, go_sem, hu0, hu1]) rfl ?_
  exact ⟨_, _, _, rfl, hf4.setBox (by omega) (by omega), ((hB.set (by omega) _ _).set (by omega) _ _).below⟩

set_option maxHeartbeats 8000000 in
theorem zexact_no {p q : Option Addr} {n m c d : Nat} {b b2 : Bool} {xs ys : List Nat} {w : World} (hx : Sl w p n c xs) (hy : Sl w q m d ys) (hn : n ≤ 1099511627776) (hm : m ≤ 1099511627776) (h0 : val ys ≠ 0) (h1 : (zv b (val xs)).tmod (zv b2 (val ys)) ≠ 0) :
    Calls Try.prog 34 #[.agg #[.bool b, .slice p n c], .agg #[.bool b2, .slice q m d]] w (RetZE w 0 30) := by
  have H0 := Lib.hid h0
  clear h0
  obtain ⟨sg, hsg⟩ : ∃ s, s = ((zv b (val xs)).tmod (zv b2 (val ys))).sign := ⟨_, rfl⟩
  have hz : (sg == 0) = false := by
    have := sign_cases ((zv b (val xs)).tmod (zv b2 (val ys)))
    rw [beq_eq_false_iff_ne]; omega
  have hz2 : (sg != 0) = true := by rw [bne, hz]; rfl
  have HSG := Lib.hid hsg.symm
  clear hsg h1 hz
  go_enter Try.func34, Try.ntmps34
  go_wp2_with fail
  obtain ⟨W, hW⟩ : ∃ W : World, W = (((w.alloc (.cells #[.bool b, .slice p n c] 25)).alloc (.cells #[.bool b2, .slice q m d] 25)).alloc (.cells #[.bool false, .slice none 0 0] 25)) := ⟨_, rfl⟩
  rw [← hW]
  have hA00 : W.cell? ⟨w.heap.size, 0, none⟩ = some (.bool b) := by rw [hW]; exact (cell_on (cell_on (box_c0 (by simp)) (below_alloc _ _)) (below_alloc _ _))
  have hA01 : W.cell? ⟨w.heap.size, 1, none⟩ = some (.slice p n c) := by rw [hW]; exact (cell_on (cell_on (box_c1 (by simp)) (below_alloc _ _)) (below_alloc _ _))
  have hA10 : W.cell? ⟨w.heap.size + 1, 0, none⟩ = some (.bool b2) := by rw [hW]; exact (cell_on (box_c0 (by simp)) (below_alloc _ _))
  have hA11 : W.cell? ⟨w.heap.size + 1, 1, none⟩ = some (.slice q m d) := by rw [hW]; exact (cell_on (box_c1 (by simp)) (below_alloc _ _))
  have hR0 : Cel (w.heap.size + 2) W := by rw [hW]; exact (Cel.ofAlloc (by simp))
  have hB : Box w (w.heap.size + 2) W := by rw [hW]; exact ⟨by (try simp) <;> omega, ((((Below.refl _ _).alloc (Nat.le_refl _) _).alloc (by (try simp) <;> omega) _).alloc (by (try simp) <;> omega) _)⟩
  clear hW
  go_wp2_with fail
  refine (ztrunc_any (hx.below hB.below (Nat.le_refl _)) (hy.below hB.below (Nat.le_refl _)) hn hm H0.out).mono ?_
  rintro e w1 ⟨p4, n4, c4, p5, n5, c5, rfl, hf4, hf5, hb1⟩
  have hlt1 := hB.lt
  replace hA00 := cell_on hA00 hb1
  replace hA01 := cell_on hA01 hb1
  replace hA10 := cell_on hA10 hb1
  replace hA11 := cell_on hA11 hb1
  replace hR0 := hR0.on hb1
  replace hB := hB.on hb1
  clear hb1
  clear hf4
  go_upto_region 2 with (fail)
  have hlb0 := hB.lt
  obtain ⟨W1, hW⟩ : ∃ W1 : World, W1 = ((w1.alloc (.cells #[.bool (ng ((zv b (val xs)).tdiv (zv b2 (val ys)))), .slice p4 n4 c4] 25)).alloc (.cells #[.bool (ng ((zv b (val xs)).tmod (zv b2 (val ys)))), .slice p5 n5 c5] 25)) := ⟨_, rfl⟩
  rw [← hW]
  have qhA00 : W1.cell? ⟨w.heap.size, 0, none⟩ = some (.bool b) := by rw [hW]; exact (cell_on (cell_on hA00 (below_alloc _ _)) (below_alloc _ _))
  have qhA01 : W1.cell? ⟨w.heap.size, 1, none⟩ = some (.slice p n c) := by rw [hW]; exact (cell_on (cell_on hA01 (below_alloc _ _)) (below_alloc _ _))
  have qhA10 : W1.cell? ⟨w.heap.size + 1, 0, none⟩ = some (.bool b2) := by rw [hW]; exact (cell_on (cell_on hA10 (below_alloc _ _)) (below_alloc _ _))
  have qhA11 : W1.cell? ⟨w.heap.size + 1, 1, none⟩ = some (.slice q m d) := by rw [hW]; exact (cell_on (cell_on hA11 (below_alloc _ _)) (below_alloc _ _))
  have qhR0 : Cel (w.heap.size + 2) W1 := by rw [hW]; exact ((hR0.on (below_alloc _ _)).on (below_alloc _ _))
  have qhf5 : Fr W.heap.size W1 p5 n5 c5 (lim (((zv b (val xs)).tmod (zv b2 (val ys))).natAbs)) := by rw [hW]; exact ((hf5.below (below_alloc _ _) (Nat.le_refl _)).below (below_alloc _ _) (Nat.le_refl _))
  have hL00 : W1.cell? ⟨w1.heap.size, 0, none⟩ = some (.bool (ng ((zv b (val xs)).tdiv (zv b2 (val ys))))) := by rw [hW]; exact (cell_on (box_c0 (by simp)) (below_alloc _ _))
  have hL01 : W1.cell? ⟨w1.heap.size, 1, none⟩ = some (.slice p4 n4 c4) := by rw [hW]; exact (cell_on (box_c1 (by simp)) (below_alloc _ _))
  have hR1 : Cel (w1.heap.size) W1 := by rw [hW]; exact ((Cel.ofAlloc (by simp)).on (below_alloc _ _))
  have hL10 : W1.cell? ⟨w1.heap.size + 1, 0, none⟩ = some (.bool (ng ((zv b (val xs)).tmod (zv b2 (val ys))))) := by rw [hW]; exact (box_c0 (by simp))
  have hL11 : W1.cell? ⟨w1.heap.size + 1, 1, none⟩ = some (.slice p5 n5 c5) := by rw [hW]; exact (box_c1 (by simp))
  have hR2 : Cel (w1.heap.size + 1) W1 := by rw [hW]; exact (Cel.ofAlloc (by simp))
  have qhB : Box w (w1.heap.size + 1) W1 := by rw [hW]; exact ⟨by (try simp) <;> omega, ((hB.below.alloc (by (try simp) <;> omega) _).alloc (by (try simp) <;> omega) _)⟩
  clear hW hA00 hA01 hA10 hA11 hR0 hf5 hB
  have hA00 := qhA00
  have hA01 := qhA01
  have hA10 := qhA10
  have hA11 := qhA11
  have hR0 := qhR0
  have hf5 := qhf5
  have hB := qhB
  clear qhA00 qhA01 qhA10 qhA11 qhR0 qhf5 qhB
  have hn5 : n5 ≤ 1099511627776 := by
    rw [hf5.sl.lln, Int.natAbs_tmod]
    have h1 := ll_mono (Nat.mod_le (zv b (val xs)).natAbs (zv b2 (val ys)).natAbs)
    have h2 : ll (zv b (val xs)).natAbs ≤ n := by rw [natAbs_zv, ← hx.len]; exact val_ll hx.lims
    omega
  go_wp2_with fail
  refine (zsign_any (b := ng ((zv b (val xs)).tmod (zv b2 (val ys)))) hf5.sl (by omega)).mono ?_
  rw [val_lim, zv_ng, HSG.out]
  rintro e w2 ⟨rfl, hb2⟩
  clear hf5
  replace hA00 := cell_on hA00 hb2
  replace hA01 := cell_on hA01 hb2
  replace hA10 := cell_on hA10 hb2
  replace hA11 := cell_on hA11 hb2
  replace hR0 := hR0.on hb2
  replace hB := hB.on hb2
  replace hL00 := cell_on hL00 hb2
  replace hL01 := cell_on hL01 hb2
  replace hL10 := cell_on hL10 hb2
  replace hL11 := cell_on hL11 hb2
  replace hR1 := hR1.on hb2
  replace hR2 := hR2.on hb2
  clear hb2
  obtain ⟨⟨u0, hu0⟩, ⟨u1, hu1⟩, hug0, hug1⟩ := hR0
  go_wp2_with fail
  refine bodyPost_ret (v := .tuple #[.agg #[.bool false, .slice none 0 0], .int .i64 30]) (by simp [results, Try.results34, go_sem, hu0, hu1]) rfl ?_
  exact ⟨_, _, _, rfl, Fr.nil _ _, ((hB.set (by omega) _ _).set (by omega) _ _).below⟩

set_option maxHeartbeats 8000000 in
theorem zexact_yes {p q : Option Addr} {n m c d : Nat} {b b2 : Bool} {xs ys : List Nat} {w : World} (hx : Sl w p n c xs) (hy : Sl w q m d ys) (hn : n ≤ 1099511627776) (hm : m ≤ 1099511627776) (h0 : val ys ≠ 0) (h1 : (zv b (val xs)).tmod (zv b2 (val ys)) = 0) :
    Calls Try.prog 34 #[.agg #[.bool b, .slice p n c], .agg #[.bool b2, .slice q m d]] w (RetZE w ((zv b (val xs)).tdiv (zv b2 (val ys))) 0) := by
  have H0 := Lib.hid h0
  clear h0
  have HSG : Hid (((zv b (val xs)).tmod (zv b2 (val ys))).sign = 0) := by show _ = _; rw [h1]; rfl
  clear h1
  go_enter Try.func34, Try.ntmps34
  go_wp2_with fail
  obtain ⟨W, hW⟩ : ∃ W : World, W = (((w.alloc (.cells #[.bool b, .slice p n c] 25)).alloc (.cells #[.bool b2, .slice q m d] 25)).alloc (.cells #[.bool false, .slice none 0 0] 25)) := ⟨_, rfl⟩
  rw [← hW]
  have hA00 : W.cell? ⟨w.heap.size, 0, none⟩ = some (.bool b) := by rw [hW]; exact (cell_on (cell_on (box_c0 (by simp)) (below_alloc _ _)) (below_alloc _ _))
  have hA01 : W.cell? ⟨w.heap.size, 1, none⟩ = some (.slice p n c) := by rw [hW]; exact (cell_on (cell_on (box_c1 (by simp)) (below_alloc _ _)) (below_alloc _ _))
  have hA10 : W.cell? ⟨w.heap.size + 1, 0, none⟩ = some (.bool b2) := by rw [hW]; exact (cell_on (box_c0 (by simp)) (below_alloc _ _))
  have hA11 : W.cell? ⟨w.heap.size + 1, 1, none⟩ = some (.slice q m d) := by rw [hW]; exact (cell_on (box_c1 (by simp)) (below_alloc _ _))
  have hR0 : Cel (w.heap.size + 2) W := by rw [hW]; exact (Cel.ofAlloc (by simp))
  have hB : Box w (w.heap.size + 2) W := by rw [hW]; exact ⟨by (try simp) <;> omega, ((((Below.refl _ _).alloc (Nat.le_refl _) _).alloc (by (try simp) <;> omega) _).alloc (by (try simp) <;> omega) _)⟩
  clear hW
  go_wp2_with fail
  refine (ztrunc_any (hx.below hB.below (Nat.le_refl _)) (hy.below hB.below (Nat.le_refl _)) hn hm H0.out).mono ?_
  rintro e w1 ⟨p4, n4, c4, p5, n5, c5, rfl, hf4, hf5, hb1⟩
  have hlt1 := hB.lt
  replace hA00 := cell_on hA00 hb1
  replace hA01 := cell_on hA01 hb1
  replace hA10 := cell_on hA10 hb1
  replace hA11 := cell_on hA11 hb1
  replace hR0 := hR0.on hb1
  replace hB := hB.on hb1
  clear hb1
  go_upto_region 2 with (fail)
  have hlb0 := hB.lt
  obtain ⟨W1, hW⟩ : ∃ W1 : World, W1 = ((w1.alloc (.cells #[.bool (ng ((zv b (val xs)).tdiv (zv b2 (val ys)))), .slice p4 n4 c4] 25)).alloc (.cells #[.bool (ng ((zv b (val xs)).tmod (zv b2 (val ys)))), .slice p5 n5 c5] 25)) := ⟨_, rfl⟩
  rw [← hW]
  have qhA00 : W1.cell? ⟨w.heap.size, 0, none⟩ = some (.bool b) := by rw [hW]; exact (cell_on (cell_on hA00 (below_alloc _ _)) (below_alloc _ _))
  have qhA01 : W1.cell? ⟨w.heap.size, 1, none⟩ = some (.slice p n c) := by rw [hW]; exact (cell_on (cell_on hA01 (below_alloc _ _)) (below_alloc _ _))
  have qhA10 : W1.cell? ⟨w.heap.size + 1, 0, none⟩ = some (.bool b2) := by rw [hW]; exact (cell_on (cell_on hA10 (below_alloc _ _)) (below_alloc _ _))
  have qhA11 : W1.cell? ⟨w.heap.size + 1, 1, none⟩ = some (.slice q m d) := by rw [hW]; exact (cell_on (cell_on hA11 (below_alloc _ _)) (below_alloc _ _))
  have qhR0 : Cel (w.heap.size + 2) W1 := by rw [hW]; exact ((hR0.on (below_alloc _ _)).on (below_alloc _ _))
  have qhf4 : Fr W.heap.size W1 p4 n4 c4 (lim (((zv b (val xs)).tdiv (zv b2 (val ys))).natAbs)) := by rw [hW]; exact ((hf4.below (below_alloc _ _) (Nat.le_refl _)).below (below_alloc _ _) (Nat.le_refl _))
  have qhf5 : Fr W.heap.size W1 p5 n5 c5 (lim (((zv b (val xs)).tmod (zv b2 (val ys))).natAbs)) := by rw [hW]; exact ((hf5.below (below_alloc _ _) (Nat.le_refl _)).below (below_alloc _ _) (Nat.le_refl _))
  have hL00 : W1.cell? ⟨w1.heap.size, 0, none⟩ = some (.bool (ng ((zv b (val xs)).tdiv (zv b2 (val ys))))) := by rw [hW]; exact (cell_on (box_c0 (by simp)) (below_alloc _ _))
  have hL01 : W1.cell? ⟨w1.heap.size, 1, none⟩ = some (.slice p4 n4 c4) := by rw [hW]; exact (cell_on (box_c1 (by simp)) (below_alloc _ _))
  have hR1 : Cel (w1.heap.size) W1 := by rw [hW]; exact ((Cel.ofAlloc (by simp)).on (below_alloc _ _))
  have hL10 : W1.cell? ⟨w1.heap.size + 1, 0, none⟩ = some (.bool (ng ((zv b (val xs)).tmod (zv b2 (val ys))))) := by rw [hW]; exact (box_c0 (by simp))
  have hL11 : W1.cell? ⟨w1.heap.size + 1, 1, none⟩ = some (.slice p5 n5 c5) := by rw [hW]; exact (box_c1 (by simp))
  have hR2 : Cel (w1.heap.size + 1) W1 := by rw [hW]; exact (Cel.ofAlloc (by simp))
  have qhB : Box w (w1.heap.size + 1) W1 := by rw [hW]; exact ⟨by (try simp) <;> omega, ((hB.below.alloc (by (try simp) <;> omega) _).alloc (by (try simp) <;> omega) _)⟩
  clear hW hA00 hA01 hA10 hA11 hR0 hf4 hf5 hB
  have hA00 := qhA00
  have hA01 := qhA01
  have hA10 := qhA10
  have hA11 := qhA11
  have hR0 := qhR0
  have hf4 := qhf4
  have hf5 := qhf5
  have hB := qhB
  clear qhA00 qhA01 qhA10 qhA11 qhR0 qhf4 qhf5 qhB
  have hn5 : n5 ≤ 1099511627776 := by
    rw [hf5.sl.lln, Int.natAbs_tmod]
    have h1 := ll_mono (Nat.mod_le (zv b (val xs)).natAbs (zv b2 (val ys)).natAbs)
    have h2 : ll (zv b (val xs)).natAbs ≤ n := by rw [natAbs_zv, ← hx.len]; exact val_ll hx.lims
    omega
  go_wp2_with fail
  refine (zsign_any (b := ng ((zv b (val xs)).tmod (zv b2 (val ys)))) hf5.sl (by omega)).mono ?_
  rw [val_lim, zv_ng, HSG.out]
  rintro e w2 ⟨rfl, hb2⟩
  clear hf5
  replace hA00 := cell_on hA00 hb2
  replace hA01 := cell_on hA01 hb2
  replace hA10 := cell_on hA10 hb2
  replace hA11 := cell_on hA11 hb2
  replace hR0 := hR0.on hb2
  replace hB := hB.on hb2
  replace hf4 := hf4.below hb2 (Nat.le_refl _)
  replace hL00 := cell_on hL00 hb2
  replace hL01 := cell_on hL01 hb2
  replace hL10 := cell_on hL10 hb2
  replace hL11 := cell_on hL11 hb2
  replace hR1 := hR1.on hb2
  replace hR2 := hR2.on hb2
  clear hb2
  obtain ⟨⟨u0, hu0⟩, ⟨u1, hu1⟩, hug0, hug1⟩ := hR0
  go_wp2_with fail
  refine bodyPost_ret (v := .tuple #[.agg #[.bool (ng ((zv b (val xs)).tdiv (zv b2 (val ys)))), .slice p4 n4 c4], .int .i64 0]) (by simp [results, Try.results34, go_sem, hu0, hu1]) rfl ?_
  exact ⟨_, _, _, rfl, hf4.setBox (by omega) (by omega), ((hB.set (by omega) _ _).set (by omega) _ _).below⟩

end Go.Proofs.Ytlnilkghbbbhbaa
