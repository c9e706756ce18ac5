
/-
  The walks of simileref03: Sub, Cmp; and of the law's own of and same.
-/
import Derived.Test.YtlnilkghbbbhbaaZR2
namespace Go.Proofs.Ytlnilkghbbbhbaa
open Go.RowKit

theorem qadd_of {z : Int} {p q : Option Addr} {n m c d : Nat} {b b2 : Bool} {xs ys : List Nat} {w : World} (hx : Sl w p n c xs) (hy : Sl w q m d ys) (hn : n ≤ 2199023255552) (hm : m ≤ 2199023255552) (hz : Hid (zv b (val xs) + zv b2 (val ys) = z)) :
    Calls Try.prog 12 #[.agg #[.bool b, .slice p n c], .agg #[.bool b2, .slice q m d]] w (RetZ w z) := by
  rw [← hz.out]; exact qadd_any hx hy hn hm

theorem qmul_of {z : Int} {p q : Option Addr} {n m c d : Nat} {b b2 : Bool} {xs ys : List Nat} {w : World} (hx : Sl w p n c xs) (hy : Sl w q m d ys) (hn : n ≤ 1099511627776) (hm : m ≤ 1099511627776) (hz : Hid (zv b (val xs) * zv b2 (val ys) = z)) :
    Calls Try.prog 17 #[.agg #[.bool b, .slice p n c], .agg #[.bool b2, .slice q m d]] w (RetZ w z) := by
  rw [← hz.out]; exact qmul_any hx hy hn hm

theorem qneg_of {z : Int} {p : Option Addr} {n c : Nat} {b : Bool} {xs : List Nat} {w : World} (hx : Sl w p n c xs) (hn : n ≤ 17592186044416) (hz : Hid (-(zv b (val xs)) = z)) :
    Calls Try.prog 29 #[.agg #[.bool b, .slice p n c]] w (RetZ w z) := by
  rw [← hz.out]; exact qneg_any hx hn

theorem qabs_of {z : Int} {p : Option Addr} {n c : Nat} {b : Bool} {xs : List Nat} {w : World} (hx : Sl w p n c xs) (hn : n ≤ 17592186044416) (hz : Hid (((zv b (val xs)).natAbs : Int) = z)) :
    Calls Try.prog 31 #[.agg #[.bool b, .slice p n c]] w (RetZ w z) := by
  rw [← hz.out]; exact qabs_any hx hn

set_option maxHeartbeats 1000000 in
theorem qsub_any {p q : Option Addr} {n m c d : Nat} {b b2 : Bool} {xs ys : List Nat} {w : World} (hx : Sl w p n c xs) (hy : Sl w q m d ys) (hn : n ≤ 2199023255552) (hm : m ≤ 2199023255552) :
    Calls Try.prog 15 #[.agg #[.bool b, .slice p n c], .agg #[.bool b2, .slice q m d]] w (RetZ w (zv b (val xs) - zv b2 (val ys))) := by
  have HE : Hid (zv b (val xs) + zv (ng (-(zv b2 (val ys)))) (val (lim (-(zv b2 (val ys))).natAbs)) = zv b (val xs) - zv b2 (val ys)) := by show _ = _; rw [val_lim, zv_ng]; omega
  go_enter Try.func15, Try.ntmps15
  go_wp2_with fail
  obtain ⟨W, hW⟩ : ∃ W : World, W = (((w.alloc (.cells #[.bool b, .slice p n c] 25)).alloc (.cells #[.bool b2, .slice q m d] 25)).alloc (.cells #[.bool false, .slice none 0 0] 25)) := ⟨_, rfl⟩
  rw [← hW]
  have hA00 : W.cell? ⟨w.heap.size, 0, none⟩ = some (.bool b) := by rw [hW]; exact (cell_on (cell_on (box_c0 (by simp)) (below_alloc _ _)) (below_alloc _ _))
  have hA01 : W.cell? ⟨w.heap.size, 1, none⟩ = some (.slice p n c) := by rw [hW]; exact (cell_on (cell_on (box_c1 (by simp)) (below_alloc _ _)) (below_alloc _ _))
  have hA10 : W.cell? ⟨w.heap.size + 1, 0, none⟩ = some (.bool b2) := by rw [hW]; exact (cell_on (box_c0 (by simp)) (below_alloc _ _))
  have hA11 : W.cell? ⟨w.heap.size + 1, 1, none⟩ = some (.slice q m d) := by rw [hW]; exact (cell_on (box_c1 (by simp)) (below_alloc _ _))
  have hR0 : Cel (w.heap.size + 2) W := by rw [hW]; exact (Cel.ofAlloc (by simp))
  have hB : Box w (w.heap.size + 2) W := by rw [hW]; exact ⟨by (try simp) <;> omega, ((((Below.refl _ _).alloc (Nat.le_refl _) _).alloc (by (try simp) <;> omega) _).alloc (by (try simp) <;> omega) _)⟩
  clear hW
  go_wp2_with fail
  go_region_held3 (fun w' => w'.cell? ⟨w.heap.size, 0, none⟩ = some (.bool b) ∧ w'.cell? ⟨w.heap.size, 1, none⟩ = some (.slice p n c) ∧ w'.cell? ⟨w.heap.size + 1, 0, none⟩ = some (.bool b2) ∧ w'.cell? ⟨w.heap.size + 1, 1, none⟩ = some (.slice q m d) ∧ Cel (w.heap.size + 2) w' ∧ Box w (w.heap.size + 2) w')
    (first | exact ⟨by simpa using hA00, by simpa using hA01, by simpa using hA10, by simpa using hA11, hR0.drew, hB.drew⟩ | exact ‹World.cell? _ _ = some _ ∧ World.cell? _ _ = some _ ∧ World.cell? _ _ = some _ ∧ World.cell? _ _ = some _ ∧ Cel _ _ ∧ Box w _ _› | (have hS := ‹World.cell? _ _ = some _ ∧ World.cell? _ _ = some _ ∧ World.cell? _ _ = some _ ∧ World.cell? _ _ = some _ ∧ Cel _ _ ∧ Box w _ _›; exact ⟨cell_on hS.1 hb1, cell_on hS.2.1 hb1, cell_on hS.2.2.1 hb1, cell_on hS.2.2.2.1 hb1, hS.2.2.2.2.1.on hb1, hS.2.2.2.2.2.on hb1⟩) | (have hS := ‹World.cell? _ _ = some _ ∧ World.cell? _ _ = some _ ∧ World.cell? _ _ = some _ ∧ World.cell? _ _ = some _ ∧ Cel _ _ ∧ Box w _ _›; exact ⟨cell_on hS.1 hb2, cell_on hS.2.1 hb2, cell_on hS.2.2.1 hb2, cell_on hS.2.2.2.1 hb2, hS.2.2.2.2.1.on hb2, hS.2.2.2.2.2.on hb2⟩) | (have hS := ‹World.cell? _ _ = some _ ∧ World.cell? _ _ = some _ ∧ World.cell? _ _ = some _ ∧ World.cell? _ _ = some _ ∧ Cel _ _ ∧ Box w _ _›; exact ⟨cell_set (cell_set hS.1 (by omega)) (by omega), cell_set (cell_set hS.2.1 (by omega)) (by omega), cell_set (cell_set hS.2.2.1 (by omega)) (by omega), cell_set (cell_set hS.2.2.2.1 (by omega)) (by omega), (hS.2.2.2.2.1.set _ _ _).set _ _ _, (hS.2.2.2.2.2.set (by omega) _ _).set (by omega) _ _⟩))
    (first | (go_at_call 29; have hS := ‹World.cell? _ _ = some _ ∧ World.cell? _ _ = some _ ∧ World.cell? _ _ = some _ ∧ World.cell? _ _ = some _ ∧ Cel _ _ ∧ Box w _ _›; refine (qneg_any (hy.below hS.2.2.2.2.2.below (Nat.le_refl _)) (by omega)).mono ?_; rintro e w1 ⟨p3, n3, c3, rfl, hf3, hb1⟩; have hlt1 := hS.2.2.2.2.2.lt; have hn3 : n3 ≤ 2199023255552 := (by rw [Int.natAbs_neg, natAbs_zv] at hf3; have := z_same hy hf3; omega); clear hS) | (go_at_call 12; have hS := ‹World.cell? _ _ = some _ ∧ World.cell? _ _ = some _ ∧ World.cell? _ _ = some _ ∧ World.cell? _ _ = some _ ∧ Cel _ _ ∧ Box w _ _›; refine (qadd_of (hx.below hS.2.2.2.2.2.below (Nat.le_refl _)) hf3.sl hn hn3 HE).mono ?_; rintro e w2 ⟨p4, n4, c4, rfl, hf4, hb2⟩; replace hf3 := hf3.below hb2 (Nat.le_refl _); have hlt2 := hS.2.2.2.2.2.lt; obtain ⟨⟨u0, hu0⟩, ⟨u1, hu1⟩, hug0, hug1⟩ := (hS.2.2.2.2.1).on hb2; clear hS))
  obtain ⟨hA00, hA01, hA10, hA11, hR0, hB⟩ := ‹World.cell? _ _ = some _ ∧ World.cell? _ _ = some _ ∧ World.cell? _ _ = some _ ∧ World.cell? _ _ = some _ ∧ Cel _ _ ∧ Box w _ _›
  go_wp2_with fail
  refine bodyPost_ret (v := .agg #[.bool (ng (zv b (val xs) - zv b2 (val ys))), .slice p4 n4 c4]) (by simp [results, Try.results15, go_sem, hu0, hu1]) rfl ?_
  exact retZ_cp hf4 (by omega) (by omega) hB.below

theorem qsub_of {z : Int} {p q : Option Addr} {n m c d : Nat} {b b2 : Bool} {xs ys : List Nat} {w : World} (hx : Sl w p n c xs) (hy : Sl w q m d ys) (hn : n ≤ 2199023255552) (hm : m ≤ 2199023255552) (hz : Hid (zv b (val xs) - zv b2 (val ys) = z)) :
    Calls Try.prog 15 #[.agg #[.bool b, .slice p n c], .agg #[.bool b2, .slice q m d]] w (RetZ w z) := by
  rw [← hz.out]; exact qsub_any hx hy hn hm

set_option maxHeartbeats 1000000 in
theorem qcmp_any {p q : Option Addr} {n m c d : Nat} {b b2 : Bool} {xs ys : List Nat} {w : World} (hx : Sl w p n c xs) (hy : Sl w q m d ys) (hn : n ≤ 2199023255552) (hm : m ≤ 2199023255552) :
    Calls Try.prog 21 #[.agg #[.bool b, .slice p n c], .agg #[.bool b2, .slice q m d]] w (RetInt w (cmpZ (zv b (val xs)) (zv b2 (val ys)))) := by
  have HE : Hid (cmpZ (zv b (val xs)) (zv b2 (val ys)) = (zv (ng (zv b (val xs) - zv b2 (val ys))) (val (lim (zv b (val xs) - zv b2 (val ys)).natAbs))).sign) := by show _ = _; rw [val_lim, zv_ng, cmpZ_sub]
  go_enter Try.func21, Try.ntmps21
  go_wp2_with fail
  obtain ⟨W, hW⟩ : ∃ W : World, W = ((w.alloc (.cells #[.bool b, .slice p n c] 25)).alloc (.cells #[.bool b2, .slice q m d] 25)) := ⟨_, rfl⟩
  rw [← hW]
  have hA00 : W.cell? ⟨w.heap.size, 0, none⟩ = some (.bool b) := by rw [hW]; exact (cell_on (box_c0 (by simp)) (below_alloc _ _))
  have hA01 : W.cell? ⟨w.heap.size, 1, none⟩ = some (.slice p n c) := by rw [hW]; exact (cell_on (box_c1 (by simp)) (below_alloc _ _))
  have hA10 : W.cell? ⟨w.heap.size + 1, 0, none⟩ = some (.bool b2) := by rw [hW]; exact (box_c0 (by simp))
  have hA11 : W.cell? ⟨w.heap.size + 1, 1, none⟩ = some (.slice q m d) := by rw [hW]; exact (box_c1 (by simp))
  have hB : Box w (w.heap.size + 1) W := by rw [hW]; exact ⟨by (try simp) <;> omega, (((Below.refl _ _).alloc (Nat.le_refl _) _).alloc (by (try simp) <;> omega) _)⟩
  clear hW
  go_wp2_with fail
  refine (qsub_any (hx.below hB.below (Nat.le_refl _)) (hy.below hB.below (Nat.le_refl _)) hn hm).mono ?_
  rintro e w1 ⟨p4, n4, c4, rfl, hf4, hb1⟩
  have hlt1 := hB.lt
  replace hA00 := cell_on hA00 hb1
  replace hA01 := cell_on hA01 hb1
  replace hA10 := cell_on hA10 hb1
  replace hA11 := cell_on hA11 hb1
  replace hB := hB.on hb1
  clear hb1
  go_wp2_with fail
  refine (qsign_of hf4.sl HE).mono ?_
  rintro e w2 ⟨rfl, hb2⟩
  clear hf4
  replace hA00 := cell_on hA00 hb2
  replace hA01 := cell_on hA01 hb2
  replace hA10 := cell_on hA10 hb2
  replace hA11 := cell_on hA11 hb2
  replace hB := hB.on hb2
  clear hb2
  go_wp2_with fail
  go_ret
  exact ⟨rfl, hB.below⟩

theorem qcmp_of {s : Int} {p q : Option Addr} {n m c d : Nat} {b b2 : Bool} {xs ys : List Nat} {w : World} (hx : Sl w p n c xs) (hy : Sl w q m d ys) (hn : n ≤ 2199023255552) (hm : m ≤ 2199023255552) (hs : Hid (cmpZ (zv b (val xs)) (zv b2 (val ys)) = s)) :
    Calls Try.prog 21 #[.agg #[.bool b, .slice p n c], .agg #[.bool b2, .slice q m d]] w (RetInt w s) := by
  rw [← hs.out]; exact qcmp_any hx hy hn hm

set_option maxHeartbeats 1000000 in
theorem lsame_yes {p q : Option Addr} {n m c d : Nat} {b : Bool} {xs : List Nat} {w : World} (hx : Sl w p n c xs) (hy : Sl w q m d xs) :
    Calls Try.prog 13 #[.agg #[.bool b, .slice p n c], .agg #[.bool b, .slice q m d]] w (RetB w true) := by
  go_enter Try.func13, Try.ntmps13
  go_wp2_with fail
  obtain ⟨W, hW⟩ : ∃ W : World, W = ((w.alloc (.cells #[.bool b, .slice p n c] 25)).alloc (.cells #[.bool b, .slice q m d] 25)) := ⟨_, rfl⟩
  rw [← hW]
  have hA00 : W.cell? ⟨w.heap.size, 0, none⟩ = some (.bool b) := by rw [hW]; exact (cell_on (box_c0 (by simp)) (below_alloc _ _))
  have hA01 : W.cell? ⟨w.heap.size, 1, none⟩ = some (.slice p n c) := by rw [hW]; exact (cell_on (box_c1 (by simp)) (below_alloc _ _))
  have hA10 : W.cell? ⟨w.heap.size + 1, 0, none⟩ = some (.bool b) := by rw [hW]; exact (box_c0 (by simp))
  have hA11 : W.cell? ⟨w.heap.size + 1, 1, none⟩ = some (.slice q m d) := by rw [hW]; exact (box_c1 (by simp))
  have hB : Box w (w.heap.size + 1) W := by rw [hW]; exact ⟨by (try simp) <;> omega, (((Below.refl _ _).alloc (Nat.le_refl _) _).alloc (by (try simp) <;> omega) _)⟩
  clear hW
  go_wp2_with fail
  refine (qsame_yes (hx.below hB.below (Nat.le_refl _)) (hy.below hB.below (Nat.le_refl _))).mono ?_
  rintro e w1 ⟨rfl, hb1⟩
  replace hA00 := cell_on hA00 hb1
  replace hA01 := cell_on hA01 hb1
  replace hA10 := cell_on hA10 hb1
  replace hA11 := cell_on hA11 hb1
  replace hB := hB.on hb1
  clear hb1
  go_wp2_with fail
  go_ret
  exact ⟨rfl, hB.below⟩

set_option maxHeartbeats 1000000 in
theorem lof_any {z : Int} {w : World} (h1 : -9223372036854775808 ≤ z) (h2 : z ≤ 9223372036854775807) :
    Calls Try.prog 18 #[.int .i64 z] w (RetZ w z) := by
  go_enter Try.func18, Try.ntmps18
  go_wp2_with fail
  obtain ⟨W, hW⟩ : ∃ W : World, W = (w.alloc (.cells #[.bool false, .slice none 0 0] 25)) := ⟨_, rfl⟩
  rw [← hW]
  have hR0 : Cel (w.heap.size) W := by rw [hW]; exact (Cel.ofAlloc (by simp))
  have hB : Box w (w.heap.size) W := by rw [hW]; exact ⟨by (try simp) <;> omega, ((Below.refl _ _).alloc (Nat.le_refl _) _)⟩
  clear hW
  go_wp2_with fail
  refine (qof_any h1 h2).mono ?_
  rintro e w1 ⟨p4, n4, c4, rfl, hf4, hb1⟩
  have hlt1 := hB.lt
  replace hR0 := hR0.on hb1
  replace hB := hB.on hb1
  clear hb1
  obtain ⟨⟨u0, hu0⟩, ⟨u1, hu1⟩, hug0, hug1⟩ := hR0
  go_wp2_with fail
  refine bodyPost_ret (v := .agg #[.bool (ng (z)), .slice p4 n4 c4]) (by simp [results, Try.results18, go_sem, hu0, hu1]) rfl ?_
  exact retZ_cp hf4 (by omega) (by omega) ((hB.set (by omega) _ _).set (by omega) _ _).below

/-- Two numbers told in normal form are the very same if they are one. -/
theorem lsame_z {p q : Option Addr} {n m c d : Nat} {z z2 : Int} {w : World} (hx : Sl w p n c (lim z.natAbs)) (hy : Sl w q m d (lim z2.natAbs)) (h : Hid (z = z2)) :
    Calls Try.prog 13 #[.agg #[.bool (ng z), .slice p n c], .agg #[.bool (ng z2), .slice q m d]] w (RetB w true) := by
  have h1 := h.out
  subst h1
  exact lsame_yes hx hy

end Go.Proofs.Ytlnilkghbbbhbaa
