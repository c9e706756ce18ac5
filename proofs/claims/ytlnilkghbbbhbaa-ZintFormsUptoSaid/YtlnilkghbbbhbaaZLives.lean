
/-
  The walk of similelaw03.lives: the document's examples.
-/
import Derived.Test.YtlnilkghbbbhbaaZR3
import Derived.Test.YtlnilkghbbbhbaaZG
namespace Go.Proofs.Ytlnilkghbbbhbaa
open Go.RowKit

theorem len_small {w : World} {B n c : Nat} {p : Option Addr} {z : Int} (h : Fr B w p n c (lim z.natAbs)) (hz : z.natAbs < 4294967296) : n ≤ 1 := z_len h (ll_le (k := 1) (by omega))

theorem near_five : nearZ (-5) 2 = -2 := by decide

set_option maxHeartbeats 8000000 in
theorem zlives_any {w : World} : Calls Try.prog 19 #[] w (RetB w true) := by
  go_enter Try.func19, Try.ntmps19
  go_wp2_with fail
  refine (lof_any (z := -7) (by omega) (by omega)).mono ?_
  rintro e w1 ⟨p1, n1, c1, rfl, hf1, hb1⟩
  have hl1 := len_small hf1 (by decide)
  go_wp2_with fail
  refine (lof_any (z := -2) (by omega) (by omega)).mono ?_
  rintro e w2 ⟨p2, n2, c2, rfl, hf2, hb2⟩
  have hl2 := len_small hf2 (by decide)
  have hbw := hb1.trans (hb2.mono hb1.size)
  replace hf1 := hf1.below hb2 (Nat.le_refl _)
  clear hb1 hb2
  go_wp2_with fail
  refine (zeuclid_of (Q := 4) (R := 1) hf1.sl hf2.sl (by omega) (by omega) (by rw [val_lim]; decide) (by show _ = _; rw [val_lim, val_lim, zv_ng, zv_ng]; decide) (by show _ = _; rw [val_lim, val_lim, zv_ng, zv_ng]; decide)).mono ?_
  rintro e w3 ⟨p3, n3, c3, p4, n4, c4, rfl, hf3, hf4, hb3⟩
  replace hbw := hbw.trans (hb3.mono hbw.size)
  clear hb3 hf1 hf2
  go_upto_region 2 with (fail)
  have hlb0 := hbw.size
  obtain ⟨W1, hW⟩ : ∃ W1 : World, W1 = ((w3.alloc (.cells #[.bool (ng 4), .slice p3 n3 c3] 25)).alloc (.cells #[.bool (ng 1), .slice p4 n4 c4] 25)) := ⟨_, rfl⟩
  rw [← hW]
  have qhf3 : Fr w2.heap.size W1 p3 n3 c3 (lim (4 : Int).natAbs) := by rw [hW]; exact ((hf3.below (below_alloc _ _) (Nat.le_refl _)).below (below_alloc _ _) (Nat.le_refl _))
  have qhf4 : Fr w2.heap.size W1 p4 n4 c4 (lim (1 : Int).natAbs) := by rw [hW]; exact ((hf4.below (below_alloc _ _) (Nat.le_refl _)).below (below_alloc _ _) (Nat.le_refl _))
  have hL00 : W1.cell? ⟨w3.heap.size, 0, none⟩ = some (.bool (ng 4)) := by rw [hW]; exact (cell_on (box_c0 (by simp)) (below_alloc _ _))
  have hL01 : W1.cell? ⟨w3.heap.size, 1, none⟩ = some (.slice p3 n3 c3) := by rw [hW]; exact (cell_on (box_c1 (by simp)) (below_alloc _ _))
  have hR0 : Cel (w3.heap.size) W1 := by rw [hW]; exact ((Cel.ofAlloc (by simp)).on (below_alloc _ _))
  have hL10 : W1.cell? ⟨w3.heap.size + 1, 0, none⟩ = some (.bool (ng 1)) := by rw [hW]; exact (box_c0 (by simp))
  have hL11 : W1.cell? ⟨w3.heap.size + 1, 1, none⟩ = some (.slice p4 n4 c4) := by rw [hW]; exact (box_c1 (by simp))
  have hR1 : Cel (w3.heap.size + 1) W1 := by rw [hW]; exact (Cel.ofAlloc (by simp))
  have qhB : Box w (w3.heap.size + 1) W1 := by rw [hW]; exact ⟨by (try simp) <;> omega, ((hbw.alloc (by (try simp) <;> omega) _).alloc (by (try simp) <;> omega) _)⟩
  clear hW hf3 hf4 hbw
  have hf3 := qhf3
  have hf4 := qhf4
  have hB := qhB
  clear qhf3 qhf4 qhB
  go_wp2_with fail
  refine (lof_any (z := -5) (by omega) (by omega)).mono ?_
  rintro e w4 ⟨p5, n5, c5, rfl, hf5, hb4⟩
  have hlt4 := hB.lt
  replace hf3 := hf3.below hb4 (Nat.le_refl _)
  replace hf4 := hf4.below hb4 (Nat.le_refl _)
  replace hB := hB.on hb4
  replace hL00 := cell_on hL00 hb4
  replace hL01 := cell_on hL01 hb4
  replace hL10 := cell_on hL10 hb4
  replace hL11 := cell_on hL11 hb4
  replace hR0 := hR0.on hb4
  replace hR1 := hR1.on hb4
  clear hb4
  have hl5 := len_small hf5 (by decide)
  go_wp2_with fail
  refine (lof_any (z := 2) (by omega) (by omega)).mono ?_
  rintro e w5 ⟨p6, n6, c6, rfl, hf6, hb5⟩
  have hlt5 := hB.lt
  replace hf3 := hf3.below hb5 (Nat.le_refl _)
  replace hf4 := hf4.below hb5 (Nat.le_refl _)
  replace hB := hB.on hb5
  replace hL00 := cell_on hL00 hb5
  replace hL01 := cell_on hL01 hb5
  replace hL10 := cell_on hL10 hb5
  replace hL11 := cell_on hL11 hb5
  replace hR0 := hR0.on hb5
  replace hR1 := hR1.on hb5
  replace hf5 := hf5.below hb5 (Nat.le_refl _)
  clear hb5
  have hl6 := len_small hf6 (by decide)
  go_wp2_with fail
  refine (znear_of (z := -2) hf5.sl hf6.sl (by omega) (by omega) (by rw [val_lim]; decide) (by show _ = _; rw [val_lim, val_lim, zv_ng, zv_ng]; exact near_five)).mono ?_
  rintro e w6 ⟨p7, n7, c7, rfl, hf7, hb6⟩
  clear hf5 hf6
  have hlt6 := hB.lt
  replace hf3 := hf3.below hb6 (Nat.le_refl _)
  replace hf4 := hf4.below hb6 (Nat.le_refl _)
  replace hB := hB.on hb6
  replace hL00 := cell_on hL00 hb6
  replace hL01 := cell_on hL01 hb6
  replace hL10 := cell_on hL10 hb6
  replace hL11 := cell_on hL11 hb6
  replace hR0 := hR0.on hb6
  replace hR1 := hR1.on hb6
  clear hb6
  go_upto_region 3 with (fail)
  have hlb2 := hB.lt
  obtain ⟨Wb, hW⟩ : ∃ Wb : World, Wb = (w6.alloc (.cells #[.bool (ng (-2)), .slice p7 n7 c7] 25)) := ⟨_, rfl⟩
  rw [← hW]
  have qhL00 : Wb.cell? ⟨w3.heap.size, 0, none⟩ = some (.bool (ng 4)) := by rw [hW]; exact (cell_on hL00 (below_alloc _ _))
  have qhL01 : Wb.cell? ⟨w3.heap.size, 1, none⟩ = some (.slice p3 n3 c3) := by rw [hW]; exact (cell_on hL01 (below_alloc _ _))
  have qhL10 : Wb.cell? ⟨w3.heap.size + 1, 0, none⟩ = some (.bool (ng 1)) := by rw [hW]; exact (cell_on hL10 (below_alloc _ _))
  have qhL11 : Wb.cell? ⟨w3.heap.size + 1, 1, none⟩ = some (.slice p4 n4 c4) := by rw [hW]; exact (cell_on hL11 (below_alloc _ _))
  have qhR0 : Cel (w3.heap.size) Wb := by rw [hW]; exact (hR0.on (below_alloc _ _))
  have qhR1 : Cel (w3.heap.size + 1) Wb := by rw [hW]; exact (hR1.on (below_alloc _ _))
  have qhf3 : Fr w2.heap.size Wb p3 n3 c3 (lim (4 : Int).natAbs) := by rw [hW]; exact (hf3.below (below_alloc _ _) (Nat.le_refl _))
  have qhf4 : Fr w2.heap.size Wb p4 n4 c4 (lim (1 : Int).natAbs) := by rw [hW]; exact (hf4.below (below_alloc _ _) (Nat.le_refl _))
  have qhf7 : Fr w5.heap.size Wb p7 n7 c7 (lim (-2 : Int).natAbs) := by rw [hW]; exact (hf7.below (below_alloc _ _) (Nat.le_refl _))
  have hL20 : Wb.cell? ⟨w6.heap.size, 0, none⟩ = some (.bool (ng (-2))) := by rw [hW]; exact (box_c0 (by simp))
  have hL21 : Wb.cell? ⟨w6.heap.size, 1, none⟩ = some (.slice p7 n7 c7) := by rw [hW]; exact (box_c1 (by simp))
  have hR2 : Cel (w6.heap.size) Wb := by rw [hW]; exact (Cel.ofAlloc (by simp))
  have qhB : Box w (w6.heap.size) Wb := by rw [hW]; exact ⟨by (try simp) <;> omega, (hB.below.alloc (by (try simp) <;> omega) _)⟩
  clear hW hL00 hL01 hL10 hL11 hR0 hR1 hf3 hf4 hf7 hB
  have hL00 := qhL00
  have hL01 := qhL01
  have hL10 := qhL10
  have hL11 := qhL11
  have hR0 := qhR0
  have hR1 := qhR1
  have hf3 := qhf3
  have hf4 := qhf4
  have hf7 := qhf7
  have hB := qhB
  clear qhL00 qhL01 qhL10 qhL11 qhR0 qhR1 qhf3 qhf4 qhf7 qhB
  go_wp2_with fail
  go_region_held3 (fun w' => w'.cell? ⟨w3.heap.size, 0, none⟩ = some (.bool (ng 4)) ∧ w'.cell? ⟨w3.heap.size, 1, none⟩ = some (.slice p3 n3 c3) ∧ w'.cell? ⟨w3.heap.size + 1, 0, none⟩ = some (.bool (ng 1)) ∧ w'.cell? ⟨w3.heap.size + 1, 1, none⟩ = some (.slice p4 n4 c4) ∧ w'.cell? ⟨w6.heap.size, 0, none⟩ = some (.bool (ng (-2))) ∧ w'.cell? ⟨w6.heap.size, 1, none⟩ = some (.slice p7 n7 c7) ∧ Cel (w3.heap.size) w' ∧ Cel (w3.heap.size + 1) w' ∧ Cel (w6.heap.size) w' ∧ Fr w2.heap.size w' p3 n3 c3 (lim (4 : Int).natAbs) ∧ Fr w2.heap.size w' p4 n4 c4 (lim (1 : Int).natAbs) ∧ Fr w5.heap.size w' p7 n7 c7 (lim (-2 : Int).natAbs) ∧ Box w (w6.heap.size) w')
    (first | exact ⟨by simpa using hL00, by simpa using hL01, by simpa using hL10, by simpa using hL11, by simpa using hL20, by simpa using hL21, hR0.drew, hR1.drew, hR2.drew, hf3.below (Below.refl _ _).drew (Nat.le_refl _), hf4.below (Below.refl _ _).drew (Nat.le_refl _), hf7.below (Below.refl _ _).drew (Nat.le_refl _), hB.drew⟩ | exact ‹World.cell? _ _ = some _ ∧ World.cell? _ _ = some _ ∧ World.cell? _ _ = some _ ∧ World.cell? _ _ = some _ ∧ World.cell? _ _ = some _ ∧ World.cell? _ _ = some _ ∧ Cel _ _ ∧ Cel _ _ ∧ Cel _ _ ∧ Fr _ _ _ _ _ _ ∧ Fr _ _ _ _ _ _ ∧ Fr _ _ _ _ _ _ ∧ Box w _ _› | (have hS := ‹World.cell? _ _ = some _ ∧ World.cell? _ _ = some _ ∧ World.cell? _ _ = some _ ∧ World.cell? _ _ = some _ ∧ World.cell? _ _ = some _ ∧ World.cell? _ _ = some _ ∧ Cel _ _ ∧ Cel _ _ ∧ Cel _ _ ∧ Fr _ _ _ _ _ _ ∧ Fr _ _ _ _ _ _ ∧ Fr _ _ _ _ _ _ ∧ Box w _ _›; exact ⟨cell_on hS.1 hb7, cell_on hS.2.1 hb7, cell_on hS.2.2.1 hb7, cell_on hS.2.2.2.1 hb7, cell_on hS.2.2.2.2.1 hb7, cell_on hS.2.2.2.2.2.1 hb7, hS.2.2.2.2.2.2.1.on hb7, hS.2.2.2.2.2.2.2.1.on hb7, hS.2.2.2.2.2.2.2.2.1.on hb7, hS.2.2.2.2.2.2.2.2.2.1.below hb7 (Nat.le_refl _), hS.2.2.2.2.2.2.2.2.2.2.1.below hb7 (Nat.le_refl _), hS.2.2.2.2.2.2.2.2.2.2.2.1.below hb7 (Nat.le_refl _), hS.2.2.2.2.2.2.2.2.2.2.2.2.on hb7⟩) | (have hS := ‹World.cell? _ _ = some _ ∧ World.cell? _ _ = some _ ∧ World.cell? _ _ = some _ ∧ World.cell? _ _ = some _ ∧ World.cell? _ _ = some _ ∧ World.cell? _ _ = some _ ∧ Cel _ _ ∧ Cel _ _ ∧ Cel _ _ ∧ Fr _ _ _ _ _ _ ∧ Fr _ _ _ _ _ _ ∧ Fr _ _ _ _ _ _ ∧ Box w _ _›; exact ⟨cell_on hS.1 hb8, cell_on hS.2.1 hb8, cell_on hS.2.2.1 hb8, cell_on hS.2.2.2.1 hb8, cell_on hS.2.2.2.2.1 hb8, cell_on hS.2.2.2.2.2.1 hb8, hS.2.2.2.2.2.2.1.on hb8, hS.2.2.2.2.2.2.2.1.on hb8, hS.2.2.2.2.2.2.2.2.1.on hb8, hS.2.2.2.2.2.2.2.2.2.1.below hb8 (Nat.le_refl _), hS.2.2.2.2.2.2.2.2.2.2.1.below hb8 (Nat.le_refl _), hS.2.2.2.2.2.2.2.2.2.2.2.1.below hb8 (Nat.le_refl _), hS.2.2.2.2.2.2.2.2.2.2.2.2.on hb8⟩) | (have hS := ‹World.cell? _ _ = some _ ∧ World.cell? _ _ = some _ ∧ World.cell? _ _ = some _ ∧ World.cell? _ _ = some _ ∧ World.cell? _ _ = some _ ∧ World.cell? _ _ = some _ ∧ Cel _ _ ∧ Cel _ _ ∧ Cel _ _ ∧ Fr _ _ _ _ _ _ ∧ Fr _ _ _ _ _ _ ∧ Fr _ _ _ _ _ _ ∧ Box w _ _›; exact ⟨cell_on hS.1 hb9, cell_on hS.2.1 hb9, cell_on hS.2.2.1 hb9, cell_on hS.2.2.2.1 hb9, cell_on hS.2.2.2.2.1 hb9, cell_on hS.2.2.2.2.2.1 hb9, hS.2.2.2.2.2.2.1.on hb9, hS.2.2.2.2.2.2.2.1.on hb9, hS.2.2.2.2.2.2.2.2.1.on hb9, hS.2.2.2.2.2.2.2.2.2.1.below hb9 (Nat.le_refl _), hS.2.2.2.2.2.2.2.2.2.2.1.below hb9 (Nat.le_refl _), hS.2.2.2.2.2.2.2.2.2.2.2.1.below hb9 (Nat.le_refl _), hS.2.2.2.2.2.2.2.2.2.2.2.2.on hb9⟩) | (have hS := ‹World.cell? _ _ = some _ ∧ World.cell? _ _ = some _ ∧ World.cell? _ _ = some _ ∧ World.cell? _ _ = some _ ∧ World.cell? _ _ = some _ ∧ World.cell? _ _ = some _ ∧ Cel _ _ ∧ Cel _ _ ∧ Cel _ _ ∧ Fr _ _ _ _ _ _ ∧ Fr _ _ _ _ _ _ ∧ Fr _ _ _ _ _ _ ∧ Box w _ _›; exact ⟨cell_on hS.1 hb10, cell_on hS.2.1 hb10, cell_on hS.2.2.1 hb10, cell_on hS.2.2.2.1 hb10, cell_on hS.2.2.2.2.1 hb10, cell_on hS.2.2.2.2.2.1 hb10, hS.2.2.2.2.2.2.1.on hb10, hS.2.2.2.2.2.2.2.1.on hb10, hS.2.2.2.2.2.2.2.2.1.on hb10, hS.2.2.2.2.2.2.2.2.2.1.below hb10 (Nat.le_refl _), hS.2.2.2.2.2.2.2.2.2.2.1.below hb10 (Nat.le_refl _), hS.2.2.2.2.2.2.2.2.2.2.2.1.below hb10 (Nat.le_refl _), hS.2.2.2.2.2.2.2.2.2.2.2.2.on hb10⟩) | (have hS := ‹World.cell? _ _ = some _ ∧ World.cell? _ _ = some _ ∧ World.cell? _ _ = some _ ∧ World.cell? _ _ = some _ ∧ World.cell? _ _ = some _ ∧ World.cell? _ _ = some _ ∧ Cel _ _ ∧ Cel _ _ ∧ Cel _ _ ∧ Fr _ _ _ _ _ _ ∧ Fr _ _ _ _ _ _ ∧ Fr _ _ _ _ _ _ ∧ Box w _ _›; exact ⟨cell_on hS.1 hb11, cell_on hS.2.1 hb11, cell_on hS.2.2.1 hb11, cell_on hS.2.2.2.1 hb11, cell_on hS.2.2.2.2.1 hb11, cell_on hS.2.2.2.2.2.1 hb11, hS.2.2.2.2.2.2.1.on hb11, hS.2.2.2.2.2.2.2.1.on hb11, hS.2.2.2.2.2.2.2.2.1.on hb11, hS.2.2.2.2.2.2.2.2.2.1.below hb11 (Nat.le_refl _), hS.2.2.2.2.2.2.2.2.2.2.1.below hb11 (Nat.le_refl _), hS.2.2.2.2.2.2.2.2.2.2.2.1.below hb11 (Nat.le_refl _), hS.2.2.2.2.2.2.2.2.2.2.2.2.on hb11⟩) | (have hS := ‹World.cell? _ _ = some _ ∧ World.cell? _ _ = some _ ∧ World.cell? _ _ = some _ ∧ World.cell? _ _ = some _ ∧ World.cell? _ _ = some _ ∧ World.cell? _ _ = some _ ∧ Cel _ _ ∧ Cel _ _ ∧ Cel _ _ ∧ Fr _ _ _ _ _ _ ∧ Fr _ _ _ _ _ _ ∧ Fr _ _ _ _ _ _ ∧ Box w _ _›; exact ⟨cell_on hS.1 hb12, cell_on hS.2.1 hb12, cell_on hS.2.2.1 hb12, cell_on hS.2.2.2.1 hb12, cell_on hS.2.2.2.2.1 hb12, cell_on hS.2.2.2.2.2.1 hb12, hS.2.2.2.2.2.2.1.on hb12, hS.2.2.2.2.2.2.2.1.on hb12, hS.2.2.2.2.2.2.2.2.1.on hb12, hS.2.2.2.2.2.2.2.2.2.1.below hb12 (Nat.le_refl _), hS.2.2.2.2.2.2.2.2.2.2.1.below hb12 (Nat.le_refl _), hS.2.2.2.2.2.2.2.2.2.2.2.1.below hb12 (Nat.le_refl _), hS.2.2.2.2.2.2.2.2.2.2.2.2.on hb12⟩) | (have hS := ‹World.cell? _ _ = some _ ∧ World.cell? _ _ = some _ ∧ World.cell? _ _ = some _ ∧ World.cell? _ _ = some _ ∧ World.cell? _ _ = some _ ∧ World.cell? _ _ = some _ ∧ Cel _ _ ∧ Cel _ _ ∧ Cel _ _ ∧ Fr _ _ _ _ _ _ ∧ Fr _ _ _ _ _ _ ∧ Fr _ _ _ _ _ _ ∧ Box w _ _›; exact ⟨cell_set (cell_set hS.1 (by omega)) (by omega), cell_set (cell_set hS.2.1 (by omega)) (by omega), cell_set (cell_set hS.2.2.1 (by omega)) (by omega), cell_set (cell_set hS.2.2.2.1 (by omega)) (by omega), cell_set (cell_set hS.2.2.2.2.1 (by omega)) (by omega), cell_set (cell_set hS.2.2.2.2.2.1 (by omega)) (by omega), (hS.2.2.2.2.2.2.1.set _ _ _).set _ _ _, (hS.2.2.2.2.2.2.2.1.set _ _ _).set _ _ _, (hS.2.2.2.2.2.2.2.2.1.set _ _ _).set _ _ _, (hS.2.2.2.2.2.2.2.2.2.1.setLow (by omega) _ _).setLow (by omega) _ _, (hS.2.2.2.2.2.2.2.2.2.2.1.setLow (by omega) _ _).setLow (by omega) _ _, (hS.2.2.2.2.2.2.2.2.2.2.2.1.setLow (by omega) _ _).setLow (by omega) _ _, (hS.2.2.2.2.2.2.2.2.2.2.2.2.set (by omega) _ _).set (by omega) _ _⟩))
    (first | (go_at_call 18; have hS := ‹World.cell? _ _ = some _ ∧ World.cell? _ _ = some _ ∧ World.cell? _ _ = some _ ∧ World.cell? _ _ = some _ ∧ World.cell? _ _ = some _ ∧ World.cell? _ _ = some _ ∧ Cel _ _ ∧ Cel _ _ ∧ Cel _ _ ∧ Fr _ _ _ _ _ _ ∧ Fr _ _ _ _ _ _ ∧ Fr _ _ _ _ _ _ ∧ Box w _ _›; (with_reducible refine (lof_any (z := 4) (by omega) (by omega)).mono ?_); rintro e w7 ⟨p8, n8, c8, rfl, hf8, hb7⟩; have hlt7 := hS.2.2.2.2.2.2.2.2.2.2.2.2.lt; clear hS) | (go_at_call 13; have hS := ‹World.cell? _ _ = some _ ∧ World.cell? _ _ = some _ ∧ World.cell? _ _ = some _ ∧ World.cell? _ _ = some _ ∧ World.cell? _ _ = some _ ∧ World.cell? _ _ = some _ ∧ Cel _ _ ∧ Cel _ _ ∧ Cel _ _ ∧ Fr _ _ _ _ _ _ ∧ Fr _ _ _ _ _ _ ∧ Fr _ _ _ _ _ _ ∧ Box w _ _›; (with_reducible refine (lsame_yes hS.2.2.2.2.2.2.2.2.2.1.sl hf8.sl).mono ?_); rintro e w8 ⟨rfl, hb8⟩; replace hf8 := hf8.below hb8 (Nat.le_refl _); clear hf8; clear hS) | (go_at_call 18; have hS := ‹World.cell? _ _ = some _ ∧ World.cell? _ _ = some _ ∧ World.cell? _ _ = some _ ∧ World.cell? _ _ = some _ ∧ World.cell? _ _ = some _ ∧ World.cell? _ _ = some _ ∧ Cel _ _ ∧ Cel _ _ ∧ Cel _ _ ∧ Fr _ _ _ _ _ _ ∧ Fr _ _ _ _ _ _ ∧ Fr _ _ _ _ _ _ ∧ Box w _ _›; (with_reducible refine (lof_any (z := 1) (by omega) (by omega)).mono ?_); rintro e w9 ⟨p9, n9, c9, rfl, hf9, hb9⟩; have hlt9 := hS.2.2.2.2.2.2.2.2.2.2.2.2.lt; clear hS) | (go_at_call 13; have hS := ‹World.cell? _ _ = some _ ∧ World.cell? _ _ = some _ ∧ World.cell? _ _ = some _ ∧ World.cell? _ _ = some _ ∧ World.cell? _ _ = some _ ∧ World.cell? _ _ = some _ ∧ Cel _ _ ∧ Cel _ _ ∧ Cel _ _ ∧ Fr _ _ _ _ _ _ ∧ Fr _ _ _ _ _ _ ∧ Fr _ _ _ _ _ _ ∧ Box w _ _›; (with_reducible refine (lsame_yes hS.2.2.2.2.2.2.2.2.2.2.1.sl hf9.sl).mono ?_); rintro e w10 ⟨rfl, hb10⟩; replace hf9 := hf9.below hb10 (Nat.le_refl _); clear hf9; clear hS) | (go_at_call 18; have hS := ‹World.cell? _ _ = some _ ∧ World.cell? _ _ = some _ ∧ World.cell? _ _ = some _ ∧ World.cell? _ _ = some _ ∧ World.cell? _ _ = some _ ∧ World.cell? _ _ = some _ ∧ Cel _ _ ∧ Cel _ _ ∧ Cel _ _ ∧ Fr _ _ _ _ _ _ ∧ Fr _ _ _ _ _ _ ∧ Fr _ _ _ _ _ _ ∧ Box w _ _›; (with_reducible refine (lof_any (z := -2) (by omega) (by omega)).mono ?_); rintro e w11 ⟨p10, n10, c10, rfl, hf10, hb11⟩; have hlt11 := hS.2.2.2.2.2.2.2.2.2.2.2.2.lt; clear hS) | (go_at_call 13; have hS := ‹World.cell? _ _ = some _ ∧ World.cell? _ _ = some _ ∧ World.cell? _ _ = some _ ∧ World.cell? _ _ = some _ ∧ World.cell? _ _ = some _ ∧ World.cell? _ _ = some _ ∧ Cel _ _ ∧ Cel _ _ ∧ Cel _ _ ∧ Fr _ _ _ _ _ _ ∧ Fr _ _ _ _ _ _ ∧ Fr _ _ _ _ _ _ ∧ Box w _ _›; (with_reducible refine (lsame_yes hS.2.2.2.2.2.2.2.2.2.2.2.1.sl hf10.sl).mono ?_); rintro e w12 ⟨rfl, hb12⟩; replace hf10 := hf10.below hb12 (Nat.le_refl _); clear hf10; clear hS))
  obtain ⟨hL00, hL01, hL10, hL11, hL20, hL21, hR0, hR1, hR2, hf3, hf4, hf7, hB⟩ := ‹World.cell? _ _ = some _ ∧ World.cell? _ _ = some _ ∧ World.cell? _ _ = some _ ∧ World.cell? _ _ = some _ ∧ World.cell? _ _ = some _ ∧ World.cell? _ _ = some _ ∧ Cel _ _ ∧ Cel _ _ ∧ Cel _ _ ∧ Fr _ _ _ _ _ _ ∧ Fr _ _ _ _ _ _ ∧ Fr _ _ _ _ _ _ ∧ Box w _ _›
  clear hf7
  go_wp2_with fail
  go_ret
  exact ⟨rfl, hB.below⟩

end Go.Proofs.Ytlnilkghbbbhbaa
