
/-
  The walks of zint: Add, Sub, Cmp, Of, Trunc.
-/
import Derived.Test.YtlnilkghbbbhbaaZB
namespace Go.Proofs.Ytlnilkghbbbhbaa
open Go.RowKit

set_option maxHeartbeats 1000000 in
theorem zadd_like {p q : Option Addr} {n m c d : Nat} {b : Bool} {xs ys : List Nat} {w : World} (hx : Sl w p n c xs) (hy : Sl w q m d ys) (hn : n ≤ 2199023255552) (hm : m ≤ 2199023255552) :
    Calls Try.prog 11 #[.agg #[.bool b, .slice p n c], .agg #[.bool b, .slice q m d]] w (RetZ w (zv b (val xs) + zv b (val ys))) := by
  go_enter Try.func11, Try.ntmps11
  go_wp2_with fail
  obtain ⟨W, hW⟩ : ∃ W : World, W = (((w.alloc (.cells #[.bool b, .slice p n c] 25)).alloc (.cells #[.bool b, .slice q m d] 25)).alloc (.cells #[.bool false, .slice none 0 0] 25)) := ⟨_, rfl⟩
  rw [← hW]
  have hA00 : W.cell? ⟨w.heap.size, 0, none⟩ = some (.bool b) := by rw [hW]; exact (cell_on (cell_on (box_c0 (by simp)) (below_alloc _ _)) (below_alloc _ _))
  have hA01 : W.cell? ⟨w.heap.size, 1, none⟩ = some (.slice p n c) := by rw [hW]; exact (cell_on (cell_on (box_c1 (by simp)) (below_alloc _ _)) (below_alloc _ _))
  have hA10 : W.cell? ⟨w.heap.size + 1, 0, none⟩ = some (.bool b) := by rw [hW]; exact (cell_on (box_c0 (by simp)) (below_alloc _ _))
  have hA11 : W.cell? ⟨w.heap.size + 1, 1, none⟩ = some (.slice q m d) := by rw [hW]; exact (cell_on (box_c1 (by simp)) (below_alloc _ _))
  have hR0 : Cel (w.heap.size + 2) W := by rw [hW]; exact (Cel.ofAlloc (by simp))
  have hB : Box w (w.heap.size + 2) W := by rw [hW]; exact ⟨by (try simp) <;> omega, ((((Below.refl _ _).alloc (Nat.le_refl _) _).alloc (by (try simp) <;> omega) _).alloc (by (try simp) <;> omega) _)⟩
  clear hW
  go_wp2_with fail
  go_region_held3 (fun w' => w'.cell? ⟨w.heap.size, 0, none⟩ = some (.bool b) ∧ w'.cell? ⟨w.heap.size, 1, none⟩ = some (.slice p n c) ∧ w'.cell? ⟨w.heap.size + 1, 0, none⟩ = some (.bool b) ∧ w'.cell? ⟨w.heap.size + 1, 1, none⟩ = some (.slice q m d) ∧ Cel (w.heap.size + 2) w' ∧ Box w (w.heap.size + 2) w')
    (first | exact ⟨by simpa using hA00, by simpa using hA01, by simpa using hA10, by simpa using hA11, hR0.drew, hB.drew⟩ | exact ‹World.cell? _ _ = some _ ∧ World.cell? _ _ = some _ ∧ World.cell? _ _ = some _ ∧ World.cell? _ _ = some _ ∧ Cel _ _ ∧ Box w _ _› | (have hS := ‹World.cell? _ _ = some _ ∧ World.cell? _ _ = some _ ∧ World.cell? _ _ = some _ ∧ World.cell? _ _ = some _ ∧ Cel _ _ ∧ Box w _ _›; exact ⟨cell_on hS.1 hb1, cell_on hS.2.1 hb1, cell_on hS.2.2.1 hb1, cell_on hS.2.2.2.1 hb1, hS.2.2.2.2.1.on hb1, hS.2.2.2.2.2.on hb1⟩) | (have hS := ‹World.cell? _ _ = some _ ∧ World.cell? _ _ = some _ ∧ World.cell? _ _ = some _ ∧ World.cell? _ _ = some _ ∧ Cel _ _ ∧ Box w _ _›; exact ⟨cell_on hS.1 hb2, cell_on hS.2.1 hb2, cell_on hS.2.2.1 hb2, cell_on hS.2.2.2.1 hb2, hS.2.2.2.2.1.on hb2, hS.2.2.2.2.2.on hb2⟩) | (have hS := ‹World.cell? _ _ = some _ ∧ World.cell? _ _ = some _ ∧ World.cell? _ _ = some _ ∧ World.cell? _ _ = some _ ∧ Cel _ _ ∧ Box w _ _›; exact ⟨cell_set (cell_set hS.1 (by omega)) (by omega), cell_set (cell_set hS.2.1 (by omega)) (by omega), cell_set (cell_set hS.2.2.1 (by omega)) (by omega), cell_set (cell_set hS.2.2.2.1 (by omega)) (by omega), (hS.2.2.2.2.1.set _ _ _).set _ _ _, (hS.2.2.2.2.2.set (by omega) _ _).set (by omega) _ _⟩))
    (first | (go_at_call 59; have hS := ‹World.cell? _ _ = some _ ∧ World.cell? _ _ = some _ ∧ World.cell? _ _ = some _ ∧ World.cell? _ _ = some _ ∧ Cel _ _ ∧ Box w _ _›; refine (add_any (hx.below hS.2.2.2.2.2.below (Nat.le_refl _)) (hy.below hS.2.2.2.2.2.below (Nat.le_refl _)) (by omega) (by omega)).mono ?_; rintro e w1 ⟨p4, n4, c4, rfl, hf4, hb1⟩; have hlt1 := hS.2.2.2.2.2.lt; clear hS) | (go_at_call 58; have hS := ‹World.cell? _ _ = some _ ∧ World.cell? _ _ = some _ ∧ World.cell? _ _ = some _ ∧ World.cell? _ _ = some _ ∧ Cel _ _ ∧ Box w _ _›; refine (make1_any).mono ?_; rintro e w2 ⟨rfl, hb2⟩; replace hf4 := hf4.below hb2 (Nat.le_refl _); obtain ⟨⟨u0, hu0⟩, ⟨u1, hu1⟩, hug0, hug1⟩ := (hS.2.2.2.2.1).on hb2; clear hS))
  obtain ⟨hA00, hA01, hA10, hA11, hR0, hB⟩ := ‹World.cell? _ _ = some _ ∧ World.cell? _ _ = some _ ∧ World.cell? _ _ = some _ ∧ World.cell? _ _ = some _ ∧ Cel _ _ ∧ Box w _ _›
  go_wp2_with fail
  refine bodyPost_ret (v := .agg #[.bool (b && decide (0 < n4)), .slice p4 n4 c4]) (by simp [results, Try.results11, go_sem, hu0, hu1]) rfl ?_
  exact retZ_box hf4 (by omega) (by omega) hB.below (zv_add_same _ _ _).symm

set_option maxHeartbeats 1000000 in
theorem zadd_unlike {p q : Option Addr} {n m c d : Nat} {b b2 : Bool} {xs ys : List Nat} {w : World} (hx : Sl w p n c xs) (hy : Sl w q m d ys) (hn : n ≤ 2199023255552) (hm : m ≤ 2199023255552) (hs : b ≠ b2) :
    Calls Try.prog 11 #[.agg #[.bool b, .slice p n c], .agg #[.bool b2, .slice q m d]] w (RetZ w (zv b (val xs) + zv b2 (val ys))) := by
  have hs2 : (b == b2) = false := by simpa using hs
  have HS := Lib.hid hs
  clear hs
  go_enter Try.func11, Try.ntmps11
  go_wp2_with fail
  obtain ⟨W, hW⟩ : ∃ W : World, W = (((w.alloc (.cells #[.bool b, .slice p n c] 25)).alloc (.cells #[.bool b2, .slice q m d] 25)).alloc (.cells #[.bool false, .slice none 0 0] 25)) := ⟨_, rfl⟩
  rw [← hW]
  have hA00 : W.cell? ⟨w.heap.size, 0, none⟩ = some (.bool b) := by rw [hW]; exact (cell_on (cell_on (box_c0 (by simp)) (below_alloc _ _)) (below_alloc _ _))
  have hA01 : W.cell? ⟨w.heap.size, 1, none⟩ = some (.slice p n c) := by rw [hW]; exact (cell_on (cell_on (box_c1 (by simp)) (below_alloc _ _)) (below_alloc _ _))
  have hA10 : W.cell? ⟨w.heap.size + 1, 0, none⟩ = some (.bool b2) := by rw [hW]; exact (cell_on (box_c0 (by simp)) (below_alloc _ _))
  have hA11 : W.cell? ⟨w.heap.size + 1, 1, none⟩ = some (.slice q m d) := by rw [hW]; exact (cell_on (box_c1 (by simp)) (below_alloc _ _))
  have hR0 : Cel (w.heap.size + 2) W := by rw [hW]; exact (Cel.ofAlloc (by simp))
  have hB : Box w (w.heap.size + 2) W := by rw [hW]; exact ⟨by (try simp) <;> omega, ((((Below.refl _ _).alloc (Nat.le_refl _) _).alloc (by (try simp) <;> omega) _).alloc (by (try simp) <;> omega) _)⟩
  clear hW
  go_wp2_with fail
  refine (joined_any (hx.below hB.below (Nat.le_refl _)) (hy.below hB.below (Nat.le_refl _)) (by omega) (by omega) HS.out).mono ?_
  rintro e w1 ⟨p4, n4, c4, rfl, hf4, hb1⟩
  have hlt1 := hB.lt
  replace hA00 := cell_on hA00 hb1
  replace hA01 := cell_on hA01 hb1
  replace hA10 := cell_on hA10 hb1
  replace hA11 := cell_on hA11 hb1
  replace hR0 := hR0.on hb1
  replace hB := hB.on hb1
  clear hb1
  obtain ⟨⟨u0, hu0⟩, ⟨u1, hu1⟩, hug0, hug1⟩ := hR0
  go_wp2_with fail
  refine bodyPost_ret (v := .agg #[.bool (ng (zv b (val xs) + zv b2 (val ys))), .slice p4 n4 c4]) (by simp [results, Try.results11, go_sem, hu0, hu1]) rfl ?_
  exact retZ_cp hf4 (by omega) (by omega) ((hB.set (by omega) _ _).set (by omega) _ _).below

theorem zadd_any {p q : Option Addr} {n m c d : Nat} {b b2 : Bool} {xs ys : List Nat} {w : World} (hx : Sl w p n c xs) (hy : Sl w q m d ys) (hn : n ≤ 2199023255552) (hm : m ≤ 2199023255552) :
    Calls Try.prog 11 #[.agg #[.bool b, .slice p n c], .agg #[.bool b2, .slice q m d]] w (RetZ w (zv b (val xs) + zv b2 (val ys))) := by
  by_cases h : b = b2
  · subst h; exact zadd_like hx hy hn hm
  · exact zadd_unlike hx hy hn hm h

set_option maxHeartbeats 1000000 in
theorem zsub_any {p q : Option Addr} {n m c d : Nat} {b b2 : Bool} {xs ys : List Nat} {w : World} (hx : Sl w p n c xs) (hy : Sl w q m d ys) (hn : n ≤ 2199023255552) (hm : m ≤ 2199023255552) :
    Calls Try.prog 14 #[.agg #[.bool b, .slice p n c], .agg #[.bool b2, .slice q m d]] w (RetZ w (zv b (val xs) - zv b2 (val ys))) := by
  have HE : Hid (zv b (val xs) + zv (ng (-(zv b2 (val ys)))) (val (lim (-(zv b2 (val ys))).natAbs)) = zv b (val xs) - zv b2 (val ys)) := by show _ = _; rw [val_lim, zv_ng]; omega
  go_enter Try.func14, Try.ntmps14
  go_wp2_with fail
  obtain ⟨W, hW⟩ : ∃ W : World, W = (((w.alloc (.cells #[.bool b, .slice p n c] 25)).alloc (.cells #[.bool b2, .slice q m d] 25)).alloc (.cells #[.bool false, .slice none 0 0] 25)) := ⟨_, rfl⟩
  rw [← hW]
  have hA00 : W.cell? ⟨w.heap.size, 0, none⟩ = some (.bool b) := by rw [hW]; exact (cell_on (cell_on (box_c0 (by simp)) (below_alloc _ _)) (below_alloc _ _))
  have hA01 : W.cell? ⟨w.heap.size, 1, none⟩ = some (.slice p n c) := by rw [hW]; exact (cell_on (cell_on (box_c1 (by simp)) (below_alloc _ _)) (below_alloc _ _))
  have hA10 : W.cell? ⟨w.heap.size + 1, 0, none⟩ = some (.bool b2) := by rw [hW]; exact (cell_on (box_c0 (by simp)) (below_alloc _ _))
  have hA11 : W.cell? ⟨w.heap.size + 1, 1, none⟩ = some (.slice q m d) := by rw [hW]; exact (cell_on (box_c1 (by simp)) (below_alloc _ _))
  have hR0 : Cel (w.heap.size + 2) W := by rw [hW]; exact (Cel.ofAlloc (by simp))
  have hB : Box w (w.heap.size + 2) W := by rw [hW]; exact ⟨by (try simp) <;> omega, ((((Below.refl _ _).alloc (Nat.le_refl _) _).alloc (by (try simp) <;> omega) _).alloc (by (try simp) <;> omega) _)⟩
  clear hW
  go_wp2_with fail
  go_region_held3 (fun w' => w'.cell? ⟨w.heap.size, 0, none⟩ = some (.bool b) ∧ w'.cell? ⟨w.heap.size, 1, none⟩ = some (.slice p n c) ∧ w'.cell? ⟨w.heap.size + 1, 0, none⟩ = some (.bool b2) ∧ w'.cell? ⟨w.heap.size + 1, 1, none⟩ = some (.slice q m d) ∧ Cel (w.heap.size + 2) w' ∧ Box w (w.heap.size + 2) w')
    (first | exact ⟨by simpa using hA00, by simpa using hA01, by simpa using hA10, by simpa using hA11, hR0.drew, hB.drew⟩ | exact ‹World.cell? _ _ = some _ ∧ World.cell? _ _ = some _ ∧ World.cell? _ _ = some _ ∧ World.cell? _ _ = some _ ∧ Cel _ _ ∧ Box w _ _› | (have hS := ‹World.cell? _ _ = some _ ∧ World.cell? _ _ = some _ ∧ World.cell? _ _ = some _ ∧ World.cell? _ _ = some _ ∧ Cel _ _ ∧ Box w _ _›; exact ⟨cell_on hS.1 hb1, cell_on hS.2.1 hb1, cell_on hS.2.2.1 hb1, cell_on hS.2.2.2.1 hb1, hS.2.2.2.2.1.on hb1, hS.2.2.2.2.2.on hb1⟩) | (have hS := ‹World.cell? _ _ = some _ ∧ World.cell? _ _ = some _ ∧ World.cell? _ _ = some _ ∧ World.cell? _ _ = some _ ∧ Cel _ _ ∧ Box w _ _›; exact ⟨cell_on hS.1 hb2, cell_on hS.2.1 hb2, cell_on hS.2.2.1 hb2, cell_on hS.2.2.2.1 hb2, hS.2.2.2.2.1.on hb2, hS.2.2.2.2.2.on hb2⟩) | (have hS := ‹World.cell? _ _ = some _ ∧ World.cell? _ _ = some _ ∧ World.cell? _ _ = some _ ∧ World.cell? _ _ = some _ ∧ Cel _ _ ∧ Box w _ _›; exact ⟨cell_set (cell_set hS.1 (by omega)) (by omega), cell_set (cell_set hS.2.1 (by omega)) (by omega), cell_set (cell_set hS.2.2.1 (by omega)) (by omega), cell_set (cell_set hS.2.2.2.1 (by omega)) (by omega), (hS.2.2.2.2.1.set _ _ _).set _ _ _, (hS.2.2.2.2.2.set (by omega) _ _).set (by omega) _ _⟩))
    (first | (go_at_call 28; have hS := ‹World.cell? _ _ = some _ ∧ World.cell? _ _ = some _ ∧ World.cell? _ _ = some _ ∧ World.cell? _ _ = some _ ∧ Cel _ _ ∧ Box w _ _›; refine (zneg_any (hy.below hS.2.2.2.2.2.below (Nat.le_refl _)) (by omega)).mono ?_; rintro e w1 ⟨p3, n3, c3, rfl, hf3, hb1⟩; have hlt1 := hS.2.2.2.2.2.lt; have hn3 : n3 ≤ 2199023255552 := (by rw [Int.natAbs_neg, natAbs_zv] at hf3; have := z_same hy hf3; omega); clear hS) | (go_at_call 11; have hS := ‹World.cell? _ _ = some _ ∧ World.cell? _ _ = some _ ∧ World.cell? _ _ = some _ ∧ World.cell? _ _ = some _ ∧ Cel _ _ ∧ Box w _ _›; refine (zadd_any (hx.below hS.2.2.2.2.2.below (Nat.le_refl _)) hf3.sl hn hn3).mono ?_; rintro e w2 ⟨p4, n4, c4, rfl, hf4, hb2⟩; replace hf3 := hf3.below hb2 (Nat.le_refl _); have hlt2 := hS.2.2.2.2.2.lt; obtain ⟨⟨u0, hu0⟩, ⟨u1, hu1⟩, hug0, hug1⟩ := (hS.2.2.2.2.1).on hb2; clear hS))
  obtain ⟨hA00, hA01, hA10, hA11, hR0, hB⟩ := ‹World.cell? _ _ = some _ ∧ World.cell? _ _ = some _ ∧ World.cell? _ _ = some _ ∧ World.cell? _ _ = some _ ∧ Cel _ _ ∧ Box w _ _›
  go_wp2_with fail
  refine bodyPost_ret (v := .agg #[.bool (ng (zv b (val xs) + zv (ng (-(zv b2 (val ys)))) (val (lim (-(zv b2 (val ys))).natAbs)))), .slice p4 n4 c4]) (by simp [results, Try.results14, go_sem, hu0, hu1]) rfl ?_
  rw [← HE.out]
  exact retZ_cp hf4 (by omega) (by omega) hB.below

theorem zsign_of {s : Int} {p : Option Addr} {n c : Nat} {b : Bool} {xs : List Nat} {w : World} (hx : Sl w p n c xs) (hn : n ≤ 17592186044416) (hs : Hid (s = (zv b (val xs)).sign)) :
    Calls Try.prog 25 #[.agg #[.bool b, .slice p n c]] w (RetInt w s) := by
  rw [hs.out]; exact zsign_any hx hn

set_option maxHeartbeats 1000000 in
theorem zcmp_lt {p q : Option Addr} {n m c d : Nat} {b b2 : Bool} {xs ys : List Nat} {w : World} (hx : Sl w p n c xs) (hy : Sl w q m d ys) (hn : n ≤ 17592186044416) (hm : m ≤ 17592186044416) (h : (zv b (val xs)).sign < (zv b2 (val ys)).sign) :
    Calls Try.prog 27 #[.agg #[.bool b, .slice p n c], .agg #[.bool b2, .slice q m d]] w (RetInt w (cmpZ (zv b (val xs)) (zv b2 (val ys)))) := by
  have HC := Lib.hid (cmpZ_sign_lt h)
  obtain ⟨s1, hs1⟩ : ∃ s, s = (zv b (val xs)).sign := ⟨_, rfl⟩
  obtain ⟨s2, hs2⟩ : ∃ s, s = (zv b2 (val ys)).sign := ⟨_, rfl⟩
  have HSX := Lib.hid hs1
  have HSY := Lib.hid hs2
  have h1 : (s1 != s2) = true := by rw [bne_iff_ne]; omega
  have h2 : decide (s1 < s2) = true := by simp; omega
  clear hs1 hs2 h
  go_enter Try.func27, Try.ntmps27
  go_wp2_with fail
  obtain ⟨W, hW⟩ : ∃ W : World, W = ((w.alloc (.cells #[.bool b, .slice p n c] 25)).alloc (.cells #[.bool b2, .slice q m d] 25)) := ⟨_, rfl⟩
  rw [← hW]
  have hA00 : W.cell? ⟨w.heap.size, 0, none⟩ = some (.bool b) := by rw [hW]; exact (cell_on (box_c0 (by simp)) (below_alloc _ _))
  have hA01 : W.cell? ⟨w.heap.size, 1, none⟩ = some (.slice p n c) := by rw [hW]; exact (cell_on (box_c1 (by simp)) (below_alloc _ _))
  have hA10 : W.cell? ⟨w.heap.size + 1, 0, none⟩ = some (.bool b2) := by rw [hW]; exact (box_c0 (by simp))
  have hA11 : W.cell? ⟨w.heap.size + 1, 1, none⟩ = some (.slice q m d) := by rw [hW]; exact (box_c1 (by simp))
  have hB : Box w (w.heap.size + 1) W := by rw [hW]; exact ⟨by (try simp) <;> omega, (((Below.refl _ _).alloc (Nat.le_refl _) _).alloc (by (try simp) <;> omega) _)⟩
  clear hW
  go_wp2_with fail
  go_region_held3 (fun w' => w'.cell? ⟨w.heap.size, 0, none⟩ = some (.bool b) ∧ w'.cell? ⟨w.heap.size, 1, none⟩ = some (.slice p n c) ∧ w'.cell? ⟨w.heap.size + 1, 0, none⟩ = some (.bool b2) ∧ w'.cell? ⟨w.heap.size + 1, 1, none⟩ = some (.slice q m d) ∧ Box w (w.heap.size + 1) w')
    (first | exact ⟨by simpa using hA00, by simpa using hA01, by simpa using hA10, by simpa using hA11, hB.drew⟩ | exact ‹World.cell? _ _ = some _ ∧ World.cell? _ _ = some _ ∧ World.cell? _ _ = some _ ∧ World.cell? _ _ = some _ ∧ Box w _ _› | (have hS := ‹World.cell? _ _ = some _ ∧ World.cell? _ _ = some _ ∧ World.cell? _ _ = some _ ∧ World.cell? _ _ = some _ ∧ Box w _ _›; exact ⟨cell_on hS.1 hb1, cell_on hS.2.1 hb1, cell_on hS.2.2.1 hb1, cell_on hS.2.2.2.1 hb1, hS.2.2.2.2.on hb1⟩) | (have hS := ‹World.cell? _ _ = some _ ∧ World.cell? _ _ = some _ ∧ World.cell? _ _ = some _ ∧ World.cell? _ _ = some _ ∧ Box w _ _›; exact ⟨cell_on hS.1 hb2, cell_on hS.2.1 hb2, cell_on hS.2.2.1 hb2, cell_on hS.2.2.2.1 hb2, hS.2.2.2.2.on hb2⟩) | (have hS := ‹World.cell? _ _ = some _ ∧ World.cell? _ _ = some _ ∧ World.cell? _ _ = some _ ∧ World.cell? _ _ = some _ ∧ Box w _ _›; exact ⟨cell_set (cell_set hS.1 (by omega)) (by omega), cell_set (cell_set hS.2.1 (by omega)) (by omega), cell_set (cell_set hS.2.2.1 (by omega)) (by omega), cell_set (cell_set hS.2.2.2.1 (by omega)) (by omega), (hS.2.2.2.2.set (by omega) _ _).set (by omega) _ _⟩))
    (first | (go_at_call 25; have hS := ‹World.cell? _ _ = some _ ∧ World.cell? _ _ = some _ ∧ World.cell? _ _ = some _ ∧ World.cell? _ _ = some _ ∧ Box w _ _›; (with_reducible refine (zsign_of (hx.below hS.2.2.2.2.below (Nat.le_refl _)) hn HSX).mono ?_); rintro e w1 ⟨rfl, hb1⟩; clear hS) | (go_at_call 25; have hS := ‹World.cell? _ _ = some _ ∧ World.cell? _ _ = some _ ∧ World.cell? _ _ = some _ ∧ World.cell? _ _ = some _ ∧ Box w _ _›; (with_reducible refine (zsign_of (hy.below hS.2.2.2.2.below (Nat.le_refl _)) hm HSY).mono ?_); rintro e w2 ⟨rfl, hb2⟩; clear hS))
  obtain ⟨hA00, hA01, hA10, hA11, hB⟩ := ‹World.cell? _ _ = some _ ∧ World.cell? _ _ = some _ ∧ World.cell? _ _ = some _ ∧ World.cell? _ _ = some _ ∧ Box w _ _›
  go_wp2_with fail
  go_ret
  rw [HC.out]
  exact ⟨rfl, hB.below⟩

set_option maxHeartbeats 1000000 in
theorem zcmp_gt {p q : Option Addr} {n m c d : Nat} {b b2 : Bool} {xs ys : List Nat} {w : World} (hx : Sl w p n c xs) (hy : Sl w q m d ys) (hn : n ≤ 17592186044416) (hm : m ≤ 17592186044416) (h : (zv b2 (val ys)).sign < (zv b (val xs)).sign) :
    Calls Try.prog 27 #[.agg #[.bool b, .slice p n c], .agg #[.bool b2, .slice q m d]] w (RetInt w (cmpZ (zv b (val xs)) (zv b2 (val ys)))) := by
  have HC := Lib.hid (cmpZ_sign_gt h)
  obtain ⟨s1, hs1⟩ : ∃ s, s = (zv b (val xs)).sign := ⟨_, rfl⟩
  obtain ⟨s2, hs2⟩ : ∃ s, s = (zv b2 (val ys)).sign := ⟨_, rfl⟩
  have HSX := Lib.hid hs1
  have HSY := Lib.hid hs2
  have h1 : (s1 != s2) = true := by rw [bne_iff_ne]; omega
  have h2 : decide (s1 < s2) = false := by simp; omega
  clear hs1 hs2 h
  go_enter Try.func27, Try.ntmps27
  go_wp2_with fail
  obtain ⟨W, hW⟩ : ∃ W : World, W = ((w.alloc (.cells #[.bool b, .slice p n c] 25)).alloc (.cells #[.bool b2, .slice q m d] 25)) := ⟨_, rfl⟩
  rw [← hW]
  have hA00 : W.cell? ⟨w.heap.size, 0, none⟩ = some (.bool b) := by rw [hW]; exact (cell_on (box_c0 (by simp)) (below_alloc _ _))
  have hA01 : W.cell? ⟨w.heap.size, 1, none⟩ = some (.slice p n c) := by rw [hW]; exact (cell_on (box_c1 (by simp)) (below_alloc _ _))
  have hA10 : W.cell? ⟨w.heap.size + 1, 0, none⟩ = some (.bool b2) := by rw [hW]; exact (box_c0 (by simp))
  have hA11 : W.cell? ⟨w.heap.size + 1, 1, none⟩ = some (.slice q m d) := by rw [hW]; exact (box_c1 (by simp))
  have hB : Box w (w.heap.size + 1) W := by rw [hW]; exact ⟨by (try simp) <;> omega, (((Below.refl _ _).alloc (Nat.le_refl _) _).alloc (by (try simp) <;> omega) _)⟩
  clear hW
  go_wp2_with fail
  go_region_held3 (fun w' => w'.cell? ⟨w.heap.size, 0, none⟩ = some (.bool b) ∧ w'.cell? ⟨w.heap.size, 1, none⟩ = some (.slice p n c) ∧ w'.cell? ⟨w.heap.size + 1, 0, none⟩ = some (.bool b2) ∧ w'.cell? ⟨w.heap.size + 1, 1, none⟩ = some (.slice q m d) ∧ Box w (w.heap.size + 1) w')
    (first | exact ⟨by simpa using hA00, by simpa using hA01, by simpa using hA10, by simpa using hA11, hB.drew⟩ | exact ‹World.cell? _ _ = some _ ∧ World.cell? _ _ = some _ ∧ World.cell? _ _ = some _ ∧ World.cell? _ _ = some _ ∧ Box w _ _› | (have hS := ‹World.cell? _ _ = some _ ∧ World.cell? _ _ = some _ ∧ World.cell? _ _ = some _ ∧ World.cell? _ _ = some _ ∧ Box w _ _›; exact ⟨cell_on hS.1 hb1, cell_on hS.2.1 hb1, cell_on hS.2.2.1 hb1, cell_on hS.2.2.2.1 hb1, hS.2.2.2.2.on hb1⟩) | (have hS := ‹World.cell? _ _ = some _ ∧ World.cell? _ _ = some _ ∧ World.cell? _ _ = some _ ∧ World.cell? _ _ = some _ ∧ Box w _ _›; exact ⟨cell_on hS.1 hb2, cell_on hS.2.1 hb2, cell_on hS.2.2.1 hb2, cell_on hS.2.2.2.1 hb2, hS.2.2.2.2.on hb2⟩) | (have hS := ‹World.cell? _ _ = some _ ∧ World.cell? _ _ = some _ ∧ World.cell? _ _ = some _ ∧ World.cell? _ _ = some _ ∧ Box w _ _›; exact ⟨cell_set (cell_set hS.1 (by omega)) (by omega), cell_set (cell_set hS.2.1 (by omega)) (by omega), cell_set (cell_set hS.2.2.1 (by omega)) (by omega), cell_set (cell_set hS.2.2.2.1 (by omega)) (by omega), (hS.2.2.2.2.set (by omega) _ _).set (by omega) _ _⟩))
    (first | (go_at_call 25; have hS := ‹World.cell? _ _ = some _ ∧ World.cell? _ _ = some _ ∧ World.cell? _ _ = some _ ∧ World.cell? _ _ = some _ ∧ Box w _ _›; (with_reducible refine (zsign_of (hx.below hS.2.2.2.2.below (Nat.le_refl _)) hn HSX).mono ?_); rintro e w1 ⟨rfl, hb1⟩; clear hS) | (go_at_call 25; have hS := ‹World.cell? _ _ = some _ ∧ World.cell? _ _ = some _ ∧ World.cell? _ _ = some _ ∧ World.cell? _ _ = some _ ∧ Box w _ _›; (with_reducible refine (zsign_of (hy.below hS.2.2.2.2.below (Nat.le_refl _)) hm HSY).mono ?_); rintro e w2 ⟨rfl, hb2⟩; clear hS))
  obtain ⟨hA00, hA01, hA10, hA11, hB⟩ := ‹World.cell? _ _ = some _ ∧ World.cell? _ _ = some _ ∧ World.cell? _ _ = some _ ∧ World.cell? _ _ = some _ ∧ Box w _ _›
  go_wp2_with fail
  go_ret
  rw [HC.out]
  exact ⟨rfl, hB.below⟩

set_option maxHeartbeats 1000000 in
theorem zcmp_neg {p q : Option Addr} {n m c d : Nat} {b b2 : Bool} {xs ys : List Nat} {w : World} (hx : Sl w p n c xs) (hy : Sl w q m d ys) (hn : n ≤ 17592186044416) (hm : m ≤ 17592186044416) (h : (zv b (val xs)).sign = (zv b2 (val ys)).sign) (h0 : zv b (val xs) < 0) :
    Calls Try.prog 27 #[.agg #[.bool b, .slice p n c], .agg #[.bool b2, .slice q m d]] w (RetInt w (cmpZ (zv b (val xs)) (zv b2 (val ys)))) := by
  have HC : Hid (cmpZ (zv b (val xs)) (zv b2 (val ys)) = cmpN (val ys) (val xs)) := by
    have e1 := sign_cases (zv b (val xs))
    have e2 := sign_cases (zv b2 (val ys))
    exact cmpZ_both_neg h0 (by omega)
  obtain ⟨s1, hs1⟩ : ∃ s, s = (zv b (val xs)).sign := ⟨_, rfl⟩
  have HSX := Lib.hid hs1
  have HSY : Hid (s1 = (zv b2 (val ys)).sign) := by show _ = _; rw [hs1]; exact h
  have h2 : decide (s1 < 0) = true := by
    have e1 := sign_cases (zv b (val xs))
    simp; omega
  clear hs1 h h0
  go_enter Try.func27, Try.ntmps27
  go_wp2_with fail
  obtain ⟨W, hW⟩ : ∃ W : World, W = ((w.alloc (.cells #[.bool b, .slice p n c] 25)).alloc (.cells #[.bool b2, .slice q m d] 25)) := ⟨_, rfl⟩
  rw [← hW]
  have hA00 : W.cell? ⟨w.heap.size, 0, none⟩ = some (.bool b) := by rw [hW]; exact (cell_on (box_c0 (by simp)) (below_alloc _ _))
  have hA01 : W.cell? ⟨w.heap.size, 1, none⟩ = some (.slice p n c) := by rw [hW]; exact (cell_on (box_c1 (by simp)) (below_alloc _ _))
  have hA10 : W.cell? ⟨w.heap.size + 1, 0, none⟩ = some (.bool b2) := by rw [hW]; exact (box_c0 (by simp))
  have hA11 : W.cell? ⟨w.heap.size + 1, 1, none⟩ = some (.slice q m d) := by rw [hW]; exact (box_c1 (by simp))
  have hB : Box w (w.heap.size + 1) W := by rw [hW]; exact ⟨by (try simp) <;> omega, (((Below.refl _ _).alloc (Nat.le_refl _) _).alloc (by (try simp) <;> omega) _)⟩
  clear hW
  go_wp2_with fail
  go_region_held3 (fun w' => w'.cell? ⟨w.heap.size, 0, none⟩ = some (.bool b) ∧ w'.cell? ⟨w.heap.size, 1, none⟩ = some (.slice p n c) ∧ w'.cell? ⟨w.heap.size + 1, 0, none⟩ = some (.bool b2) ∧ w'.cell? ⟨w.heap.size + 1, 1, none⟩ = some (.slice q m d) ∧ Box w (w.heap.size + 1) w')
    (first | exact ⟨by simpa using hA00, by simpa using hA01, by simpa using hA10, by simpa using hA11, hB.drew⟩ | exact ‹World.cell? _ _ = some _ ∧ World.cell? _ _ = some _ ∧ World.cell? _ _ = some _ ∧ World.cell? _ _ = some _ ∧ Box w _ _› | (have hS := ‹World.cell? _ _ = some _ ∧ World.cell? _ _ = some _ ∧ World.cell? _ _ = some _ ∧ World.cell? _ _ = some _ ∧ Box w _ _›; exact ⟨cell_on hS.1 hb1, cell_on hS.2.1 hb1, cell_on hS.2.2.1 hb1, cell_on hS.2.2.2.1 hb1, hS.2.2.2.2.on hb1⟩) | (have hS := ‹World.cell? _ _ = some _ ∧ World.cell? _ _ = some _ ∧ World.cell? _ _ = some _ ∧ World.cell? _ _ = some _ ∧ Box w _ _›; exact ⟨cell_on hS.1 hb2, cell_on hS.2.1 hb2, cell_on hS.2.2.1 hb2, cell_on hS.2.2.2.1 hb2, hS.2.2.2.2.on hb2⟩) | (have hS := ‹World.cell? _ _ = some _ ∧ World.cell? _ _ = some _ ∧ World.cell? _ _ = some _ ∧ World.cell? _ _ = some _ ∧ Box w _ _›; exact ⟨cell_set (cell_set hS.1 (by omega)) (by omega), cell_set (cell_set hS.2.1 (by omega)) (by omega), cell_set (cell_set hS.2.2.1 (by omega)) (by omega), cell_set (cell_set hS.2.2.2.1 (by omega)) (by omega), (hS.2.2.2.2.set (by omega) _ _).set (by omega) _ _⟩))
    (first | (go_at_call 25; have hS := ‹World.cell? _ _ = some _ ∧ World.cell? _ _ = some _ ∧ World.cell? _ _ = some _ ∧ World.cell? _ _ = some _ ∧ Box w _ _›; (with_reducible refine (zsign_of (hx.below hS.2.2.2.2.below (Nat.le_refl _)) hn HSX).mono ?_); rintro e w1 ⟨rfl, hb1⟩; clear hS) | (go_at_call 25; have hS := ‹World.cell? _ _ = some _ ∧ World.cell? _ _ = some _ ∧ World.cell? _ _ = some _ ∧ World.cell? _ _ = some _ ∧ Box w _ _›; (with_reducible refine (zsign_of (hy.below hS.2.2.2.2.below (Nat.le_refl _)) hm HSY).mono ?_); rintro e w2 ⟨rfl, hb2⟩; clear hS))
  obtain ⟨hA00, hA01, hA10, hA11, hB⟩ := ‹World.cell? _ _ = some _ ∧ World.cell? _ _ = some _ ∧ World.cell? _ _ = some _ ∧ World.cell? _ _ = some _ ∧ Box w _ _›
  go_wp2_with fail
  refine (cmp_any (hy.below hB.below (Nat.le_refl _)) (hx.below hB.below (Nat.le_refl _))).mono ?_
  rintro e w3 ⟨rfl, hb3⟩
  replace hA00 := cell_on hA00 hb3
  replace hA01 := cell_on hA01 hb3
  replace hA10 := cell_on hA10 hb3
  replace hA11 := cell_on hA11 hb3
  replace hB := hB.on hb3
  clear hb3
  go_wp2_with fail
  go_ret
  rw [HC.out]
  exact ⟨rfl, hB.below⟩

set_option maxHeartbeats 1000000 in
theorem zcmp_pos {p q : Option Addr} {n m c d : Nat} {b b2 : Bool} {xs ys : List Nat} {w : World} (hx : Sl w p n c xs) (hy : Sl w q m d ys) (hn : n ≤ 17592186044416) (hm : m ≤ 17592186044416) (h : (zv b (val xs)).sign = (zv b2 (val ys)).sign) (h0 : 0 ≤ zv b (val xs)) :
    Calls Try.prog 27 #[.agg #[.bool b, .slice p n c], .agg #[.bool b2, .slice q m d]] w (RetInt w (cmpZ (zv b (val xs)) (zv b2 (val ys)))) := by
  have HC : Hid (cmpZ (zv b (val xs)) (zv b2 (val ys)) = cmpN (val xs) (val ys)) := by
    have e1 := sign_cases (zv b (val xs))
    have e2 := sign_cases (zv b2 (val ys))
    exact cmpZ_both_pos h0 (by omega)
  obtain ⟨s1, hs1⟩ : ∃ s, s = (zv b (val xs)).sign := ⟨_, rfl⟩
  have HSX := Lib.hid hs1
  have HSY : Hid (s1 = (zv b2 (val ys)).sign) := by show _ = _; rw [hs1]; exact h
  have h2 : decide (s1 < 0) = false := by
    have e1 := sign_cases (zv b (val xs))
    simp; omega
  clear hs1 h h0
  go_enter Try.func27, Try.ntmps27
  go_wp2_with fail
  obtain ⟨W, hW⟩ : ∃ W : World, W = ((w.alloc (.cells #[.bool b, .slice p n c] 25)).alloc (.cells #[.bool b2, .slice q m d] 25)) := ⟨_, rfl⟩
  rw [← hW]
  have hA00 : W.cell? ⟨w.heap.size, 0, none⟩ = some (.bool b) := by rw [hW]; exact (cell_on (box_c0 (by simp)) (below_alloc _ _))
  have hA01 : W.cell? ⟨w.heap.size, 1, none⟩ = some (.slice p n c) := by rw [hW]; exact (cell_on (box_c1 (by simp)) (below_alloc _ _))
  have hA10 : W.cell? ⟨w.heap.size + 1, 0, none⟩ = some (.bool b2) := by rw [hW]; exact (box_c0 (by simp))
  have hA11 : W.cell? ⟨w.heap.size + 1, 1, none⟩ = some (.slice q m d) := by rw [hW]; exact (box_c1 (by simp))
  have hB : Box w (w.heap.size + 1) W := by rw [hW]; exact ⟨by (try simp) <;> omega, (((Below.refl _ _).alloc (Nat.le_refl _) _).alloc (by (try simp) <;> omega) _)⟩
  clear hW
  go_wp2_with fail
  go_region_held3 (fun w' => w'.cell? ⟨w.heap.size, 0, none⟩ = some (.bool b) ∧ w'.cell? ⟨w.heap.size, 1, none⟩ = some (.slice p n c) ∧ w'.cell? ⟨w.heap.size + 1, 0, none⟩ = some (.bool b2) ∧ w'.cell? ⟨w.heap.size + 1, 1, none⟩ = some (.slice q m d) ∧ Box w (w.heap.size + 1) w')
    (first | exact ⟨by simpa using hA00, by simpa using hA01, by simpa using hA10, by simpa using hA11, hB.drew⟩ | exact ‹World.cell? _ _ = some _ ∧ World.cell? _ _ = some _ ∧ World.cell? _ _ = some _ ∧ World.cell? _ _ = some _ ∧ Box w _ _› | (have hS := ‹World.cell? _ _ = some _ ∧ World.cell? _ _ = some _ ∧ World.cell? _ _ = some _ ∧ World.cell? _ _ = some _ ∧ Box w _ _›; exact ⟨cell_on hS.1 hb1, cell_on hS.2.1 hb1, cell_on hS.2.2.1 hb1, cell_on hS.2.2.2.1 hb1, hS.2.2.2.2.on hb1⟩) | (have hS := ‹World.cell? _ _ = some _ ∧ World.cell? _ _ = some _ ∧ World.cell? _ _ = some _ ∧ World.cell? _ _ = some _ ∧ Box w _ _›; exact ⟨cell_on hS.1 hb2, cell_on hS.2.1 hb2, cell_on hS.2.2.1 hb2, cell_on hS.2.2.2.1 hb2, hS.2.2.2.2.on hb2⟩) | (have hS := ‹World.cell? _ _ = some _ ∧ World.cell? _ _ = some _ ∧ World.cell? _ _ = some _ ∧ World.cell? _ _ = some _ ∧ Box w _ _›; exact ⟨cell_set (cell_set hS.1 (by omega)) (by omega), cell_set (cell_set hS.2.1 (by omega)) (by omega), cell_set (cell_set hS.2.2.1 (by omega)) (by omega), cell_set (cell_set hS.2.2.2.1 (by omega)) (by omega), (hS.2.2.2.2.set (by omega) _ _).set (by omega) _ _⟩))
    (first | (go_at_call 25; have hS := ‹World.cell? _ _ = some _ ∧ World.cell? _ _ = some _ ∧ World.cell? _ _ = some _ ∧ World.cell? _ _ = some _ ∧ Box w _ _›; (with_reducible refine (zsign_of (hx.below hS.2.2.2.2.below (Nat.le_refl _)) hn HSX).mono ?_); rintro e w1 ⟨rfl, hb1⟩; clear hS) | (go_at_call 25; have hS := ‹World.cell? _ _ = some _ ∧ World.cell? _ _ = some _ ∧ World.cell? _ _ = some _ ∧ World.cell? _ _ = some _ ∧ Box w _ _›; (with_reducible refine (zsign_of (hy.below hS.2.2.2.2.below (Nat.le_refl _)) hm HSY).mono ?_); rintro e w2 ⟨rfl, hb2⟩; clear hS))
  obtain ⟨hA00, hA01, hA10, hA11, hB⟩ := ‹World.cell? _ _ = some _ ∧ World.cell? _ _ = some _ ∧ World.cell? _ _ = some _ ∧ World.cell? _ _ = some _ ∧ Box w _ _›
  go_wp2_with fail
  refine (cmp_any (hx.below hB.below (Nat.le_refl _)) (hy.below hB.below (Nat.le_refl _))).mono ?_
  rintro e w3 ⟨rfl, hb3⟩
  replace hA00 := cell_on hA00 hb3
  replace hA01 := cell_on hA01 hb3
  replace hA10 := cell_on hA10 hb3
  replace hA11 := cell_on hA11 hb3
  replace hB := hB.on hb3
  clear hb3
  go_wp2_with fail
  go_ret
  rw [HC.out]
  exact ⟨rfl, hB.below⟩

theorem zcmp_any {p q : Option Addr} {n m c d : Nat} {b b2 : Bool} {xs ys : List Nat} {w : World} (hx : Sl w p n c xs) (hy : Sl w q m d ys) (hn : n ≤ 17592186044416) (hm : m ≤ 17592186044416) :
    Calls Try.prog 27 #[.agg #[.bool b, .slice p n c], .agg #[.bool b2, .slice q m d]] w (RetInt w (cmpZ (zv b (val xs)) (zv b2 (val ys)))) := by
  rcases Int.lt_trichotomy (zv b (val xs)).sign (zv b2 (val ys)).sign with h | h | h
  · exact zcmp_lt hx hy hn hm h
  · rcases Int.lt_or_le (zv b (val xs)) 0 with h0 | h0
    · exact zcmp_neg hx hy hn hm h h0
    · exact zcmp_pos hx hy hn hm h h0
  · exact zcmp_gt hx hy hn hm h

set_option maxHeartbeats 1000000 in
theorem zof_neg {z : Int} {w : World} (h1 : -9223372036854775808 ≤ z) (h2 : z < 0) :
    Calls Try.prog 24 #[.int .i64 z] w (RetZ w z) := by
  go_enter Try.func24, Try.ntmps24
  go_wp2_with fail
  obtain ⟨W, hW⟩ : ∃ W : World, W = (w.alloc (.cells #[.bool false, .slice none 0 0] 25)) := ⟨_, rfl⟩
  rw [← hW]
  have hR0 : Cel (w.heap.size) W := by rw [hW]; exact (Cel.ofAlloc (by simp))
  have hB : Box w (w.heap.size) W := by rw [hW]; exact ⟨by (try simp) <;> omega, ((Below.refl _ _).alloc (Nat.le_refl _) _)⟩
  clear hW
  go_wp2_with fail
  refine (of_any (N := z.natAbs) (by omega) (by omega)).mono ?_
  rintro e w1 ⟨p4, n4, c4, rfl, hf4, hb1⟩
  have hlt1 := hB.lt
  replace hR0 := hR0.on hb1
  replace hB := hB.on hb1
  clear hb1
  go_wp2_with fail
  refine (make1_any).mono ?_
  rintro e w2 ⟨rfl, hb2⟩
  replace hR0 := hR0.on hb2
  replace hB := hB.on hb2
  replace hf4 := hf4.below hb2 (Nat.le_refl _)
  clear hb2
  obtain ⟨⟨u0, hu0⟩, ⟨u1, hu1⟩, hug0, hug1⟩ := hR0
  go_wp2_with fail
  refine bodyPost_ret (v := .agg #[.bool (decide (0 < n4)), .slice p4 n4 c4]) (by simp [results, Try.results24, go_sem, hu0, hu1]) rfl ?_
  exact retZ_box (b := true) hf4 (by omega) (by omega) ((hB.set (by omega) _ _).set (by omega) _ _).below (by rw [zv_true]; omega)

set_option maxHeartbeats 1000000 in
theorem zof_pos {z : Int} {w : World} (h1 : 0 ≤ z) (h2 : z ≤ 9223372036854775807) :
    Calls Try.prog 24 #[.int .i64 z] w (RetZ w z) := by
  have hz : decide (z < 0) = false := by simp; omega
  go_enter Try.func24, Try.ntmps24
  go_wp2_with fail
  obtain ⟨W, hW⟩ : ∃ W : World, W = (w.alloc (.cells #[.bool false, .slice none 0 0] 25)) := ⟨_, rfl⟩
  rw [← hW]
  have hR0 : Cel (w.heap.size) W := by rw [hW]; exact (Cel.ofAlloc (by simp))
  have hB : Box w (w.heap.size) W := by rw [hW]; exact ⟨by (try simp) <;> omega, ((Below.refl _ _).alloc (Nat.le_refl _) _)⟩
  clear hW
  go_wp2_with fail
  refine (of_any (N := z.natAbs) (by omega) (by omega)).mono ?_
  rintro e w1 ⟨p4, n4, c4, rfl, hf4, hb1⟩
  have hlt1 := hB.lt
  replace hR0 := hR0.on hb1
  replace hB := hB.on hb1
  clear hb1
  go_wp2_with fail
  refine (make1_any).mono ?_
  rintro e w2 ⟨rfl, hb2⟩
  replace hR0 := hR0.on hb2
  replace hB := hB.on hb2
  replace hf4 := hf4.below hb2 (Nat.le_refl _)
  clear hb2
  obtain ⟨⟨u0, hu0⟩, ⟨u1, hu1⟩, hug0, hug1⟩ := hR0
  go_wp2_with fail
  refine bodyPost_ret (v := .agg #[.bool false, .slice p4 n4 c4]) (by simp [results, Try.results24, go_sem, hu0, hu1]) rfl ?_
  exact retZ_box (b := false) hf4 (by omega) (by omega) ((hB.set (by omega) _ _).set (by omega) _ _).below (by rw [zv_false]; omega)

theorem zof_any {z : Int} {w : World} (h1 : -9223372036854775808 ≤ z) (h2 : z ≤ 9223372036854775807) :
    Calls Try.prog 24 #[.int .i64 z] w (RetZ w z) := by
  rcases Int.lt_or_le z 0 with h | h
  · exact zof_neg h1 h
  · exact zof_pos h h2

end Go.Proofs.Ytlnilkghbbbhbaa
