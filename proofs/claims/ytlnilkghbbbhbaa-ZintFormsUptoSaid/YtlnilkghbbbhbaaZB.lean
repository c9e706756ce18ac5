
/-
  The walks of zint: Sign, Neg, joined, Add, Sub, Cmp, Of, Trunc.
-/
import Derived.Test.YtlnilkghbbbhbaaZA
namespace Go.Proofs.Ytlnilkghbbbhbaa
open Go.RowKit

set_option maxHeartbeats 1000000 in
theorem zsign_zero {p : Option Addr} {n c : Nat} {b : Bool} {xs : List Nat} {w : World} (hx : Sl w p n c xs) (hn : n ≤ 17592186044416) (h : val xs = 0) :
    Calls Try.prog 25 #[.agg #[.bool b, .slice p n c]] w (RetInt w (0)) := by
  have H : Hid (blen (val xs) = 0) := by show _ = _; rw [h]; rfl
  clear h
  go_enter Try.func25, Try.ntmps25
  go_wp2_with fail
  obtain ⟨W, hW⟩ : ∃ W : World, W = (w.alloc (.cells #[.bool b, .slice p n c] 25)) := ⟨_, rfl⟩
  rw [← hW]
  have hA00 : W.cell? ⟨w.heap.size, 0, none⟩ = some (.bool b) := by rw [hW]; exact (box_c0 (by simp))
  have hA01 : W.cell? ⟨w.heap.size, 1, none⟩ = some (.slice p n c) := by rw [hW]; exact (box_c1 (by simp))
  have hB : Box w (w.heap.size) W := by rw [hW]; exact ⟨by (try simp) <;> omega, ((Below.refl _ _).alloc (Nat.le_refl _) _)⟩
  clear hW
  go_wp2_with fail
  refine (len_any (hx.below hB.below (Nat.le_refl _)) hn).mono ?_
  rw [H.out]
  rintro e w1 ⟨rfl, rfl⟩
  go_wp2_with fail
  go_ret
  exact ⟨rfl, hB.below⟩

set_option maxHeartbeats 1000000 in
theorem zsign_neg {p : Option Addr} {n c : Nat} {xs : List Nat} {w : World} (hx : Sl w p n c xs) (hn : n ≤ 17592186044416) (h : val xs ≠ 0) :
    Calls Try.prog 25 #[.agg #[.bool true, .slice p n c]] w (RetInt w (-1)) := by
  have hb1 := blen_pos h
  have hz : ((blen (val xs) : Int) == 0) = false := by simp; omega
  clear h
  go_enter Try.func25, Try.ntmps25
  go_wp2_with fail
  obtain ⟨W, hW⟩ : ∃ W : World, W = (w.alloc (.cells #[.bool true, .slice p n c] 25)) := ⟨_, rfl⟩
  rw [← hW]
  have hA00 : W.cell? ⟨w.heap.size, 0, none⟩ = some (.bool true) := by rw [hW]; exact (box_c0 (by simp))
  have hA01 : W.cell? ⟨w.heap.size, 1, none⟩ = some (.slice p n c) := by rw [hW]; exact (box_c1 (by simp))
  have hB : Box w (w.heap.size) W := by rw [hW]; exact ⟨by (try simp) <;> omega, ((Below.refl _ _).alloc (Nat.le_refl _) _)⟩
  clear hW
  go_wp2_with fail
  refine (len_any (hx.below hB.below (Nat.le_refl _)) hn).mono ?_
  rintro e w1 ⟨rfl, rfl⟩
  go_wp2_with fail
  go_ret
  exact ⟨rfl, hB.below⟩

set_option maxHeartbeats 1000000 in
theorem zsign_pos {p : Option Addr} {n c : Nat} {xs : List Nat} {w : World} (hx : Sl w p n c xs) (hn : n ≤ 17592186044416) (h : val xs ≠ 0) :
    Calls Try.prog 25 #[.agg #[.bool false, .slice p n c]] w (RetInt w (1)) := by
  have hb1 := blen_pos h
  have hz : ((blen (val xs) : Int) == 0) = false := by simp; omega
  clear h
  go_enter Try.func25, Try.ntmps25
  go_wp2_with fail
  obtain ⟨W, hW⟩ : ∃ W : World, W = (w.alloc (.cells #[.bool false, .slice p n c] 25)) := ⟨_, rfl⟩
  rw [← hW]
  have hA00 : W.cell? ⟨w.heap.size, 0, none⟩ = some (.bool false) := by rw [hW]; exact (box_c0 (by simp))
  have hA01 : W.cell? ⟨w.heap.size, 1, none⟩ = some (.slice p n c) := by rw [hW]; exact (box_c1 (by simp))
  have hB : Box w (w.heap.size) W := by rw [hW]; exact ⟨by (try simp) <;> omega, ((Below.refl _ _).alloc (Nat.le_refl _) _)⟩
  clear hW
  go_wp2_with fail
  refine (len_any (hx.below hB.below (Nat.le_refl _)) hn).mono ?_
  rintro e w1 ⟨rfl, rfl⟩
  go_wp2_with fail
  go_ret
  exact ⟨rfl, hB.below⟩

theorem sign_zv_zero {b : Bool} {n : Nat} (h : n = 0) : (zv b n).sign = 0 := by rw [h, zv_zero]; rfl
theorem sign_zv_neg {n : Nat} (h : n ≠ 0) : (zv true n).sign = -1 := Int.sign_eq_neg_one_of_neg (by rw [zv_true]; omega)
theorem sign_zv_pos {n : Nat} (h : n ≠ 0) : (zv false n).sign = 1 := Int.sign_eq_one_of_pos (by rw [zv_false]; omega)

theorem zsign_any {p : Option Addr} {n c : Nat} {b : Bool} {xs : List Nat} {w : World} (hx : Sl w p n c xs) (hn : n ≤ 17592186044416) :
    Calls Try.prog 25 #[.agg #[.bool b, .slice p n c]] w (RetInt w (zv b (val xs)).sign) := by
  by_cases h : val xs = 0
  · rw [sign_zv_zero h]; exact zsign_zero hx hn h
  · cases b
    · rw [sign_zv_pos h]; exact zsign_pos hx hn h
    · rw [sign_zv_neg h]; exact zsign_neg hx hn h

theorem neg_zv (b : Bool) (N : Nat) : -(zv b N) = zv (decide (0 < zv b N)) N := by
  cases b
  · rcases Nat.eq_zero_or_pos N with h | h
    · subst h; rfl
    · rw [zv_false, decide_eq_true (by omega)]; rfl
  · rw [zv_true, decide_eq_false (by omega), zv_false]; omega

set_option maxHeartbeats 1000000 in
theorem zneg_any {p : Option Addr} {n c : Nat} {b : Bool} {xs : List Nat} {w : World} (hx : Sl w p n c xs) (hn : n ≤ 17592186044416) :
    Calls Try.prog 28 #[.agg #[.bool b, .slice p n c]] w (RetZ w (-(zv b (val xs)))) := by
  go_enter Try.func28, Try.ntmps28
  go_wp2_with fail
  obtain ⟨W, hW⟩ : ∃ W : World, W = ((w.alloc (.cells #[.bool b, .slice p n c] 25)).alloc (.cells #[.bool false, .slice none 0 0] 25)) := ⟨_, rfl⟩
  rw [← hW]
  have hA00 : W.cell? ⟨w.heap.size, 0, none⟩ = some (.bool b) := by rw [hW]; exact (cell_on (box_c0 (by simp)) (below_alloc _ _))
  have hA01 : W.cell? ⟨w.heap.size, 1, none⟩ = some (.slice p n c) := by rw [hW]; exact (cell_on (box_c1 (by simp)) (below_alloc _ _))
  have hR0 : Cel (w.heap.size + 1) W := by rw [hW]; exact (Cel.ofAlloc (by simp))
  have hB : Box w (w.heap.size + 1) W := by rw [hW]; exact ⟨by (try simp) <;> omega, (((Below.refl _ _).alloc (Nat.le_refl _) _).alloc (by (try simp) <;> omega) _)⟩
  clear hW
  go_wp2_with fail
  go_region_held3 (fun w' => w'.cell? ⟨w.heap.size, 0, none⟩ = some (.bool b) ∧ w'.cell? ⟨w.heap.size, 1, none⟩ = some (.slice p n c) ∧ Cel (w.heap.size + 1) w' ∧ Box w (w.heap.size + 1) w')
    (first | exact ⟨by simpa using hA00, by simpa using hA01, hR0.drew, hB.drew⟩ | (have hS := ‹World.cell? _ _ = some _ ∧ World.cell? _ _ = some _ ∧ Cel _ _ ∧ Box w _ _›; exact ⟨cell_on hS.1 hb1, cell_on hS.2.1 hb1, hS.2.2.1.on hb1, hS.2.2.2.on hb1⟩) | (have hS := ‹World.cell? _ _ = some _ ∧ World.cell? _ _ = some _ ∧ Cel _ _ ∧ Box w _ _›; exact ⟨cell_on hS.1 hb2, cell_on hS.2.1 hb2, hS.2.2.1.on hb2, hS.2.2.2.on hb2⟩) | (have hS := ‹World.cell? _ _ = some _ ∧ World.cell? _ _ = some _ ∧ Cel _ _ ∧ Box w _ _›; exact ⟨cell_on hS.1 hb3, cell_on hS.2.1 hb3, hS.2.2.1.on hb3, hS.2.2.2.on hb3⟩) | (have hS := ‹World.cell? _ _ = some _ ∧ World.cell? _ _ = some _ ∧ Cel _ _ ∧ Box w _ _›; exact ⟨cell_set (cell_set hS.1 (by omega)) (by omega), cell_set (cell_set hS.2.1 (by omega)) (by omega), (hS.2.2.1.set _ _ _).set _ _ _, (hS.2.2.2.set (by omega) _ _).set (by omega) _ _⟩))
    (first | (go_at_call 25; have hS := ‹World.cell? _ _ = some _ ∧ World.cell? _ _ = some _ ∧ Cel _ _ ∧ Box w _ _›; refine (zsign_any (hx.below hS.2.2.2.below (Nat.le_refl _)) hn).mono ?_; rintro e w1 ⟨rfl, hb1⟩; clear hS) | (go_at_call 70; have hS := ‹World.cell? _ _ = some _ ∧ World.cell? _ _ = some _ ∧ Cel _ _ ∧ Box w _ _›; refine (nnorm_any (hx.below hS.2.2.2.below (Nat.le_refl _)) hn).mono ?_; rintro e w2 ⟨p4, n4, c4, rfl, hf4, hb2⟩; have hlt2 := hS.2.2.2.lt; clear hS) | (go_at_call 58; have hS := ‹World.cell? _ _ = some _ ∧ World.cell? _ _ = some _ ∧ Cel _ _ ∧ Box w _ _›; refine (make1_any).mono ?_; rintro e w3 ⟨rfl, hb3⟩; replace hf4 := hf4.below hb3 (Nat.le_refl _); obtain ⟨⟨u0, hu0⟩, ⟨u1, hu1⟩, hug0, hug1⟩ := (hS.2.2.1).on hb3; clear hS))
  obtain ⟨hA00, hA01, hR0, hB⟩ := ‹World.cell? _ _ = some _ ∧ World.cell? _ _ = some _ ∧ Cel _ _ ∧ Box w _ _›
  go_wp2_with fail
  refine bodyPost_ret (v := .agg #[.bool (decide (0 < zv b (val xs)) && decide (0 < n4)), .slice p4 n4 c4]) (by simp [results, Try.results28, go_sem, hu0, hu1]) rfl ?_
  exact retZ_box hf4 (by omega) (by omega) hB.below (neg_zv _ _)

set_option maxHeartbeats 1000000 in
theorem joined_ge {p q : Option Addr} {n m c d : Nat} {b b2 : Bool} {xs ys : List Nat} {w : World} (hx : Sl w p n c xs) (hy : Sl w q m d ys) (hn : n ≤ 4398046511104) (hm : m ≤ 4398046511104) (hs : b ≠ b2) (h : val ys ≤ val xs) :
    Calls Try.prog 60 #[.agg #[.bool b, .slice p n c], .agg #[.bool b2, .slice q m d]] w (RetZ w (zv b (val xs) + zv b2 (val ys))) := by
  have HC := Lib.hid h
  clear h
  have HS := Lib.hid hs
  clear hs
  go_enter Try.func60, Try.ntmps60
  go_wp2_with fail
  obtain ⟨W, hW⟩ : ∃ W : World, W = (((w.alloc (.cells #[.bool b, .slice p n c] 25)).alloc (.cells #[.bool b2, .slice q m d] 25)).alloc (.cells #[.bool false, .slice none 0 0] 25)) := ⟨_, rfl⟩
  rw [← hW]
  have hA00 : W.cell? ⟨w.heap.size, 0, none⟩ = some (.bool b) := by rw [hW]; exact (cell_on (cell_on (box_c0 (by simp)) (below_alloc _ _)) (below_alloc _ _))
  have hA01 : W.cell? ⟨w.heap.size, 1, none⟩ = some (.slice p n c) := by rw [hW]; exact (cell_on (cell_on (box_c1 (by simp)) (below_alloc _ _)) (below_alloc _ _))
  have hA10 : W.cell? ⟨w.heap.size + 1, 0, none⟩ = some (.bool b2) := by rw [hW]; exact (cell_on (box_c0 (by simp)) (below_alloc _ _))
  have hA11 : W.cell? ⟨w.heap.size + 1, 1, none⟩ = some (.slice q m d) := by rw [hW]; exact (cell_on (box_c1 (by simp)) (below_alloc _ _))
  have hR0 : Cel (w.heap.size + 2) W := by rw [hW]; exact (Cel.ofAlloc (by simp))
  have hB : Box w (w.heap.size + 2) W := by rw [hW]; exact ⟨by (try simp) <;> omega, ((((Below.refl _ _).alloc (Nat.le_refl _) _).alloc (by (try simp) <;> omega) _).alloc (by (try simp) <;> omega) _)⟩
  clear hW
  go_wp2_with fail
  refine (cmp_any (hx.below hB.below (Nat.le_refl _)) (hy.below hB.below (Nat.le_refl _))).mono ?_
  obtain ⟨cc, hcc, hcc0⟩ : ∃ cc : Int, cmpN (val xs) (val ys) = cc ∧ 0 ≤ cc := ⟨_, rfl, cmpN_not_below HC.out⟩
  rw [hcc]
  have hz8 : decide (cc < (0 : Int)) = false := by simp; omega
  clear hcc
  rintro e w1 ⟨rfl, hb1⟩
  replace hA00 := cell_on hA00 hb1
  replace hA01 := cell_on hA01 hb1
  replace hA10 := cell_on hA10 hb1
  replace hA11 := cell_on hA11 hb1
  replace hR0 := hR0.on hb1
  replace hB := hB.on hb1
  clear hb1
  go_wp2_with fail
  refine (sub_yes (hx.below hB.below (Nat.le_refl _)) (hy.below hB.below (Nat.le_refl _)) (by omega) (by omega) HC.out).mono ?_
  rintro e w2 ⟨p4, n4, c4, rfl, hf4, hb2⟩
  have hlt2 := hB.lt
  replace hA00 := cell_on hA00 hb2
  replace hA01 := cell_on hA01 hb2
  replace hA10 := cell_on hA10 hb2
  replace hA11 := cell_on hA11 hb2
  replace hR0 := hR0.on hb2
  replace hB := hB.on hb2
  clear hb2
  go_wp2_with fail
  refine (make1_any).mono ?_
  rintro e w3 ⟨rfl, hb3⟩
  replace hA00 := cell_on hA00 hb3
  replace hA01 := cell_on hA01 hb3
  replace hA10 := cell_on hA10 hb3
  replace hA11 := cell_on hA11 hb3
  replace hR0 := hR0.on hb3
  replace hB := hB.on hb3
  replace hf4 := hf4.below hb3 (Nat.le_refl _)
  clear hb3
  obtain ⟨⟨u0, hu0⟩, ⟨u1, hu1⟩, hug0, hug1⟩ := hR0
  go_wp2_with fail
  refine bodyPost_ret (v := .agg #[.bool (b && decide (0 < n4)), .slice p4 n4 c4]) (by simp [results, Try.results60, go_sem, hu0, hu1]) rfl ?_
  exact retZ_box hf4 (by omega) (by omega) ((hB.set (by omega) _ _).set (by omega) _ _).below (zv_add_le HS.out HC.out).symm

set_option maxHeartbeats 1000000 in
theorem joined_lt {p q : Option Addr} {n m c d : Nat} {b b2 : Bool} {xs ys : List Nat} {w : World} (hx : Sl w p n c xs) (hy : Sl w q m d ys) (hn : n ≤ 4398046511104) (hm : m ≤ 4398046511104) (hs : b ≠ b2) (h : val xs < val ys) :
    Calls Try.prog 60 #[.agg #[.bool b, .slice p n c], .agg #[.bool b2, .slice q m d]] w (RetZ w (zv b (val xs) + zv b2 (val ys))) := by
  have HC := Lib.hid h
  clear h
  have HS := Lib.hid hs
  clear hs
  go_enter Try.func60, Try.ntmps60
  go_wp2_with fail
  obtain ⟨W, hW⟩ : ∃ W : World, W = (((w.alloc (.cells #[.bool b, .slice p n c] 25)).alloc (.cells #[.bool b2, .slice q m d] 25)).alloc (.cells #[.bool false, .slice none 0 0] 25)) := ⟨_, rfl⟩
  rw [← hW]
  have hA00 : W.cell? ⟨w.heap.size, 0, none⟩ = some (.bool b) := by rw [hW]; exact (cell_on (cell_on (box_c0 (by simp)) (below_alloc _ _)) (below_alloc _ _))
  have hA01 : W.cell? ⟨w.heap.size, 1, none⟩ = some (.slice p n c) := by rw [hW]; exact (cell_on (cell_on (box_c1 (by simp)) (below_alloc _ _)) (below_alloc _ _))
  have hA10 : W.cell? ⟨w.heap.size + 1, 0, none⟩ = some (.bool b2) := by rw [hW]; exact (cell_on (box_c0 (by simp)) (below_alloc _ _))
  have hA11 : W.cell? ⟨w.heap.size + 1, 1, none⟩ = some (.slice q m d) := by rw [hW]; exact (cell_on (box_c1 (by simp)) (below_alloc _ _))
  have hF00 : W.frozen? ⟨w.heap.size, 0, none⟩ = false := by rw [hW]; exact (((Cel.ofAlloc (by simp)).on (below_alloc _ _)).on (below_alloc _ _)).f0
  have hF01 : W.frozen? ⟨w.heap.size, 1, none⟩ = false := by rw [hW]; exact (((Cel.ofAlloc (by simp)).on (below_alloc _ _)).on (below_alloc _ _)).f1
  have hF10 : W.frozen? ⟨w.heap.size + 1, 0, none⟩ = false := by rw [hW]; exact ((Cel.ofAlloc (by simp)).on (below_alloc _ _)).f0
  have hF11 : W.frozen? ⟨w.heap.size + 1, 1, none⟩ = false := by rw [hW]; exact ((Cel.ofAlloc (by simp)).on (below_alloc _ _)).f1
  have hR0 : Cel (w.heap.size + 2) W := by rw [hW]; exact (Cel.ofAlloc (by simp))
  have hB : Box w (w.heap.size + 2) W := by rw [hW]; exact ⟨by (try simp) <;> omega, ((((Below.refl _ _).alloc (Nat.le_refl _) _).alloc (by (try simp) <;> omega) _).alloc (by (try simp) <;> omega) _)⟩
  clear hW
  go_wp2_with fail
  refine (cmp_any (hx.below hB.below (Nat.le_refl _)) (hy.below hB.below (Nat.le_refl _))).mono ?_
  obtain ⟨cc, hcc, hcc0⟩ : ∃ cc : Int, cmpN (val xs) (val ys) = cc ∧ cc < 0 := ⟨_, rfl, cmpN_below HC.out⟩
  rw [hcc]
  have hz8 : decide (cc < (0 : Int)) = true := by simp; omega
  clear hcc
  rintro e w1 ⟨rfl, hb1⟩
  replace hF00 := frozen_on hA00 hF00 hb1
  replace hF01 := frozen_on hA01 hF01 hb1
  replace hF10 := frozen_on hA10 hF10 hb1
  replace hF11 := frozen_on hA11 hF11 hb1
  replace hA00 := cell_on hA00 hb1
  replace hA01 := cell_on hA01 hb1
  replace hA10 := cell_on hA10 hb1
  replace hA11 := cell_on hA11 hb1
  replace hR0 := hR0.on hb1
  replace hB := hB.on hb1
  clear hb1
  go_wp2_with fail
  obtain ⟨W2, hW⟩ : ∃ W2 : World, W2 = ((((w1.setCell ⟨w.heap.size, 0, none⟩ (.bool b2)).setCell ⟨w.heap.size, 1, none⟩ (.slice q m d)).setCell ⟨w.heap.size + 1, 0, none⟩ (.bool b)).setCell ⟨w.heap.size + 1, 1, none⟩ (.slice p n c)) := ⟨_, rfl⟩
  rw [← hW]
  have qhA00 : W2.cell? ⟨w.heap.size, 0, none⟩ = some (.bool b2) := by rw [hW]; exact cell_set (cell_set (cell_idx (cell_same hA00) (by decide)) (by omega)) (by omega)
  have qhA01 : W2.cell? ⟨w.heap.size, 1, none⟩ = some (.slice q m d) := by rw [hW]; exact cell_set (cell_set (cell_same (cell_idx hA01 (by decide))) (by omega)) (by omega)
  have qhA10 : W2.cell? ⟨w.heap.size + 1, 0, none⟩ = some (.bool b) := by rw [hW]; exact cell_idx (cell_same (cell_set (cell_set hA10 (by omega)) (by omega))) (by decide)
  have qhA11 : W2.cell? ⟨w.heap.size + 1, 1, none⟩ = some (.slice p n c) := by rw [hW]; exact cell_same (cell_idx (cell_set (cell_set hA11 (by omega)) (by omega)) (by decide))
  have qhF00 : W2.frozen? ⟨w.heap.size, 0, none⟩ = false := by rw [hW]; simp only [World.frozen?_setCell]; exact hF00
  have qhF01 : W2.frozen? ⟨w.heap.size, 1, none⟩ = false := by rw [hW]; simp only [World.frozen?_setCell]; exact hF01
  have qhF10 : W2.frozen? ⟨w.heap.size + 1, 0, none⟩ = false := by rw [hW]; simp only [World.frozen?_setCell]; exact hF10
  have qhF11 : W2.frozen? ⟨w.heap.size + 1, 1, none⟩ = false := by rw [hW]; simp only [World.frozen?_setCell]; exact hF11
  have qhR0 : Cel (w.heap.size + 2) W2 := by rw [hW]; exact (((hR0.set _ _ _).set _ _ _).set _ _ _).set _ _ _
  have qhB : Box w (w.heap.size + 2) W2 := by rw [hW]; exact (((hB.set (by omega) _ _).set (by omega) _ _).set (by omega) _ _).set (by omega) _ _
  clear hW hA00 hA01 hA10 hA11 hF00 hF01 hF10 hF11 hR0 hB
  have hA00 := qhA00
  have hA01 := qhA01
  have hA10 := qhA10
  have hA11 := qhA11
  have hF00 := qhF00
  have hF01 := qhF01
  have hF10 := qhF10
  have hF11 := qhF11
  have hR0 := qhR0
  have hB := qhB
  clear qhA00 qhA01 qhA10 qhA11 qhF00 qhF01 qhF10 qhF11 qhR0 qhB
  go_wp2_with fail
  refine (sub_yes (hy.below hB.below (Nat.le_refl _)) (hx.below hB.below (Nat.le_refl _)) (by omega) (by omega) (Nat.le_of_lt HC.out)).mono ?_
  rintro e w2 ⟨p4, n4, c4, rfl, hf4, hb2⟩
  have hlt2 := hB.lt
  replace hF00 := frozen_on hA00 hF00 hb2
  replace hF01 := frozen_on hA01 hF01 hb2
  replace hF10 := frozen_on hA10 hF10 hb2
  replace hF11 := frozen_on hA11 hF11 hb2
  replace hA00 := cell_on hA00 hb2
  replace hA01 := cell_on hA01 hb2
  replace hA10 := cell_on hA10 hb2
  replace hA11 := cell_on hA11 hb2
  replace hR0 := hR0.on hb2
  replace hB := hB.on hb2
  clear hb2
  go_wp2_with fail
  refine (make1_any).mono ?_
  rintro e w3 ⟨rfl, hb3⟩
  replace hF00 := frozen_on hA00 hF00 hb3
  replace hF01 := frozen_on hA01 hF01 hb3
  replace hF10 := frozen_on hA10 hF10 hb3
  replace hF11 := frozen_on hA11 hF11 hb3
  replace hA00 := cell_on hA00 hb3
  replace hA01 := cell_on hA01 hb3
  replace hA10 := cell_on hA10 hb3
  replace hA11 := cell_on hA11 hb3
  replace hR0 := hR0.on hb3
  replace hB := hB.on hb3
  replace hf4 := hf4.below hb3 (Nat.le_refl _)
  clear hb3
  obtain ⟨⟨u0, hu0⟩, ⟨u1, hu1⟩, hug0, hug1⟩ := hR0
  go_wp2_with fail
  refine bodyPost_ret (v := .agg #[.bool (b2 && decide (0 < n4)), .slice p4 n4 c4]) (by simp [results, Try.results60, go_sem, hu0, hu1]) rfl ?_
  exact retZ_box hf4 (by omega) (by omega) ((hB.set (by omega) _ _).set (by omega) _ _).below (zv_add_lt HS.out (Nat.le_of_lt HC.out)).symm

theorem joined_any {p q : Option Addr} {n m c d : Nat} {b b2 : Bool} {xs ys : List Nat} {w : World} (hx : Sl w p n c xs) (hy : Sl w q m d ys) (hn : n ≤ 4398046511104) (hm : m ≤ 4398046511104) (hs : b ≠ b2) :
    Calls Try.prog 60 #[.agg #[.bool b, .slice p n c], .agg #[.bool b2, .slice q m d]] w (RetZ w (zv b (val xs) + zv b2 (val ys))) := by
  rcases Nat.lt_or_ge (val xs) (val ys) with h | h
  · exact joined_lt hx hy hn hm hs h
  · exact joined_ge hx hy hn hm hs h

end Go.Proofs.Ytlnilkghbbbhbaa
