
/-
  The walks of simileref03: Norm, Abs, Neg, Sign, Mul, Same, Of.
-/
import Derived.Test.YtlnilkghbbbhbaaZD
import Derived.Test.YtlnilkghbbbhbaaRefF
namespace Go.Proofs.Ytlnilkghbbbhbaa
open Go.RowKit

set_option maxHeartbeats 1000000 in
theorem qnorm_t {p : Option Addr} {n c : Nat} {xs : List Nat} {w : World} (hx : Sl w p n c xs) (hn : n ≤ 17592186044416) :
    Calls Try.prog 22 #[.agg #[.bool true, .slice p n c]] w (RetZ w (zv true (val xs))) := by
  go_enter Try.func22, Try.ntmps22
  go_wp2_with fail
  obtain ⟨W, hW⟩ : ∃ W : World, W = ((w.alloc (.cells #[.bool true, .slice p n c] 25)).alloc (.cells #[.bool false, .slice none 0 0] 25)) := ⟨_, rfl⟩
  rw [← hW]
  have hA00 : W.cell? ⟨w.heap.size, 0, none⟩ = some (.bool true) := by rw [hW]; exact (cell_on (box_c0 (by simp)) (below_alloc _ _))
  have hA01 : W.cell? ⟨w.heap.size, 1, none⟩ = some (.slice p n c) := by rw [hW]; exact (cell_on (box_c1 (by simp)) (below_alloc _ _))
  have hR0 : Cel (w.heap.size + 1) W := by rw [hW]; exact (Cel.ofAlloc (by simp))
  have hB : Box w (w.heap.size + 1) W := by rw [hW]; exact ⟨by (try simp) <;> omega, (((Below.refl _ _).alloc (Nat.le_refl _) _).alloc (by (try simp) <;> omega) _)⟩
  clear hW
  go_wp2_with fail
  refine (rnorm_any (hx.below hB.below (Nat.le_refl _)) hn).mono ?_
  rintro e w1 ⟨p4, n4, c4, rfl, hf4, hb1⟩
  have hlt1 := hB.lt
  replace hA00 := cell_on hA00 hb1
  replace hA01 := cell_on hA01 hb1
  replace hR0 := hR0.on hb1
  replace hB := hB.on hb1
  clear hb1
  obtain ⟨⟨u0, hu0⟩, ⟨u1, hu1⟩, hug0, hug1⟩ := hR0
  go_wp2_with fail
  refine bodyPost_ret (v := .agg #[.bool (decide (0 < n4)), .slice p4 n4 c4]) (by simp [results, Try.results22, go_sem, hu0, hu1]) rfl ?_
  exact retZ_box (b := true) hf4 (by omega) (by omega) ((hB.set (by omega) _ _).set (by omega) _ _).below rfl

set_option maxHeartbeats 1000000 in
theorem qnorm_f {p : Option Addr} {n c : Nat} {xs : List Nat} {w : World} (hx : Sl w p n c xs) (hn : n ≤ 17592186044416) :
    Calls Try.prog 22 #[.agg #[.bool false, .slice p n c]] w (RetZ w (zv false (val xs))) := by
  go_enter Try.func22, Try.ntmps22
  go_wp2_with fail
  obtain ⟨W, hW⟩ : ∃ W : World, W = ((w.alloc (.cells #[.bool false, .slice p n c] 25)).alloc (.cells #[.bool false, .slice none 0 0] 25)) := ⟨_, rfl⟩
  rw [← hW]
  have hA00 : W.cell? ⟨w.heap.size, 0, none⟩ = some (.bool false) := by rw [hW]; exact (cell_on (box_c0 (by simp)) (below_alloc _ _))
  have hA01 : W.cell? ⟨w.heap.size, 1, none⟩ = some (.slice p n c) := by rw [hW]; exact (cell_on (box_c1 (by simp)) (below_alloc _ _))
  have hR0 : Cel (w.heap.size + 1) W := by rw [hW]; exact (Cel.ofAlloc (by simp))
  have hB : Box w (w.heap.size + 1) W := by rw [hW]; exact ⟨by (try simp) <;> omega, (((Below.refl _ _).alloc (Nat.le_refl _) _).alloc (by (try simp) <;> omega) _)⟩
  clear hW
  go_wp2_with fail
  refine (rnorm_any (hx.below hB.below (Nat.le_refl _)) hn).mono ?_
  rintro e w1 ⟨p4, n4, c4, rfl, hf4, hb1⟩
  have hlt1 := hB.lt
  replace hA00 := cell_on hA00 hb1
  replace hA01 := cell_on hA01 hb1
  replace hR0 := hR0.on hb1
  replace hB := hB.on hb1
  clear hb1
  obtain ⟨⟨u0, hu0⟩, ⟨u1, hu1⟩, hug0, hug1⟩ := hR0
  go_wp2_with fail
  refine bodyPost_ret (v := .agg #[.bool false, .slice p4 n4 c4]) (by simp [results, Try.results22, go_sem, hu0, hu1]) rfl ?_
  exact retZ_box (b := false) hf4 (by omega) (by omega) ((hB.set (by omega) _ _).set (by omega) _ _).below rfl

theorem qnorm_any {p : Option Addr} {n c : Nat} {b : Bool} {xs : List Nat} {w : World} (hx : Sl w p n c xs) (hn : n ≤ 17592186044416) :
    Calls Try.prog 22 #[.agg #[.bool b, .slice p n c]] w (RetZ w (zv b (val xs))) := by
  cases b
  · exact qnorm_f hx hn
  · exact qnorm_t hx hn

theorem qnorm_of {z : Int} {p : Option Addr} {n c : Nat} {b : Bool} {xs : List Nat} {w : World} (hx : Sl w p n c xs) (hn : n ≤ 17592186044416) (hz : Hid (zv b (val xs) = z)) :
    Calls Try.prog 22 #[.agg #[.bool b, .slice p n c]] w (RetZ w z) := by
  rw [← hz.out]; exact qnorm_any hx hn

set_option maxHeartbeats 1000000 in
theorem qabs_any {p : Option Addr} {n c : Nat} {b : Bool} {xs : List Nat} {w : World} (hx : Sl w p n c xs) (hn : n ≤ 17592186044416) :
    Calls Try.prog 31 #[.agg #[.bool b, .slice p n c]] w (RetZ w ((zv b (val xs)).natAbs : Int)) := by
  go_enter Try.func31, Try.ntmps31
  go_wp2_with fail
  obtain ⟨W, hW⟩ : ∃ W : World, W = ((w.alloc (.cells #[.bool b, .slice p n c] 25)).alloc (.cells #[.bool false, .slice none 0 0] 25)) := ⟨_, rfl⟩
  rw [← hW]
  have hA00 : W.cell? ⟨w.heap.size, 0, none⟩ = some (.bool b) := by rw [hW]; exact (cell_on (box_c0 (by simp)) (below_alloc _ _))
  have hA01 : W.cell? ⟨w.heap.size, 1, none⟩ = some (.slice p n c) := by rw [hW]; exact (cell_on (box_c1 (by simp)) (below_alloc _ _))
  have hR0 : Cel (w.heap.size + 1) W := by rw [hW]; exact (Cel.ofAlloc (by simp))
  have hB : Box w (w.heap.size + 1) W := by rw [hW]; exact ⟨by (try simp) <;> omega, (((Below.refl _ _).alloc (Nat.le_refl _) _).alloc (by (try simp) <;> omega) _)⟩
  clear hW
  go_wp2_with fail
  refine (rnorm_any (hx.below hB.below (Nat.le_refl _)) hn).mono ?_
  rintro e w1 ⟨p4, n4, c4, rfl, hf4, hb1⟩
  have hlt1 := hB.lt
  replace hA00 := cell_on hA00 hb1
  replace hA01 := cell_on hA01 hb1
  replace hR0 := hR0.on hb1
  replace hB := hB.on hb1
  clear hb1
  obtain ⟨⟨u0, hu0⟩, ⟨u1, hu1⟩, hug0, hug1⟩ := hR0
  go_wp2_with fail
  refine bodyPost_ret (v := .agg #[.bool false, .slice p4 n4 c4]) (by simp [results, Try.results31, go_sem, hu0, hu1]) rfl ?_
  exact retZ_box (b := false) hf4 (by omega) (by omega) ((hB.set (by omega) _ _).set (by omega) _ _).below (by rw [natAbs_zv]; rfl)

set_option maxHeartbeats 1000000 in
theorem qneg_any {p : Option Addr} {n c : Nat} {b : Bool} {xs : List Nat} {w : World} (hx : Sl w p n c xs) (hn : n ≤ 17592186044416) :
    Calls Try.prog 29 #[.agg #[.bool b, .slice p n c]] w (RetZ w (-(zv b (val xs)))) := by
  go_enter Try.func29, Try.ntmps29
  go_wp2_with fail
  obtain ⟨W, hW⟩ : ∃ W : World, W = ((w.alloc (.cells #[.bool b, .slice p n c] 25)).alloc (.cells #[.bool false, .slice none 0 0] 25)) := ⟨_, rfl⟩
  rw [← hW]
  have hA00 : W.cell? ⟨w.heap.size, 0, none⟩ = some (.bool b) := by rw [hW]; exact (cell_on (box_c0 (by simp)) (below_alloc _ _))
  have hA01 : W.cell? ⟨w.heap.size, 1, none⟩ = some (.slice p n c) := by rw [hW]; exact (cell_on (box_c1 (by simp)) (below_alloc _ _))
  have hR0 : Cel (w.heap.size + 1) W := by rw [hW]; exact (Cel.ofAlloc (by simp))
  have hB : Box w (w.heap.size + 1) W := by rw [hW]; exact ⟨by (try simp) <;> omega, (((Below.refl _ _).alloc (Nat.le_refl _) _).alloc (by (try simp) <;> omega) _)⟩
  clear hW
  go_wp2_with fail
  refine (qnorm_of (z := -(zv b (val xs))) (b := !b) (hx.below hB.below (Nat.le_refl _)) hn (zv_neg b (val xs))).mono ?_
  rintro e w1 ⟨p4, n4, c4, rfl, hf4, hb1⟩
  have hlt1 := hB.lt
  replace hA00 := cell_on hA00 hb1
  replace hA01 := cell_on hA01 hb1
  replace hR0 := hR0.on hb1
  replace hB := hB.on hb1
  clear hb1
  obtain ⟨⟨u0, hu0⟩, ⟨u1, hu1⟩, hug0, hug1⟩ := hR0
  go_wp2_with fail
  refine bodyPost_ret (v := .agg #[.bool (ng (-(zv b (val xs)))), .slice p4 n4 c4]) (by simp [results, Try.results29, go_sem, hu0, hu1]) rfl ?_
  exact retZ_cp hf4 (by omega) (by omega) ((hB.set (by omega) _ _).set (by omega) _ _).below

set_option maxHeartbeats 1000000 in
theorem qsign_zero {p : Option Addr} {n c : Nat} {b : Bool} {xs : List Nat} {w : World} (hx : Sl w p n c xs) (h : val xs = 0) :
    Calls Try.prog 26 #[.agg #[.bool b, .slice p n c]] w (RetInt w (0)) := by
  have H := Lib.hid h
  clear h
  go_enter Try.func26, Try.ntmps26
  go_wp2_with fail
  obtain ⟨W, hW⟩ : ∃ W : World, W = (w.alloc (.cells #[.bool b, .slice p n c] 25)) := ⟨_, rfl⟩
  rw [← hW]
  have hA00 : W.cell? ⟨w.heap.size, 0, none⟩ = some (.bool b) := by rw [hW]; exact (box_c0 (by simp))
  have hA01 : W.cell? ⟨w.heap.size, 1, none⟩ = some (.slice p n c) := by rw [hW]; exact (box_c1 (by simp))
  have hB : Box w (w.heap.size) W := by rw [hW]; exact ⟨by (try simp) <;> omega, ((Below.refl _ _).alloc (Nat.le_refl _) _)⟩
  clear hW
  go_wp2_with fail
  refine (zero_yes (hx.below hB.below (Nat.le_refl _)) H.out).mono ?_
  rintro e w1 ⟨rfl, hb1⟩
  replace hA00 := cell_on hA00 hb1
  replace hA01 := cell_on hA01 hb1
  replace hB := hB.on hb1
  clear hb1
  go_wp2_with fail
  go_ret
  exact ⟨rfl, hB.below⟩

set_option maxHeartbeats 1000000 in
theorem qsign_neg {p : Option Addr} {n c : Nat} {xs : List Nat} {w : World} (hx : Sl w p n c xs) (h : val xs ≠ 0) :
    Calls Try.prog 26 #[.agg #[.bool true, .slice p n c]] w (RetInt w (-1)) := by
  have H := Lib.hid h
  clear h
  go_enter Try.func26, Try.ntmps26
  go_wp2_with fail
  obtain ⟨W, hW⟩ : ∃ W : World, W = (w.alloc (.cells #[.bool true, .slice p n c] 25)) := ⟨_, rfl⟩
  rw [← hW]
  have hA00 : W.cell? ⟨w.heap.size, 0, none⟩ = some (.bool true) := by rw [hW]; exact (box_c0 (by simp))
  have hA01 : W.cell? ⟨w.heap.size, 1, none⟩ = some (.slice p n c) := by rw [hW]; exact (box_c1 (by simp))
  have hB : Box w (w.heap.size) W := by rw [hW]; exact ⟨by (try simp) <;> omega, ((Below.refl _ _).alloc (Nat.le_refl _) _)⟩
  clear hW
  go_wp2_with fail
  refine (zero_no (hx.below hB.below (Nat.le_refl _)) H.out).mono ?_
  rintro e w1 ⟨rfl, hb1⟩
  replace hA00 := cell_on hA00 hb1
  replace hA01 := cell_on hA01 hb1
  replace hB := hB.on hb1
  clear hb1
  go_wp2_with fail
  go_ret
  exact ⟨rfl, hB.below⟩

set_option maxHeartbeats 1000000 in
theorem qsign_pos {p : Option Addr} {n c : Nat} {xs : List Nat} {w : World} (hx : Sl w p n c xs) (h : val xs ≠ 0) :
    Calls Try.prog 26 #[.agg #[.bool false, .slice p n c]] w (RetInt w (1)) := by
  have H := Lib.hid h
  clear h
  go_enter Try.func26, Try.ntmps26
  go_wp2_with fail
  obtain ⟨W, hW⟩ : ∃ W : World, W = (w.alloc (.cells #[.bool false, .slice p n c] 25)) := ⟨_, rfl⟩
  rw [← hW]
  have hA00 : W.cell? ⟨w.heap.size, 0, none⟩ = some (.bool false) := by rw [hW]; exact (box_c0 (by simp))
  have hA01 : W.cell? ⟨w.heap.size, 1, none⟩ = some (.slice p n c) := by rw [hW]; exact (box_c1 (by simp))
  have hB : Box w (w.heap.size) W := by rw [hW]; exact ⟨by (try simp) <;> omega, ((Below.refl _ _).alloc (Nat.le_refl _) _)⟩
  clear hW
  go_wp2_with fail
  refine (zero_no (hx.below hB.below (Nat.le_refl _)) H.out).mono ?_
  rintro e w1 ⟨rfl, hb1⟩
  replace hA00 := cell_on hA00 hb1
  replace hA01 := cell_on hA01 hb1
  replace hB := hB.on hb1
  clear hb1
  go_wp2_with fail
  go_ret
  exact ⟨rfl, hB.below⟩

theorem qsign_any {p : Option Addr} {n c : Nat} {b : Bool} {xs : List Nat} {w : World} (hx : Sl w p n c xs) :
    Calls Try.prog 26 #[.agg #[.bool b, .slice p n c]] w (RetInt w (zv b (val xs)).sign) := by
  by_cases h : val xs = 0
  · rw [sign_zv_zero h]; exact qsign_zero hx h
  · cases b
    · rw [sign_zv_pos h]; exact qsign_pos hx h
    · rw [sign_zv_neg h]; exact qsign_neg hx h

theorem qsign_of {s : Int} {p : Option Addr} {n c : Nat} {b : Bool} {xs : List Nat} {w : World} (hx : Sl w p n c xs) (hs : Hid (s = (zv b (val xs)).sign)) :
    Calls Try.prog 26 #[.agg #[.bool b, .slice p n c]] w (RetInt w s) := by
  rw [hs.out]; exact qsign_any hx

set_option maxHeartbeats 1000000 in
theorem qmul_any {p q : Option Addr} {n m c d : Nat} {b b2 : Bool} {xs ys : List Nat} {w : World} (hx : Sl w p n c xs) (hy : Sl w q m d ys) (hn : n ≤ 1099511627776) (hm : m ≤ 1099511627776) :
    Calls Try.prog 17 #[.agg #[.bool b, .slice p n c], .agg #[.bool b2, .slice q m d]] w (RetZ w (zv b (val xs) * zv b2 (val ys))) := by
  have HE : Hid (zv (!(b == b2)) (val (lim (val xs * val ys))) = zv b (val xs) * zv b2 (val ys)) := by show _ = _; rw [val_lim]; exact zv_mul _ _ _ _
  go_enter Try.func17, Try.ntmps17
  go_wp2_with fail
  obtain ⟨W, hW⟩ : ∃ W : World, W = (((w.alloc (.cells #[.bool b, .slice p n c] 25)).alloc (.cells #[.bool b2, .slice q m d] 25)).alloc (.cells #[.bool false, .slice none 0 0] 25)) := ⟨_, rfl⟩
  rw [← hW]
  have hA00 : W.cell? ⟨w.heap.size, 0, none⟩ = some (.bool b) := by rw [hW]; exact (cell_on (cell_on (box_c0 (by simp)) (below_alloc _ _)) (below_alloc _ _))
  have hA01 : W.cell? ⟨w.heap.size, 1, none⟩ = some (.slice p n c) := by rw [hW]; exact (cell_on (cell_on (box_c1 (by simp)) (below_alloc _ _)) (below_alloc _ _))
  have hA10 : W.cell? ⟨w.heap.size + 1, 0, none⟩ = some (.bool b2) := by rw [hW]; exact (cell_on (box_c0 (by simp)) (below_alloc _ _))
  have hA11 : W.cell? ⟨w.heap.size + 1, 1, none⟩ = some (.slice q m d) := by rw [hW]; exact (cell_on (box_c1 (by simp)) (below_alloc _ _))
  have hR0 : Cel (w.heap.size + 2) W := by rw [hW]; exact (Cel.ofAlloc (by simp))
  have hB : Box w (w.heap.size + 2) W := by rw [hW]; exact ⟨by (try simp) <;> omega, ((((Below.refl _ _).alloc (Nat.le_refl _) _).alloc (by (try simp) <;> omega) _).alloc (by (try simp) <;> omega) _)⟩
  clear hW
  go_wp2_with fail
  go_region_held3 (fun w' => w'.cell? ⟨w.heap.size, 0, none⟩ = some (.bool b) ∧ w'.cell? ⟨w.heap.size, 1, none⟩ = some (.slice p n c) ∧ w'.cell? ⟨w.heap.size + 1, 0, none⟩ = some (.bool b2) ∧ w'.cell? ⟨w.heap.size + 1, 1, none⟩ = some (.slice q m d) ∧ Cel (w.heap.size + 2) w' ∧ Box w (w.heap.size + 2) w')
    (first | exact ⟨by simpa using hA00, by simpa using hA01, by simpa using hA10, by simpa using hA11, hR0.drew, hB.drew⟩ | exact ‹World.cell? _ _ = some _ ∧ World.cell? _ _ = some _ ∧ World.cell? _ _ = some _ ∧ World.cell? _ _ = some _ ∧ Cel _ _ ∧ Box w _ _› | (have hS := ‹World.cell? _ _ = some _ ∧ World.cell? _ _ = some _ ∧ World.cell? _ _ = some _ ∧ World.cell? _ _ = some _ ∧ Cel _ _ ∧ Box w _ _›; exact ⟨cell_on hS.1 hb1, cell_on hS.2.1 hb1, cell_on hS.2.2.1 hb1, cell_on hS.2.2.2.1 hb1, hS.2.2.2.2.1.on hb1, hS.2.2.2.2.2.on hb1⟩) | (have hS := ‹World.cell? _ _ = some _ ∧ World.cell? _ _ = some _ ∧ World.cell? _ _ = some _ ∧ World.cell? _ _ = some _ ∧ Cel _ _ ∧ Box w _ _›; exact ⟨cell_on hS.1 hb2, cell_on hS.2.1 hb2, cell_on hS.2.2.1 hb2, cell_on hS.2.2.2.1 hb2, hS.2.2.2.2.1.on hb2, hS.2.2.2.2.2.on hb2⟩) | (have hS := ‹World.cell? _ _ = some _ ∧ World.cell? _ _ = some _ ∧ World.cell? _ _ = some _ ∧ World.cell? _ _ = some _ ∧ Cel _ _ ∧ Box w _ _›; exact ⟨cell_set (cell_set hS.1 (by omega)) (by omega), cell_set (cell_set hS.2.1 (by omega)) (by omega), cell_set (cell_set hS.2.2.1 (by omega)) (by omega), cell_set (cell_set hS.2.2.2.1 (by omega)) (by omega), (hS.2.2.2.2.1.set _ _ _).set _ _ _, (hS.2.2.2.2.2.set (by omega) _ _).set (by omega) _ _⟩))
    (first | (go_at_call 66; have hS := ‹World.cell? _ _ = some _ ∧ World.cell? _ _ = some _ ∧ World.cell? _ _ = some _ ∧ World.cell? _ _ = some _ ∧ Cel _ _ ∧ Box w _ _›; refine (rmul_any (hx.below hS.2.2.2.2.2.below (Nat.le_refl _)) (hy.below hS.2.2.2.2.2.below (Nat.le_refl _)) hn hm).mono ?_; rintro e w1 ⟨p3, n3, c3, rfl, hf3, hb1⟩; have hlt1 := hS.2.2.2.2.2.lt; have hn3 : n3 ≤ 17592186044416 := (by have h1 := ll_mul (val xs) (val ys); have h2 := val_ll hx.lims; have h3 := val_ll hy.lims; rw [hx.len] at h2; rw [hy.len] at h3; rw [hf3.sl.lln]; omega); clear hS) | (go_at_call 22; have hS := ‹World.cell? _ _ = some _ ∧ World.cell? _ _ = some _ ∧ World.cell? _ _ = some _ ∧ World.cell? _ _ = some _ ∧ Cel _ _ ∧ Box w _ _›; refine (qnorm_of hf3.sl hn3 HE).mono ?_; rintro e w2 ⟨p4, n4, c4, rfl, hf4, hb2⟩; replace hf3 := hf3.below hb2 (Nat.le_refl _); have hlt2 := hS.2.2.2.2.2.lt; obtain ⟨⟨u0, hu0⟩, ⟨u1, hu1⟩, hug0, hug1⟩ := (hS.2.2.2.2.1).on hb2; clear hS))
  obtain ⟨hA00, hA01, hA10, hA11, hR0, hB⟩ := ‹World.cell? _ _ = some _ ∧ World.cell? _ _ = some _ ∧ World.cell? _ _ = some _ ∧ World.cell? _ _ = some _ ∧ Cel _ _ ∧ Box w _ _›
  go_wp2_with fail
  refine bodyPost_ret (v := .agg #[.bool (ng (zv b (val xs) * zv b2 (val ys))), .slice p4 n4 c4]) (by simp [results, Try.results17, go_sem, hu0, hu1]) rfl ?_
  exact retZ_cp hf4 (by omega) (by omega) hB.below

set_option maxHeartbeats 1000000 in
theorem qsame_yes {p q : Option Addr} {n m c d : Nat} {b : Bool} {xs : List Nat} {w : World} (hx : Sl w p n c xs) (hy : Sl w q m d xs) :
    Calls Try.prog 64 #[.agg #[.bool b, .slice p n c], .agg #[.bool b, .slice q m d]] w (RetB w true) := by
  go_enter Try.func64, Try.ntmps64
  go_wp2_with fail
  obtain ⟨W, hW⟩ : ∃ W : World, W = ((w.alloc (.cells #[.bool b, .slice p n c] 25)).alloc (.cells #[.bool b, .slice q m d] 25)) := ⟨_, rfl⟩
  rw [← hW]
  have hA00 : W.cell? ⟨w.heap.size, 0, none⟩ = some (.bool b) := by rw [hW]; exact (cell_on (box_c0 (by simp)) (below_alloc _ _))
  have hA01 : W.cell? ⟨w.heap.size, 1, none⟩ = some (.slice p n c) := by rw [hW]; exact (cell_on (box_c1 (by simp)) (below_alloc _ _))
  have hA10 : W.cell? ⟨w.heap.size + 1, 0, none⟩ = some (.bool b) := by rw [hW]; exact (box_c0 (by simp))
  have hA11 : W.cell? ⟨w.heap.size + 1, 1, none⟩ = some (.slice q m d) := by rw [hW]; exact (box_c1 (by simp))
  have hB : Box w (w.heap.size + 1) W := by rw [hW]; exact ⟨by (try simp) <;> omega, (((Below.refl _ _).alloc (Nat.le_refl _) _).alloc (by (try simp) <;> omega) _)⟩
  clear hW
  go_wp2_with fail
  refine (same_yes (hx.below hB.below (Nat.le_refl _)) (hy.below hB.below (Nat.le_refl _))).mono ?_
  rintro e w1 ⟨rfl, hb1⟩
  replace hA00 := cell_on hA00 hb1
  replace hA01 := cell_on hA01 hb1
  replace hA10 := cell_on hA10 hb1
  replace hA11 := cell_on hA11 hb1
  replace hB := hB.on hb1
  clear hb1
  go_wp2_with fail
  go_ret
  exact ⟨rfl, hB.below⟩

theorem rof_any {N : Nat} {X : Int} {w : World} (hX : X = (N : Int)) (hN : N < 18446744073709551616) :
    Calls Try.prog 96 #[.int .u64 X] w (RetN w (lim N)) := by
  subst hX
  have hv : val [N % 4294967296, N / 4294967296] = N := by rw [val_pair]; omega
  have hl : Lims [N % 4294967296, N / 4294967296] := lims_pair (by omega) (by omega)
  have HV := Lib.hid hv
  clear hv
  go_enter Try.func96, Try.ntmps96
  go_wp2_with fail
  have h1 : Sl (w.alloc (.cells ([N % 4294967296, N / 4294967296].map fun x : Nat => Value.int .u32 (x : Int)).toArray 29)) (some ⟨w.heap.size, 0, none⟩) 2 2 [N % 4294967296, N / 4294967296] := Sl.lit w _ hl
  have e1 : ((N % 4294967296 : Nat) : Int) = (N : Int) % 4294967296 := by omega
  have e2 : ((N / 4294967296 : Nat) : Int) = (N : Int) / 4294967296 := by omega
  simp only [List.map_cons, List.map_nil, e1, e2] at h1
  clear e1 e2
  refine (rnorm_any h1 (by omega)).mono ?_
  rw [HV.out]
  rintro e w1 ⟨p1, n1, c1, rfl, hf1, hb1⟩
  clear h1
  go_wp2_with fail
  go_ret
  exact ⟨_, _, _, rfl, hf1.mono (by simp), (below_alloc _ _).trans (hb1.mono (by simp))⟩

set_option maxHeartbeats 1000000 in
theorem qof_neg {z : Int} {w : World} (h1 : -9223372036854775808 ≤ z) (h2 : z < 0) :
    Calls Try.prog 67 #[.int .i64 z] w (RetZ w z) := by
  have hz : decide (0 ≤ z) = false := by simp; omega
  go_enter Try.func67, Try.ntmps67
  go_wp2_with fail
  obtain ⟨W, hW⟩ : ∃ W : World, W = (w.alloc (.cells #[.bool false, .slice none 0 0] 25)) := ⟨_, rfl⟩
  rw [← hW]
  have hR0 : Cel (w.heap.size) W := by rw [hW]; exact (Cel.ofAlloc (by simp))
  have hB : Box w (w.heap.size) W := by rw [hW]; exact ⟨by (try simp) <;> omega, ((Below.refl _ _).alloc (Nat.le_refl _) _)⟩
  clear hW
  go_wp2_with fail
  refine (rof_any (N := z.natAbs) (by omega) (by omega)).mono ?_
  rintro e w1 ⟨p4, n4, c4, rfl, hf4, hb1⟩
  have hlt1 := hB.lt
  replace hR0 := hR0.on hb1
  replace hB := hB.on hb1
  clear hb1
  obtain ⟨⟨u0, hu0⟩, ⟨u1, hu1⟩, hug0, hug1⟩ := hR0
  have hnb : (true && decide (0 < n4)) = true := by
    rw [mk_ng hf4.sl.lln, ng_zv]; simp; omega
  have HNB := Lib.hid hnb
  clear hnb
  go_wp2_with fail
  refine bodyPost_ret (v := .agg #[.bool true, .slice p4 n4 c4]) (by simp [results, Try.results67, go_sem, hu0, hu1]) rfl ?_
  rw [show Ending.returned (.agg #[.bool true, .slice p4 n4 c4]) = Ending.returned (.agg #[.bool (true && decide (0 < n4)), .slice p4 n4 c4]) by rw [HNB.out]]
  exact retZ_box (b := true) hf4 (by omega) (by omega) ((hB.set (by omega) _ _).set (by omega) _ _).below (by rw [zv_true]; omega)

set_option maxHeartbeats 1000000 in
theorem qof_pos {z : Int} {w : World} (h1 : 0 ≤ z) (h2 : z ≤ 9223372036854775807) :
    Calls Try.prog 67 #[.int .i64 z] w (RetZ w z) := by
  go_enter Try.func67, Try.ntmps67
  go_wp2_with fail
  obtain ⟨W, hW⟩ : ∃ W : World, W = (w.alloc (.cells #[.bool false, .slice none 0 0] 25)) := ⟨_, rfl⟩
  rw [← hW]
  have hR0 : Cel (w.heap.size) W := by rw [hW]; exact (Cel.ofAlloc (by simp))
  have hB : Box w (w.heap.size) W := by rw [hW]; exact ⟨by (try simp) <;> omega, ((Below.refl _ _).alloc (Nat.le_refl _) _)⟩
  clear hW
  go_wp2_with fail
  refine (rof_any (N := z.natAbs) (by omega) (by omega)).mono ?_
  rintro e w1 ⟨p4, n4, c4, rfl, hf4, hb1⟩
  have hlt1 := hB.lt
  replace hR0 := hR0.on hb1
  replace hB := hB.on hb1
  clear hb1
  obtain ⟨⟨u0, hu0⟩, ⟨u1, hu1⟩, hug0, hug1⟩ := hR0
  go_wp2_with fail
  refine bodyPost_ret (v := .agg #[.bool false, .slice p4 n4 c4]) (by simp [results, Try.results67, go_sem, hu0, hu1]) rfl ?_
  exact retZ_box (b := false) hf4 (by omega) (by omega) ((hB.set (by omega) _ _).set (by omega) _ _).below (by rw [zv_false]; omega)

theorem qof_any {z : Int} {w : World} (h1 : -9223372036854775808 ≤ z) (h2 : z ≤ 9223372036854775807) :
    Calls Try.prog 67 #[.int .i64 z] w (RetZ w z) := by
  rcases Int.lt_or_le z 0 with h | h
  · exact qof_neg h1 h
  · exact qof_pos h h2

/-- What Copy leaves: the same sign and the very same limbs, in new memory. -/
def RetCopy (w : World) (b : Bool) (n : Nat) (xs : List Nat) (e : Ending) (w' : World) : Prop :=
  ∃ p c, e = .returned (.agg #[.bool b, .slice p n c]) ∧ Fr w.heap.size w' p n c xs ∧ Below w.heap.size w w'

set_option maxHeartbeats 1000000 in
theorem qcopy_any {p : Option Addr} {n c : Nat} {b : Bool} {xs : List Nat} {w : World} (hx : Sl w p n c xs) (hn : n ≤ 17592186044416) :
    Calls Try.prog 10 #[.agg #[.bool b, .slice p n c]] w (RetCopy w b n xs) := by
  go_enter Try.func10, Try.ntmps10
  go_wp2_with fail
  obtain ⟨W, hW⟩ : ∃ W : World, W = ((w.alloc (.cells #[.bool b, .slice p n c] 25)).alloc (.cells #[.bool false, .slice none 0 0] 25)) := ⟨_, rfl⟩
  rw [← hW]
  have hA00 : W.cell? ⟨w.heap.size, 0, none⟩ = some (.bool b) := by rw [hW]; exact (cell_on (box_c0 (by simp)) (below_alloc _ _))
  have hA01 : W.cell? ⟨w.heap.size, 1, none⟩ = some (.slice p n c) := by rw [hW]; exact (cell_on (box_c1 (by simp)) (below_alloc _ _))
  have hR0 : Cel (w.heap.size + 1) W := by rw [hW]; exact (Cel.ofAlloc (by simp))
  have hB : Box w (w.heap.size + 1) W := by rw [hW]; exact ⟨by (try simp) <;> omega, (((Below.refl _ _).alloc (Nat.le_refl _) _).alloc (by (try simp) <;> omega) _)⟩
  clear hW
  have hlt := hB.lt
  go_wp2_with fail
  go_region_held3 (fun w' => w'.cell? ⟨w.heap.size, 0, none⟩ = some (.bool b) ∧ w'.cell? ⟨w.heap.size, 1, none⟩ = some (.slice p n c) ∧ Cel (w.heap.size + 1) w' ∧ Box w (w.heap.size + 1) w')
    (first | exact ⟨by simpa using hA00, by simpa using hA01, hR0.drew, hB.drew⟩ | (have hS := ‹World.cell? _ _ = some _ ∧ World.cell? _ _ = some _ ∧ Cel _ _ ∧ Box w _ _›; exact ⟨cell_onB hS.1 hb5 (by omega), cell_onB hS.2.1 hb5 (by omega), hS.2.2.1.onB hb5 (by omega), hS.2.2.2.onB hb5 (by omega)⟩) | (have hS := ‹World.cell? _ _ = some _ ∧ World.cell? _ _ = some _ ∧ Cel _ _ ∧ Box w _ _›; exact ⟨cell_on hS.1 (below_alloc _ _), cell_on hS.2.1 (below_alloc _ _), hS.2.2.1.on (below_alloc _ _), hS.2.2.2.on (below_alloc _ _)⟩) | (have hS := ‹World.cell? _ _ = some _ ∧ World.cell? _ _ = some _ ∧ Cel _ _ ∧ Box w _ _›; exact ⟨cell_set (cell_set hS.1 (by omega)) (by omega), cell_set (cell_set hS.2.1 (by omega)) (by omega), (hS.2.2.1.set _ _ _).set _ _ _, (hS.2.2.2.set (by omega) _ _).set (by omega) _ _⟩))
    (first | (have hS := ‹World.cell? _ _ = some _ ∧ World.cell? _ _ = some _ ∧ Cel _ _ ∧ Box w _ _›; refine step_appendAny rfl _ _ _ rfl Try.underlying23 W.heap.size _ 0 0 [] rfl (Fr.lit W.drew [] lims_nil (by simp)) _ n c xs rfl (hx.below hS.2.2.2.below (Nat.le_refl _)) (by omega) (Below.refl _ _) (Nat.le_refl _) (by simp) ?_; intro p5 c5 w5 hf5 hg5 hb5; obtain ⟨⟨u0, hu0⟩, ⟨u1, hu1⟩, hug0, hug1⟩ := hS.2.2.1.onB hb5 (by omega); clear hS))
  obtain ⟨hA00, hA01, hR0, hB⟩ := ‹World.cell? _ _ = some _ ∧ World.cell? _ _ = some _ ∧ Cel _ _ ∧ Box w _ _›
  rw [Nat.zero_add, List.nil_append] at hf5
  go_wp2_with fail
  refine bodyPost_ret (v := .agg #[.bool b, .slice p5 n c5]) (by simp [results, Try.results10, go_sem, hu0, hu1]) rfl ?_
  exact ⟨_, _, rfl, hf5.setBox (by omega) (by omega), hB.below⟩

end Go.Proofs.Ytlnilkghbbbhbaa
