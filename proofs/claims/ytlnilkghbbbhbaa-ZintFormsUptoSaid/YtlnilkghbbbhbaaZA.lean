
/-
  The walks of zint: make1, Norm.
-/
import Derived.Test.YtlnilkghbbbhbaaZK
import Derived.Test.YtlnilkghbbbhbaaNatJ
namespace Go.Proofs.Ytlnilkghbbbhbaa
open Go.RowKit

theorem make1_any {p : Option Addr} {n c : Nat} {b : Bool} {w : World} :
    Calls Try.prog 58 #[.bool b, .slice p n c] w (RetMk w (b && decide (0 < n)) p n c) := by
  cases b
  · go_enter Try.func58, Try.ntmps58
    go_wp2_with fail
    exact bodyPost_ret (v := .agg #[.bool false, .slice p n c]) (by simp [results, Try.results58, go_sem]) rfl ⟨rfl, (Below.refl _ _).alloc (Nat.le_refl _) _⟩
  · go_enter Try.func58, Try.ntmps58
    go_wp2_with fail
    exact bodyPost_ret (v := .agg #[.bool (decide (0 < n)), .slice p n c]) (by simp [results, Try.results58, go_sem]) rfl ⟨by simp, (Below.refl _ _).alloc (Nat.le_refl _) _⟩

theorem nnorm_any {p : Option Addr} {n c : Nat} {xs : List Nat} {w : World} (hx : Sl w p n c xs) (hn : n ≤ 17592186044416) :
    Calls Try.prog 70 #[.slice p n c] w (RetN w (lim (val xs))) := by
  go_enter Try.func70, Try.ntmps70
  go_wp2_with fail
  refine (own_any hx hn).mono ?_
  rintro e w1 ⟨p1, n1, c1, rfl, hf1, hb1⟩
  go_wp2_with fail
  go_ret
  exact ⟨_, _, _, rfl, hf1, hb1⟩

set_option maxHeartbeats 1000000 in
theorem znorm_any {p : Option Addr} {n c : Nat} {b : Bool} {xs : List Nat} {w : World} (hx : Sl w p n c xs) (hn : n ≤ 17592186044416) :
    Calls Try.prog 23 #[.agg #[.bool b, .slice p n c]] w (RetZ w (zv b (val xs))) := by
  go_enter Try.func23, Try.ntmps23
  go_wp2_with fail
  obtain ⟨W, hW⟩ : ∃ W : World, W = ((w.alloc (.cells #[.bool b, .slice p n c] 25)).alloc (.cells #[.bool false, .slice none 0 0] 25)) := ⟨_, rfl⟩
  rw [← hW]
  have hA00 : W.cell? ⟨w.heap.size, 0, none⟩ = some (.bool b) := by rw [hW]; exact (cell_on (box_c0 (by simp)) (below_alloc _ _))
  have hA01 : W.cell? ⟨w.heap.size, 1, none⟩ = some (.slice p n c) := by rw [hW]; exact (cell_on (box_c1 (by simp)) (below_alloc _ _))
  have hR0 : Cel (w.heap.size + 1) W := by rw [hW]; exact (Cel.ofAlloc (by simp))
  have hB : Box w (w.heap.size + 1) W := by rw [hW]; exact ⟨by (try simp) <;> omega, (((Below.refl _ _).alloc (Nat.le_refl _) _).alloc (by (try simp) <;> omega) _)⟩
  clear hW
  go_wp2_with fail
  go_region_held3 (fun w' => w'.cell? ⟨w.heap.size, 0, none⟩ = some (.bool b) ∧ w'.cell? ⟨w.heap.size, 1, none⟩ = some (.slice p n c) ∧ Cel (w.heap.size + 1) w' ∧ Box w (w.heap.size + 1) w')
    (first | exact ⟨by simpa using hA00, by simpa using hA01, hR0.drew, hB.drew⟩ | exact ‹World.cell? _ _ = some _ ∧ World.cell? _ _ = some _ ∧ Cel _ _ ∧ Box w _ _› | (have hS := ‹World.cell? _ _ = some _ ∧ World.cell? _ _ = some _ ∧ Cel _ _ ∧ Box w _ _›; exact ⟨cell_on hS.1 hb1, cell_on hS.2.1 hb1, hS.2.2.1.on hb1, hS.2.2.2.on hb1⟩) | (have hS := ‹World.cell? _ _ = some _ ∧ World.cell? _ _ = some _ ∧ Cel _ _ ∧ Box w _ _›; exact ⟨cell_on hS.1 hb2, cell_on hS.2.1 hb2, hS.2.2.1.on hb2, hS.2.2.2.on hb2⟩) | (have hS := ‹World.cell? _ _ = some _ ∧ World.cell? _ _ = some _ ∧ Cel _ _ ∧ Box w _ _›; exact ⟨cell_set (cell_set hS.1 (by omega)) (by omega), cell_set (cell_set hS.2.1 (by omega)) (by omega), (hS.2.2.1.set _ _ _).set _ _ _, (hS.2.2.2.set (by omega) _ _).set (by omega) _ _⟩))
    (first | (go_at_call 70; have hS := ‹World.cell? _ _ = some _ ∧ World.cell? _ _ = some _ ∧ Cel _ _ ∧ Box w _ _›; refine (nnorm_any (hx.below hS.2.2.2.below (Nat.le_refl _)) hn).mono ?_; rintro e w1 ⟨p4, n4, c4, rfl, hf4, hb1⟩; have hlt1 := hS.2.2.2.lt; clear hS) | (go_at_call 58; have hS := ‹World.cell? _ _ = some _ ∧ World.cell? _ _ = some _ ∧ Cel _ _ ∧ Box w _ _›; refine (make1_any).mono ?_; rintro e w2 ⟨rfl, hb2⟩; replace hf4 := hf4.below hb2 (Nat.le_refl _); obtain ⟨⟨u0, hu0⟩, ⟨u1, hu1⟩, hug0, hug1⟩ := (hS.2.2.1).on hb2; clear hS))
  obtain ⟨hA00, hA01, hR0, hB⟩ := ‹World.cell? _ _ = some _ ∧ World.cell? _ _ = some _ ∧ Cel _ _ ∧ Box w _ _›
  go_wp2_with fail
  refine bodyPost_ret (v := .agg #[.bool (b && decide (0 < n4)), .slice p4 n4 c4]) (by simp [results, Try.results23, go_sem, hu0, hu1]) rfl ?_
  exact retZ_box hf4 (by omega) (by omega) hB.below rfl

set_option maxHeartbeats 1000000 in
theorem zabs_any {p : Option Addr} {n c : Nat} {b : Bool} {xs : List Nat} {w : World} (hx : Sl w p n c xs) (hn : n ≤ 17592186044416) :
    Calls Try.prog 30 #[.agg #[.bool b, .slice p n c]] w (RetZ w ((zv b (val xs)).natAbs : Int)) := by
  go_enter Try.func30, Try.ntmps30
  go_wp2_with fail
  obtain ⟨W, hW⟩ : ∃ W : World, W = ((w.alloc (.cells #[.bool b, .slice p n c] 25)).alloc (.cells #[.bool false, .slice none 0 0] 25)) := ⟨_, rfl⟩
  rw [← hW]
  have hA00 : W.cell? ⟨w.heap.size, 0, none⟩ = some (.bool b) := by rw [hW]; exact (cell_on (box_c0 (by simp)) (below_alloc _ _))
  have hA01 : W.cell? ⟨w.heap.size, 1, none⟩ = some (.slice p n c) := by rw [hW]; exact (cell_on (box_c1 (by simp)) (below_alloc _ _))
  have hR0 : Cel (w.heap.size + 1) W := by rw [hW]; exact (Cel.ofAlloc (by simp))
  have hB : Box w (w.heap.size + 1) W := by rw [hW]; exact ⟨by (try simp) <;> omega, (((Below.refl _ _).alloc (Nat.le_refl _) _).alloc (by (try simp) <;> omega) _)⟩
  clear hW
  go_wp2_with fail
  refine (nnorm_any (hx.below hB.below (Nat.le_refl _)) hn).mono ?_
  rintro e w1 ⟨p4, n4, c4, rfl, hf4, hb1⟩
  have hlt1 := hB.lt
  replace hA00 := cell_on hA00 hb1
  replace hA01 := cell_on hA01 hb1
  replace hR0 := hR0.on hb1
  replace hB := hB.on hb1
  clear hb1
  go_wp2_with fail
  refine (make1_any).mono ?_
  rintro e w2 ⟨rfl, hb2⟩
  replace hA00 := cell_on hA00 hb2
  replace hA01 := cell_on hA01 hb2
  replace hR0 := hR0.on hb2
  replace hB := hB.on hb2
  replace hf4 := hf4.below hb2 (Nat.le_refl _)
  clear hb2
  obtain ⟨⟨u0, hu0⟩, ⟨u1, hu1⟩, hug0, hug1⟩ := hR0
  go_wp2_with fail
  refine bodyPost_ret (v := .agg #[.bool false, .slice p4 n4 c4]) (by simp [results, Try.results30, go_sem, hu0, hu1]) rfl ?_
  exact retZ_box (b := false) hf4 (by omega) (by omega) ((hB.set (by omega) _ _).set (by omega) _ _).below (by rw [natAbs_zv]; rfl)

set_option maxHeartbeats 1000000 in
theorem zgcd_any {p q : Option Addr} {n m c d : Nat} {b b2 : Bool} {xs ys : List Nat} {w : World} (hx : Sl w p n c xs) (hy : Sl w q m d ys) (hn : n ≤ 1099511627776) (hm : m ≤ 1099511627776) :
    Calls Try.prog 82 #[.agg #[.bool b, .slice p n c], .agg #[.bool b2, .slice q m d]] w (RetZ w ((Int.gcd (zv b (val xs)) (zv b2 (val ys)) : Nat) : Int)) := by
  go_enter Try.func82, Try.ntmps82
  go_wp2_with fail
  obtain ⟨W, hW⟩ : ∃ W : World, W = (((w.alloc (.cells #[.bool b, .slice p n c] 25)).alloc (.cells #[.bool b2, .slice q m d] 25)).alloc (.cells #[.bool false, .slice none 0 0] 25)) := ⟨_, rfl⟩
  rw [← hW]
  have hA00 : W.cell? ⟨w.heap.size, 0, none⟩ = some (.bool b) := by rw [hW]; exact (cell_on (cell_on (box_c0 (by simp)) (below_alloc _ _)) (below_alloc _ _))
  have hA01 : W.cell? ⟨w.heap.size, 1, none⟩ = some (.slice p n c) := by rw [hW]; exact (cell_on (cell_on (box_c1 (by simp)) (below_alloc _ _)) (below_alloc _ _))
  have hA10 : W.cell? ⟨w.heap.size + 1, 0, none⟩ = some (.bool b2) := by rw [hW]; exact (cell_on (box_c0 (by simp)) (below_alloc _ _))
  have hA11 : W.cell? ⟨w.heap.size + 1, 1, none⟩ = some (.slice q m d) := by rw [hW]; exact (cell_on (box_c1 (by simp)) (below_alloc _ _))
  have hR0 : Cel (w.heap.size + 2) W := by rw [hW]; exact (Cel.ofAlloc (by simp))
  have hB : Box w (w.heap.size + 2) W := by rw [hW]; exact ⟨by (try simp) <;> omega, ((((Below.refl _ _).alloc (Nat.le_refl _) _).alloc (by (try simp) <;> omega) _).alloc (by (try simp) <;> omega) _)⟩
  clear hW
  go_wp2_with fail
  refine (gcd_any (hx.below hB.below (Nat.le_refl _)) (hy.below hB.below (Nat.le_refl _)) hn hm).mono ?_
  rintro e w1 ⟨p4, n4, c4, rfl, hf4, hb1⟩
  have hlt1 := hB.lt
  replace hA00 := cell_on hA00 hb1
  replace hA01 := cell_on hA01 hb1
  replace hA10 := cell_on hA10 hb1
  replace hA11 := cell_on hA11 hb1
  replace hR0 := hR0.on hb1
  replace hB := hB.on hb1
  clear hb1
  go_wp2_with fail
  refine (make1_any).mono ?_
  rintro e w2 ⟨rfl, hb2⟩
  replace hA00 := cell_on hA00 hb2
  replace hA01 := cell_on hA01 hb2
  replace hA10 := cell_on hA10 hb2
  replace hA11 := cell_on hA11 hb2
  replace hR0 := hR0.on hb2
  replace hB := hB.on hb2
  replace hf4 := hf4.below hb2 (Nat.le_refl _)
  clear hb2
  obtain ⟨⟨u0, hu0⟩, ⟨u1, hu1⟩, hug0, hug1⟩ := hR0
  go_wp2_with fail
  refine bodyPost_ret (v := .agg #[.bool false, .slice p4 n4 c4]) (by simp [results, Try.results82, go_sem, hu0, hu1]) rfl ?_
  exact retZ_box (b := false) hf4 (by omega) (by omega) ((hB.set (by omega) _ _).set (by omega) _ _).below (by unfold Int.gcd; rw [natAbs_zv, natAbs_zv]; rfl)

set_option maxHeartbeats 1000000 in
theorem zmul_any {p q : Option Addr} {n m c d : Nat} {b b2 : Bool} {xs ys : List Nat} {w : World} (hx : Sl w p n c xs) (hy : Sl w q m d ys) (hn : n ≤ 4398046511104) (hm : m ≤ 4398046511104) :
    Calls Try.prog 16 #[.agg #[.bool b, .slice p n c], .agg #[.bool b2, .slice q m d]] w (RetZ w (zv b (val xs) * zv b2 (val ys))) := by
  go_enter Try.func16, Try.ntmps16
  go_wp2_with fail
  obtain ⟨W, hW⟩ : ∃ W : World, W = (((w.alloc (.cells #[.bool b, .slice p n c] 25)).alloc (.cells #[.bool b2, .slice q m d] 25)).alloc (.cells #[.bool false, .slice none 0 0] 25)) := ⟨_, rfl⟩
  rw [← hW]
  have hA00 : W.cell? ⟨w.heap.size, 0, none⟩ = some (.bool b) := by rw [hW]; exact (cell_on (cell_on (box_c0 (by simp)) (below_alloc _ _)) (below_alloc _ _))
  have hA01 : W.cell? ⟨w.heap.size, 1, none⟩ = some (.slice p n c) := by rw [hW]; exact (cell_on (cell_on (box_c1 (by simp)) (below_alloc _ _)) (below_alloc _ _))
  have hA10 : W.cell? ⟨w.heap.size + 1, 0, none⟩ = some (.bool b2) := by rw [hW]; exact (cell_on (box_c0 (by simp)) (below_alloc _ _))
  have hA11 : W.cell? ⟨w.heap.size + 1, 1, none⟩ = some (.slice q m d) := by rw [hW]; exact (cell_on (box_c1 (by simp)) (below_alloc _ _))
  have hR0 : Cel (w.heap.size + 2) W := by rw [hW]; exact (Cel.ofAlloc (by simp))
  have hB : Box w (w.heap.size + 2) W := by rw [hW]; exact ⟨by (try simp) <;> omega, ((((Below.refl _ _).alloc (Nat.le_refl _) _).alloc (by (try simp) <;> omega) _).alloc (by (try simp) <;> omega) _)⟩
  clear hW
  go_wp2_with fail
  go_region_held3 (fun w' => w'.cell? ⟨w.heap.size, 0, none⟩ = some (.bool b) ∧ w'.cell? ⟨w.heap.size, 1, none⟩ = some (.slice p n c) ∧ w'.cell? ⟨w.heap.size + 1, 0, none⟩ = some (.bool b2) ∧ w'.cell? ⟨w.heap.size + 1, 1, none⟩ = some (.slice q m d) ∧ Cel (w.heap.size + 2) w' ∧ Box w (w.heap.size + 2) w')
    (first | exact ⟨by simpa using hA00, by simpa using hA01, by simpa using hA10, by simpa using hA11, hR0.drew, hB.drew⟩ | exact ‹World.cell? _ _ = some _ ∧ World.cell? _ _ = some _ ∧ World.cell? _ _ = some _ ∧ World.cell? _ _ = some _ ∧ Cel _ _ ∧ Box w _ _› | (have hS := ‹World.cell? _ _ = some _ ∧ World.cell? _ _ = some _ ∧ World.cell? _ _ = some _ ∧ World.cell? _ _ = some _ ∧ Cel _ _ ∧ Box w _ _›; exact ⟨cell_on hS.1 hb1, cell_on hS.2.1 hb1, cell_on hS.2.2.1 hb1, cell_on hS.2.2.2.1 hb1, hS.2.2.2.2.1.on hb1, hS.2.2.2.2.2.on hb1⟩) | (have hS := ‹World.cell? _ _ = some _ ∧ World.cell? _ _ = some _ ∧ World.cell? _ _ = some _ ∧ World.cell? _ _ = some _ ∧ Cel _ _ ∧ Box w _ _›; exact ⟨cell_on hS.1 hb2, cell_on hS.2.1 hb2, cell_on hS.2.2.1 hb2, cell_on hS.2.2.2.1 hb2, hS.2.2.2.2.1.on hb2, hS.2.2.2.2.2.on hb2⟩) | (have hS := ‹World.cell? _ _ = some _ ∧ World.cell? _ _ = some _ ∧ World.cell? _ _ = some _ ∧ World.cell? _ _ = some _ ∧ Cel _ _ ∧ Box w _ _›; exact ⟨cell_set (cell_set hS.1 (by omega)) (by omega), cell_set (cell_set hS.2.1 (by omega)) (by omega), cell_set (cell_set hS.2.2.1 (by omega)) (by omega), cell_set (cell_set hS.2.2.2.1 (by omega)) (by omega), (hS.2.2.2.2.1.set _ _ _).set _ _ _, (hS.2.2.2.2.2.set (by omega) _ _).set (by omega) _ _⟩))
    (first | (go_at_call 65; have hS := ‹World.cell? _ _ = some _ ∧ World.cell? _ _ = some _ ∧ World.cell? _ _ = some _ ∧ World.cell? _ _ = some _ ∧ Cel _ _ ∧ Box w _ _›; refine (mul_any (hx.below hS.2.2.2.2.2.below (Nat.le_refl _)) (hy.below hS.2.2.2.2.2.below (Nat.le_refl _)) hn hm).mono ?_; rintro e w1 ⟨p4, n4, c4, rfl, hf4, hb1⟩; have hlt1 := hS.2.2.2.2.2.lt; clear hS) | (go_at_call 58; have hS := ‹World.cell? _ _ = some _ ∧ World.cell? _ _ = some _ ∧ World.cell? _ _ = some _ ∧ World.cell? _ _ = some _ ∧ Cel _ _ ∧ Box w _ _›; refine (make1_any).mono ?_; rintro e w2 ⟨rfl, hb2⟩; replace hf4 := hf4.below hb2 (Nat.le_refl _); obtain ⟨⟨u0, hu0⟩, ⟨u1, hu1⟩, hug0, hug1⟩ := (hS.2.2.2.2.1).on hb2; clear hS))
  obtain ⟨hA00, hA01, hA10, hA11, hR0, hB⟩ := ‹World.cell? _ _ = some _ ∧ World.cell? _ _ = some _ ∧ World.cell? _ _ = some _ ∧ World.cell? _ _ = some _ ∧ Cel _ _ ∧ Box w _ _›
  go_wp2_with fail
  refine bodyPost_ret (v := .agg #[.bool ((!(b == b2)) && decide (0 < n4)), .slice p4 n4 c4]) (by simp [results, Try.results16, go_sem, hu0, hu1]) rfl ?_
  exact retZ_box hf4 (by omega) (by omega) hB.below (zv_mul _ _ _ _).symm

end Go.Proofs.Ytlnilkghbbbhbaa
