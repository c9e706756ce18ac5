
/-
  The walks of simileref03: Trunc, Exact.
-/
import Derived.Test.YtlnilkghbbbhbaaZR3
import Derived.Test.YtlnilkghbbbhbaaRefD
namespace Go.Proofs.Ytlnilkghbbbhbaa
open Go.RowKit

set_option maxHeartbeats 4000000 in
theorem qtrunc_of {p q : Option Addr} {n m c d : Nat} {b b2 : Bool} {xs ys : List Nat} {w : World} {Q R : Int} (hx : Sl w p n c xs) (hy : Sl w q m d ys) (hn : n ≤ 549755813888) (hm : m ≤ 549755813888) (h0 : val ys ≠ 0) (hQ : Hid ((zv b (val xs)).tdiv (zv b2 (val ys)) = Q)) (hR : Hid ((zv b (val xs)).tmod (zv b2 (val ys)) = R)) :
    Calls Try.prog 39 #[.agg #[.bool b, .slice p n c], .agg #[.bool b2, .slice q m d]] w (RetZZ w Q R) := by
  have HQ : Hid (zv (!(b == b2)) (val (lim (val xs / val ys))) = Q) := by show _ = _; rw [val_lim, ← hQ.out, ← zv_tdiv]; rfl
  have HM : Hid (zv (ng Q) (val (lim Q.natAbs)) * zv b2 (val ys) = Q * zv b2 (val ys)) := by show _ = _; rw [val_lim, zv_ng]
  have HS : Hid (zv b (val xs) - zv (ng (Q * zv b2 (val ys))) (val (lim (Q * zv b2 (val ys)).natAbs)) = R) := by
    show _ = _
    rw [val_lim, zv_ng, ← hR.out, ← hQ.out, Int.tmod_def, Int.mul_comm]
  have hql : ll Q.natAbs ≤ 549755813888 := by
    rw [← hQ.out, Int.natAbs_tdiv, natAbs_zv, natAbs_zv]
    have h1 := ll_mono (Nat.div_le_self (val xs) (val ys))
    have h2 := val_ll hx.lims
    rw [hx.len] at h2
    exact Nat.le_trans h1 (Nat.le_trans h2 hn)
  have HQL := Lib.hid hql
  have hyl : ll (val ys) ≤ 549755813888 := by have := val_ll hy.lims; rw [hy.len] at this; omega
  have HYL := Lib.hid hyl
  have H0 := Lib.hid h0
  clear h0 hql hyl
  go_enter Try.func39, Try.ntmps39
  go_wp2_with fail
  obtain ⟨W, hW⟩ : ∃ W : World, W = ((((w.alloc (.cells #[.bool b, .slice p n c] 25)).alloc (.cells #[.bool b2, .slice q m d] 25)).alloc (.cells #[.bool false, .slice none 0 0] 25)).alloc (.cells #[.bool false, .slice none 0 0] 25)) := ⟨_, rfl⟩
  rw [← hW]
  have hA00 : W.cell? ⟨w.heap.size, 0, none⟩ = some (.bool b) := by rw [hW]; exact (cell_on (cell_on (cell_on (box_c0 (by simp)) (below_alloc _ _)) (below_alloc _ _)) (below_alloc _ _))
  have hA01 : W.cell? ⟨w.heap.size, 1, none⟩ = some (.slice p n c) := by rw [hW]; exact (cell_on (cell_on (cell_on (box_c1 (by simp)) (below_alloc _ _)) (below_alloc _ _)) (below_alloc _ _))
  have hA10 : W.cell? ⟨w.heap.size + 1, 0, none⟩ = some (.bool b2) := by rw [hW]; exact (cell_on (cell_on (box_c0 (by simp)) (below_alloc _ _)) (below_alloc _ _))
  have hA11 : W.cell? ⟨w.heap.size + 1, 1, none⟩ = some (.slice q m d) := by rw [hW]; exact (cell_on (cell_on (box_c1 (by simp)) (below_alloc _ _)) (below_alloc _ _))
  have hR0 : Cel (w.heap.size + 2) W := by rw [hW]; exact ((Cel.ofAlloc (by simp)).on (below_alloc _ _))
  have hR1 : Cel (w.heap.size + 3) W := by rw [hW]; exact (Cel.ofAlloc (by simp))
  have hB : Box w (w.heap.size + 3) W := by rw [hW]; exact ⟨by (try simp) <;> omega, (((((Below.refl _ _).alloc (Nat.le_refl _) _).alloc (by (try simp) <;> omega) _).alloc (by (try simp) <;> omega) _).alloc (by (try simp) <;> omega) _)⟩
  clear hW
  go_wp2_with fail
  refine (rdiv_any (hx.below hB.below (Nat.le_refl _)) (hy.below hB.below (Nat.le_refl _)) (by omega) (by omega) H0.out).mono ?_
  rintro e w1 ⟨p4, n4, c4, p5, n5, c5, rfl, hf4, hf5, hb1⟩
  have hlt1 := hB.lt
  replace hA00 := cell_on hA00 hb1
  replace hA01 := cell_on hA01 hb1
  replace hA10 := cell_on hA10 hb1
  replace hA11 := cell_on hA11 hb1
  replace hR0 := hR0.on hb1
  replace hR1 := hR1.on hb1
  replace hB := hB.on hb1
  clear hb1
  have hn4 : n4 ≤ 549755813888 := by
    rw [hf4.sl.lln]
    have h1 := ll_mono (Nat.div_le_self (val xs) (val ys))
    have h2 := val_ll hx.lims
    rw [hx.len] at h2
    omega
  clear hf5
  go_wp2_with fail
  refine (qnorm_of (z := Q) hf4.sl (by omega) HQ).mono ?_
  rintro e w2 ⟨p6, n6, c6, rfl, hf6, hb2⟩
  clear hf4
  have hlt2 := hB.lt
  replace hA00 := cell_on hA00 hb2
  replace hA01 := cell_on hA01 hb2
  replace hA10 := cell_on hA10 hb2
  replace hA11 := cell_on hA11 hb2
  replace hR0 := hR0.on hb2
  replace hR1 := hR1.on hb2
  replace hB := hB.on hb2
  clear hb2
  have hn6 : n6 ≤ 549755813888 := z_len hf6 HQL.out
  go_upto_region 3 with (fail)
  have hlb0 := hB.lt
  obtain ⟨W1, hW⟩ : ∃ W1 : World, W1 = (w2.alloc (.cells #[.bool (ng Q), .slice p6 n6 c6] 25)) := ⟨_, rfl⟩
  rw [← hW]
  have qhA00 : W1.cell? ⟨w.heap.size, 0, none⟩ = some (.bool b) := by rw [hW]; exact (cell_on hA00 (below_alloc _ _))
  have qhA01 : W1.cell? ⟨w.heap.size, 1, none⟩ = some (.slice p n c) := by rw [hW]; exact (cell_on hA01 (below_alloc _ _))
  have qhA10 : W1.cell? ⟨w.heap.size + 1, 0, none⟩ = some (.bool b2) := by rw [hW]; exact (cell_on hA10 (below_alloc _ _))
  have qhA11 : W1.cell? ⟨w.heap.size + 1, 1, none⟩ = some (.slice q m d) := by rw [hW]; exact (cell_on hA11 (below_alloc _ _))
  have qhR0 : Cel (w.heap.size + 2) W1 := by rw [hW]; exact (hR0.on (below_alloc _ _))
  have qhR1 : Cel (w.heap.size + 3) W1 := by rw [hW]; exact (hR1.on (below_alloc _ _))
  have qhf6 : Fr w1.heap.size W1 p6 n6 c6 (lim Q.natAbs) := by rw [hW]; exact (hf6.below (below_alloc _ _) (Nat.le_refl _))
  have hL00 : W1.cell? ⟨w2.heap.size, 0, none⟩ = some (.bool (ng Q)) := by rw [hW]; exact (box_c0 (by simp))
  have hL01 : W1.cell? ⟨w2.heap.size, 1, none⟩ = some (.slice p6 n6 c6) := by rw [hW]; exact (box_c1 (by simp))
  have hR2 : Cel (w2.heap.size) W1 := by rw [hW]; exact (Cel.ofAlloc (by simp))
  have qhB : Box w (w2.heap.size) W1 := by rw [hW]; exact ⟨by (try simp) <;> omega, (hB.below.alloc (by (try simp) <;> omega) _)⟩
  clear hW hA00 hA01 hA10 hA11 hR0 hR1 hf6 hB
  have hA00 := qhA00
  have hA01 := qhA01
  have hA10 := qhA10
  have hA11 := qhA11
  have hR0 := qhR0
  have hR1 := qhR1
  have hf6 := qhf6
  have hB := qhB
  clear qhA00 qhA01 qhA10 qhA11 qhR0 qhR1 qhf6 qhB
  go_wp2_with fail
  go_region_held3 (fun w' => w'.cell? ⟨w.heap.size, 0, none⟩ = some (.bool b) ∧ w'.cell? ⟨w.heap.size, 1, none⟩ = some (.slice p n c) ∧ w'.cell? ⟨w.heap.size + 1, 0, none⟩ = some (.bool b2) ∧ w'.cell? ⟨w.heap.size + 1, 1, none⟩ = some (.slice q m d) ∧ w'.cell? ⟨w2.heap.size, 0, none⟩ = some (.bool (ng Q)) ∧ w'.cell? ⟨w2.heap.size, 1, none⟩ = some (.slice p6 n6 c6) ∧ Cel (w.heap.size + 2) w' ∧ Cel (w.heap.size + 3) w' ∧ Cel (w2.heap.size) w' ∧ Fr w1.heap.size w' p6 n6 c6 (lim Q.natAbs) ∧ Box w (w2.heap.size) w')
    (first | exact ⟨by simpa using hA00, by simpa using hA01, by simpa using hA10, by simpa using hA11, by simpa using hL00, by simpa using hL01, hR0.drew, hR1.drew, hR2.drew, hf6.below (Below.refl _ _).drew (Nat.le_refl _), hB.drew⟩ | exact ‹World.cell? _ _ = some _ ∧ World.cell? _ _ = some _ ∧ World.cell? _ _ = some _ ∧ World.cell? _ _ = some _ ∧ World.cell? _ _ = some _ ∧ World.cell? _ _ = some _ ∧ Cel _ _ ∧ Cel _ _ ∧ Cel _ _ ∧ Fr _ _ _ _ _ _ ∧ Box w _ _› | (have hS := ‹World.cell? _ _ = some _ ∧ World.cell? _ _ = some _ ∧ World.cell? _ _ = some _ ∧ World.cell? _ _ = some _ ∧ World.cell? _ _ = some _ ∧ World.cell? _ _ = some _ ∧ Cel _ _ ∧ Cel _ _ ∧ Cel _ _ ∧ Fr _ _ _ _ _ _ ∧ Box w _ _›; exact ⟨cell_on hS.1 hb3, cell_on hS.2.1 hb3, cell_on hS.2.2.1 hb3, cell_on hS.2.2.2.1 hb3, cell_on hS.2.2.2.2.1 hb3, cell_on hS.2.2.2.2.2.1 hb3, hS.2.2.2.2.2.2.1.on hb3, hS.2.2.2.2.2.2.2.1.on hb3, hS.2.2.2.2.2.2.2.2.1.on hb3, hS.2.2.2.2.2.2.2.2.2.1.below hb3 (Nat.le_refl _), hS.2.2.2.2.2.2.2.2.2.2.on hb3⟩) | (have hS := ‹World.cell? _ _ = some _ ∧ World.cell? _ _ = some _ ∧ World.cell? _ _ = some _ ∧ World.cell? _ _ = some _ ∧ World.cell? _ _ = some _ ∧ World.cell? _ _ = some _ ∧ Cel _ _ ∧ Cel _ _ ∧ Cel _ _ ∧ Fr _ _ _ _ _ _ ∧ Box w _ _›; exact ⟨cell_on hS.1 hb4, cell_on hS.2.1 hb4, cell_on hS.2.2.1 hb4, cell_on hS.2.2.2.1 hb4, cell_on hS.2.2.2.2.1 hb4, cell_on hS.2.2.2.2.2.1 hb4, hS.2.2.2.2.2.2.1.on hb4, hS.2.2.2.2.2.2.2.1.on hb4, hS.2.2.2.2.2.2.2.2.1.on hb4, hS.2.2.2.2.2.2.2.2.2.1.below hb4 (Nat.le_refl _), hS.2.2.2.2.2.2.2.2.2.2.on hb4⟩) | (have hS := ‹World.cell? _ _ = some _ ∧ World.cell? _ _ = some _ ∧ World.cell? _ _ = some _ ∧ World.cell? _ _ = some _ ∧ World.cell? _ _ = some _ ∧ World.cell? _ _ = some _ ∧ Cel _ _ ∧ Cel _ _ ∧ Cel _ _ ∧ Fr _ _ _ _ _ _ ∧ Box w _ _›; exact ⟨cell_set (cell_set hS.1 (by omega)) (by omega), cell_set (cell_set hS.2.1 (by omega)) (by omega), cell_set (cell_set hS.2.2.1 (by omega)) (by omega), cell_set (cell_set hS.2.2.2.1 (by omega)) (by omega), cell_set (cell_set hS.2.2.2.2.1 (by omega)) (by omega), cell_set (cell_set hS.2.2.2.2.2.1 (by omega)) (by omega), (hS.2.2.2.2.2.2.1.set _ _ _).set _ _ _, (hS.2.2.2.2.2.2.2.1.set _ _ _).set _ _ _, (hS.2.2.2.2.2.2.2.2.1.set _ _ _).set _ _ _, (hS.2.2.2.2.2.2.2.2.2.1.setLow (by omega) _ _).setLow (by omega) _ _, (hS.2.2.2.2.2.2.2.2.2.2.set (by omega) _ _).set (by omega) _ _⟩))
    (first | (go_at_call 17; have hS := ‹World.cell? _ _ = some _ ∧ World.cell? _ _ = some _ ∧ World.cell? _ _ = some _ ∧ World.cell? _ _ = some _ ∧ World.cell? _ _ = some _ ∧ World.cell? _ _ = some _ ∧ Cel _ _ ∧ Cel _ _ ∧ Cel _ _ ∧ Fr _ _ _ _ _ _ ∧ Box w _ _›; refine (qmul_of (z := Q * zv b2 (val ys)) hS.2.2.2.2.2.2.2.2.2.1.sl (hy.below hS.2.2.2.2.2.2.2.2.2.2.below (Nat.le_refl _)) (by omega) (by omega) HM).mono ?_; rintro e w3 ⟨p7, n7, c7, rfl, hf7, hb3⟩; have hlt3 := hS.2.2.2.2.2.2.2.2.2.2.lt; have hn7 : n7 ≤ 1099511627776 := z_len hf7 (by rw [Int.natAbs_mul, natAbs_zv]; have h1 := ll_mul Q.natAbs (val ys); have h2 := HQL.out; have h3 := HYL.out; omega); clear hS) | (go_at_call 15; have hS := ‹World.cell? _ _ = some _ ∧ World.cell? _ _ = some _ ∧ World.cell? _ _ = some _ ∧ World.cell? _ _ = some _ ∧ World.cell? _ _ = some _ ∧ World.cell? _ _ = some _ ∧ Cel _ _ ∧ Cel _ _ ∧ Cel _ _ ∧ Fr _ _ _ _ _ _ ∧ Box w _ _›; refine (qsub_of (z := R) (hx.below hS.2.2.2.2.2.2.2.2.2.2.below (Nat.le_refl _)) hf7.sl (by omega) (by omega) HS).mono ?_; rintro e w4 ⟨p8, n8, c8, rfl, hf8, hb4⟩; replace hf7 := hf7.below hb4 (Nat.le_refl _); have hlt4 := hS.2.2.2.2.2.2.2.2.2.2.lt; obtain ⟨⟨u0, hu0⟩, ⟨u1, hu1⟩, hug0, hug1⟩ := (hS.2.2.2.2.2.2.1).on hb4; obtain ⟨⟨v0, hv0⟩, ⟨v1, hv1⟩, hvg0, hvg1⟩ := (hS.2.2.2.2.2.2.2.1).on hb4; clear hS))
  obtain ⟨hA00, hA01, hA10, hA11, hL00, hL01, hR0, hR1, hR2, hf6, hB⟩ := ‹World.cell? _ _ = some _ ∧ World.cell? _ _ = some _ ∧ World.cell? _ _ = some _ ∧ World.cell? _ _ = some _ ∧ World.cell? _ _ = some _ ∧ World.cell? _ _ = some _ ∧ Cel _ _ ∧ Cel _ _ ∧ Cel _ _ ∧ Fr _ _ _ _ _ _ ∧ Box w _ _›
  go_wp2_with fail
  refine bodyPost_ret (v := .tuple #[.agg #[.bool (ng Q), .slice p6 n6 c6], .agg #[.bool (ng R), .slice p8 n8 c8]]) (by simp [results, Try.results39, go_sem, hu0, hu1, hv0, hv1]) rfl ?_
  exact ⟨_, _, _, _, _, _, rfl, hf6.mono (by omega), (((hf8.setLow (by omega) _ _).setLow (by omega) _ _).setLow (by omega) _ _).setLow (by omega) _ _ |>.mono (by omega), hB.below⟩

set_option maxHeartbeats 4000000 in
theorem qexact_yes {p q : Option Addr} {n m c d : Nat} {b b2 : Bool} {xs ys : List Nat} {w : World} {Q R : Int} (hx : Sl w p n c xs) (hy : Sl w q m d ys) (hn : n ≤ 549755813888) (hm : m ≤ 549755813888) (h0 : val ys ≠ 0) (hQ : Hid ((zv b (val xs)).tdiv (zv b2 (val ys)) = Q)) (hR : Hid ((zv b (val xs)).tmod (zv b2 (val ys)) = R)) (h1 : R = 0) :
    Calls Try.prog 40 #[.agg #[.bool b, .slice p n c], .agg #[.bool b2, .slice q m d]] w (RetZB w Q true) := by
  have hrl : ll R.natAbs ≤ 549755813888 := by
    rw [← hR.out, Int.natAbs_tmod, natAbs_zv, natAbs_zv]
    have h1 := ll_mono (Nat.mod_le (val xs) (val ys))
    have h2 := val_ll hx.lims
    rw [hx.len] at h2
    exact Nat.le_trans h1 (Nat.le_trans h2 hn)
  have HRL := Lib.hid hrl
  have H0 := Lib.hid h0
  clear h0 hrl
  have HSG : Hid (0 = (zv (ng R) (val (lim R.natAbs))).sign) := by show _ = _; rw [val_lim, zv_ng]; rw [h1]; rfl
  clear h1
  go_enter Try.func40, Try.ntmps40
  go_wp2_with fail
  obtain ⟨W, hW⟩ : ∃ W : World, W = (((w.alloc (.cells #[.bool b, .slice p n c] 25)).alloc (.cells #[.bool b2, .slice q m d] 25)).alloc (.cells #[.bool false, .slice none 0 0] 25)) := ⟨_, rfl⟩
  rw [← hW]
  have hA00 : W.cell? ⟨w.heap.size, 0, none⟩ = some (.bool b) := by rw [hW]; exact (cell_on (cell_on (box_c0 (by simp)) (below_alloc _ _)) (below_alloc _ _))
  have hA01 : W.cell? ⟨w.heap.size, 1, none⟩ = some (.slice p n c) := by rw [hW]; exact (cell_on (cell_on (box_c1 (by simp)) (below_alloc _ _)) (below_alloc _ _))
  have hA10 : W.cell? ⟨w.heap.size + 1, 0, none⟩ = some (.bool b2) := by rw [hW]; exact (cell_on (box_c0 (by simp)) (below_alloc _ _))
  have hA11 : W.cell? ⟨w.heap.size + 1, 1, none⟩ = some (.slice q m d) := by rw [hW]; exact (cell_on (box_c1 (by simp)) (below_alloc _ _))
  have hR0 : Cel (w.heap.size + 2) W := by rw [hW]; exact (Cel.ofAlloc (by simp))
  have hB : Box w (w.heap.size + 2) W := by rw [hW]; exact ⟨by (try simp) <;> omega, ((((Below.refl _ _).alloc (Nat.le_refl _) _).alloc (by (try simp) <;> omega) _).alloc (by (try simp) <;> omega) _)⟩
  clear hW
  go_wp2_with fail
  refine (qtrunc_of (hx.below hB.below (Nat.le_refl _)) (hy.below hB.below (Nat.le_refl _)) hn hm H0.out hQ hR).mono ?_
  rintro e w1 ⟨p4, n4, c4, p5, n5, c5, rfl, hf4, hf5, hb1⟩
  have hlt1 := hB.lt
  replace hA00 := cell_on hA00 hb1
  replace hA01 := cell_on hA01 hb1
  replace hA10 := cell_on hA10 hb1
  replace hA11 := cell_on hA11 hb1
  replace hR0 := hR0.on hb1
  replace hB := hB.on hb1
  clear hb1
  go_upto_region 2 with (fail)
  have hlb0 := hB.lt
  obtain ⟨W1, hW⟩ : ∃ W1 : World, W1 = ((w1.alloc (.cells #[.bool (ng Q), .slice p4 n4 c4] 25)).alloc (.cells #[.bool (ng R), .slice p5 n5 c5] 25)) := ⟨_, rfl⟩
  rw [← hW]
  have qhA00 : W1.cell? ⟨w.heap.size, 0, none⟩ = some (.bool b) := by rw [hW]; exact (cell_on (cell_on hA00 (below_alloc _ _)) (below_alloc _ _))
  have qhA01 : W1.cell? ⟨w.heap.size, 1, none⟩ = some (.slice p n c) := by rw [hW]; exact (cell_on (cell_on hA01 (below_alloc _ _)) (below_alloc _ _))
  have qhA10 : W1.cell? ⟨w.heap.size + 1, 0, none⟩ = some (.bool b2) := by rw [hW]; exact (cell_on (cell_on hA10 (below_alloc _ _)) (below_alloc _ _))
  have qhA11 : W1.cell? ⟨w.heap.size + 1, 1, none⟩ = some (.slice q m d) := by rw [hW]; exact (cell_on (cell_on hA11 (below_alloc _ _)) (below_alloc _ _))
  have qhR0 : Cel (w.heap.size + 2) W1 := by rw [hW]; exact ((hR0.on (below_alloc _ _)).on (below_alloc _ _))
  have qhf4 : Fr W.heap.size W1 p4 n4 c4 (lim Q.natAbs) := by rw [hW]; exact ((hf4.below (below_alloc _ _) (Nat.le_refl _)).below (below_alloc _ _) (Nat.le_refl _))
  have qhf5 : Fr W.heap.size W1 p5 n5 c5 (lim R.natAbs) := by rw [hW]; exact ((hf5.below (below_alloc _ _) (Nat.le_refl _)).below (below_alloc _ _) (Nat.le_refl _))
  have hL00 : W1.cell? ⟨w1.heap.size, 0, none⟩ = some (.bool (ng Q)) := by rw [hW]; exact (cell_on (box_c0 (by simp)) (below_alloc _ _))
  have hL01 : W1.cell? ⟨w1.heap.size, 1, none⟩ = some (.slice p4 n4 c4) := by rw [hW]; exact (cell_on (box_c1 (by simp)) (below_alloc _ _))
  have hR1 : Cel (w1.heap.size) W1 := by rw [hW]; exact ((Cel.ofAlloc (by simp)).on (below_alloc _ _))
  have hL10 : W1.cell? ⟨w1.heap.size + 1, 0, none⟩ = some (.bool (ng R)) := by rw [hW]; exact (box_c0 (by simp))
  have hL11 : W1.cell? ⟨w1.heap.size + 1, 1, none⟩ = some (.slice p5 n5 c5) := by rw [hW]; exact (box_c1 (by simp))
  have hR2 : Cel (w1.heap.size + 1) W1 := by rw [hW]; exact (Cel.ofAlloc (by simp))
  have qhB : Box w (w1.heap.size + 1) W1 := by rw [hW]; exact ⟨by (try simp) <;> omega, ((hB.below.alloc (by (try simp) <;> omega) _).alloc (by (try simp) <;> omega) _)⟩
  clear hW hA00 hA01 hA10 hA11 hR0 hf4 hf5 hB
  have hA00 := qhA00
  have hA01 := qhA01
  have hA10 := qhA10
  have hA11 := qhA11
  have hR0 := qhR0
  have hf4 := qhf4
  have hf5 := qhf5
  have hB := qhB
  clear qhA00 qhA01 qhA10 qhA11 qhR0 qhf4 qhf5 qhB
  go_wp2_with fail
  refine (qsign_of (b := ng R) hf5.sl HSG).mono ?_
  rintro e w2 ⟨rfl, hb2⟩
  clear hf5
  replace hA00 := cell_on hA00 hb2
  replace hA01 := cell_on hA01 hb2
  replace hA10 := cell_on hA10 hb2
  replace hA11 := cell_on hA11 hb2
  replace hR0 := hR0.on hb2
  replace hB := hB.on hb2
  replace hf4 := hf4.below hb2 (Nat.le_refl _)
  replace hL00 := cell_on hL00 hb2
  replace hL01 := cell_on hL01 hb2
  replace hL10 := cell_on hL10 hb2
  replace hL11 := cell_on hL11 hb2
  replace hR1 := hR1.on hb2
  replace hR2 := hR2.on hb2
  clear hb2
  obtain ⟨⟨u0, hu0⟩, ⟨u1, hu1⟩, hug0, hug1⟩ := hR0
  go_wp2_with fail
  refine bodyPost_ret (v := .tuple #[.agg #[.bool (ng Q), .slice p4 n4 c4], .bool true]) (by simp [results, Try.results40, go_sem, hu0, hu1]) rfl ?_
  exact ⟨_, _, _, rfl, hf4.setBox (by omega) (by omega), ((hB.set (by omega) _ _).set (by omega) _ _).below⟩

set_option maxHeartbeats 4000000 in
theorem qexact_no {p q : Option Addr} {n m c d : Nat} {b b2 : Bool} {xs ys : List Nat} {w : World} {Q R : Int} (hx : Sl w p n c xs) (hy : Sl w q m d ys) (hn : n ≤ 549755813888) (hm : m ≤ 549755813888) (h0 : val ys ≠ 0) (hQ : Hid ((zv b (val xs)).tdiv (zv b2 (val ys)) = Q)) (hR : Hid ((zv b (val xs)).tmod (zv b2 (val ys)) = R)) (h1 : R ≠ 0) :
    Calls Try.prog 40 #[.agg #[.bool b, .slice p n c], .agg #[.bool b2, .slice q m d]] w (RetZB w 0 false) := by
  have hrl : ll R.natAbs ≤ 549755813888 := by
    rw [← hR.out, Int.natAbs_tmod, natAbs_zv, natAbs_zv]
    have h1 := ll_mono (Nat.mod_le (val xs) (val ys))
    have h2 := val_ll hx.lims
    rw [hx.len] at h2
    exact Nat.le_trans h1 (Nat.le_trans h2 hn)
  have HRL := Lib.hid hrl
  have H0 := Lib.hid h0
  clear h0 hrl
  obtain ⟨sg, hsg⟩ : ∃ s, s = R.sign := ⟨_, rfl⟩
  have hz : (sg == 0) = false := by
    have := sign_cases R
    rw [beq_eq_false_iff_ne]; omega
  have hz2 : (sg != 0) = true := by rw [bne, hz]; rfl
  have HSG : Hid (sg = (zv (ng R) (val (lim R.natAbs))).sign) := by show _ = _; rw [val_lim, zv_ng]; exact hsg
  clear hsg h1 hz
  go_enter Try.func40, Try.ntmps40
  go_wp2_with fail
  obtain ⟨W, hW⟩ : ∃ W : World, W = (((w.alloc (.cells #[.bool b, .slice p n c] 25)).alloc (.cells #[.bool b2, .slice q m d] 25)).alloc (.cells #[.bool false, .slice none 0 0] 25)) := ⟨_, rfl⟩
  rw [← hW]
  have hA00 : W.cell? ⟨w.heap.size, 0, none⟩ = some (.bool b) := by rw [hW]; exact (cell_on (cell_on (box_c0 (by simp)) (below_alloc _ _)) (below_alloc _ _))
  have hA01 : W.cell? ⟨w.heap.size, 1, none⟩ = some (.slice p n c) := by rw [hW]; exact (cell_on (cell_on (box_c1 (by simp)) (below_alloc _ _)) (below_alloc _ _))
  have hA10 : W.cell? ⟨w.heap.size + 1, 0, none⟩ = some (.bool b2) := by rw [hW]; exact (cell_on (box_c0 (by simp)) (below_alloc _ _))
  have hA11 : W.cell? ⟨w.heap.size + 1, 1, none⟩ = some (.slice q m d) := by rw [hW]; exact (cell_on (box_c1 (by simp)) (below_alloc _ _))
  have hR0 : Cel (w.heap.size + 2) W := by rw [hW]; exact (Cel.ofAlloc (by simp))
  have hB : Box w (w.heap.size + 2) W := by rw [hW]; exact ⟨by (try simp) <;> omega, ((((Below.refl _ _).alloc (Nat.le_refl _) _).alloc (by (try simp) <;> omega) _).alloc (by (try simp) <;> omega) _)⟩
  clear hW
  go_wp2_with fail
  refine (qtrunc_of (hx.below hB.below (Nat.le_refl _)) (hy.below hB.below (Nat.le_refl _)) hn hm H0.out hQ hR).mono ?_
  rintro e w1 ⟨p4, n4, c4, p5, n5, c5, rfl, hf4, hf5, hb1⟩
  have hlt1 := hB.lt
  replace hA00 := cell_on hA00 hb1
  replace hA01 := cell_on hA01 hb1
  replace hA10 := cell_on hA10 hb1
  replace hA11 := cell_on hA11 hb1
  replace hR0 := hR0.on hb1
  replace hB := hB.on hb1
  clear hb1
  clear hf4
  go_upto_region 2 with (fail)
  have hlb0 := hB.lt
  obtain ⟨W1, hW⟩ : ∃ W1 : World, W1 = ((w1.alloc (.cells #[.bool (ng Q), .slice p4 n4 c4] 25)).alloc (.cells #[.bool (ng R), .slice p5 n5 c5] 25)) := ⟨_, rfl⟩
  rw [← hW]
  have qhA00 : W1.cell? ⟨w.heap.size, 0, none⟩ = some (.bool b) := by rw [hW]; exact (cell_on (cell_on hA00 (below_alloc _ _)) (below_alloc _ _))
  have qhA01 : W1.cell? ⟨w.heap.size, 1, none⟩ = some (.slice p n c) := by rw [hW]; exact (cell_on (cell_on hA01 (below_alloc _ _)) (below_alloc _ _))
  have qhA10 : W1.cell? ⟨w.heap.size + 1, 0, none⟩ = some (.bool b2) := by rw [hW]; exact (cell_on (cell_on hA10 (below_alloc _ _)) (below_alloc _ _))
  have qhA11 : W1.cell? ⟨w.heap.size + 1, 1, none⟩ = some (.slice q m d) := by rw [hW]; exact (cell_on (cell_on hA11 (below_alloc _ _)) (below_alloc _ _))
  have qhR0 : Cel (w.heap.size + 2) W1 := by rw [hW]; exact ((hR0.on (below_alloc _ _)).on (below_alloc _ _))
  have qhf5 : Fr W.heap.size W1 p5 n5 c5 (lim R.natAbs) := by rw [hW]; exact ((hf5.below (below_alloc _ _) (Nat.le_refl _)).below (below_alloc _ _) (Nat.le_refl _))
  have hL00 : W1.cell? ⟨w1.heap.size, 0, none⟩ = some (.bool (ng Q)) := by rw [hW]; exact (cell_on (box_c0 (by simp)) (below_alloc _ _))
  have hL01 : W1.cell? ⟨w1.heap.size, 1, none⟩ = some (.slice p4 n4 c4) := by rw [hW]; exact (cell_on (box_c1 (by simp)) (below_alloc _ _))
  have hR1 : Cel (w1.heap.size) W1 := by rw [hW]; exact ((Cel.ofAlloc (by simp)).on (below_alloc _ _))
  have hL10 : W1.cell? ⟨w1.heap.size + 1, 0, none⟩ = some (.bool (ng R)) := by rw [hW]; exact (box_c0 (by simp))
  have hL11 : W1.cell? ⟨w1.heap.size + 1, 1, none⟩ = some (.slice p5 n5 c5) := by rw [hW]; exact (box_c1 (by simp))
  have hR2 : Cel (w1.heap.size + 1) W1 := by rw [hW]; exact (Cel.ofAlloc (by simp))
  have qhB : Box w (w1.heap.size + 1) W1 := by rw [hW]; exact ⟨by (try simp) <;> omega, ((hB.below.alloc (by (try simp) <;> omega) _).alloc (by (try simp) <;> omega) _)⟩
  clear hW hA00 hA01 hA10 hA11 hR0 hf5 hB
  have hA00 := qhA00
  have hA01 := qhA01
  have hA10 := qhA10
  have hA11 := qhA11
  have hR0 := qhR0
  have hf5 := qhf5
  have hB := qhB
  clear qhA00 qhA01 qhA10 qhA11 qhR0 qhf5 qhB
  go_wp2_with fail
  refine (qsign_of (b := ng R) hf5.sl HSG).mono ?_
  rintro e w2 ⟨rfl, hb2⟩
  clear hf5
  replace hA00 := cell_on hA00 hb2
  replace hA01 := cell_on hA01 hb2
  replace hA10 := cell_on hA10 hb2
  replace hA11 := cell_on hA11 hb2
  replace hR0 := hR0.on hb2
  replace hB := hB.on hb2
  replace hL00 := cell_on hL00 hb2
  replace hL01 := cell_on hL01 hb2
  replace hL10 := cell_on hL10 hb2
  replace hL11 := cell_on hL11 hb2
  replace hR1 := hR1.on hb2
  replace hR2 := hR2.on hb2
  clear hb2
  obtain ⟨⟨u0, hu0⟩, ⟨u1, hu1⟩, hug0, hug1⟩ := hR0
  go_wp2_with fail
  refine bodyPost_ret (v := .tuple #[.agg #[.bool false, .slice none 0 0], .bool false]) (by simp [results, Try.results40, go_sem, hu0, hu1]) rfl ?_
  exact ⟨_, _, _, rfl, Fr.nil _ _, ((hB.set (by omega) _ _).set (by omega) _ _).below⟩

end Go.Proofs.Ytlnilkghbbbhbaa
