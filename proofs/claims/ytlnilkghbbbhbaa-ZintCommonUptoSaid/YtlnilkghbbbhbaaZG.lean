
/-
  The walk of zint: Near.
-/
import Derived.Test.YtlnilkghbbbhbaaBE
import Derived.Test.YtlnilkghbbbhbaaBB
import Derived.Outline
set_option linter.unusedVariables false
set_option linter.unusedSimpArgs false
namespace Go.Proofs.Ytlnilkghbbbhbaa
open Go.RowKit

theorem bit_lim {p : Option Addr} {n c N t : Nat} {w : World} (hx : Sl w p n c (lim N)) (hn : n ≤ 17592186044416) (ht : Hid (N % 2 = t)) :
    Calls Try.prog 76 #[.slice p n c, .int .i64 0] w fun e w' => e = .returned (.int .u64 ((t : Nat) : Int)) ∧ w = w' := by
  have h := bit_zero hx hn
  rw [low_even, ht.out] at h
  exact h

theorem zcmp_of {s : Int} {p q : Option Addr} {n m c d : Nat} {b b2 : Bool} {xs ys : List Nat} {w : World} (hx : Sl w p n c xs) (hy : Sl w q m d ys) (hn : n ≤ 17592186044416) (hm : m ≤ 17592186044416) (hs : Hid (cmpZ (zv b (val xs)) (zv b2 (val ys)) = s)) :
    Calls Try.prog 27 #[.agg #[.bool b, .slice p n c], .agg #[.bool b2, .slice q m d]] w (RetInt w s) := by
  rw [← hs.out]; exact zcmp_any hx hy hn hm

theorem zup_of {z : Int} {p : Option Addr} {n c : Nat} {b : Bool} {xs : List Nat} {w : World} (hx : Sl w p n c xs) (hn : n ≤ 1099511627776) (hz : Hid (zv b (val xs) + 1 = z)) :
    Calls Try.prog 100 #[.agg #[.bool b, .slice p n c]] w (RetZ w z) := by
  rw [← hz.out]; exact zup_any hx hn

theorem zdown_of {z : Int} {p : Option Addr} {n c : Nat} {b : Bool} {xs : List Nat} {w : World} (hx : Sl w p n c xs) (hn : n ≤ 1099511627776) (hz : Hid (zv b (val xs) = z)) :
    Calls Try.prog 101 #[.agg #[.bool b, .slice p n c]] w (RetZ w z) := by
  rw [← hz.out]; exact zdown_any hx hn

/-- What lies in the boxes of Near behind its first test. -/
def NearA (w : World) (A B : Int) (wc : World) : Prop :=
  ∃ b p n c xs b2 q m d ys, wc.cell? ⟨w.heap.size, 0, none⟩ = some (.bool b) ∧ wc.cell? ⟨w.heap.size, 1, none⟩ = some (.slice p n c) ∧ wc.cell? ⟨w.heap.size + 1, 0, none⟩ = some (.bool b2) ∧ wc.cell? ⟨w.heap.size + 1, 1, none⟩ = some (.slice q m d) ∧
    Cel (w.heap.size + 2) wc ∧ Sl wc p n c xs ∧ Sl wc q m d ys ∧ Hid (zv b (val xs) = A) ∧ Hid (zv b2 (val ys) = B) ∧ n ≤ 1099511627776 ∧ m ≤ 1099511627776 ∧ Box w (w.heap.size + 2) wc

/-- What lies in the boxes of Near behind its second test. -/
def NearB (w wq : World) (Q : Int) (p4 : Option Addr) (n4 c4 : Nat) (wc : World) : Prop :=
  wc.cell? ⟨wq.heap.size, 0, none⟩ = some (.bool (ng Q)) ∧ wc.cell? ⟨wq.heap.size, 1, none⟩ = some (.slice p4 n4 c4) ∧ Cel (w.heap.size + 2) wc ∧ (∃ B4, Fr B4 wc p4 n4 c4 (lim Q.natAbs) ∧ w.heap.size + 2 < B4) ∧ w.heap.size + 2 < wq.heap.size ∧ Below w.heap.size w wc

set_option maxRecDepth 100000 in
set_option maxHeartbeats 16000000 in
theorem znear_any {p q : Option Addr} {n m c d : Nat} {b b2 : Bool} {xs ys : List Nat} {w : World} (hx : Sl w p n c xs) (hy : Sl w q m d ys) (hn : n ≤ 1099511627776) (hm : m ≤ 1099511627776) (h0 : val ys ≠ 0) :
    Calls Try.prog 35 #[.agg #[.bool b, .slice p n c], .agg #[.bool b2, .slice q m d]] w (RetZE w (nearZ (zv b (val xs)) (zv b2 (val ys))) 0) := by
  obtain ⟨A, hA⟩ : ∃ A : Int, A = if zv b2 (val ys) < 0 then -(zv b (val xs)) else zv b (val xs) := ⟨_, rfl⟩
  obtain ⟨B, hB0⟩ : ∃ B : Int, B = if zv b2 (val ys) < 0 then -(zv b2 (val ys)) else zv b2 (val ys) := ⟨_, rfl⟩
  have hYn : zv b2 (val ys) ≠ 0 := fun h => h0 (zv_eq_zero.1 h)
  have HNR : Hid (nearZ (zv b (val xs)) (zv b2 (val ys)) = nearP A B) := by
    show _ = _
    unfold nearZ
    rw [hA, hB0]
    split <;> rfl
  have hBp : 0 < B := by rw [hB0]; split <;> omega
  obtain ⟨s1, hs1⟩ : ∃ s, s = (zv b2 (val ys)).sign := ⟨_, rfl⟩
  have hcase : s1 < 0 ∧ A = -(zv b (val xs)) ∧ B = -(zv b2 (val ys)) ∨ 0 ≤ s1 ∧ A = zv b (val xs) ∧ B = zv b2 (val ys) := by
    have := sign_cases (zv b2 (val ys))
    rcases Int.lt_or_le (zv b2 (val ys)) 0 with h | h
    · rw [if_pos h] at hA hB0; exact Or.inl ⟨by omega, hA, hB0⟩
    · rw [if_neg (by omega)] at hA hB0; exact Or.inr ⟨by omega, hA, hB0⟩
  have HCASE := Lib.hid hcase
  have HSY := Lib.hid hs1
  clear hA hB0 hYn h0 hs1 hcase
  go_enter Try.func35, Try.ntmps35
  go_wp2_with fail
  obtain ⟨W, hW⟩ : ∃ W : World, W = (((w.alloc (.cells #[.bool b, .slice p n c] 25)).alloc (.cells #[.bool b2, .slice q m d] 25)).alloc (.cells #[.bool false, .slice none 0 0] 25)) := ⟨_, rfl⟩
  rw [← hW]
  have hA00 : W.cell? ⟨w.heap.size, 0, none⟩ = some (.bool b) := by rw [hW]; exact (cell_on (cell_on (box_c0 (by simp)) (below_alloc _ _)) (below_alloc _ _))
  have hA01 : W.cell? ⟨w.heap.size, 1, none⟩ = some (.slice p n c) := by rw [hW]; exact (cell_on (cell_on (box_c1 (by simp)) (below_alloc _ _)) (below_alloc _ _))
  have hA10 : W.cell? ⟨w.heap.size + 1, 0, none⟩ = some (.bool b2) := by rw [hW]; exact (cell_on (box_c0 (by simp)) (below_alloc _ _))
  have hA11 : W.cell? ⟨w.heap.size + 1, 1, none⟩ = some (.slice q m d) := by rw [hW]; exact (cell_on (box_c1 (by simp)) (below_alloc _ _))
  have hF00 : W.frozen? ⟨w.heap.size, 0, none⟩ = false := by rw [hW]; exact (((Cel.ofAlloc (by simp)).on (below_alloc _ _)).on (below_alloc _ _)).f0
  have hF01 : W.frozen? ⟨w.heap.size, 1, none⟩ = false := by rw [hW]; exact (((Cel.ofAlloc (by simp)).on (below_alloc _ _)).on (below_alloc _ _)).f1
  have hF10 : W.frozen? ⟨w.heap.size + 1, 0, none⟩ = false := by rw [hW]; exact ((Cel.ofAlloc (by simp)).on (below_alloc _ _)).f0
  have hF11 : W.frozen? ⟨w.heap.size + 1, 1, none⟩ = false := by rw [hW]; exact ((Cel.ofAlloc (by simp)).on (below_alloc _ _)).f1
  have hR0 : Cel (w.heap.size + 2) W := by rw [hW]; exact (Cel.ofAlloc (by simp))
  have hB : Box w (w.heap.size + 2) W := by rw [hW]; exact ⟨by (try simp) <;> omega, ((((Below.refl _ _).alloc (Nat.le_refl _) _).alloc (by (try simp) <;> omega) _).alloc (by (try simp) <;> omega) _)⟩
  clear hW
  go_wp2_with fail
  refine (zsign_of (hy.below hB.below (Nat.le_refl _)) (by omega) HSY).mono ?_
  rintro e w1 ⟨rfl, hb1⟩
  replace hF00 := frozen_on hA00 hF00 hb1
  replace hF01 := frozen_on hA01 hF01 hb1
  replace hF10 := frozen_on hA10 hF10 hb1
  replace hF11 := frozen_on hA11 hF11 hb1
  replace hA00 := cell_on hA00 hb1
  replace hA01 := cell_on hA01 hb1
  replace hA10 := cell_on hA10 hb1
  replace hA11 := cell_on hA11 hb1
  replace hR0 := hR0.on hb1
  replace hB := hB.on hb1
  clear hb1
  go_upto_if 13 with (fail)
  go_cut [] (fun wc => NearA w A B wc)
  case first =>
    rcases HCASE.out with ⟨h1, h2, h3⟩ | ⟨h1, h2, h3⟩
    · have hz : decide (s1 < 0) = true := by simp; omega
      have HA2 := Lib.hid h2.symm
      have HB2 := Lib.hid h3.symm
      clear h2 h3
      go_upto_region 2 with (fail)
      have P0 : Cel w.heap.size w1 := ⟨⟨_, hA00⟩, ⟨_, hA01⟩, hF00, hF01⟩
      have P1 : Cel (w.heap.size + 1) w1 := ⟨⟨_, hA10⟩, ⟨_, hA11⟩, hF10, hF11⟩
      go_region_with (first
        | (go_at_call 28; (with_reducible refine (zneg_of (z := A) (hx.below hB.below.drew (Nat.le_refl _)) (by omega) HA2).mono ?_); rintro e w3 ⟨p3, n3, c3, rfl, hf3, hb3⟩; have kA10 := cell_on (W := w1.drew) (by simpa using hA10) hb3; have kA11 := cell_on (W := w1.drew) (by simpa using hA11) hb3)
        | (go_at_call 28; (with_reducible refine (zneg_of (z := B) (hy.below (hB.drew.on hb3).below (Nat.le_refl _)) (by omega) HB2).mono ?_); rintro e w4 ⟨p4, n4, c4, rfl, hf4, hb4⟩; obtain ⟨⟨r0, hr0⟩, ⟨r1, hr1⟩, hg0, hg1⟩ := (P0.drew.on hb3).on hb4; obtain ⟨⟨r2, hr2⟩, ⟨r3, hr3⟩, hg2, hg3⟩ := (P1.drew.on hb3).on hb4))
      all_goals
        have hl3 := hb3.size
        have hl1 := hB.drew.lt
        have hlt := Nat.lt_of_lt_of_le hl1 hl3
        have e3 : ll A.natAbs ≤ 1099511627776 := by rw [← HA2.out, Int.natAbs_neg, natAbs_zv]; have := val_ll hx.lims; rw [hx.len] at this; omega
        have e4 : ll B.natAbs ≤ 1099511627776 := by rw [← HB2.out, Int.natAbs_neg, natAbs_zv]; have := val_ll hy.lims; rw [hy.len] at this; omega
        have hn3 := z_len hf3 e3
        have hn4 := z_len hf4 e4
        clear e3 e4
        go_wp2_with fail
        go_meet
        case rel => exact ⟨ng A, p3, n3, c3, _, ng B, p4, n4, c4, _, cell_set (cell_set (cell_idx (cell_same hr0) (by decide)) (by omega)) (by omega), cell_set (cell_set (cell_same (cell_idx hr1 (by decide))) (by omega)) (by omega), cell_idx (cell_same (cell_set (cell_set hr2 (by omega)) (by omega))) (by decide), cell_same (cell_idx (cell_set (cell_set hr3 (by omega)) (by omega)) (by decide)), (((((hR0.drew.on hb3).on hb4).set _ _ _).set _ _ _).set _ _ _).set _ _ _, (((((hf3.below hb4 (Nat.le_refl _)).setLow (by omega) _ _).setLow (by omega) _ _).setLow (by omega) _ _).setLow (by omega) _ _).sl, ((((hf4.setLow (by omega) _ _).setLow (by omega) _ _).setLow (by omega) _ _).setLow (by omega) _ _).sl, (by show _ = _; rw [val_lim, zv_ng]), (by show _ = _; rw [val_lim, zv_ng]), hn3, hn4, (((((hB.drew.on hb3).on hb4).set (by omega) _ _).set (by omega) _ _).set (by omega) _ _).set (by omega) _ _⟩
    · have hz : decide (s1 < 0) = false := by simp; omega
      have HA2 := Lib.hid h2.symm
      have HB2 := Lib.hid h3.symm
      clear h2 h3
      have h1n : ¬ s1 < 0 := by omega
      go_wp2_with fail
      go_meet
      case rel => exact ⟨b, p, n, c, xs, b2, q, m, d, ys, hA00, hA01, hA10, hA11, hR0, hx.below hB.below (Nat.le_refl _), hy.below hB.below (Nat.le_refl _), HA2, HB2, hn, hm, hB⟩
  case rest =>
    clear hA00 hA01 hA10 hA11 hF00 hF01 hF10 hF11 hR0 hB HSY HCASE hx hy hn hm
    obtain ⟨b, p, n, c, xs, b2, q, m, d, ys, hA00, hA01, hA10, hA11, hR0, hx, hy, HA, HB, hn, hm, hB⟩ := hcut
    obtain ⟨Q, hQ⟩ : ∃ v, A / B = v := ⟨_, rfl⟩
    obtain ⟨R, hR⟩ : ∃ v, A % B = v := ⟨_, rfl⟩
    have hR1 := Int.emod_nonneg A (show B ≠ 0 by omega)
    have hR2 := Int.emod_lt_of_pos A hBp
    rw [hR] at hR1 hR2
    obtain ⟨cc, hcc⟩ : ∃ c, cmpZ (R + R) B = c := ⟨_, rfl⟩
    obtain ⟨t, ht⟩ : ∃ t, Q.natAbs % 2 = t := ⟨_, rfl⟩
    obtain ⟨ub, hub⟩ : ∃ u : Bool, u = decide (B < R + R ∨ B = R + R ∧ t = 1) := ⟨_, rfl⟩
    have HNP : Hid (nearP A B = if B < R + R ∨ B = R + R ∧ t = 1 then Q + 1 else Q) := by
      show _ = _
      unfold nearP
      rw [hQ, hR, ht]
    have HC4 : Hid (cc = 1 ∧ ub = true ∨ cc = 0 ∧ t = 1 ∧ ub = true ∨ cc = 0 ∧ t = 0 ∧ ub = false ∨ cc = -1 ∧ ub = false) := by
      have ht2 : t < 2 := by omega
      show _ ∨ _
      rw [← hcc, hub]
      unfold cmpZ
      rcases Int.lt_trichotomy (R + R) B with h | h | h
      · rw [if_pos h]; refine Or.inr (Or.inr (Or.inr ⟨rfl, decide_eq_false (by omega)⟩))
      · rw [if_neg (by omega), if_pos h]
        rcases (by omega : t = 0 ∨ t = 1) with h1 | h1
        · exact Or.inr (Or.inr (Or.inl ⟨rfl, h1, decide_eq_false (by omega)⟩))
        · exact Or.inr (Or.inl ⟨rfl, h1, decide_eq_true (by omega)⟩)
      · rw [if_neg (by omega), if_neg (by omega)]; exact Or.inl ⟨rfl, decide_eq_true (by omega)⟩
    have hxl : ll (val xs) ≤ 1099511627776 := by have := val_ll hx.lims; rw [hx.len] at this; omega
    have hyl : ll (val ys) ≤ 1099511627776 := by have := val_ll hy.lims; rw [hy.len] at this; omega
    have hQl : ll Q.natAbs ≤ 1099511627776 := by
      rw [← hQ]
      refine Nat.le_trans (ll_mono (Int.natAbs_ediv_le_natAbs A B)) ?_
      rw [← HA.out, natAbs_zv]; exact hxl
    have hRl : ll R.natAbs ≤ 1099511627776 := by
      refine Nat.le_trans (ll_mono (show R.natAbs ≤ B.natAbs by omega)) ?_
      rw [← HB.out, natAbs_zv]; exact hyl
    have hRRl : ll (R + R).natAbs ≤ 1099511627777 := by rw [Int.natAbs_add_of_nonneg hR1 hR1]; exact ll_add hRl hRl
    have hy0 : val ys ≠ 0 := fun h => by have h1 := HB.out; rw [h, zv_zero] at h1; omega
    have HQ : Hid (zv b (val xs) / zv b2 (val ys) = Q) := by show _ = _; rw [HA.out, HB.out]; exact hQ
    have HR : Hid (zv b (val xs) % zv b2 (val ys) = R) := by show _ = _; rw [HA.out, HB.out]; exact hR
    have HRR : Hid (zv (ng R) (val (lim R.natAbs)) + zv (ng R) (val (lim R.natAbs)) = R + R) := by show _ = _; rw [val_lim, zv_ng]
    have HCC : Hid (cmpZ (zv (ng (R + R)) (val (lim (R + R).natAbs))) (zv b2 (val ys)) = cc) := by show _ = _; rw [val_lim, zv_ng, HB.out]; exact hcc
    have HT := Lib.hid ht
    have HUB := Lib.hid hub
    have H0 := Lib.hid hy0
    have HQL := Lib.hid hQl
    have HRL := Lib.hid hRl
    have HRRL := Lib.hid hRRl
    clear hQ hR hcc ht hub hQl hRl hRRl hy0 hxl hyl hR1 hR2
    go_wp2_with fail
    refine (zeuclid_of hx hy hn hm H0.out HQ HR).mono ?_
    rintro e w11 ⟨p4, n4, c4, p5, n5, c5, rfl, hf4, hf5, hb11⟩
    have hlt11 := hB.lt
    replace hA00 := cell_on hA00 hb11
    replace hA01 := cell_on hA01 hb11
    replace hA10 := cell_on hA10 hb11
    replace hA11 := cell_on hA11 hb11
    replace hR0 := hR0.on hb11
    replace hB := hB.on hb11
    replace hx := hx.below hb11 (Nat.le_refl _)
    replace hy := hy.below hb11 (Nat.le_refl _)
    clear hb11
    go_upto_region 4 with (fail)
    have hlb0 := hB.lt
    obtain ⟨W1, hW⟩ : ∃ W1 : World, W1 = ((w11.alloc (.cells #[.bool (ng Q), .slice p4 n4 c4] 25)).alloc (.cells #[.bool (ng R), .slice p5 n5 c5] 25)) := ⟨_, rfl⟩
    rw [← hW]
    have qhA00 : W1.cell? ⟨w.heap.size, 0, none⟩ = some (.bool b) := by rw [hW]; exact (cell_on (cell_on hA00 (below_alloc _ _)) (below_alloc _ _))
    have qhA01 : W1.cell? ⟨w.heap.size, 1, none⟩ = some (.slice p n c) := by rw [hW]; exact (cell_on (cell_on hA01 (below_alloc _ _)) (below_alloc _ _))
    have qhA10 : W1.cell? ⟨w.heap.size + 1, 0, none⟩ = some (.bool b2) := by rw [hW]; exact (cell_on (cell_on hA10 (below_alloc _ _)) (below_alloc _ _))
    have qhA11 : W1.cell? ⟨w.heap.size + 1, 1, none⟩ = some (.slice q m d) := by rw [hW]; exact (cell_on (cell_on hA11 (below_alloc _ _)) (below_alloc _ _))
    have qhR0 : Cel (w.heap.size + 2) W1 := by rw [hW]; exact ((hR0.on (below_alloc _ _)).on (below_alloc _ _))
    have qhx : Sl W1 p n c xs := by rw [hW]; exact ((hx.below (below_alloc _ _) (Nat.le_refl _)).below (below_alloc _ _) (Nat.le_refl _))
    have qhy : Sl W1 q m d ys := by rw [hW]; exact ((hy.below (below_alloc _ _) (Nat.le_refl _)).below (below_alloc _ _) (Nat.le_refl _))
    have qhf4 : Fr wc.heap.size W1 p4 n4 c4 (lim Q.natAbs) := by rw [hW]; exact ((hf4.below (below_alloc _ _) (Nat.le_refl _)).below (below_alloc _ _) (Nat.le_refl _))
    have qhf5 : Fr wc.heap.size W1 p5 n5 c5 (lim R.natAbs) := by rw [hW]; exact ((hf5.below (below_alloc _ _) (Nat.le_refl _)).below (below_alloc _ _) (Nat.le_refl _))
    have hL00 : W1.cell? ⟨w11.heap.size, 0, none⟩ = some (.bool (ng Q)) := by rw [hW]; exact (cell_on (box_c0 (by simp)) (below_alloc _ _))
    have hL01 : W1.cell? ⟨w11.heap.size, 1, none⟩ = some (.slice p4 n4 c4) := by rw [hW]; exact (cell_on (box_c1 (by simp)) (below_alloc _ _))
    have hR1 : Cel (w11.heap.size) W1 := by rw [hW]; exact ((Cel.ofAlloc (by simp)).on (below_alloc _ _))
    have hL10 : W1.cell? ⟨w11.heap.size + 1, 0, none⟩ = some (.bool (ng R)) := by rw [hW]; exact (box_c0 (by simp))
    have hL11 : W1.cell? ⟨w11.heap.size + 1, 1, none⟩ = some (.slice p5 n5 c5) := by rw [hW]; exact (box_c1 (by simp))
    have hR2 : Cel (w11.heap.size + 1) W1 := by rw [hW]; exact (Cel.ofAlloc (by simp))
    have qhB : Box w (w11.heap.size + 1) W1 := by rw [hW]; exact ⟨by (try simp) <;> omega, ((hB.below.alloc (by (try simp) <;> omega) _).alloc (by (try simp) <;> omega) _)⟩
    clear hW hA00 hA01 hA10 hA11 hR0 hx hy hf4 hf5 hB
    have hA00 := qhA00
    have hA01 := qhA01
    have hA10 := qhA10
    have hA11 := qhA11
    have hR0 := qhR0
    have hx := qhx
    have hy := qhy
    have hf4 := qhf4
    have hf5 := qhf5
    have hB := qhB
    clear qhA00 qhA01 qhA10 qhA11 qhR0 qhx qhy qhf4 qhf5 qhB
    have hn4 : n4 ≤ 1099511627776 := z_len hf4 HQL.out
    have hn5 : n5 ≤ 1099511627776 := z_len hf5 HRL.out
    go_upto_region 7 with (fail)
    go_wp2_with fail
    clear hA00 hA01 hR1 hR2
    go_region_held3 (fun w' => w'.cell? ⟨w.heap.size + 1, 0, none⟩ = some (.bool b2) ∧ w'.cell? ⟨w.heap.size + 1, 1, none⟩ = some (.slice q m d) ∧ w'.cell? ⟨w11.heap.size, 0, none⟩ = some (.bool (ng Q)) ∧ w'.cell? ⟨w11.heap.size, 1, none⟩ = some (.slice p4 n4 c4) ∧ w'.cell? ⟨w11.heap.size + 1, 0, none⟩ = some (.bool (ng R)) ∧ w'.cell? ⟨w11.heap.size + 1, 1, none⟩ = some (.slice p5 n5 c5) ∧ Cel (w.heap.size + 2) w' ∧ Sl w' p n c xs ∧ Sl w' q m d ys ∧ Fr wc.heap.size w' p4 n4 c4 (lim Q.natAbs) ∧ Fr wc.heap.size w' p5 n5 c5 (lim R.natAbs) ∧ Box w (w11.heap.size + 1) w')
      (first | exact ⟨by simpa using hA10, by simpa using hA11, by simpa using hL00, by simpa using hL01, by simpa using hL10, by simpa using hL11, hR0.drew, hx.below (Below.refl _ _).drew (Nat.le_refl _), hy.below (Below.refl _ _).drew (Nat.le_refl _), hf4.below (Below.refl _ _).drew (Nat.le_refl _), hf5.below (Below.refl _ _).drew (Nat.le_refl _), hB.drew⟩ | exact ‹World.cell? _ _ = some _ ∧ World.cell? _ _ = some _ ∧ World.cell? _ _ = some _ ∧ World.cell? _ _ = some _ ∧ World.cell? _ _ = some _ ∧ World.cell? _ _ = some _ ∧ Cel _ _ ∧ Sl _ _ _ _ _ ∧ Sl _ _ _ _ _ ∧ Fr _ _ _ _ _ _ ∧ Fr _ _ _ _ _ _ ∧ Box w _ _› | (have hS := ‹World.cell? _ _ = some _ ∧ World.cell? _ _ = some _ ∧ World.cell? _ _ = some _ ∧ World.cell? _ _ = some _ ∧ World.cell? _ _ = some _ ∧ World.cell? _ _ = some _ ∧ Cel _ _ ∧ Sl _ _ _ _ _ ∧ Sl _ _ _ _ _ ∧ Fr _ _ _ _ _ _ ∧ Fr _ _ _ _ _ _ ∧ Box w _ _›; exact ⟨cell_on hS.1 hb12, cell_on hS.2.1 hb12, cell_on hS.2.2.1 hb12, cell_on hS.2.2.2.1 hb12, cell_on hS.2.2.2.2.1 hb12, cell_on hS.2.2.2.2.2.1 hb12, hS.2.2.2.2.2.2.1.on hb12, hS.2.2.2.2.2.2.2.1.below hb12 (Nat.le_refl _), hS.2.2.2.2.2.2.2.2.1.below hb12 (Nat.le_refl _), hS.2.2.2.2.2.2.2.2.2.1.below hb12 (Nat.le_refl _), hS.2.2.2.2.2.2.2.2.2.2.1.below hb12 (Nat.le_refl _), hS.2.2.2.2.2.2.2.2.2.2.2.on hb12⟩) | (have hS := ‹World.cell? _ _ = some _ ∧ World.cell? _ _ = some _ ∧ World.cell? _ _ = some _ ∧ World.cell? _ _ = some _ ∧ World.cell? _ _ = some _ ∧ World.cell? _ _ = some _ ∧ Cel _ _ ∧ Sl _ _ _ _ _ ∧ Sl _ _ _ _ _ ∧ Fr _ _ _ _ _ _ ∧ Fr _ _ _ _ _ _ ∧ Box w _ _›; exact ⟨cell_on hS.1 hb13, cell_on hS.2.1 hb13, cell_on hS.2.2.1 hb13, cell_on hS.2.2.2.1 hb13, cell_on hS.2.2.2.2.1 hb13, cell_on hS.2.2.2.2.2.1 hb13, hS.2.2.2.2.2.2.1.on hb13, hS.2.2.2.2.2.2.2.1.below hb13 (Nat.le_refl _), hS.2.2.2.2.2.2.2.2.1.below hb13 (Nat.le_refl _), hS.2.2.2.2.2.2.2.2.2.1.below hb13 (Nat.le_refl _), hS.2.2.2.2.2.2.2.2.2.2.1.below hb13 (Nat.le_refl _), hS.2.2.2.2.2.2.2.2.2.2.2.on hb13⟩) | (have hS := ‹World.cell? _ _ = some _ ∧ World.cell? _ _ = some _ ∧ World.cell? _ _ = some _ ∧ World.cell? _ _ = some _ ∧ World.cell? _ _ = some _ ∧ World.cell? _ _ = some _ ∧ Cel _ _ ∧ Sl _ _ _ _ _ ∧ Sl _ _ _ _ _ ∧ Fr _ _ _ _ _ _ ∧ Fr _ _ _ _ _ _ ∧ Box w _ _›; exact ⟨cell_set (cell_set hS.1 (by omega)) (by omega), cell_set (cell_set hS.2.1 (by omega)) (by omega), cell_set (cell_set hS.2.2.1 (by omega)) (by omega), cell_set (cell_set hS.2.2.2.1 (by omega)) (by omega), cell_set (cell_set hS.2.2.2.2.1 (by omega)) (by omega), cell_set (cell_set hS.2.2.2.2.2.1 (by omega)) (by omega), (hS.2.2.2.2.2.2.1.set _ _ _).set _ _ _, (hS.2.2.2.2.2.2.2.1.setLow (by omega) _ _).setLow (by omega) _ _, (hS.2.2.2.2.2.2.2.2.1.setLow (by omega) _ _).setLow (by omega) _ _, (hS.2.2.2.2.2.2.2.2.2.1.setLow (by omega) _ _).setLow (by omega) _ _, (hS.2.2.2.2.2.2.2.2.2.2.1.setLow (by omega) _ _).setLow (by omega) _ _, (hS.2.2.2.2.2.2.2.2.2.2.2.set (by omega) _ _).set (by omega) _ _⟩))
      (first | (go_at_call 11; have hS := ‹World.cell? _ _ = some _ ∧ World.cell? _ _ = some _ ∧ World.cell? _ _ = some _ ∧ World.cell? _ _ = some _ ∧ World.cell? _ _ = some _ ∧ World.cell? _ _ = some _ ∧ Cel _ _ ∧ Sl _ _ _ _ _ ∧ Sl _ _ _ _ _ ∧ Fr _ _ _ _ _ _ ∧ Fr _ _ _ _ _ _ ∧ Box w _ _›; refine (zadd_of (z := R + R) hS.2.2.2.2.2.2.2.2.2.2.1.sl hS.2.2.2.2.2.2.2.2.2.2.1.sl (by omega) (by omega) HRR).mono ?_; rintro e w12 ⟨p6, n6, c6, rfl, hf6, hb12⟩; have hlt12 := hS.2.2.2.2.2.2.2.2.2.2.2.lt; have hn6 : n6 ≤ 1099511627777 := z_len hf6 HRRL.out; clear hS) | (go_at_call 27; have hS := ‹World.cell? _ _ = some _ ∧ World.cell? _ _ = some _ ∧ World.cell? _ _ = some _ ∧ World.cell? _ _ = some _ ∧ World.cell? _ _ = some _ ∧ World.cell? _ _ = some _ ∧ Cel _ _ ∧ Sl _ _ _ _ _ ∧ Sl _ _ _ _ _ ∧ Fr _ _ _ _ _ _ ∧ Fr _ _ _ _ _ _ ∧ Box w _ _›; refine (zcmp_of hf6.sl hS.2.2.2.2.2.2.2.2.1 (by omega) (by omega) HCC).mono ?_; rintro e w13 ⟨rfl, hb13⟩; replace hf6 := hf6.below hb13 (Nat.le_refl _); clear hS))
    obtain ⟨hA10, hA11, hL00, hL01, hL10, hL11, hR0, hx, hy, hf4, hf5, hB⟩ := ‹World.cell? _ _ = some _ ∧ World.cell? _ _ = some _ ∧ World.cell? _ _ = some _ ∧ World.cell? _ _ = some _ ∧ World.cell? _ _ = some _ ∧ World.cell? _ _ = some _ ∧ Cel _ _ ∧ Sl _ _ _ _ _ ∧ Sl _ _ _ _ _ ∧ Fr _ _ _ _ _ _ ∧ Fr _ _ _ _ _ _ ∧ Box w _ _›
    clear hf5
    go_upto_region 8 with (fail)
    go_cut [45] (fun v wd => v = .bool ub ∧ NearB w w11 Q p4 n4 c4 wd)
    case first =>
      have HN : NearB w w11 Q p4 n4 c4 _ := ⟨hL00, hL01, hR0, ⟨_, hf4, by omega⟩, by omega, hB.below⟩
      have HS4 := hf4.sl
      rcases HC4.out with ⟨rfl, h2⟩ | ⟨rfl, h1, h2⟩ | ⟨rfl, h1, h2⟩ | ⟨rfl, h2⟩
      · go_wp2_with fail
        go_meet
        case rel => exact ⟨by rw [h2], HN⟩
      · go_wp2_with fail
        refine (bit_lim (t := 1) HS4 (by omega) (by show _ = _; rw [HT.out]; exact h1)).mono ?_
        rintro e w19 ⟨rfl, rfl⟩
        go_wp2_with fail
        go_meet
        case rel => exact ⟨by rw [h2], HN⟩
      · go_wp2_with fail
        refine (bit_lim (t := 0) HS4 (by omega) (by show _ = _; rw [HT.out]; exact h1)).mono ?_
        rintro e w19 ⟨rfl, rfl⟩
        go_wp2_with fail
        go_meet
        case rel => exact ⟨by rw [h2], HN⟩
      · go_wp2_with fail
        go_meet
        case rel => exact ⟨by rw [h2], HN⟩
    case rest =>
      obtain ⟨rfl, hL00, hL01, hR0, ⟨B4, hf4, hB4⟩, hB5, hBw⟩ := hcut
      have hB : Box w (w.heap.size + 2) wc := ⟨by have h1 := World.block_lt_of_cell? _ _ hL00; have h2 : w11.heap.size < wc.heap.size := h1; omega, hBw⟩
      clear hBw HC4 HRR HCC HQ HR HT
      cases ub
      · have hidx : ∀ w : World, (Instr.index 77 (.agg #[.func (.func 100) #[] #[], .func (.func 101) #[] #[]]) (.int .i64 1)).run Try.prog w = .ok (.func (.func 101) #[] #[]) w := fun _ => by kernel_rfl
        go_upto_region 10 with (fail)
        go_wp2_with fail
        go_region_held3 (fun w' => w'.cell? ⟨w11.heap.size, 0, none⟩ = some (.bool (ng Q)) ∧ w'.cell? ⟨w11.heap.size, 1, none⟩ = some (.slice p4 n4 c4) ∧ Cel (w.heap.size + 2) w' ∧ Fr B4 w' p4 n4 c4 (lim Q.natAbs) ∧ Box w (w.heap.size + 2) w')
          (first | exact ⟨by simpa using hL00, by simpa using hL01, hR0.drew, hf4.below (Below.refl _ _).drew (Nat.le_refl _), hB.drew⟩ | exact ‹World.cell? _ _ = some _ ∧ World.cell? _ _ = some _ ∧ Cel _ _ ∧ Fr _ _ _ _ _ _ ∧ Box w _ _› | (have hS := ‹World.cell? _ _ = some _ ∧ World.cell? _ _ = some _ ∧ Cel _ _ ∧ Fr _ _ _ _ _ _ ∧ Box w _ _›; exact ⟨cell_on hS.1 hb21, cell_on hS.2.1 hb21, hS.2.2.1.on hb21, hS.2.2.2.1.below hb21 (Nat.le_refl _), hS.2.2.2.2.on hb21⟩) | (have hS := ‹World.cell? _ _ = some _ ∧ World.cell? _ _ = some _ ∧ Cel _ _ ∧ Fr _ _ _ _ _ _ ∧ Box w _ _›; exact ⟨cell_on hS.1 hb22, cell_on hS.2.1 hb22, hS.2.2.1.on hb22, hS.2.2.2.1.below hb22 (Nat.le_refl _), hS.2.2.2.2.on hb22⟩) | (have hS := ‹World.cell? _ _ = some _ ∧ World.cell? _ _ = some _ ∧ Cel _ _ ∧ Fr _ _ _ _ _ _ ∧ Box w _ _›; exact ⟨cell_set (cell_set hS.1 (by omega)) (by omega), cell_set (cell_set hS.2.1 (by omega)) (by omega), (hS.2.2.1.set _ _ _).set _ _ _, (hS.2.2.2.1.setLow (by omega) _ _).setLow (by omega) _ _, (hS.2.2.2.2.set (by omega) _ _).set (by omega) _ _⟩))
          (first | (go_at_call 77; have hS := ‹World.cell? _ _ = some _ ∧ World.cell? _ _ = some _ ∧ Cel _ _ ∧ Fr _ _ _ _ _ _ ∧ Box w _ _›; refine (signs_any).mono ?_; rintro e w21 ⟨rfl, hb21⟩; clear hS) | (go_at_call 101; have hS := ‹World.cell? _ _ = some _ ∧ World.cell? _ _ = some _ ∧ Cel _ _ ∧ Fr _ _ _ _ _ _ ∧ Box w _ _›; refine (zdown_of (z := Q) hS.2.2.2.1.sl (by omega) (by show _ = _; rw [val_lim, zv_ng])).mono ?_; rintro e w22 ⟨p9, n9, c9, rfl, hf9, hb22⟩; have hlt22 := hS.2.2.2.2.lt; obtain ⟨⟨u0, hu0⟩, ⟨u1, hu1⟩, hug0, hug1⟩ := (hS.2.2.1).on hb22; clear hS))
        obtain ⟨hL00, hL01, hR0, hf4, hB⟩ := ‹World.cell? _ _ = some _ ∧ World.cell? _ _ = some _ ∧ Cel _ _ ∧ Fr _ _ _ _ _ _ ∧ Box w _ _›
        go_wp2_with fail
        refine bodyPost_ret (v := .tuple #[.agg #[.bool (ng (Q)), .slice p9 n9 c9], .int .i64 0]) (by simp [results, Try.results35, go_sem, hu0, hu1]) rfl ?_
        rw [HNR.out, HNP.out, if_neg (of_decide_eq_false HUB.out.symm)]
        exact ⟨_, _, _, rfl, hf9.setBox (by omega) (by omega), hB.below⟩
      · have hidx : ∀ w : World, (Instr.index 77 (.agg #[.func (.func 100) #[] #[], .func (.func 101) #[] #[]]) (.int .i64 0)).run Try.prog w = .ok (.func (.func 100) #[] #[]) w := fun _ => by kernel_rfl
        go_upto_region 10 with (fail)
        go_wp2_with fail
        go_region_held3 (fun w' => w'.cell? ⟨w11.heap.size, 0, none⟩ = some (.bool (ng Q)) ∧ w'.cell? ⟨w11.heap.size, 1, none⟩ = some (.slice p4 n4 c4) ∧ Cel (w.heap.size + 2) w' ∧ Fr B4 w' p4 n4 c4 (lim Q.natAbs) ∧ Box w (w.heap.size + 2) w')
          (first | exact ⟨by simpa using hL00, by simpa using hL01, hR0.drew, hf4.below (Below.refl _ _).drew (Nat.le_refl _), hB.drew⟩ | exact ‹World.cell? _ _ = some _ ∧ World.cell? _ _ = some _ ∧ Cel _ _ ∧ Fr _ _ _ _ _ _ ∧ Box w _ _› | (have hS := ‹World.cell? _ _ = some _ ∧ World.cell? _ _ = some _ ∧ Cel _ _ ∧ Fr _ _ _ _ _ _ ∧ Box w _ _›; exact ⟨cell_on hS.1 hb21, cell_on hS.2.1 hb21, hS.2.2.1.on hb21, hS.2.2.2.1.below hb21 (Nat.le_refl _), hS.2.2.2.2.on hb21⟩) | (have hS := ‹World.cell? _ _ = some _ ∧ World.cell? _ _ = some _ ∧ Cel _ _ ∧ Fr _ _ _ _ _ _ ∧ Box w _ _›; exact ⟨cell_on hS.1 hb22, cell_on hS.2.1 hb22, hS.2.2.1.on hb22, hS.2.2.2.1.below hb22 (Nat.le_refl _), hS.2.2.2.2.on hb22⟩) | (have hS := ‹World.cell? _ _ = some _ ∧ World.cell? _ _ = some _ ∧ Cel _ _ ∧ Fr _ _ _ _ _ _ ∧ Box w _ _›; exact ⟨cell_set (cell_set hS.1 (by omega)) (by omega), cell_set (cell_set hS.2.1 (by omega)) (by omega), (hS.2.2.1.set _ _ _).set _ _ _, (hS.2.2.2.1.setLow (by omega) _ _).setLow (by omega) _ _, (hS.2.2.2.2.set (by omega) _ _).set (by omega) _ _⟩))
          (first | (go_at_call 77; have hS := ‹World.cell? _ _ = some _ ∧ World.cell? _ _ = some _ ∧ Cel _ _ ∧ Fr _ _ _ _ _ _ ∧ Box w _ _›; refine (signs_any).mono ?_; rintro e w21 ⟨rfl, hb21⟩; clear hS) | (go_at_call 100; have hS := ‹World.cell? _ _ = some _ ∧ World.cell? _ _ = some _ ∧ Cel _ _ ∧ Fr _ _ _ _ _ _ ∧ Box w _ _›; refine (zup_of (z := Q + 1) hS.2.2.2.1.sl (by omega) (by show _ = _; rw [val_lim, zv_ng])).mono ?_; rintro e w22 ⟨p9, n9, c9, rfl, hf9, hb22⟩; have hlt22 := hS.2.2.2.2.lt; obtain ⟨⟨u0, hu0⟩, ⟨u1, hu1⟩, hug0, hug1⟩ := (hS.2.2.1).on hb22; clear hS))
        obtain ⟨hL00, hL01, hR0, hf4, hB⟩ := ‹World.cell? _ _ = some _ ∧ World.cell? _ _ = some _ ∧ Cel _ _ ∧ Fr _ _ _ _ _ _ ∧ Box w _ _›
        go_wp2_with fail
        refine bodyPost_ret (v := .tuple #[.agg #[.bool (ng (Q + 1)), .slice p9 n9 c9], .int .i64 0]) (by simp [results, Try.results35, go_sem, hu0, hu1]) rfl ?_
        rw [HNR.out, HNP.out, if_pos (of_decide_eq_true HUB.out.symm)]
        exact ⟨_, _, _, rfl, hf9.setBox (by omega) (by omega), hB.below⟩

theorem znear_of {z : Int} {p q : Option Addr} {n m c d : Nat} {b b2 : Bool} {xs ys : List Nat} {w : World} (hx : Sl w p n c xs) (hy : Sl w q m d ys) (hn : n ≤ 1099511627776) (hm : m ≤ 1099511627776) (h0 : val ys ≠ 0) (hz : Hid (nearZ (zv b (val xs)) (zv b2 (val ys)) = z)) :
    Calls Try.prog 35 #[.agg #[.bool b, .slice p n c], .agg #[.bool b2, .slice q m d]] w (RetZE w z 0) := by
  rw [← hz.out]; exact znear_any hx hy hn hm h0

end Go.Proofs.Ytlnilkghbbbhbaa
