/-
  The walk of similelaw01.NatRing.
-/
import Derived.Test.YtgemncfpehmdeaaPowers
namespace Go.Proofs.Ytgemncfpehmdeaa
open Go.RowKit

theorem equal_yes {p q : Option Addr} {n m c d : Nat} {xs ys : List Nat} {w : World} (hx : Sl w p n c xs) (hy : Sl w q m d ys) (h : val xs = val ys) :
    Calls Try.prog 32 #[.slice p n c, .slice q m d] w (RetB w true) := by
  have hc : cmpN (val xs) (val ys) = 0 := by unfold cmpN; rw [if_neg (by omega), if_pos h]
  have HC := Lib.hid hc
  clear hc h
  go_enter Try.func32, Try.ntmps32
  go_wp2_with fail
  refine (cmp_any hx hy).mono ?_
  rw [HC.out]
  rintro e w1 ⟨rfl, hb1⟩
  go_wp2_with fail
  go_ret
  exact ⟨rfl, hb1⟩

theorem ll_val {w : World} {p : Option Addr} {n c : Nat} {xs : List Nat} (h : Sl w p n c xs) {k : Nat} (hn : n ≤ k) : ll (val xs) ≤ k := by
  have := val_ll h.lims
  rw [h.len] at this
  omega

theorem len_lim {w : World} {p : Option Addr} {n c X k : Nat} (h : Sl w p n c (lim X)) (hX : ll X ≤ k) : n ≤ k := by rw [h.lln]; exact hX

theorem ll_mulk {a b i j k : Nat} (ha : ll a ≤ i) (hb : ll b ≤ j) (h : i + j ≤ k) : ll (a * b) ≤ k := by have := ll_mul a b; omega
theorem ll_addk {a b i k : Nat} (ha : ll a ≤ i) (hb : ll b ≤ i) (h : i + 1 ≤ k) : ll (a + b) ≤ k := by have := ll_add ha hb; omega
theorem ll_lek {a b k : Nat} (h : a ≤ b) (hb : ll b ≤ k) : ll a ≤ k := Nat.le_trans (ll_mono h) hb

set_option maxRecDepth 100000 in
set_option maxHeartbeats 16000000 in
theorem ring_zz {p q r : Option Addr} {n m k c d ez : Nat} {xs ys zs : List Nat} {w : World} (hx : Sl w p n c xs) (hy : Sl w q m d ys) (hz : Sl w r k ez zs) (hn : n ≤ 1048576) (hm : m ≤ 1048576) (hk : k ≤ 1048576) (h1 : val xs = 0) (h2 : val ys = 0) :
    Calls Try.prog 7 #[.slice p n c, .slice q m d, .slice r k ez] w (RetB w true) := by
  have hA : ll (val xs) ≤ 1048576 := ll_val hx hn
  have hB : ll (val ys) ≤ 1048576 := ll_val hy hm
  have hC : ll (val zs) ≤ 1048576 := ll_val hz hk
  have HLA := Lib.hid hA
  have HLB := Lib.hid hB
  have HLC := Lib.hid hC
  clear hA hB hC
  generalize hXA : val xs = A at *
  generalize hYB : val ys = B at *
  generalize hZC : val zs = C at *
  have HA := Lib.hid hXA
  have HB := Lib.hid hYB
  have HC := Lib.hid hZC
  clear hXA hYB hZC
  have HB00 : Hid (blen 0 = 0) := rfl
  have HG0 : Hid (Nat.gcd A B = 0) := by show _ = _; rw [h1, h2]; rfl
  have HB0 := Lib.hid h2
  clear h1 h2
  have hb : Below w.heap.size w w := Below.refl _ _
  go_enter Try.func7, Try.ntmps7
  go_wp2_with fail
  refine (add_any hx hy (by omega) (by omega)).mono ?_
  rw [HA.out, HB.out]
  rintro e w1 ⟨pf1, nf1, cf1, rfl, hf1, hb1⟩
  replace hx := hx.below hb1 (Nat.le_refl _)
  replace hy := hy.below hb1 (Nat.le_refl _)
  replace hz := hz.below hb1 (Nat.le_refl _)
  replace hb := hb.trans (hb1.mono hb.size)
  clear hb1
  have HLf1 : Hid (ll (A + B) ≤ 1048577) := ll_addk (i := 1048576) HLA.out HLB.out (by omega)
  go_wp2_with fail
  refine (add_any hy hx (by omega) (by omega)).mono ?_
  rw [HB.out, HA.out]
  rintro e w2 ⟨pf2, nf2, cf2, rfl, hf2, hb2⟩
  replace hx := hx.below hb2 (Nat.le_refl _)
  replace hy := hy.below hb2 (Nat.le_refl _)
  replace hz := hz.below hb2 (Nat.le_refl _)
  replace hf1 := hf1.below hb2 (Nat.le_refl _)
  replace hb := hb.trans (hb2.mono hb.size)
  clear hb2
  have HLf2 : Hid (ll (B + A) ≤ 1048577) := ll_addk (i := 1048576) HLB.out HLA.out (by omega)
  go_wp2_with fail
  refine (equal_yes hf1.sl hf2.sl (Eq.trans (val_lim _) (Eq.trans (Nat.add_comm _ _) (Eq.symm (val_lim _))))).mono ?_
  rintro e w3 ⟨rfl, hb3⟩
  clear hf1 hf2
  replace hx := hx.below hb3 (Nat.le_refl _)
  replace hy := hy.below hb3 (Nat.le_refl _)
  replace hz := hz.below hb3 (Nat.le_refl _)
  replace hb := hb.trans (hb3.mono hb.size)
  clear hb3
  go_wp2_with fail
  refine (mul_any hx hy (by omega) (by omega)).mono ?_
  rw [HA.out, HB.out]
  rintro e w4 ⟨pf3, nf3, cf3, rfl, hf3, hb4⟩
  replace hx := hx.below hb4 (Nat.le_refl _)
  replace hy := hy.below hb4 (Nat.le_refl _)
  replace hz := hz.below hb4 (Nat.le_refl _)
  replace hb := hb.trans (hb4.mono hb.size)
  clear hb4
  have HLf3 : Hid (ll (A * B) ≤ 2097152) := ll_mulk (i := 1048576) (j := 1048576) HLA.out HLB.out (by omega)
  go_wp2_with fail
  refine (mul_any hy hx (by omega) (by omega)).mono ?_
  rw [HB.out, HA.out]
  rintro e w5 ⟨pf4, nf4, cf4, rfl, hf4, hb5⟩
  replace hx := hx.below hb5 (Nat.le_refl _)
  replace hy := hy.below hb5 (Nat.le_refl _)
  replace hz := hz.below hb5 (Nat.le_refl _)
  replace hf3 := hf3.below hb5 (Nat.le_refl _)
  replace hb := hb.trans (hb5.mono hb.size)
  clear hb5
  have HLf4 : Hid (ll (B * A) ≤ 2097152) := ll_mulk (i := 1048576) (j := 1048576) HLB.out HLA.out (by omega)
  go_wp2_with fail
  refine (equal_yes hf3.sl hf4.sl (Eq.trans (val_lim _) (Eq.trans (Nat.mul_comm _ _) (Eq.symm (val_lim _))))).mono ?_
  rintro e w6 ⟨rfl, hb6⟩
  clear hf3 hf4
  replace hx := hx.below hb6 (Nat.le_refl _)
  replace hy := hy.below hb6 (Nat.le_refl _)
  replace hz := hz.below hb6 (Nat.le_refl _)
  replace hb := hb.trans (hb6.mono hb.size)
  clear hb6
  go_wp2_with fail
  refine (add_any hx hy (by omega) (by omega)).mono ?_
  rw [HA.out, HB.out]
  rintro e w7 ⟨pf5, nf5, cf5, rfl, hf5, hb7⟩
  replace hx := hx.below hb7 (Nat.le_refl _)
  replace hy := hy.below hb7 (Nat.le_refl _)
  replace hz := hz.below hb7 (Nat.le_refl _)
  replace hb := hb.trans (hb7.mono hb.size)
  clear hb7
  have HLf5 : Hid (ll (A + B) ≤ 1048577) := ll_addk (i := 1048576) HLA.out HLB.out (by omega)
  go_wp2_with fail
  refine (add_any hf5.sl hz (Nat.le_trans (len_lim hf5.sl HLf5.out) (by omega)) (by omega)).mono ?_
  rw [val_lim, HC.out]
  rintro e w8 ⟨pf6, nf6, cf6, rfl, hf6, hb8⟩
  clear hf5
  replace hx := hx.below hb8 (Nat.le_refl _)
  replace hy := hy.below hb8 (Nat.le_refl _)
  replace hz := hz.below hb8 (Nat.le_refl _)
  replace hb := hb.trans (hb8.mono hb.size)
  clear hb8
  have HLf6 : Hid (ll ((A + B) + C) ≤ 1048578) := ll_addk (i := 1048577) HLf5.out (Nat.le_trans HLC.out (by omega)) (by omega)
  go_wp2_with fail
  refine (add_any hy hz (by omega) (by omega)).mono ?_
  rw [HB.out, HC.out]
  rintro e w9 ⟨pf7, nf7, cf7, rfl, hf7, hb9⟩
  replace hx := hx.below hb9 (Nat.le_refl _)
  replace hy := hy.below hb9 (Nat.le_refl _)
  replace hz := hz.below hb9 (Nat.le_refl _)
  replace hf6 := hf6.below hb9 (Nat.le_refl _)
  replace hb := hb.trans (hb9.mono hb.size)
  clear hb9
  have HLf7 : Hid (ll (B + C) ≤ 1048577) := ll_addk (i := 1048576) HLB.out HLC.out (by omega)
  go_wp2_with fail
  refine (add_any hx hf7.sl (by omega) (Nat.le_trans (len_lim hf7.sl HLf7.out) (by omega))).mono ?_
  rw [HA.out, val_lim]
  rintro e w10 ⟨pf8, nf8, cf8, rfl, hf8, hb10⟩
  clear hf7
  replace hx := hx.below hb10 (Nat.le_refl _)
  replace hy := hy.below hb10 (Nat.le_refl _)
  replace hz := hz.below hb10 (Nat.le_refl _)
  replace hf6 := hf6.below hb10 (Nat.le_refl _)
  replace hb := hb.trans (hb10.mono hb.size)
  clear hb10
  have HLf8 : Hid (ll (A + (B + C)) ≤ 1048578) := ll_addk (i := 1048577) (Nat.le_trans HLA.out (by omega)) HLf7.out (by omega)
  go_wp2_with fail
  refine (equal_yes hf6.sl hf8.sl (Eq.trans (val_lim _) (Eq.trans (Nat.add_assoc _ _ _) (Eq.symm (val_lim _))))).mono ?_
  rintro e w11 ⟨rfl, hb11⟩
  clear hf6 hf8
  replace hx := hx.below hb11 (Nat.le_refl _)
  replace hy := hy.below hb11 (Nat.le_refl _)
  replace hz := hz.below hb11 (Nat.le_refl _)
  replace hb := hb.trans (hb11.mono hb.size)
  clear hb11
  go_wp2_with fail
  refine (mul_any hx hy (by omega) (by omega)).mono ?_
  rw [HA.out, HB.out]
  rintro e w12 ⟨pf9, nf9, cf9, rfl, hf9, hb12⟩
  replace hx := hx.below hb12 (Nat.le_refl _)
  replace hy := hy.below hb12 (Nat.le_refl _)
  replace hz := hz.below hb12 (Nat.le_refl _)
  replace hb := hb.trans (hb12.mono hb.size)
  clear hb12
  have HLf9 : Hid (ll (A * B) ≤ 2097152) := ll_mulk (i := 1048576) (j := 1048576) HLA.out HLB.out (by omega)
  go_wp2_with fail
  refine (mul_any hf9.sl hz (Nat.le_trans (len_lim hf9.sl HLf9.out) (by omega)) (by omega)).mono ?_
  rw [val_lim, HC.out]
  rintro e w13 ⟨pf10, nf10, cf10, rfl, hf10, hb13⟩
  clear hf9
  replace hx := hx.below hb13 (Nat.le_refl _)
  replace hy := hy.below hb13 (Nat.le_refl _)
  replace hz := hz.below hb13 (Nat.le_refl _)
  replace hb := hb.trans (hb13.mono hb.size)
  clear hb13
  have HLf10 : Hid (ll ((A * B) * C) ≤ 3145728) := ll_mulk (i := 2097152) (j := 1048576) HLf9.out HLC.out (by omega)
  go_wp2_with fail
  refine (mul_any hy hz (by omega) (by omega)).mono ?_
  rw [HB.out, HC.out]
  rintro e w14 ⟨pf11, nf11, cf11, rfl, hf11, hb14⟩
  replace hx := hx.below hb14 (Nat.le_refl _)
  replace hy := hy.below hb14 (Nat.le_refl _)
  replace hz := hz.below hb14 (Nat.le_refl _)
  replace hf10 := hf10.below hb14 (Nat.le_refl _)
  replace hb := hb.trans (hb14.mono hb.size)
  clear hb14
  have HLf11 : Hid (ll (B * C) ≤ 2097152) := ll_mulk (i := 1048576) (j := 1048576) HLB.out HLC.out (by omega)
  go_wp2_with fail
  refine (mul_any hx hf11.sl (by omega) (Nat.le_trans (len_lim hf11.sl HLf11.out) (by omega))).mono ?_
  rw [HA.out, val_lim]
  rintro e w15 ⟨pf12, nf12, cf12, rfl, hf12, hb15⟩
  clear hf11
  replace hx := hx.below hb15 (Nat.le_refl _)
  replace hy := hy.below hb15 (Nat.le_refl _)
  replace hz := hz.below hb15 (Nat.le_refl _)
  replace hf10 := hf10.below hb15 (Nat.le_refl _)
  replace hb := hb.trans (hb15.mono hb.size)
  clear hb15
  have HLf12 : Hid (ll (A * (B * C)) ≤ 3145728) := ll_mulk (i := 1048576) (j := 2097152) HLA.out HLf11.out (by omega)
  go_wp2_with fail
  refine (equal_yes hf10.sl hf12.sl (Eq.trans (val_lim _) (Eq.trans (Nat.mul_assoc _ _ _) (Eq.symm (val_lim _))))).mono ?_
  rintro e w16 ⟨rfl, hb16⟩
  clear hf10 hf12
  replace hx := hx.below hb16 (Nat.le_refl _)
  replace hy := hy.below hb16 (Nat.le_refl _)
  replace hz := hz.below hb16 (Nat.le_refl _)
  replace hb := hb.trans (hb16.mono hb.size)
  clear hb16
  go_wp2_with fail
  refine (add_any hy hz (by omega) (by omega)).mono ?_
  rw [HB.out, HC.out]
  rintro e w17 ⟨pf13, nf13, cf13, rfl, hf13, hb17⟩
  replace hx := hx.below hb17 (Nat.le_refl _)
  replace hy := hy.below hb17 (Nat.le_refl _)
  replace hz := hz.below hb17 (Nat.le_refl _)
  replace hb := hb.trans (hb17.mono hb.size)
  clear hb17
  have HLf13 : Hid (ll (B + C) ≤ 1048577) := ll_addk (i := 1048576) HLB.out HLC.out (by omega)
  go_wp2_with fail
  refine (mul_any hx hf13.sl (by omega) (Nat.le_trans (len_lim hf13.sl HLf13.out) (by omega))).mono ?_
  rw [HA.out, val_lim]
  rintro e w18 ⟨pf14, nf14, cf14, rfl, hf14, hb18⟩
  clear hf13
  replace hx := hx.below hb18 (Nat.le_refl _)
  replace hy := hy.below hb18 (Nat.le_refl _)
  replace hz := hz.below hb18 (Nat.le_refl _)
  replace hb := hb.trans (hb18.mono hb.size)
  clear hb18
  have HLf14 : Hid (ll (A * (B + C)) ≤ 2097153) := ll_mulk (i := 1048576) (j := 1048577) HLA.out HLf13.out (by omega)
  go_wp2_with fail
  refine (mul_any hx hy (by omega) (by omega)).mono ?_
  rw [HA.out, HB.out]
  rintro e w19 ⟨pf15, nf15, cf15, rfl, hf15, hb19⟩
  replace hx := hx.below hb19 (Nat.le_refl _)
  replace hy := hy.below hb19 (Nat.le_refl _)
  replace hz := hz.below hb19 (Nat.le_refl _)
  replace hf14 := hf14.below hb19 (Nat.le_refl _)
  replace hb := hb.trans (hb19.mono hb.size)
  clear hb19
  have HLf15 : Hid (ll (A * B) ≤ 2097152) := ll_mulk (i := 1048576) (j := 1048576) HLA.out HLB.out (by omega)
  go_wp2_with fail
  refine (mul_any hx hz (by omega) (by omega)).mono ?_
  rw [HA.out, HC.out]
  rintro e w20 ⟨pf16, nf16, cf16, rfl, hf16, hb20⟩
  clear hz
  replace hx := hx.below hb20 (Nat.le_refl _)
  replace hy := hy.below hb20 (Nat.le_refl _)
  replace hf14 := hf14.below hb20 (Nat.le_refl _)
  replace hf15 := hf15.below hb20 (Nat.le_refl _)
  replace hb := hb.trans (hb20.mono hb.size)
  clear hb20
  have HLf16 : Hid (ll (A * C) ≤ 2097152) := ll_mulk (i := 1048576) (j := 1048576) HLA.out HLC.out (by omega)
  go_wp2_with fail
  refine (add_any hf15.sl hf16.sl (Nat.le_trans (len_lim hf15.sl HLf15.out) (by omega)) (Nat.le_trans (len_lim hf16.sl HLf16.out) (by omega))).mono ?_
  rw [val_lim, val_lim]
  rintro e w21 ⟨pf17, nf17, cf17, rfl, hf17, hb21⟩
  clear hf15 hf16
  replace hx := hx.below hb21 (Nat.le_refl _)
  replace hy := hy.below hb21 (Nat.le_refl _)
  replace hf14 := hf14.below hb21 (Nat.le_refl _)
  replace hb := hb.trans (hb21.mono hb.size)
  clear hb21
  have HLf17 : Hid (ll ((A * B) + (A * C)) ≤ 2097153) := ll_addk (i := 2097152) HLf15.out HLf16.out (by omega)
  go_wp2_with fail
  refine (equal_yes hf14.sl hf17.sl (Eq.trans (val_lim _) (Eq.trans (Nat.mul_add _ _ _) (Eq.symm (val_lim _))))).mono ?_
  rintro e w22 ⟨rfl, hb22⟩
  clear hf14 hf17
  replace hx := hx.below hb22 (Nat.le_refl _)
  replace hy := hy.below hb22 (Nat.le_refl _)
  replace hb := hb.trans (hb22.mono hb.size)
  clear hb22
  go_wp2_with fail
  refine (add_any hx hy (by omega) (by omega)).mono ?_
  rw [HA.out, HB.out]
  rintro e w23 ⟨pf18, nf18, cf18, rfl, hf18, hb23⟩
  replace hx := hx.below hb23 (Nat.le_refl _)
  replace hy := hy.below hb23 (Nat.le_refl _)
  replace hb := hb.trans (hb23.mono hb.size)
  clear hb23
  have HLf18 : Hid (ll (A + B) ≤ 1048577) := ll_addk (i := 1048576) HLA.out HLB.out (by omega)
  go_wp2_with fail
  refine (sub_yes hf18.sl hy (Nat.le_trans (len_lim hf18.sl HLf18.out) (by omega)) (by omega) (by rw [val_lim, HB.out]; exact Nat.le_add_left _ _)).mono ?_
  rw [val_lim, HB.out, Nat.add_sub_cancel]
  rintro e w24 ⟨pd, nq, cd, rfl, hd, hb24⟩
  clear hf18
  replace hx := hx.below hb24 (Nat.le_refl _)
  replace hy := hy.below hb24 (Nat.le_refl _)
  replace hb := hb.trans (hb24.mono hb.size)
  clear hb24
  go_wp2_with fail
  refine (equal_yes hd.sl hx (Eq.trans (val_lim _) (Eq.trans (rfl) (Eq.symm HA.out)))).mono ?_
  rintro e w25 ⟨rfl, hb25⟩
  clear hd
  replace hx := hx.below hb25 (Nat.le_refl _)
  replace hy := hy.below hb25 (Nat.le_refl _)
  replace hb := hb.trans (hb25.mono hb.size)
  clear hb25
  go_wp2_with fail
  refine (gcd_any hx hy (by omega) (by omega)).mono ?_
  rw [HA.out, HB.out]
  rintro e w26 ⟨pg, ng, cg, rfl, hg, hb26⟩
  replace hx := hx.below hb26 (Nat.le_refl _)
  replace hy := hy.below hb26 (Nat.le_refl _)
  replace hb := hb.trans (hb26.mono hb.size)
  clear hb26
  go_wp2_with fail
  refine (len_any hg.sl (by rw [hg.sl.lln, HG0.out]; exact Nat.zero_le _)).mono ?_
  rw [val_lim, HG0.out, HB00.out]
  rintro e w27 ⟨rfl, rfl⟩
  clear hg
  go_wp2_with fail
  refine (div_zero hx hy (by rw [HB.out]; exact HB0.out)).mono ?_
  rintro e w28 ⟨pa, na, ca, pb, nb, cb, rfl, ha, hz2, hb28⟩
  clear hy
  replace hx := hx.below hb28 (Nat.le_refl _)
  replace hb := hb.trans (hb28.mono hb.size)
  clear hb28
  clear ha hz2
  go_wp2_with fail
  refine (sqrt_any hx (by omega)).mono ?_
  rw [HA.out]
  rintro e w29 ⟨ps, ns, cs, rfl, hs, hb29⟩
  replace hx := hx.below hb29 (Nat.le_refl _)
  replace hb := hb.trans (hb29.mono hb.size)
  clear hb29
  have HLs : Hid (ll (rt A) ≤ 1048576) := ll_lek (sq_self (rt_spec A).1) HLA.out
  go_wp2_with fail
  refine (of_any (N := 1) rfl (by omega)).mono ?_
  rintro e w30 ⟨po, no, co, rfl, ho, hb30⟩
  replace hx := hx.below hb30 (Nat.le_refl _)
  replace hs := hs.below hb30 (Nat.le_refl _)
  replace hb := hb.trans (hb30.mono hb.size)
  clear hb30
  have HLo : Hid (ll 1 ≤ 1048576) := Nat.le_trans (ll_le (n := 1) (k := 1) (by omega)) (by omega)
  go_wp2_with fail
  refine (add_any hs.sl ho.sl (Nat.le_trans (len_lim hs.sl HLs.out) (by omega)) (Nat.le_trans (len_lim ho.sl HLo.out) (by omega))).mono ?_
  rw [val_lim, val_lim]
  rintro e w31 ⟨pf22, nf22, cf22, rfl, hf22, hb31⟩
  clear ho
  replace hx := hx.below hb31 (Nat.le_refl _)
  replace hs := hs.below hb31 (Nat.le_refl _)
  replace hb := hb.trans (hb31.mono hb.size)
  clear hb31
  have HLf22 : Hid (ll ((rt A) + 1) ≤ 1048577) := ll_addk (i := 1048576) HLs.out HLo.out (by omega)
  go_wp2_with fail
  refine (mul_any hs.sl hs.sl (Nat.le_trans (len_lim hs.sl HLs.out) (by omega)) (Nat.le_trans (len_lim hs.sl HLs.out) (by omega))).mono ?_
  rw [val_lim]
  rintro e w32 ⟨pf23, nf23, cf23, rfl, hf23, hb32⟩
  clear hs
  replace hx := hx.below hb32 (Nat.le_refl _)
  replace hf22 := hf22.below hb32 (Nat.le_refl _)
  replace hb := hb.trans (hb32.mono hb.size)
  clear hb32
  have HLf23 : Hid (ll ((rt A) * (rt A)) ≤ 2097152) := ll_mulk (i := 1048576) (j := 1048576) HLs.out HLs.out (by omega)
  obtain ⟨z1, hz1, hz2⟩ : ∃ z, cmpN (rt A * rt A) A = z ∧ z ≤ 0 := ⟨_, rfl, cmpN_not_above (rt_spec A).1⟩
  have HZ1 := Lib.hid hz1
  have hz3 : decide (z1 ≤ 0) = true := by simp; omega
  have hz4 : decide (0 < z1) = false := by simp; omega
  clear hz1
  go_wp2_with fail
  refine (cmp_any hf23.sl hx).mono ?_
  rw [val_lim, HA.out, HZ1.out]
  rintro e w33 ⟨rfl, hb33⟩
  clear hf23
  replace hx := hx.below hb33 (Nat.le_refl _)
  replace hf22 := hf22.below hb33 (Nat.le_refl _)
  replace hb := hb.trans (hb33.mono hb.size)
  clear hb33
  go_wp2_with fail
  refine (mul_any hf22.sl hf22.sl (Nat.le_trans (len_lim hf22.sl HLf22.out) (by omega)) (Nat.le_trans (len_lim hf22.sl HLf22.out) (by omega))).mono ?_
  rw [val_lim]
  rintro e w34 ⟨pf24, nf24, cf24, rfl, hf24, hb34⟩
  clear hf22
  replace hx := hx.below hb34 (Nat.le_refl _)
  replace hb := hb.trans (hb34.mono hb.size)
  clear hb34
  have HLf24 : Hid (ll (((rt A) + 1) * ((rt A) + 1)) ≤ 2097154) := ll_mulk (i := 1048577) (j := 1048577) HLf22.out HLf22.out (by omega)
  obtain ⟨z5, hz5, hz6⟩ : ∃ z, cmpN ((rt A + 1) * (rt A + 1)) A = z ∧ 0 < z := ⟨_, rfl, cmpN_above (rt_spec A).2⟩
  have HZ5 := Lib.hid hz5
  have hz7 : decide (0 < z5) = true := by simp; omega
  clear hz5
  go_wp2_with fail
  refine (cmp_any hf24.sl hx).mono ?_
  rw [val_lim, HA.out, HZ5.out]
  rintro e w35 ⟨rfl, hb35⟩
  clear hx hf24
  replace hb := hb.trans (hb35.mono hb.size)
  clear hb35
  go_wp2_with fail
  refine (lives_any).mono ?_
  rintro e w36 ⟨rfl, hb36⟩
  replace hb := hb.trans (hb36.mono hb.size)
  clear hb36
  go_wp2_with fail
  go_ret
  exact ⟨rfl, hb⟩

set_option maxRecDepth 100000 in
set_option maxHeartbeats 16000000 in
theorem ring_z {p q r : Option Addr} {n m k c d ez : Nat} {xs ys zs : List Nat} {w : World} (hx : Sl w p n c xs) (hy : Sl w q m d ys) (hz : Sl w r k ez zs) (hn : n ≤ 1048576) (hm : m ≤ 1048576) (hk : k ≤ 1048576) (h1 : val xs ≠ 0) (h2 : val ys = 0) :
    Calls Try.prog 7 #[.slice p n c, .slice q m d, .slice r k ez] w (RetB w true) := by
  have hA : ll (val xs) ≤ 1048576 := ll_val hx hn
  have hB : ll (val ys) ≤ 1048576 := ll_val hy hm
  have hC : ll (val zs) ≤ 1048576 := ll_val hz hk
  have HLA := Lib.hid hA
  have HLB := Lib.hid hB
  have HLC := Lib.hid hC
  clear hA hB hC
  generalize hXA : val xs = A at *
  generalize hYB : val ys = B at *
  generalize hZC : val zs = C at *
  have HA := Lib.hid hXA
  have HB := Lib.hid hYB
  have HC := Lib.hid hZC
  clear hXA hYB hZC
  have HB00 : Hid (blen 0 = 0) := rfl
  have HG : Hid (Nat.gcd A B ≠ 0) := by
    show _ ≠ _
    intro h
    have h1 := Nat.gcd_eq_zero_iff.1 h
    omega
  have HGL : Hid (ll (Nat.gcd A B) ≤ 1048576) := by
    show _ ≤ _
    rcases Nat.eq_zero_or_pos A with h | h
    · exact ll_lek (Nat.le_of_dvd (by omega) (Nat.gcd_dvd_right A B)) HLB.out
    · exact ll_lek (Nat.le_of_dvd h (Nat.gcd_dvd_left A B)) HLA.out
  have HM1 : Hid (A % Nat.gcd A B = 0) := Nat.mod_eq_zero_of_dvd (Nat.gcd_dvd_left A B)
  have HM2 : Hid (B % Nat.gcd A B = 0) := Nat.mod_eq_zero_of_dvd (Nat.gcd_dvd_right A B)
  have HB0 := Lib.hid h2
  clear h1 h2
  have hb : Below w.heap.size w w := Below.refl _ _
  go_enter Try.func7, Try.ntmps7
  go_wp2_with fail
  refine (add_any hx hy (by omega) (by omega)).mono ?_
  rw [HA.out, HB.out]
  rintro e w1 ⟨pf1, nf1, cf1, rfl, hf1, hb1⟩
  replace hx := hx.below hb1 (Nat.le_refl _)
  replace hy := hy.below hb1 (Nat.le_refl _)
  replace hz := hz.below hb1 (Nat.le_refl _)
  replace hb := hb.trans (hb1.mono hb.size)
  clear hb1
  have HLf1 : Hid (ll (A + B) ≤ 1048577) := ll_addk (i := 1048576) HLA.out HLB.out (by omega)
  go_wp2_with fail
  refine (add_any hy hx (by omega) (by omega)).mono ?_
  rw [HB.out, HA.out]
  rintro e w2 ⟨pf2, nf2, cf2, rfl, hf2, hb2⟩
  replace hx := hx.below hb2 (Nat.le_refl _)
  replace hy := hy.below hb2 (Nat.le_refl _)
  replace hz := hz.below hb2 (Nat.le_refl _)
  replace hf1 := hf1.below hb2 (Nat.le_refl _)
  replace hb := hb.trans (hb2.mono hb.size)
  clear hb2
  have HLf2 : Hid (ll (B + A) ≤ 1048577) := ll_addk (i := 1048576) HLB.out HLA.out (by omega)
  go_wp2_with fail
  refine (equal_yes hf1.sl hf2.sl (Eq.trans (val_lim _) (Eq.trans (Nat.add_comm _ _) (Eq.symm (val_lim _))))).mono ?_
  rintro e w3 ⟨rfl, hb3⟩
  clear hf1 hf2
  replace hx := hx.below hb3 (Nat.le_refl _)
  replace hy := hy.below hb3 (Nat.le_refl _)
  replace hz := hz.below hb3 (Nat.le_refl _)
  replace hb := hb.trans (hb3.mono hb.size)
  clear hb3
  go_wp2_with fail
  refine (mul_any hx hy (by omega) (by omega)).mono ?_
  rw [HA.out, HB.out]
  rintro e w4 ⟨pf3, nf3, cf3, rfl, hf3, hb4⟩
  replace hx := hx.below hb4 (Nat.le_refl _)
  replace hy := hy.below hb4 (Nat.le_refl _)
  replace hz := hz.below hb4 (Nat.le_refl _)
  replace hb := hb.trans (hb4.mono hb.size)
  clear hb4
  have HLf3 : Hid (ll (A * B) ≤ 2097152) := ll_mulk (i := 1048576) (j := 1048576) HLA.out HLB.out (by omega)
  go_wp2_with fail
  refine (mul_any hy hx (by omega) (by omega)).mono ?_
  rw [HB.out, HA.out]
  rintro e w5 ⟨pf4, nf4, cf4, rfl, hf4, hb5⟩
  replace hx := hx.below hb5 (Nat.le_refl _)
  replace hy := hy.below hb5 (Nat.le_refl _)
  replace hz := hz.below hb5 (Nat.le_refl _)
  replace hf3 := hf3.below hb5 (Nat.le_refl _)
  replace hb := hb.trans (hb5.mono hb.size)
  clear hb5
  have HLf4 : Hid (ll (B * A) ≤ 2097152) := ll_mulk (i := 1048576) (j := 1048576) HLB.out HLA.out (by omega)
  go_wp2_with fail
  refine (equal_yes hf3.sl hf4.sl (Eq.trans (val_lim _) (Eq.trans (Nat.mul_comm _ _) (Eq.symm (val_lim _))))).mono ?_
  rintro e w6 ⟨rfl, hb6⟩
  clear hf3 hf4
  replace hx := hx.below hb6 (Nat.le_refl _)
  replace hy := hy.below hb6 (Nat.le_refl _)
  replace hz := hz.below hb6 (Nat.le_refl _)
  replace hb := hb.trans (hb6.mono hb.size)
  clear hb6
  go_wp2_with fail
  refine (add_any hx hy (by omega) (by omega)).mono ?_
  rw [HA.out, HB.out]
  rintro e w7 ⟨pf5, nf5, cf5, rfl, hf5, hb7⟩
  replace hx := hx.below hb7 (Nat.le_refl _)
  replace hy := hy.below hb7 (Nat.le_refl _)
  replace hz := hz.below hb7 (Nat.le_refl _)
  replace hb := hb.trans (hb7.mono hb.size)
  clear hb7
  have HLf5 : Hid (ll (A + B) ≤ 1048577) := ll_addk (i := 1048576) HLA.out HLB.out (by omega)
  go_wp2_with fail
  refine (add_any hf5.sl hz (Nat.le_trans (len_lim hf5.sl HLf5.out) (by omega)) (by omega)).mono ?_
  rw [val_lim, HC.out]
  rintro e w8 ⟨pf6, nf6, cf6, rfl, hf6, hb8⟩
  clear hf5
  replace hx := hx.below hb8 (Nat.le_refl _)
  replace hy := hy.below hb8 (Nat.le_refl _)
  replace hz := hz.below hb8 (Nat.le_refl _)
  replace hb := hb.trans (hb8.mono hb.size)
  clear hb8
  have HLf6 : Hid (ll ((A + B) + C) ≤ 1048578) := ll_addk (i := 1048577) HLf5.out (Nat.le_trans HLC.out (by omega)) (by omega)
  go_wp2_with fail
  refine (add_any hy hz (by omega) (by omega)).mono ?_
  rw [HB.out, HC.out]
  rintro e w9 ⟨pf7, nf7, cf7, rfl, hf7, hb9⟩
  replace hx := hx.below hb9 (Nat.le_refl _)
  replace hy := hy.below hb9 (Nat.le_refl _)
  replace hz := hz.below hb9 (Nat.le_refl _)
  replace hf6 := hf6.below hb9 (Nat.le_refl _)
  replace hb := hb.trans (hb9.mono hb.size)
  clear hb9
  have HLf7 : Hid (ll (B + C) ≤ 1048577) := ll_addk (i := 1048576) HLB.out HLC.out (by omega)
  go_wp2_with fail
  refine (add_any hx hf7.sl (by omega) (Nat.le_trans (len_lim hf7.sl HLf7.out) (by omega))).mono ?_
  rw [HA.out, val_lim]
  rintro e w10 ⟨pf8, nf8, cf8, rfl, hf8, hb10⟩
  clear hf7
  replace hx := hx.below hb10 (Nat.le_refl _)
  replace hy := hy.below hb10 (Nat.le_refl _)
  replace hz := hz.below hb10 (Nat.le_refl _)
  replace hf6 := hf6.below hb10 (Nat.le_refl _)
  replace hb := hb.trans (hb10.mono hb.size)
  clear hb10
  have HLf8 : Hid (ll (A + (B + C)) ≤ 1048578) := ll_addk (i := 1048577) (Nat.le_trans HLA.out (by omega)) HLf7.out (by omega)
  go_wp2_with fail
  refine (equal_yes hf6.sl hf8.sl (Eq.trans (val_lim _) (Eq.trans (Nat.add_assoc _ _ _) (Eq.symm (val_lim _))))).mono ?_
  rintro e w11 ⟨rfl, hb11⟩
  clear hf6 hf8
  replace hx := hx.below hb11 (Nat.le_refl _)
  replace hy := hy.below hb11 (Nat.le_refl _)
  replace hz := hz.below hb11 (Nat.le_refl _)
  replace hb := hb.trans (hb11.mono hb.size)
  clear hb11
  go_wp2_with fail
  refine (mul_any hx hy (by omega) (by omega)).mono ?_
  rw [HA.out, HB.out]
  rintro e w12 ⟨pf9, nf9, cf9, rfl, hf9, hb12⟩
  replace hx := hx.below hb12 (Nat.le_refl _)
  replace hy := hy.below hb12 (Nat.le_refl _)
  replace hz := hz.below hb12 (Nat.le_refl _)
  replace hb := hb.trans (hb12.mono hb.size)
  clear hb12
  have HLf9 : Hid (ll (A * B) ≤ 2097152) := ll_mulk (i := 1048576) (j := 1048576) HLA.out HLB.out (by omega)
  go_wp2_with fail
  refine (mul_any hf9.sl hz (Nat.le_trans (len_lim hf9.sl HLf9.out) (by omega)) (by omega)).mono ?_
  rw [val_lim, HC.out]
  rintro e w13 ⟨pf10, nf10, cf10, rfl, hf10, hb13⟩
  clear hf9
  replace hx := hx.below hb13 (Nat.le_refl _)
  replace hy := hy.below hb13 (Nat.le_refl _)
  replace hz := hz.below hb13 (Nat.le_refl _)
  replace hb := hb.trans (hb13.mono hb.size)
  clear hb13
  have HLf10 : Hid (ll ((A * B) * C) ≤ 3145728) := ll_mulk (i := 2097152) (j := 1048576) HLf9.out HLC.out (by omega)
  go_wp2_with fail
  refine (mul_any hy hz (by omega) (by omega)).mono ?_
  rw [HB.out, HC.out]
  rintro e w14 ⟨pf11, nf11, cf11, rfl, hf11, hb14⟩
  replace hx := hx.below hb14 (Nat.le_refl _)
  replace hy := hy.below hb14 (Nat.le_refl _)
  replace hz := hz.below hb14 (Nat.le_refl _)
  replace hf10 := hf10.below hb14 (Nat.le_refl _)
  replace hb := hb.trans (hb14.mono hb.size)
  clear hb14
  have HLf11 : Hid (ll (B * C) ≤ 2097152) := ll_mulk (i := 1048576) (j := 1048576) HLB.out HLC.out (by omega)
  go_wp2_with fail
  refine (mul_any hx hf11.sl (by omega) (Nat.le_trans (len_lim hf11.sl HLf11.out) (by omega))).mono ?_
  rw [HA.out, val_lim]
  rintro e w15 ⟨pf12, nf12, cf12, rfl, hf12, hb15⟩
  clear hf11
  replace hx := hx.below hb15 (Nat.le_refl _)
  replace hy := hy.below hb15 (Nat.le_refl _)
  replace hz := hz.below hb15 (Nat.le_refl _)
  replace hf10 := hf10.below hb15 (Nat.le_refl _)
  replace hb := hb.trans (hb15.mono hb.size)
  clear hb15
  have HLf12 : Hid (ll (A * (B * C)) ≤ 3145728) := ll_mulk (i := 1048576) (j := 2097152) HLA.out HLf11.out (by omega)
  go_wp2_with fail
  refine (equal_yes hf10.sl hf12.sl (Eq.trans (val_lim _) (Eq.trans (Nat.mul_assoc _ _ _) (Eq.symm (val_lim _))))).mono ?_
  rintro e w16 ⟨rfl, hb16⟩
  clear hf10 hf12
  replace hx := hx.below hb16 (Nat.le_refl _)
  replace hy := hy.below hb16 (Nat.le_refl _)
  replace hz := hz.below hb16 (Nat.le_refl _)
  replace hb := hb.trans (hb16.mono hb.size)
  clear hb16
  go_wp2_with fail
  refine (add_any hy hz (by omega) (by omega)).mono ?_
  rw [HB.out, HC.out]
  rintro e w17 ⟨pf13, nf13, cf13, rfl, hf13, hb17⟩
  replace hx := hx.below hb17 (Nat.le_refl _)
  replace hy := hy.below hb17 (Nat.le_refl _)
  replace hz := hz.below hb17 (Nat.le_refl _)
  replace hb := hb.trans (hb17.mono hb.size)
  clear hb17
  have HLf13 : Hid (ll (B + C) ≤ 1048577) := ll_addk (i := 1048576) HLB.out HLC.out (by omega)
  go_wp2_with fail
  refine (mul_any hx hf13.sl (by omega) (Nat.le_trans (len_lim hf13.sl HLf13.out) (by omega))).mono ?_
  rw [HA.out, val_lim]
  rintro e w18 ⟨pf14, nf14, cf14, rfl, hf14, hb18⟩
  clear hf13
  replace hx := hx.below hb18 (Nat.le_refl _)
  replace hy := hy.below hb18 (Nat.le_refl _)
  replace hz := hz.below hb18 (Nat.le_refl _)
  replace hb := hb.trans (hb18.mono hb.size)
  clear hb18
  have HLf14 : Hid (ll (A * (B + C)) ≤ 2097153) := ll_mulk (i := 1048576) (j := 1048577) HLA.out HLf13.out (by omega)
  go_wp2_with fail
  refine (mul_any hx hy (by omega) (by omega)).mono ?_
  rw [HA.out, HB.out]
  rintro e w19 ⟨pf15, nf15, cf15, rfl, hf15, hb19⟩
  replace hx := hx.below hb19 (Nat.le_refl _)
  replace hy := hy.below hb19 (Nat.le_refl _)
  replace hz := hz.below hb19 (Nat.le_refl _)
  replace hf14 := hf14.below hb19 (Nat.le_refl _)
  replace hb := hb.trans (hb19.mono hb.size)
  clear hb19
  have HLf15 : Hid (ll (A * B) ≤ 2097152) := ll_mulk (i := 1048576) (j := 1048576) HLA.out HLB.out (by omega)
  go_wp2_with fail
  refine (mul_any hx hz (by omega) (by omega)).mono ?_
  rw [HA.out, HC.out]
  rintro e w20 ⟨pf16, nf16, cf16, rfl, hf16, hb20⟩
  replace hx := hx.below hb20 (Nat.le_refl _)
  replace hy := hy.below hb20 (Nat.le_refl _)
  replace hz := hz.below hb20 (Nat.le_refl _)
  replace hf14 := hf14.below hb20 (Nat.le_refl _)
  replace hf15 := hf15.below hb20 (Nat.le_refl _)
  replace hb := hb.trans (hb20.mono hb.size)
  clear hb20
  have HLf16 : Hid (ll (A * C) ≤ 2097152) := ll_mulk (i := 1048576) (j := 1048576) HLA.out HLC.out (by omega)
  go_wp2_with fail
  refine (add_any hf15.sl hf16.sl (Nat.le_trans (len_lim hf15.sl HLf15.out) (by omega)) (Nat.le_trans (len_lim hf16.sl HLf16.out) (by omega))).mono ?_
  rw [val_lim, val_lim]
  rintro e w21 ⟨pf17, nf17, cf17, rfl, hf17, hb21⟩
  clear hf15 hf16
  replace hx := hx.below hb21 (Nat.le_refl _)
  replace hy := hy.below hb21 (Nat.le_refl _)
  replace hz := hz.below hb21 (Nat.le_refl _)
  replace hf14 := hf14.below hb21 (Nat.le_refl _)
  replace hb := hb.trans (hb21.mono hb.size)
  clear hb21
  have HLf17 : Hid (ll ((A * B) + (A * C)) ≤ 2097153) := ll_addk (i := 2097152) HLf15.out HLf16.out (by omega)
  go_wp2_with fail
  refine (equal_yes hf14.sl hf17.sl (Eq.trans (val_lim _) (Eq.trans (Nat.mul_add _ _ _) (Eq.symm (val_lim _))))).mono ?_
  rintro e w22 ⟨rfl, hb22⟩
  clear hf14 hf17
  replace hx := hx.below hb22 (Nat.le_refl _)
  replace hy := hy.below hb22 (Nat.le_refl _)
  replace hz := hz.below hb22 (Nat.le_refl _)
  replace hb := hb.trans (hb22.mono hb.size)
  clear hb22
  go_wp2_with fail
  refine (add_any hx hy (by omega) (by omega)).mono ?_
  rw [HA.out, HB.out]
  rintro e w23 ⟨pf18, nf18, cf18, rfl, hf18, hb23⟩
  replace hx := hx.below hb23 (Nat.le_refl _)
  replace hy := hy.below hb23 (Nat.le_refl _)
  replace hz := hz.below hb23 (Nat.le_refl _)
  replace hb := hb.trans (hb23.mono hb.size)
  clear hb23
  have HLf18 : Hid (ll (A + B) ≤ 1048577) := ll_addk (i := 1048576) HLA.out HLB.out (by omega)
  go_wp2_with fail
  refine (sub_yes hf18.sl hy (Nat.le_trans (len_lim hf18.sl HLf18.out) (by omega)) (by omega) (by rw [val_lim, HB.out]; exact Nat.le_add_left _ _)).mono ?_
  rw [val_lim, HB.out, Nat.add_sub_cancel]
  rintro e w24 ⟨pd, nq, cd, rfl, hd, hb24⟩
  clear hf18
  replace hx := hx.below hb24 (Nat.le_refl _)
  replace hy := hy.below hb24 (Nat.le_refl _)
  replace hz := hz.below hb24 (Nat.le_refl _)
  replace hb := hb.trans (hb24.mono hb.size)
  clear hb24
  go_wp2_with fail
  refine (equal_yes hd.sl hx (Eq.trans (val_lim _) (Eq.trans (rfl) (Eq.symm HA.out)))).mono ?_
  rintro e w25 ⟨rfl, hb25⟩
  clear hd
  replace hx := hx.below hb25 (Nat.le_refl _)
  replace hy := hy.below hb25 (Nat.le_refl _)
  replace hz := hz.below hb25 (Nat.le_refl _)
  replace hb := hb.trans (hb25.mono hb.size)
  clear hb25
  go_wp2_with fail
  refine (gcd_any hx hy (by omega) (by omega)).mono ?_
  rw [HA.out, HB.out]
  rintro e w26 ⟨pg, ng, cg, rfl, hg, hb26⟩
  replace hx := hx.below hb26 (Nat.le_refl _)
  replace hy := hy.below hb26 (Nat.le_refl _)
  replace hz := hz.below hb26 (Nat.le_refl _)
  replace hb := hb.trans (hb26.mono hb.size)
  clear hb26
  have HLg : Hid (ll (Nat.gcd A B) ≤ 1048576) := HGL.out
  have hbg := blen_pos (show Nat.gcd A B ≠ 0 from HG.out)
  have hbz : decide ((0 : Int) < ((blen (Nat.gcd A B) : Nat) : Int)) = true := by simp <;> omega
  go_wp2_with fail
  refine (len_any hg.sl (Nat.le_trans (len_lim hg.sl HLg.out) (by omega))).mono ?_
  rw [val_lim]
  rintro e w27 ⟨rfl, rfl⟩
  go_wp2_with fail
  refine (div_any hx hg.sl (by omega) (Nat.le_trans (len_lim hg.sl HLg.out) (by omega)) (by rw [val_lim]; exact HG.out)).mono ?_
  rw [val_lim, HA.out, HM1.out]
  rintro e w28 ⟨pa, na, ca, pr1, nr1, cr1, rfl, ha, hr1, hb28⟩
  replace hx := hx.below hb28 (Nat.le_refl _)
  replace hy := hy.below hb28 (Nat.le_refl _)
  replace hz := hz.below hb28 (Nat.le_refl _)
  replace hg := hg.below hb28 (Nat.le_refl _)
  replace hb := hb.trans (hb28.mono hb.size)
  clear hb28
  clear ha
  go_wp2_with fail
  refine (div_any hy hg.sl (by omega) (Nat.le_trans (len_lim hg.sl HLg.out) (by omega)) (by rw [val_lim]; exact HG.out)).mono ?_
  rw [val_lim, HB.out, HM2.out]
  rintro e w29 ⟨pa, na, ca, pr2, nr2, cr2, rfl, ha, hr2, hb29⟩
  replace hx := hx.below hb29 (Nat.le_refl _)
  replace hy := hy.below hb29 (Nat.le_refl _)
  replace hz := hz.below hb29 (Nat.le_refl _)
  replace hg := hg.below hb29 (Nat.le_refl _)
  replace hr1 := hr1.below hb29 (Nat.le_refl _)
  replace hb := hb.trans (hb29.mono hb.size)
  clear hb29
  clear ha
  go_wp2_with fail
  refine (len_any hr1.sl (by rw [hr1.sl.lln]; exact Nat.zero_le _)).mono ?_
  rw [val_lim, HB00.out]
  rintro e w30 ⟨rfl, rfl⟩
  clear hr1
  go_wp2_with fail
  refine (len_any hr2.sl (by rw [hr2.sl.lln]; exact Nat.zero_le _)).mono ?_
  rw [val_lim, HB00.out]
  rintro e w31 ⟨rfl, rfl⟩
  clear hr2
  go_wp2_with fail
  refine (mul_any hx hz (by omega) (by omega)).mono ?_
  rw [HA.out, HC.out]
  rintro e w32 ⟨pf21, nf21, cf21, rfl, hf21, hb32⟩
  replace hx := hx.below hb32 (Nat.le_refl _)
  replace hy := hy.below hb32 (Nat.le_refl _)
  replace hz := hz.below hb32 (Nat.le_refl _)
  replace hg := hg.below hb32 (Nat.le_refl _)
  replace hb := hb.trans (hb32.mono hb.size)
  clear hb32
  have HLf21 : Hid (ll (A * C) ≤ 2097152) := ll_mulk (i := 1048576) (j := 1048576) HLA.out HLC.out (by omega)
  go_wp2_with fail
  refine (mul_any hy hz (by omega) (by omega)).mono ?_
  rw [HB.out, HC.out]
  rintro e w33 ⟨pf22, nf22, cf22, rfl, hf22, hb33⟩
  replace hx := hx.below hb33 (Nat.le_refl _)
  replace hy := hy.below hb33 (Nat.le_refl _)
  replace hz := hz.below hb33 (Nat.le_refl _)
  replace hg := hg.below hb33 (Nat.le_refl _)
  replace hf21 := hf21.below hb33 (Nat.le_refl _)
  replace hb := hb.trans (hb33.mono hb.size)
  clear hb33
  have HLf22 : Hid (ll (B * C) ≤ 2097152) := ll_mulk (i := 1048576) (j := 1048576) HLB.out HLC.out (by omega)
  go_wp2_with fail
  refine (gcd_any hf21.sl hf22.sl (Nat.le_trans (len_lim hf21.sl HLf21.out) (by omega)) (Nat.le_trans (len_lim hf22.sl HLf22.out) (by omega))).mono ?_
  rw [val_lim, val_lim, Nat.gcd_mul_right]
  rintro e w34 ⟨pu, nu, cu, rfl, hu, hb34⟩
  clear hf21 hf22
  replace hx := hx.below hb34 (Nat.le_refl _)
  replace hy := hy.below hb34 (Nat.le_refl _)
  replace hz := hz.below hb34 (Nat.le_refl _)
  replace hg := hg.below hb34 (Nat.le_refl _)
  replace hb := hb.trans (hb34.mono hb.size)
  clear hb34
  go_wp2_with fail
  refine (mul_any hg.sl hz (Nat.le_trans (len_lim hg.sl HLg.out) (by omega)) (by omega)).mono ?_
  rw [val_lim, HC.out]
  rintro e w35 ⟨pf24, nf24, cf24, rfl, hf24, hb35⟩
  clear hz hg
  replace hx := hx.below hb35 (Nat.le_refl _)
  replace hy := hy.below hb35 (Nat.le_refl _)
  replace hu := hu.below hb35 (Nat.le_refl _)
  replace hb := hb.trans (hb35.mono hb.size)
  clear hb35
  have HLf24 : Hid (ll ((Nat.gcd A B) * C) ≤ 2097152) := ll_mulk (i := 1048576) (j := 1048576) HLg.out HLC.out (by omega)
  go_wp2_with fail
  refine (equal_yes hu.sl hf24.sl (Eq.trans (val_lim _) (Eq.trans (rfl) (Eq.symm (val_lim _))))).mono ?_
  rintro e w36 ⟨rfl, hb36⟩
  clear hu hf24
  replace hx := hx.below hb36 (Nat.le_refl _)
  replace hy := hy.below hb36 (Nat.le_refl _)
  replace hb := hb.trans (hb36.mono hb.size)
  clear hb36
  go_wp2_with fail
  refine (div_zero hx hy (by rw [HB.out]; exact HB0.out)).mono ?_
  rintro e w37 ⟨pa, na, ca, pb, nb, cb, rfl, ha, hz2, hb37⟩
  clear hy
  replace hx := hx.below hb37 (Nat.le_refl _)
  replace hb := hb.trans (hb37.mono hb.size)
  clear hb37
  clear ha hz2
  go_wp2_with fail
  refine (sqrt_any hx (by omega)).mono ?_
  rw [HA.out]
  rintro e w38 ⟨ps, ns, cs, rfl, hs, hb38⟩
  replace hx := hx.below hb38 (Nat.le_refl _)
  replace hb := hb.trans (hb38.mono hb.size)
  clear hb38
  have HLs : Hid (ll (rt A) ≤ 1048576) := ll_lek (sq_self (rt_spec A).1) HLA.out
  go_wp2_with fail
  refine (of_any (N := 1) rfl (by omega)).mono ?_
  rintro e w39 ⟨po, no, co, rfl, ho, hb39⟩
  replace hx := hx.below hb39 (Nat.le_refl _)
  replace hs := hs.below hb39 (Nat.le_refl _)
  replace hb := hb.trans (hb39.mono hb.size)
  clear hb39
  have HLo : Hid (ll 1 ≤ 1048576) := Nat.le_trans (ll_le (n := 1) (k := 1) (by omega)) (by omega)
  go_wp2_with fail
  refine (add_any hs.sl ho.sl (Nat.le_trans (len_lim hs.sl HLs.out) (by omega)) (Nat.le_trans (len_lim ho.sl HLo.out) (by omega))).mono ?_
  rw [val_lim, val_lim]
  rintro e w40 ⟨pf27, nf27, cf27, rfl, hf27, hb40⟩
  clear ho
  replace hx := hx.below hb40 (Nat.le_refl _)
  replace hs := hs.below hb40 (Nat.le_refl _)
  replace hb := hb.trans (hb40.mono hb.size)
  clear hb40
  have HLf27 : Hid (ll ((rt A) + 1) ≤ 1048577) := ll_addk (i := 1048576) HLs.out HLo.out (by omega)
  go_wp2_with fail
  refine (mul_any hs.sl hs.sl (Nat.le_trans (len_lim hs.sl HLs.out) (by omega)) (Nat.le_trans (len_lim hs.sl HLs.out) (by omega))).mono ?_
  rw [val_lim]
  rintro e w41 ⟨pf28, nf28, cf28, rfl, hf28, hb41⟩
  clear hs
  replace hx := hx.below hb41 (Nat.le_refl _)
  replace hf27 := hf27.below hb41 (Nat.le_refl _)
  replace hb := hb.trans (hb41.mono hb.size)
  clear hb41
  have HLf28 : Hid (ll ((rt A) * (rt A)) ≤ 2097152) := ll_mulk (i := 1048576) (j := 1048576) HLs.out HLs.out (by omega)
  obtain ⟨z1, hz1, hz2⟩ : ∃ z, cmpN (rt A * rt A) A = z ∧ z ≤ 0 := ⟨_, rfl, cmpN_not_above (rt_spec A).1⟩
  have HZ1 := Lib.hid hz1
  have hz3 : decide (z1 ≤ 0) = true := by simp; omega
  have hz4 : decide (0 < z1) = false := by simp; omega
  clear hz1
  go_wp2_with fail
  refine (cmp_any hf28.sl hx).mono ?_
  rw [val_lim, HA.out, HZ1.out]
  rintro e w42 ⟨rfl, hb42⟩
  clear hf28
  replace hx := hx.below hb42 (Nat.le_refl _)
  replace hf27 := hf27.below hb42 (Nat.le_refl _)
  replace hb := hb.trans (hb42.mono hb.size)
  clear hb42
  go_wp2_with fail
  refine (mul_any hf27.sl hf27.sl (Nat.le_trans (len_lim hf27.sl HLf27.out) (by omega)) (Nat.le_trans (len_lim hf27.sl HLf27.out) (by omega))).mono ?_
  rw [val_lim]
  rintro e w43 ⟨pf29, nf29, cf29, rfl, hf29, hb43⟩
  clear hf27
  replace hx := hx.below hb43 (Nat.le_refl _)
  replace hb := hb.trans (hb43.mono hb.size)
  clear hb43
  have HLf29 : Hid (ll (((rt A) + 1) * ((rt A) + 1)) ≤ 2097154) := ll_mulk (i := 1048577) (j := 1048577) HLf27.out HLf27.out (by omega)
  obtain ⟨z5, hz5, hz6⟩ : ∃ z, cmpN ((rt A + 1) * (rt A + 1)) A = z ∧ 0 < z := ⟨_, rfl, cmpN_above (rt_spec A).2⟩
  have HZ5 := Lib.hid hz5
  have hz7 : decide (0 < z5) = true := by simp; omega
  clear hz5
  go_wp2_with fail
  refine (cmp_any hf29.sl hx).mono ?_
  rw [val_lim, HA.out, HZ5.out]
  rintro e w44 ⟨rfl, hb44⟩
  clear hx hf29
  replace hb := hb.trans (hb44.mono hb.size)
  clear hb44
  go_wp2_with fail
  refine (lives_any).mono ?_
  rintro e w45 ⟨rfl, hb45⟩
  replace hb := hb.trans (hb45.mono hb.size)
  clear hb45
  go_wp2_with fail
  go_ret
  exact ⟨rfl, hb⟩

set_option maxRecDepth 100000 in
set_option maxHeartbeats 16000000 in
theorem ring_n {p q r : Option Addr} {n m k c d ez : Nat} {xs ys zs : List Nat} {w : World} (hx : Sl w p n c xs) (hy : Sl w q m d ys) (hz : Sl w r k ez zs) (hn : n ≤ 1048576) (hm : m ≤ 1048576) (hk : k ≤ 1048576) (h2 : val ys ≠ 0) :
    Calls Try.prog 7 #[.slice p n c, .slice q m d, .slice r k ez] w (RetB w true) := by
  have hA : ll (val xs) ≤ 1048576 := ll_val hx hn
  have hB : ll (val ys) ≤ 1048576 := ll_val hy hm
  have hC : ll (val zs) ≤ 1048576 := ll_val hz hk
  have HLA := Lib.hid hA
  have HLB := Lib.hid hB
  have HLC := Lib.hid hC
  clear hA hB hC
  generalize hXA : val xs = A at *
  generalize hYB : val ys = B at *
  generalize hZC : val zs = C at *
  have HA := Lib.hid hXA
  have HB := Lib.hid hYB
  have HC := Lib.hid hZC
  clear hXA hYB hZC
  have HB00 : Hid (blen 0 = 0) := rfl
  have HG : Hid (Nat.gcd A B ≠ 0) := by
    show _ ≠ _
    intro h
    have h1 := Nat.gcd_eq_zero_iff.1 h
    omega
  have HGL : Hid (ll (Nat.gcd A B) ≤ 1048576) := by
    show _ ≤ _
    rcases Nat.eq_zero_or_pos A with h | h
    · exact ll_lek (Nat.le_of_dvd (by omega) (Nat.gcd_dvd_right A B)) HLB.out
    · exact ll_lek (Nat.le_of_dvd h (Nat.gcd_dvd_left A B)) HLA.out
  have HM1 : Hid (A % Nat.gcd A B = 0) := Nat.mod_eq_zero_of_dvd (Nat.gcd_dvd_left A B)
  have HM2 : Hid (B % Nat.gcd A B = 0) := Nat.mod_eq_zero_of_dvd (Nat.gcd_dvd_right A B)
  have HB0 := Lib.hid h2
  clear h2
  have hb : Below w.heap.size w w := Below.refl _ _
  go_enter Try.func7, Try.ntmps7
  go_wp2_with fail
  refine (add_any hx hy (by omega) (by omega)).mono ?_
  rw [HA.out, HB.out]
  rintro e w1 ⟨pf1, nf1, cf1, rfl, hf1, hb1⟩
  replace hx := hx.below hb1 (Nat.le_refl _)
  replace hy := hy.below hb1 (Nat.le_refl _)
  replace hz := hz.below hb1 (Nat.le_refl _)
  replace hb := hb.trans (hb1.mono hb.size)
  clear hb1
  have HLf1 : Hid (ll (A + B) ≤ 1048577) := ll_addk (i := 1048576) HLA.out HLB.out (by omega)
  go_wp2_with fail
  refine (add_any hy hx (by omega) (by omega)).mono ?_
  rw [HB.out, HA.out]
  rintro e w2 ⟨pf2, nf2, cf2, rfl, hf2, hb2⟩
  replace hx := hx.below hb2 (Nat.le_refl _)
  replace hy := hy.below hb2 (Nat.le_refl _)
  replace hz := hz.below hb2 (Nat.le_refl _)
  replace hf1 := hf1.below hb2 (Nat.le_refl _)
  replace hb := hb.trans (hb2.mono hb.size)
  clear hb2
  have HLf2 : Hid (ll (B + A) ≤ 1048577) := ll_addk (i := 1048576) HLB.out HLA.out (by omega)
  go_wp2_with fail
  refine (equal_yes hf1.sl hf2.sl (Eq.trans (val_lim _) (Eq.trans (Nat.add_comm _ _) (Eq.symm (val_lim _))))).mono ?_
  rintro e w3 ⟨rfl, hb3⟩
  clear hf1 hf2
  replace hx := hx.below hb3 (Nat.le_refl _)
  replace hy := hy.below hb3 (Nat.le_refl _)
  replace hz := hz.below hb3 (Nat.le_refl _)
  replace hb := hb.trans (hb3.mono hb.size)
  clear hb3
  go_wp2_with fail
  refine (mul_any hx hy (by omega) (by omega)).mono ?_
  rw [HA.out, HB.out]
  rintro e w4 ⟨pf3, nf3, cf3, rfl, hf3, hb4⟩
  replace hx := hx.below hb4 (Nat.le_refl _)
  replace hy := hy.below hb4 (Nat.le_refl _)
  replace hz := hz.below hb4 (Nat.le_refl _)
  replace hb := hb.trans (hb4.mono hb.size)
  clear hb4
  have HLf3 : Hid (ll (A * B) ≤ 2097152) := ll_mulk (i := 1048576) (j := 1048576) HLA.out HLB.out (by omega)
  go_wp2_with fail
  refine (mul_any hy hx (by omega) (by omega)).mono ?_
  rw [HB.out, HA.out]
  rintro e w5 ⟨pf4, nf4, cf4, rfl, hf4, hb5⟩
  replace hx := hx.below hb5 (Nat.le_refl _)
  replace hy := hy.below hb5 (Nat.le_refl _)
  replace hz := hz.below hb5 (Nat.le_refl _)
  replace hf3 := hf3.below hb5 (Nat.le_refl _)
  replace hb := hb.trans (hb5.mono hb.size)
  clear hb5
  have HLf4 : Hid (ll (B * A) ≤ 2097152) := ll_mulk (i := 1048576) (j := 1048576) HLB.out HLA.out (by omega)
  go_wp2_with fail
  refine (equal_yes hf3.sl hf4.sl (Eq.trans (val_lim _) (Eq.trans (Nat.mul_comm _ _) (Eq.symm (val_lim _))))).mono ?_
  rintro e w6 ⟨rfl, hb6⟩
  clear hf3 hf4
  replace hx := hx.below hb6 (Nat.le_refl _)
  replace hy := hy.below hb6 (Nat.le_refl _)
  replace hz := hz.below hb6 (Nat.le_refl _)
  replace hb := hb.trans (hb6.mono hb.size)
  clear hb6
  go_wp2_with fail
  refine (add_any hx hy (by omega) (by omega)).mono ?_
  rw [HA.out, HB.out]
  rintro e w7 ⟨pf5, nf5, cf5, rfl, hf5, hb7⟩
  replace hx := hx.below hb7 (Nat.le_refl _)
  replace hy := hy.below hb7 (Nat.le_refl _)
  replace hz := hz.below hb7 (Nat.le_refl _)
  replace hb := hb.trans (hb7.mono hb.size)
  clear hb7
  have HLf5 : Hid (ll (A + B) ≤ 1048577) := ll_addk (i := 1048576) HLA.out HLB.out (by omega)
  go_wp2_with fail
  refine (add_any hf5.sl hz (Nat.le_trans (len_lim hf5.sl HLf5.out) (by omega)) (by omega)).mono ?_
  rw [val_lim, HC.out]
  rintro e w8 ⟨pf6, nf6, cf6, rfl, hf6, hb8⟩
  clear hf5
  replace hx := hx.below hb8 (Nat.le_refl _)
  replace hy := hy.below hb8 (Nat.le_refl _)
  replace hz := hz.below hb8 (Nat.le_refl _)
  replace hb := hb.trans (hb8.mono hb.size)
  clear hb8
  have HLf6 : Hid (ll ((A + B) + C) ≤ 1048578) := ll_addk (i := 1048577) HLf5.out (Nat.le_trans HLC.out (by omega)) (by omega)
  go_wp2_with fail
  refine (add_any hy hz (by omega) (by omega)).mono ?_
  rw [HB.out, HC.out]
  rintro e w9 ⟨pf7, nf7, cf7, rfl, hf7, hb9⟩
  replace hx := hx.below hb9 (Nat.le_refl _)
  replace hy := hy.below hb9 (Nat.le_refl _)
  replace hz := hz.below hb9 (Nat.le_refl _)
  replace hf6 := hf6.below hb9 (Nat.le_refl _)
  replace hb := hb.trans (hb9.mono hb.size)
  clear hb9
  have HLf7 : Hid (ll (B + C) ≤ 1048577) := ll_addk (i := 1048576) HLB.out HLC.out (by omega)
  go_wp2_with fail
  refine (add_any hx hf7.sl (by omega) (Nat.le_trans (len_lim hf7.sl HLf7.out) (by omega))).mono ?_
  rw [HA.out, val_lim]
  rintro e w10 ⟨pf8, nf8, cf8, rfl, hf8, hb10⟩
  clear hf7
  replace hx := hx.below hb10 (Nat.le_refl _)
  replace hy := hy.below hb10 (Nat.le_refl _)
  replace hz := hz.below hb10 (Nat.le_refl _)
  replace hf6 := hf6.below hb10 (Nat.le_refl _)
  replace hb := hb.trans (hb10.mono hb.size)
  clear hb10
  have HLf8 : Hid (ll (A + (B + C)) ≤ 1048578) := ll_addk (i := 1048577) (Nat.le_trans HLA.out (by omega)) HLf7.out (by omega)
  go_wp2_with fail
  refine (equal_yes hf6.sl hf8.sl (Eq.trans (val_lim _) (Eq.trans (Nat.add_assoc _ _ _) (Eq.symm (val_lim _))))).mono ?_
  rintro e w11 ⟨rfl, hb11⟩
  clear hf6 hf8
  replace hx := hx.below hb11 (Nat.le_refl _)
  replace hy := hy.below hb11 (Nat.le_refl _)
  replace hz := hz.below hb11 (Nat.le_refl _)
  replace hb := hb.trans (hb11.mono hb.size)
  clear hb11
  go_wp2_with fail
  refine (mul_any hx hy (by omega) (by omega)).mono ?_
  rw [HA.out, HB.out]
  rintro e w12 ⟨pf9, nf9, cf9, rfl, hf9, hb12⟩
  replace hx := hx.below hb12 (Nat.le_refl _)
  replace hy := hy.below hb12 (Nat.le_refl _)
  replace hz := hz.below hb12 (Nat.le_refl _)
  replace hb := hb.trans (hb12.mono hb.size)
  clear hb12
  have HLf9 : Hid (ll (A * B) ≤ 2097152) := ll_mulk (i := 1048576) (j := 1048576) HLA.out HLB.out (by omega)
  go_wp2_with fail
  refine (mul_any hf9.sl hz (Nat.le_trans (len_lim hf9.sl HLf9.out) (by omega)) (by omega)).mono ?_
  rw [val_lim, HC.out]
  rintro e w13 ⟨pf10, nf10, cf10, rfl, hf10, hb13⟩
  clear hf9
  replace hx := hx.below hb13 (Nat.le_refl _)
  replace hy := hy.below hb13 (Nat.le_refl _)
  replace hz := hz.below hb13 (Nat.le_refl _)
  replace hb := hb.trans (hb13.mono hb.size)
  clear hb13
  have HLf10 : Hid (ll ((A * B) * C) ≤ 3145728) := ll_mulk (i := 2097152) (j := 1048576) HLf9.out HLC.out (by omega)
  go_wp2_with fail
  refine (mul_any hy hz (by omega) (by omega)).mono ?_
  rw [HB.out, HC.out]
  rintro e w14 ⟨pf11, nf11, cf11, rfl, hf11, hb14⟩
  replace hx := hx.below hb14 (Nat.le_refl _)
  replace hy := hy.below hb14 (Nat.le_refl _)
  replace hz := hz.below hb14 (Nat.le_refl _)
  replace hf10 := hf10.below hb14 (Nat.le_refl _)
  replace hb := hb.trans (hb14.mono hb.size)
  clear hb14
  have HLf11 : Hid (ll (B * C) ≤ 2097152) := ll_mulk (i := 1048576) (j := 1048576) HLB.out HLC.out (by omega)
  go_wp2_with fail
  refine (mul_any hx hf11.sl (by omega) (Nat.le_trans (len_lim hf11.sl HLf11.out) (by omega))).mono ?_
  rw [HA.out, val_lim]
  rintro e w15 ⟨pf12, nf12, cf12, rfl, hf12, hb15⟩
  clear hf11
  replace hx := hx.below hb15 (Nat.le_refl _)
  replace hy := hy.below hb15 (Nat.le_refl _)
  replace hz := hz.below hb15 (Nat.le_refl _)
  replace hf10 := hf10.below hb15 (Nat.le_refl _)
  replace hb := hb.trans (hb15.mono hb.size)
  clear hb15
  have HLf12 : Hid (ll (A * (B * C)) ≤ 3145728) := ll_mulk (i := 1048576) (j := 2097152) HLA.out HLf11.out (by omega)
  go_wp2_with fail
  refine (equal_yes hf10.sl hf12.sl (Eq.trans (val_lim _) (Eq.trans (Nat.mul_assoc _ _ _) (Eq.symm (val_lim _))))).mono ?_
  rintro e w16 ⟨rfl, hb16⟩
  clear hf10 hf12
  replace hx := hx.below hb16 (Nat.le_refl _)
  replace hy := hy.below hb16 (Nat.le_refl _)
  replace hz := hz.below hb16 (Nat.le_refl _)
  replace hb := hb.trans (hb16.mono hb.size)
  clear hb16
  go_wp2_with fail
  refine (add_any hy hz (by omega) (by omega)).mono ?_
  rw [HB.out, HC.out]
  rintro e w17 ⟨pf13, nf13, cf13, rfl, hf13, hb17⟩
  replace hx := hx.below hb17 (Nat.le_refl _)
  replace hy := hy.below hb17 (Nat.le_refl _)
  replace hz := hz.below hb17 (Nat.le_refl _)
  replace hb := hb.trans (hb17.mono hb.size)
  clear hb17
  have HLf13 : Hid (ll (B + C) ≤ 1048577) := ll_addk (i := 1048576) HLB.out HLC.out (by omega)
  go_wp2_with fail
  refine (mul_any hx hf13.sl (by omega) (Nat.le_trans (len_lim hf13.sl HLf13.out) (by omega))).mono ?_
  rw [HA.out, val_lim]
  rintro e w18 ⟨pf14, nf14, cf14, rfl, hf14, hb18⟩
  clear hf13
  replace hx := hx.below hb18 (Nat.le_refl _)
  replace hy := hy.below hb18 (Nat.le_refl _)
  replace hz := hz.below hb18 (Nat.le_refl _)
  replace hb := hb.trans (hb18.mono hb.size)
  clear hb18
  have HLf14 : Hid (ll (A * (B + C)) ≤ 2097153) := ll_mulk (i := 1048576) (j := 1048577) HLA.out HLf13.out (by omega)
  go_wp2_with fail
  refine (mul_any hx hy (by omega) (by omega)).mono ?_
  rw [HA.out, HB.out]
  rintro e w19 ⟨pf15, nf15, cf15, rfl, hf15, hb19⟩
  replace hx := hx.below hb19 (Nat.le_refl _)
  replace hy := hy.below hb19 (Nat.le_refl _)
  replace hz := hz.below hb19 (Nat.le_refl _)
  replace hf14 := hf14.below hb19 (Nat.le_refl _)
  replace hb := hb.trans (hb19.mono hb.size)
  clear hb19
  have HLf15 : Hid (ll (A * B) ≤ 2097152) := ll_mulk (i := 1048576) (j := 1048576) HLA.out HLB.out (by omega)
  go_wp2_with fail
  refine (mul_any hx hz (by omega) (by omega)).mono ?_
  rw [HA.out, HC.out]
  rintro e w20 ⟨pf16, nf16, cf16, rfl, hf16, hb20⟩
  replace hx := hx.below hb20 (Nat.le_refl _)
  replace hy := hy.below hb20 (Nat.le_refl _)
  replace hz := hz.below hb20 (Nat.le_refl _)
  replace hf14 := hf14.below hb20 (Nat.le_refl _)
  replace hf15 := hf15.below hb20 (Nat.le_refl _)
  replace hb := hb.trans (hb20.mono hb.size)
  clear hb20
  have HLf16 : Hid (ll (A * C) ≤ 2097152) := ll_mulk (i := 1048576) (j := 1048576) HLA.out HLC.out (by omega)
  go_wp2_with fail
  refine (add_any hf15.sl hf16.sl (Nat.le_trans (len_lim hf15.sl HLf15.out) (by omega)) (Nat.le_trans (len_lim hf16.sl HLf16.out) (by omega))).mono ?_
  rw [val_lim, val_lim]
  rintro e w21 ⟨pf17, nf17, cf17, rfl, hf17, hb21⟩
  clear hf15 hf16
  replace hx := hx.below hb21 (Nat.le_refl _)
  replace hy := hy.below hb21 (Nat.le_refl _)
  replace hz := hz.below hb21 (Nat.le_refl _)
  replace hf14 := hf14.below hb21 (Nat.le_refl _)
  replace hb := hb.trans (hb21.mono hb.size)
  clear hb21
  have HLf17 : Hid (ll ((A * B) + (A * C)) ≤ 2097153) := ll_addk (i := 2097152) HLf15.out HLf16.out (by omega)
  go_wp2_with fail
  refine (equal_yes hf14.sl hf17.sl (Eq.trans (val_lim _) (Eq.trans (Nat.mul_add _ _ _) (Eq.symm (val_lim _))))).mono ?_
  rintro e w22 ⟨rfl, hb22⟩
  clear hf14 hf17
  replace hx := hx.below hb22 (Nat.le_refl _)
  replace hy := hy.below hb22 (Nat.le_refl _)
  replace hz := hz.below hb22 (Nat.le_refl _)
  replace hb := hb.trans (hb22.mono hb.size)
  clear hb22
  go_wp2_with fail
  refine (add_any hx hy (by omega) (by omega)).mono ?_
  rw [HA.out, HB.out]
  rintro e w23 ⟨pf18, nf18, cf18, rfl, hf18, hb23⟩
  replace hx := hx.below hb23 (Nat.le_refl _)
  replace hy := hy.below hb23 (Nat.le_refl _)
  replace hz := hz.below hb23 (Nat.le_refl _)
  replace hb := hb.trans (hb23.mono hb.size)
  clear hb23
  have HLf18 : Hid (ll (A + B) ≤ 1048577) := ll_addk (i := 1048576) HLA.out HLB.out (by omega)
  go_wp2_with fail
  refine (sub_yes hf18.sl hy (Nat.le_trans (len_lim hf18.sl HLf18.out) (by omega)) (by omega) (by rw [val_lim, HB.out]; exact Nat.le_add_left _ _)).mono ?_
  rw [val_lim, HB.out, Nat.add_sub_cancel]
  rintro e w24 ⟨pd, nq, cd, rfl, hd, hb24⟩
  clear hf18
  replace hx := hx.below hb24 (Nat.le_refl _)
  replace hy := hy.below hb24 (Nat.le_refl _)
  replace hz := hz.below hb24 (Nat.le_refl _)
  replace hb := hb.trans (hb24.mono hb.size)
  clear hb24
  go_wp2_with fail
  refine (equal_yes hd.sl hx (Eq.trans (val_lim _) (Eq.trans (rfl) (Eq.symm HA.out)))).mono ?_
  rintro e w25 ⟨rfl, hb25⟩
  clear hd
  replace hx := hx.below hb25 (Nat.le_refl _)
  replace hy := hy.below hb25 (Nat.le_refl _)
  replace hz := hz.below hb25 (Nat.le_refl _)
  replace hb := hb.trans (hb25.mono hb.size)
  clear hb25
  go_wp2_with fail
  refine (gcd_any hx hy (by omega) (by omega)).mono ?_
  rw [HA.out, HB.out]
  rintro e w26 ⟨pg, ng, cg, rfl, hg, hb26⟩
  replace hx := hx.below hb26 (Nat.le_refl _)
  replace hy := hy.below hb26 (Nat.le_refl _)
  replace hz := hz.below hb26 (Nat.le_refl _)
  replace hb := hb.trans (hb26.mono hb.size)
  clear hb26
  have HLg : Hid (ll (Nat.gcd A B) ≤ 1048576) := HGL.out
  have hbg := blen_pos (show Nat.gcd A B ≠ 0 from HG.out)
  have hbz : decide ((0 : Int) < ((blen (Nat.gcd A B) : Nat) : Int)) = true := by simp <;> omega
  go_wp2_with fail
  refine (len_any hg.sl (Nat.le_trans (len_lim hg.sl HLg.out) (by omega))).mono ?_
  rw [val_lim]
  rintro e w27 ⟨rfl, rfl⟩
  go_wp2_with fail
  refine (div_any hx hg.sl (by omega) (Nat.le_trans (len_lim hg.sl HLg.out) (by omega)) (by rw [val_lim]; exact HG.out)).mono ?_
  rw [val_lim, HA.out, HM1.out]
  rintro e w28 ⟨pa, na, ca, pr1, nr1, cr1, rfl, ha, hr1, hb28⟩
  replace hx := hx.below hb28 (Nat.le_refl _)
  replace hy := hy.below hb28 (Nat.le_refl _)
  replace hz := hz.below hb28 (Nat.le_refl _)
  replace hg := hg.below hb28 (Nat.le_refl _)
  replace hb := hb.trans (hb28.mono hb.size)
  clear hb28
  clear ha
  go_wp2_with fail
  refine (div_any hy hg.sl (by omega) (Nat.le_trans (len_lim hg.sl HLg.out) (by omega)) (by rw [val_lim]; exact HG.out)).mono ?_
  rw [val_lim, HB.out, HM2.out]
  rintro e w29 ⟨pa, na, ca, pr2, nr2, cr2, rfl, ha, hr2, hb29⟩
  replace hx := hx.below hb29 (Nat.le_refl _)
  replace hy := hy.below hb29 (Nat.le_refl _)
  replace hz := hz.below hb29 (Nat.le_refl _)
  replace hg := hg.below hb29 (Nat.le_refl _)
  replace hr1 := hr1.below hb29 (Nat.le_refl _)
  replace hb := hb.trans (hb29.mono hb.size)
  clear hb29
  clear ha
  go_wp2_with fail
  refine (len_any hr1.sl (by rw [hr1.sl.lln]; exact Nat.zero_le _)).mono ?_
  rw [val_lim, HB00.out]
  rintro e w30 ⟨rfl, rfl⟩
  clear hr1
  go_wp2_with fail
  refine (len_any hr2.sl (by rw [hr2.sl.lln]; exact Nat.zero_le _)).mono ?_
  rw [val_lim, HB00.out]
  rintro e w31 ⟨rfl, rfl⟩
  clear hr2
  go_wp2_with fail
  refine (mul_any hx hz (by omega) (by omega)).mono ?_
  rw [HA.out, HC.out]
  rintro e w32 ⟨pf21, nf21, cf21, rfl, hf21, hb32⟩
  replace hx := hx.below hb32 (Nat.le_refl _)
  replace hy := hy.below hb32 (Nat.le_refl _)
  replace hz := hz.below hb32 (Nat.le_refl _)
  replace hg := hg.below hb32 (Nat.le_refl _)
  replace hb := hb.trans (hb32.mono hb.size)
  clear hb32
  have HLf21 : Hid (ll (A * C) ≤ 2097152) := ll_mulk (i := 1048576) (j := 1048576) HLA.out HLC.out (by omega)
  go_wp2_with fail
  refine (mul_any hy hz (by omega) (by omega)).mono ?_
  rw [HB.out, HC.out]
  rintro e w33 ⟨pf22, nf22, cf22, rfl, hf22, hb33⟩
  replace hx := hx.below hb33 (Nat.le_refl _)
  replace hy := hy.below hb33 (Nat.le_refl _)
  replace hz := hz.below hb33 (Nat.le_refl _)
  replace hg := hg.below hb33 (Nat.le_refl _)
  replace hf21 := hf21.below hb33 (Nat.le_refl _)
  replace hb := hb.trans (hb33.mono hb.size)
  clear hb33
  have HLf22 : Hid (ll (B * C) ≤ 2097152) := ll_mulk (i := 1048576) (j := 1048576) HLB.out HLC.out (by omega)
  go_wp2_with fail
  refine (gcd_any hf21.sl hf22.sl (Nat.le_trans (len_lim hf21.sl HLf21.out) (by omega)) (Nat.le_trans (len_lim hf22.sl HLf22.out) (by omega))).mono ?_
  rw [val_lim, val_lim, Nat.gcd_mul_right]
  rintro e w34 ⟨pu, nu, cu, rfl, hu, hb34⟩
  clear hf21 hf22
  replace hx := hx.below hb34 (Nat.le_refl _)
  replace hy := hy.below hb34 (Nat.le_refl _)
  replace hz := hz.below hb34 (Nat.le_refl _)
  replace hg := hg.below hb34 (Nat.le_refl _)
  replace hb := hb.trans (hb34.mono hb.size)
  clear hb34
  go_wp2_with fail
  refine (mul_any hg.sl hz (Nat.le_trans (len_lim hg.sl HLg.out) (by omega)) (by omega)).mono ?_
  rw [val_lim, HC.out]
  rintro e w35 ⟨pf24, nf24, cf24, rfl, hf24, hb35⟩
  clear hz hg
  replace hx := hx.below hb35 (Nat.le_refl _)
  replace hy := hy.below hb35 (Nat.le_refl _)
  replace hu := hu.below hb35 (Nat.le_refl _)
  replace hb := hb.trans (hb35.mono hb.size)
  clear hb35
  have HLf24 : Hid (ll ((Nat.gcd A B) * C) ≤ 2097152) := ll_mulk (i := 1048576) (j := 1048576) HLg.out HLC.out (by omega)
  go_wp2_with fail
  refine (equal_yes hu.sl hf24.sl (Eq.trans (val_lim _) (Eq.trans (rfl) (Eq.symm (val_lim _))))).mono ?_
  rintro e w36 ⟨rfl, hb36⟩
  clear hu hf24
  replace hx := hx.below hb36 (Nat.le_refl _)
  replace hy := hy.below hb36 (Nat.le_refl _)
  replace hb := hb.trans (hb36.mono hb.size)
  clear hb36
  go_wp2_with fail
  refine (div_any hx hy (by omega) (by omega) (by rw [HB.out]; exact HB0.out)).mono ?_
  rw [HA.out, HB.out]
  rintro e w37 ⟨pa, na, ca, pb, nb, cb, rfl, hqq, hrr, hb37⟩
  replace hx := hx.below hb37 (Nat.le_refl _)
  replace hy := hy.below hb37 (Nat.le_refl _)
  replace hb := hb.trans (hb37.mono hb.size)
  clear hb37
  have HLq : Hid (ll (A / B) ≤ 1048576) := ll_lek (Nat.div_le_self _ _) HLA.out
  have HLr : Hid (ll (A % B) ≤ 1048576) := ll_lek (Nat.mod_le _ _) HLA.out
  go_wp2_with fail
  refine (mul_any hqq.sl hy (Nat.le_trans (len_lim hqq.sl HLq.out) (by omega)) (by omega)).mono ?_
  rw [val_lim, HB.out]
  rintro e w38 ⟨pf27, nf27, cf27, rfl, hf27, hb38⟩
  clear hqq
  replace hx := hx.below hb38 (Nat.le_refl _)
  replace hy := hy.below hb38 (Nat.le_refl _)
  replace hrr := hrr.below hb38 (Nat.le_refl _)
  replace hb := hb.trans (hb38.mono hb.size)
  clear hb38
  have HLf27 : Hid (ll ((A / B) * B) ≤ 2097152) := ll_mulk (i := 1048576) (j := 1048576) HLq.out HLB.out (by omega)
  go_wp2_with fail
  refine (add_any hf27.sl hrr.sl (Nat.le_trans (len_lim hf27.sl HLf27.out) (by omega)) (Nat.le_trans (len_lim hrr.sl HLr.out) (by omega))).mono ?_
  rw [val_lim, val_lim]
  rintro e w39 ⟨pf28, nf28, cf28, rfl, hf28, hb39⟩
  clear hf27
  replace hx := hx.below hb39 (Nat.le_refl _)
  replace hy := hy.below hb39 (Nat.le_refl _)
  replace hrr := hrr.below hb39 (Nat.le_refl _)
  replace hb := hb.trans (hb39.mono hb.size)
  clear hb39
  have HLf28 : Hid (ll (((A / B) * B) + (A % B)) ≤ 2097153) := ll_addk (i := 2097152) HLf27.out (Nat.le_trans HLr.out (by omega)) (by omega)
  go_wp2_with fail
  refine (equal_yes hf28.sl hx (Eq.trans (val_lim _) (Eq.trans (by rw [Nat.mul_comm]; exact Nat.div_add_mod _ _) (Eq.symm HA.out)))).mono ?_
  rintro e w40 ⟨rfl, hb40⟩
  clear hf28
  replace hx := hx.below hb40 (Nat.le_refl _)
  replace hy := hy.below hb40 (Nat.le_refl _)
  replace hrr := hrr.below hb40 (Nat.le_refl _)
  replace hb := hb.trans (hb40.mono hb.size)
  clear hb40
  have HZ : Hid (cmpN (A % B) B = -1) := cmpN_lt (Nat.mod_lt _ (Nat.pos_of_ne_zero HB0.out))
  go_wp2_with fail
  refine (cmp_any hrr.sl hy).mono ?_
  rw [val_lim, HB.out, HZ.out]
  rintro e w41 ⟨rfl, hb41⟩
  clear hy hrr
  replace hx := hx.below hb41 (Nat.le_refl _)
  replace hb := hb.trans (hb41.mono hb.size)
  clear hb41
  go_wp2_with fail
  refine (sqrt_any hx (by omega)).mono ?_
  rw [HA.out]
  rintro e w42 ⟨ps, ns, cs, rfl, hs, hb42⟩
  replace hx := hx.below hb42 (Nat.le_refl _)
  replace hb := hb.trans (hb42.mono hb.size)
  clear hb42
  have HLs : Hid (ll (rt A) ≤ 1048576) := ll_lek (sq_self (rt_spec A).1) HLA.out
  go_wp2_with fail
  refine (of_any (N := 1) rfl (by omega)).mono ?_
  rintro e w43 ⟨po, no, co, rfl, ho, hb43⟩
  replace hx := hx.below hb43 (Nat.le_refl _)
  replace hs := hs.below hb43 (Nat.le_refl _)
  replace hb := hb.trans (hb43.mono hb.size)
  clear hb43
  have HLo : Hid (ll 1 ≤ 1048576) := Nat.le_trans (ll_le (n := 1) (k := 1) (by omega)) (by omega)
  go_wp2_with fail
  refine (add_any hs.sl ho.sl (Nat.le_trans (len_lim hs.sl HLs.out) (by omega)) (Nat.le_trans (len_lim ho.sl HLo.out) (by omega))).mono ?_
  rw [val_lim, val_lim]
  rintro e w44 ⟨pf31, nf31, cf31, rfl, hf31, hb44⟩
  clear ho
  replace hx := hx.below hb44 (Nat.le_refl _)
  replace hs := hs.below hb44 (Nat.le_refl _)
  replace hb := hb.trans (hb44.mono hb.size)
  clear hb44
  have HLf31 : Hid (ll ((rt A) + 1) ≤ 1048577) := ll_addk (i := 1048576) HLs.out HLo.out (by omega)
  go_wp2_with fail
  refine (mul_any hs.sl hs.sl (Nat.le_trans (len_lim hs.sl HLs.out) (by omega)) (Nat.le_trans (len_lim hs.sl HLs.out) (by omega))).mono ?_
  rw [val_lim]
  rintro e w45 ⟨pf32, nf32, cf32, rfl, hf32, hb45⟩
  clear hs
  replace hx := hx.below hb45 (Nat.le_refl _)
  replace hf31 := hf31.below hb45 (Nat.le_refl _)
  replace hb := hb.trans (hb45.mono hb.size)
  clear hb45
  have HLf32 : Hid (ll ((rt A) * (rt A)) ≤ 2097152) := ll_mulk (i := 1048576) (j := 1048576) HLs.out HLs.out (by omega)
  obtain ⟨z1, hz1, hz2⟩ : ∃ z, cmpN (rt A * rt A) A = z ∧ z ≤ 0 := ⟨_, rfl, cmpN_not_above (rt_spec A).1⟩
  have HZ1 := Lib.hid hz1
  have hz3 : decide (z1 ≤ 0) = true := by simp; omega
  have hz4 : decide (0 < z1) = false := by simp; omega
  clear hz1
  go_wp2_with fail
  refine (cmp_any hf32.sl hx).mono ?_
  rw [val_lim, HA.out, HZ1.out]
  rintro e w46 ⟨rfl, hb46⟩
  clear hf32
  replace hx := hx.below hb46 (Nat.le_refl _)
  replace hf31 := hf31.below hb46 (Nat.le_refl _)
  replace hb := hb.trans (hb46.mono hb.size)
  clear hb46
  go_wp2_with fail
  refine (mul_any hf31.sl hf31.sl (Nat.le_trans (len_lim hf31.sl HLf31.out) (by omega)) (Nat.le_trans (len_lim hf31.sl HLf31.out) (by omega))).mono ?_
  rw [val_lim]
  rintro e w47 ⟨pf33, nf33, cf33, rfl, hf33, hb47⟩
  clear hf31
  replace hx := hx.below hb47 (Nat.le_refl _)
  replace hb := hb.trans (hb47.mono hb.size)
  clear hb47
  have HLf33 : Hid (ll (((rt A) + 1) * ((rt A) + 1)) ≤ 2097154) := ll_mulk (i := 1048577) (j := 1048577) HLf31.out HLf31.out (by omega)
  obtain ⟨z5, hz5, hz6⟩ : ∃ z, cmpN ((rt A + 1) * (rt A + 1)) A = z ∧ 0 < z := ⟨_, rfl, cmpN_above (rt_spec A).2⟩
  have HZ5 := Lib.hid hz5
  have hz7 : decide (0 < z5) = true := by simp; omega
  clear hz5
  go_wp2_with fail
  refine (cmp_any hf33.sl hx).mono ?_
  rw [val_lim, HA.out, HZ5.out]
  rintro e w48 ⟨rfl, hb48⟩
  clear hx hf33
  replace hb := hb.trans (hb48.mono hb.size)
  clear hb48
  go_wp2_with fail
  refine (lives_any).mono ?_
  rintro e w49 ⟨rfl, hb49⟩
  replace hb := hb.trans (hb49.mono hb.size)
  clear hb49
  go_wp2_with fail
  go_ret
  exact ⟨rfl, hb⟩

/-- The law, of any three numbers of at most so many limbs. -/
theorem ring_any {p q r : Option Addr} {n m k c d ez : Nat} {xs ys zs : List Nat} {w : World} (hx : Sl w p n c xs) (hy : Sl w q m d ys) (hz : Sl w r k ez zs) (hn : n ≤ 1048576) (hm : m ≤ 1048576) (hk : k ≤ 1048576) :
    Calls Try.prog 7 #[.slice p n c, .slice q m d, .slice r k ez] w (RetB w true) := by
  by_cases h2 : val ys = 0
  · by_cases h1 : val xs = 0
    · exact ring_zz hx hy hz hn hm hk h1 h2
    · exact ring_z hx hy hz hn hm hk h1 h2
  · exact ring_n hx hy hz hn hm hk h2

end Go.Proofs.Ytgemncfpehmdeaa
