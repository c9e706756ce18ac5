/-
  The walk of similelaw01.NatSums.
-/
import Derived.Test.YtgemncfpehmdeaaLives
import Derived.Test.YtgemncfpehmdeaaNatE
import Derived.Test.YtgemncfpehmdeaaRefF
namespace Go.Proofs.Ytgemncfpehmdeaa
open Go.RowKit

theorem hid_le {a b c : Nat} (h : Hid (a ≤ b)) (h2 : b ≤ c) : Hid (a ≤ c) := Nat.le_trans h h2

theorem norm_len {w w' : World} {B : Nat} {p q : Option Addr} {n c m d : Nat} {xs : List Nat} (hx : Sl w p n c xs) (h : Fr B w' q m d (lim (val xs))) : m ≤ n := by
  rw [h.sl.lln, ← tl_ll hx.lims, hx.len]; exact tl_le _ _

/-- What the loop keeps that writes over the sum. -/
def SumsAt (w : World) (B1 B2 B3 : Nat) (ps pa pw : Option Addr) (ns cs na ca nw cw : Nat) (S : List Nat) (gw gv n m : Nat) (xs ys : List Nat) (wr : World) : Prop :=
  ∃ zs, Fr B1 wr ps ns cs zs ∧ Fr B2 wr pa na ca S ∧ Fr B3 wr pw nw cw S ∧ Fr w.heap.size wr (some ⟨gw, 0, none⟩) (n + 2) (n + 2) (2779096485 :: xs ++ [2779096485]) ∧ Fr w.heap.size wr (some ⟨gv, 0, none⟩) (m + 2) (m + 2) (2779096485 :: ys ++ [2779096485]) ∧ Below w.heap.size w wr

set_option maxHeartbeats 8000000 in
theorem sums_lt {p q : Option Addr} {n m c d : Nat} {xs ys : List Nat} {w : World} (hx : Sl w p n c xs) (hy : Sl w q m d ys) (hn : n ≤ 1048576) (hm : m ≤ 1048576) (hcase : val xs < val ys) :
    Calls Try.prog 6 #[.slice p n c, .slice q m d] w (RetB w true) := by
  have HC := Lib.hid hcase
  clear hcase
  have hx0 := hx
  have hy0 := hy
  have hb : Below w.heap.size w w := Below.refl _ _
  go_enter Try.func6, Try.ntmps6
  go_wp2_with fail
  refine (lend_any hx (by omega)).mono ?_
  rintro e w1 ⟨gw, rfl, hfw, hlp, hb1⟩
  replace hx := hx.below hb1 (Nat.le_refl _)
  replace hy := hy.below hb1 (Nat.le_refl _)
  replace hb := hb.trans (hb1.mono hb.size)
  clear hb1
  go_wp2_with fail
  refine (lend_any hy (by omega)).mono ?_
  rintro e w2 ⟨gv, rfl, hfv, hlq, hb2⟩
  replace hx := hx.below hb2 (Nat.le_refl _)
  replace hy := hy.below hb2 (Nat.le_refl _)
  replace hlp := hlp.below hb2 (Nat.le_refl _)
  replace hfw := hfw.below hb2 (Nat.le_refl _)
  replace hfv := hfv.mono hb.size
  replace hb := hb.trans (hb2.mono hb.size)
  clear hb2
  have hfw0 := hfw.block.2
  have hfv0 := hfv.block.2
  go_wp2_with fail
  refine (add_any hlp hlq (by omega) (by omega)).mono ?_
  rintro e w3 ⟨ps, ns, cs, rfl, hs, hb3⟩
  replace hx := hx.below hb3 (Nat.le_refl _)
  replace hy := hy.below hb3 (Nat.le_refl _)
  replace hlp := hlp.below hb3 (Nat.le_refl _)
  replace hfw := hfw.below hb3 (Nat.le_refl _)
  replace hlq := hlq.below hb3 (Nat.le_refl _)
  replace hfv := hfv.below hb3 (Nat.le_refl _)
  have HS3 : Hid (w2.heap.size ≤ w3.heap.size) := hb3.size
  have HW2 : Hid (w.heap.size ≤ w2.heap.size) := hb.size
  have hgw : gw < w2.heap.size := by
    have := hfw0
    omega
  have hgv : gv < w2.heap.size := by
    have := hfv0
    omega
  replace hb := hb.trans (hb3.mono hb.size)
  clear hb3
  clear hfw0 hfv0
  have HW3 : Hid (w3.heap.size ≤ w3.heap.size) := Nat.le_refl _
  have hsb : ∀ g, ps = some ⟨g, 0, none⟩ → w2.heap.size ≤ g ∧ g < w3.heap.size := fun g hg => by subst hg; exact hs.block
  have HSB := Lib.hid hsb
  clear hsb
  go_wp2_with fail
  refine (add_any hlp hlq (by omega) (by omega)).mono ?_
  rintro e w4 ⟨pa, na, ca, rfl, ha, hb4⟩
  replace hx := hx.below hb4 (Nat.le_refl _)
  replace hy := hy.below hb4 (Nat.le_refl _)
  replace hlp := hlp.below hb4 (Nat.le_refl _)
  replace hfw := hfw.below hb4 (Nat.le_refl _)
  replace hlq := hlq.below hb4 (Nat.le_refl _)
  replace hfv := hfv.below hb4 (Nat.le_refl _)
  replace hs := hs.below hb4 (Nat.le_refl _)
  replace HW3 := hid_le HW3 hb4.size
  replace hb := hb.trans (hb4.mono hb.size)
  clear hb4
  go_wp2_with fail
  refine (sub_no hlp hlq HC.out).mono ?_
  rintro e w5 ⟨pd, nd', cd, rfl, hd, hb5⟩
  replace hx := hx.below hb5 (Nat.le_refl _)
  replace hy := hy.below hb5 (Nat.le_refl _)
  replace hlp := hlp.below hb5 (Nat.le_refl _)
  replace hfw := hfw.below hb5 (Nat.le_refl _)
  replace hlq := hlq.below hb5 (Nat.le_refl _)
  replace hfv := hfv.below hb5 (Nat.le_refl _)
  replace hs := hs.below hb5 (Nat.le_refl _)
  replace ha := ha.below hb5 (Nat.le_refl _)
  obtain rfl : nd' = 0 := hd.len.symm
  clear hd
  replace HW3 := hid_le HW3 hb5.size
  replace hb := hb.trans (hb5.mono hb.size)
  clear hb5
  go_wp2_with fail
  refine (mul_any hlp hlq (by omega) (by omega)).mono ?_
  rintro e w6 ⟨pm, nm, cm, rfl, hm2, hb6⟩
  replace hx := hx.below hb6 (Nat.le_refl _)
  replace hy := hy.below hb6 (Nat.le_refl _)
  replace hlp := hlp.below hb6 (Nat.le_refl _)
  replace hfw := hfw.below hb6 (Nat.le_refl _)
  replace hlq := hlq.below hb6 (Nat.le_refl _)
  replace hfv := hfv.below hb6 (Nat.le_refl _)
  replace hs := hs.below hb6 (Nat.le_refl _)
  replace ha := ha.below hb6 (Nat.le_refl _)
  replace HW3 := hid_le HW3 hb6.size
  replace hb := hb.trans (hb6.mono hb.size)
  clear hb6
  go_wp2_with fail
  refine (rcmp_any hx hy).mono ?_
  have HZ := Lib.hid (cmpN_lt HC.out)
  rw [HZ.out]
  rintro e w7 ⟨rfl, rfl⟩
  go_wp2_with fail
  refine (cmp_any hlp hlq).mono ?_
  rw [HZ.out]
  rintro e w8 ⟨rfl, hb8⟩
  replace hx := hx.below hb8 (Nat.le_refl _)
  replace hy := hy.below hb8 (Nat.le_refl _)
  replace hlp := hlp.below hb8 (Nat.le_refl _)
  replace hfw := hfw.below hb8 (Nat.le_refl _)
  replace hlq := hlq.below hb8 (Nat.le_refl _)
  replace hfv := hfv.below hb8 (Nat.le_refl _)
  replace hs := hs.below hb8 (Nat.le_refl _)
  replace ha := ha.below hb8 (Nat.le_refl _)
  replace hm2 := hm2.below hb8 (Nat.le_refl _)
  replace HW3 := hid_le HW3 hb8.size
  replace hb := hb.trans (hb8.mono hb.size)
  clear hb8
  go_wp2_with fail
  refine (radd_any hx hy (by omega) (by omega)).mono ?_
  rintro e w9 ⟨p9, n9, c9, rfl, hf9, hb9⟩
  replace hx := hx.below hb9 (Nat.le_refl _)
  replace hy := hy.below hb9 (Nat.le_refl _)
  replace hlp := hlp.below hb9 (Nat.le_refl _)
  replace hfw := hfw.below hb9 (Nat.le_refl _)
  replace hlq := hlq.below hb9 (Nat.le_refl _)
  replace hfv := hfv.below hb9 (Nat.le_refl _)
  replace hs := hs.below hb9 (Nat.le_refl _)
  replace ha := ha.below hb9 (Nat.le_refl _)
  replace hm2 := hm2.below hb9 (Nat.le_refl _)
  replace HW3 := hid_le HW3 hb9.size
  replace hb := hb.trans (hb9.mono hb.size)
  clear hb9
  go_wp2_with fail
  refine (same_yes hs.sl hf9.sl).mono ?_
  rintro e w10 ⟨rfl, hb10⟩
  replace hx := hx.below hb10 (Nat.le_refl _)
  replace hy := hy.below hb10 (Nat.le_refl _)
  replace hlp := hlp.below hb10 (Nat.le_refl _)
  replace hfw := hfw.below hb10 (Nat.le_refl _)
  replace hlq := hlq.below hb10 (Nat.le_refl _)
  replace hfv := hfv.below hb10 (Nat.le_refl _)
  replace hs := hs.below hb10 (Nat.le_refl _)
  replace ha := ha.below hb10 (Nat.le_refl _)
  replace hm2 := hm2.below hb10 (Nat.le_refl _)
  replace hf9 := hf9.below hb10 (Nat.le_refl _)
  clear hf9
  replace HW3 := hid_le HW3 hb10.size
  replace hb := hb.trans (hb10.mono hb.size)
  clear hb10
  go_wp2_with fail
  refine (rmul_any hx hy (by omega) (by omega)).mono ?_
  rintro e w11 ⟨p11, n11, c11, rfl, hf11, hb11⟩
  replace hx := hx.below hb11 (Nat.le_refl _)
  replace hy := hy.below hb11 (Nat.le_refl _)
  replace hlp := hlp.below hb11 (Nat.le_refl _)
  replace hfw := hfw.below hb11 (Nat.le_refl _)
  replace hlq := hlq.below hb11 (Nat.le_refl _)
  replace hfv := hfv.below hb11 (Nat.le_refl _)
  replace hs := hs.below hb11 (Nat.le_refl _)
  replace ha := ha.below hb11 (Nat.le_refl _)
  replace hm2 := hm2.below hb11 (Nat.le_refl _)
  replace HW3 := hid_le HW3 hb11.size
  replace hb := hb.trans (hb11.mono hb.size)
  clear hb11
  go_wp2_with fail
  refine (same_yes hm2.sl hf11.sl).mono ?_
  rintro e w12 ⟨rfl, hb12⟩
  replace hx := hx.below hb12 (Nat.le_refl _)
  replace hy := hy.below hb12 (Nat.le_refl _)
  replace hlp := hlp.below hb12 (Nat.le_refl _)
  replace hfw := hfw.below hb12 (Nat.le_refl _)
  replace hlq := hlq.below hb12 (Nat.le_refl _)
  replace hfv := hfv.below hb12 (Nat.le_refl _)
  replace hs := hs.below hb12 (Nat.le_refl _)
  replace ha := ha.below hb12 (Nat.le_refl _)
  replace hm2 := hm2.below hb12 (Nat.le_refl _)
  replace hf11 := hf11.below hb12 (Nat.le_refl _)
  clear hf11 hm2
  replace HW3 := hid_le HW3 hb12.size
  replace hb := hb.trans (hb12.mono hb.size)
  clear hb12
  go_wp2_with fail
  refine (radd_any hx hy (by omega) (by omega)).mono ?_
  rintro e w17 ⟨pw, nw, cw, rfl, hwant, hb17⟩
  replace hx := hx.below hb17 (Nat.le_refl _)
  replace hy := hy.below hb17 (Nat.le_refl _)
  replace hlp := hlp.below hb17 (Nat.le_refl _)
  replace hfw := hfw.below hb17 (Nat.le_refl _)
  replace hlq := hlq.below hb17 (Nat.le_refl _)
  replace hfv := hfv.below hb17 (Nat.le_refl _)
  replace hs := hs.below hb17 (Nat.le_refl _)
  replace ha := ha.below hb17 (Nat.le_refl _)
  replace hb := hb.trans (hb17.mono hb.size)
  clear hb17
  obtain ⟨B3, hwant, HW3⟩ : ∃ B, Fr B w17 pw nw cw (lim (val xs + val ys)) ∧ Hid (w3.heap.size ≤ B) := ⟨_, hwant, HW3⟩
  have hgs : ∀ g, ps = some ⟨g, 0, none⟩ → g ≠ gw ∧ g ≠ gv := fun g hg => by have := HSB.out g hg; omega
  have hga : ∀ g h, ps = some ⟨g, 0, none⟩ → pa = some ⟨h, 0, none⟩ → h ≠ g := fun g h hg hh => by have h1 := HSB.out g hg; subst hh; have h2 := ha.block; omega
  have hgt : ∀ g h, ps = some ⟨g, 0, none⟩ → pw = some ⟨h, 0, none⟩ → h ≠ g := fun g h hg hh => by have h1 := HSB.out g hg; subst hh; have h2 := hwant.block; have h3 := HW3.out; omega
  have hgb : ∀ g, ps = some ⟨g, 0, none⟩ → w.heap.size ≤ g := fun g hg => by have h1 := HSB.out g hg; have h3 := HW2.out; omega
  have H1 : SumsAt w w2.heap.size w3.heap.size B3 ps pa pw ns cs na ca nw cw (lim (val xs + val ys)) gw gv n m xs ys w17 := ⟨_, hs, ha, hwant, hfw, hfv, hb⟩
  have HG1 := Lib.hid hgs
  have HG2 := Lib.hid hga
  have HG3 := Lib.hid hgt
  have HG4 := Lib.hid hgb
  have hcs := hs.sl.cap
  have hns := hs.sl.le
  unfold maxLen at hcs
  clear hgs hga hgt hgb hs ha hwant hfw hfv hb hx hy hlp hlq
  go_wp2_with fail

  go_loopw [100] (fun v wr => ∃ i : Nat, i ≤ ns ∧ v = .int .i64 (i : Int) ∧ SumsAt w w2.heap.size w3.heap.size B3 ps pa pw ns cs na ca nw cw (lim (val xs + val ys)) gw gv n m xs ys wr) (fun v _ => ns - (intOf v).toNat)
  case atStart => exact ⟨0, by omega, rfl, H1⟩
  case round =>
    clear H1
    obtain ⟨k, hk, rfl, zs, hs, ha, hwant, hfw, hfv, hb⟩ := hrel
    by_cases hkn : k < ns
    · obtain ⟨g, rfl, hg1, hg2⟩ := hs.pos (by omega)
      have hzc := hs.cellAt hkn
      have hzf := hs.frozenAt k
      go_wp2_with fail
      refine ⟨⟨k + 1, by omega, by go_num, _, hs.set k (v := 9) (by omega), ha.setOther (a := ⟨g, k, none⟩) (fun h hh => HG2.out g h rfl hh) _, hwant.setOther (a := ⟨g, k, none⟩) (fun h hh => HG3.out g h rfl hh) _, hfw.setOther (a := ⟨g, k, none⟩) (fun h hh => by simp at hh; have := (HG1.out g rfl).1; show h ≠ g; omega) _, hfv.setOther (a := ⟨g, k, none⟩) (fun h hh => by simp at hh; have := (HG1.out g rfl).2; show h ≠ g; omega) _, hb.setCell (p := ⟨g, k, none⟩) (HG4.out g rfl) _⟩, by simp [intOf]; omega⟩
    · obtain rfl : k = ns := by omega
      have hx := hx0.below hb (Nat.le_refl _)
      have hy := hy0.below hb (Nat.le_refl _)
      go_wp2_with fail
      refine (same_yes ha.sl hwant.sl).mono ?_
      rintro e w18 ⟨rfl, hb18⟩
      replace hx := hx.below hb18 (Nat.le_refl _)
      replace hy := hy.below hb18 (Nat.le_refl _)
      replace hfw := hfw.below hb18 (Nat.le_refl _)
      replace hfv := hfv.below hb18 (Nat.le_refl _)
      replace hb := hb.trans (hb18.mono hb.size)
      clear hb18 ha hwant hs
      go_wp2_with fail
      refine (kept_any hfw.sl hx (by omega)).mono ?_
      rintro e w19 ⟨rfl, hb19⟩
      replace hy := hy.below hb19 (Nat.le_refl _)
      replace hfv := hfv.below hb19 (Nat.le_refl _)
      replace hb := hb.trans (hb19.mono hb.size)
      clear hb19 hfw hx
      go_wp2_with fail
      refine (kept_any hfv.sl hy (by omega)).mono ?_
      rintro e w20 ⟨rfl, hb20⟩
      replace hb := hb.trans (hb20.mono hb.size)
      clear hb20 hfv hy
      go_wp2_with fail
      refine lives_any.mono ?_
      rintro e w21 ⟨rfl, hb21⟩
      go_wp2_with fail
      go_ret
      exact ⟨rfl, hb.trans (hb21.mono hb.size)⟩

set_option maxHeartbeats 8000000 in
theorem sums_ge {p q : Option Addr} {n m c d : Nat} {xs ys : List Nat} {w : World} (hx : Sl w p n c xs) (hy : Sl w q m d ys) (hn : n ≤ 1048576) (hm : m ≤ 1048576) (hcase : val ys ≤ val xs) :
    Calls Try.prog 6 #[.slice p n c, .slice q m d] w (RetB w true) := by
  have HC := Lib.hid hcase
  clear hcase
  have hx0 := hx
  have hy0 := hy
  have hb : Below w.heap.size w w := Below.refl _ _
  go_enter Try.func6, Try.ntmps6
  go_wp2_with fail
  refine (lend_any hx (by omega)).mono ?_
  rintro e w1 ⟨gw, rfl, hfw, hlp, hb1⟩
  replace hx := hx.below hb1 (Nat.le_refl _)
  replace hy := hy.below hb1 (Nat.le_refl _)
  replace hb := hb.trans (hb1.mono hb.size)
  clear hb1
  go_wp2_with fail
  refine (lend_any hy (by omega)).mono ?_
  rintro e w2 ⟨gv, rfl, hfv, hlq, hb2⟩
  replace hx := hx.below hb2 (Nat.le_refl _)
  replace hy := hy.below hb2 (Nat.le_refl _)
  replace hlp := hlp.below hb2 (Nat.le_refl _)
  replace hfw := hfw.below hb2 (Nat.le_refl _)
  replace hfv := hfv.mono hb.size
  replace hb := hb.trans (hb2.mono hb.size)
  clear hb2
  have hfw0 := hfw.block.2
  have hfv0 := hfv.block.2
  go_wp2_with fail
  refine (add_any hlp hlq (by omega) (by omega)).mono ?_
  rintro e w3 ⟨ps, ns, cs, rfl, hs, hb3⟩
  replace hx := hx.below hb3 (Nat.le_refl _)
  replace hy := hy.below hb3 (Nat.le_refl _)
  replace hlp := hlp.below hb3 (Nat.le_refl _)
  replace hfw := hfw.below hb3 (Nat.le_refl _)
  replace hlq := hlq.below hb3 (Nat.le_refl _)
  replace hfv := hfv.below hb3 (Nat.le_refl _)
  have HS3 : Hid (w2.heap.size ≤ w3.heap.size) := hb3.size
  have HW2 : Hid (w.heap.size ≤ w2.heap.size) := hb.size
  have hgw : gw < w2.heap.size := by
    have := hfw0
    omega
  have hgv : gv < w2.heap.size := by
    have := hfv0
    omega
  replace hb := hb.trans (hb3.mono hb.size)
  clear hb3
  clear hfw0 hfv0
  have HW3 : Hid (w3.heap.size ≤ w3.heap.size) := Nat.le_refl _
  have hsb : ∀ g, ps = some ⟨g, 0, none⟩ → w2.heap.size ≤ g ∧ g < w3.heap.size := fun g hg => by subst hg; exact hs.block
  have HSB := Lib.hid hsb
  clear hsb
  go_wp2_with fail
  refine (add_any hlp hlq (by omega) (by omega)).mono ?_
  rintro e w4 ⟨pa, na, ca, rfl, ha, hb4⟩
  replace hx := hx.below hb4 (Nat.le_refl _)
  replace hy := hy.below hb4 (Nat.le_refl _)
  replace hlp := hlp.below hb4 (Nat.le_refl _)
  replace hfw := hfw.below hb4 (Nat.le_refl _)
  replace hlq := hlq.below hb4 (Nat.le_refl _)
  replace hfv := hfv.below hb4 (Nat.le_refl _)
  replace hs := hs.below hb4 (Nat.le_refl _)
  replace HW3 := hid_le HW3 hb4.size
  replace hb := hb.trans (hb4.mono hb.size)
  clear hb4
  go_wp2_with fail
  refine (sub_yes hlp hlq (by omega) (by omega) HC.out).mono ?_
  rintro e w5 ⟨pd, nd', cd, rfl, hd, hb5⟩
  replace hx := hx.below hb5 (Nat.le_refl _)
  replace hy := hy.below hb5 (Nat.le_refl _)
  replace hlp := hlp.below hb5 (Nat.le_refl _)
  replace hfw := hfw.below hb5 (Nat.le_refl _)
  replace hlq := hlq.below hb5 (Nat.le_refl _)
  replace hfv := hfv.below hb5 (Nat.le_refl _)
  replace hs := hs.below hb5 (Nat.le_refl _)
  replace ha := ha.below hb5 (Nat.le_refl _)
  replace HW3 := hid_le HW3 hb5.size
  replace hb := hb.trans (hb5.mono hb.size)
  clear hb5
  go_wp2_with fail
  refine (mul_any hlp hlq (by omega) (by omega)).mono ?_
  rintro e w6 ⟨pm, nm, cm, rfl, hm2, hb6⟩
  replace hx := hx.below hb6 (Nat.le_refl _)
  replace hy := hy.below hb6 (Nat.le_refl _)
  replace hlp := hlp.below hb6 (Nat.le_refl _)
  replace hfw := hfw.below hb6 (Nat.le_refl _)
  replace hlq := hlq.below hb6 (Nat.le_refl _)
  replace hfv := hfv.below hb6 (Nat.le_refl _)
  replace hs := hs.below hb6 (Nat.le_refl _)
  replace ha := ha.below hb6 (Nat.le_refl _)
  replace hd := hd.below hb6 (Nat.le_refl _)
  replace HW3 := hid_le HW3 hb6.size
  replace hb := hb.trans (hb6.mono hb.size)
  clear hb6
  go_wp2_with fail
  refine (rcmp_any hx hy).mono ?_
  have HZ0 := Lib.hid (cmpN_ge0 HC.out)
  obtain ⟨z, hz⟩ : ∃ z, z = cmpN (val xs) (val ys) := ⟨_, rfl⟩
  rw [← hz]
  have HZ := Lib.hid hz.symm
  have hz1 : decide (z < 0) = false := by have := HZ0.out; rw [HZ.out] at this; simp; omega
  have hz2 : decide (0 ≤ z) = true := by have := HZ0.out; rw [HZ.out] at this; simp; omega
  clear hz
  rintro e w7 ⟨rfl, rfl⟩
  go_wp2_with fail
  refine (cmp_any hlp hlq).mono ?_
  rw [HZ.out]
  rintro e w8 ⟨rfl, hb8⟩
  replace hx := hx.below hb8 (Nat.le_refl _)
  replace hy := hy.below hb8 (Nat.le_refl _)
  replace hlp := hlp.below hb8 (Nat.le_refl _)
  replace hfw := hfw.below hb8 (Nat.le_refl _)
  replace hlq := hlq.below hb8 (Nat.le_refl _)
  replace hfv := hfv.below hb8 (Nat.le_refl _)
  replace hs := hs.below hb8 (Nat.le_refl _)
  replace ha := ha.below hb8 (Nat.le_refl _)
  replace hd := hd.below hb8 (Nat.le_refl _)
  replace hm2 := hm2.below hb8 (Nat.le_refl _)
  replace HW3 := hid_le HW3 hb8.size
  replace hb := hb.trans (hb8.mono hb.size)
  clear hb8
  go_wp2_with fail
  refine (radd_any hx hy (by omega) (by omega)).mono ?_
  rintro e w9 ⟨p9, n9, c9, rfl, hf9, hb9⟩
  replace hx := hx.below hb9 (Nat.le_refl _)
  replace hy := hy.below hb9 (Nat.le_refl _)
  replace hlp := hlp.below hb9 (Nat.le_refl _)
  replace hfw := hfw.below hb9 (Nat.le_refl _)
  replace hlq := hlq.below hb9 (Nat.le_refl _)
  replace hfv := hfv.below hb9 (Nat.le_refl _)
  replace hs := hs.below hb9 (Nat.le_refl _)
  replace ha := ha.below hb9 (Nat.le_refl _)
  replace hd := hd.below hb9 (Nat.le_refl _)
  replace hm2 := hm2.below hb9 (Nat.le_refl _)
  replace HW3 := hid_le HW3 hb9.size
  replace hb := hb.trans (hb9.mono hb.size)
  clear hb9
  go_wp2_with fail
  refine (same_yes hs.sl hf9.sl).mono ?_
  rintro e w10 ⟨rfl, hb10⟩
  replace hx := hx.below hb10 (Nat.le_refl _)
  replace hy := hy.below hb10 (Nat.le_refl _)
  replace hlp := hlp.below hb10 (Nat.le_refl _)
  replace hfw := hfw.below hb10 (Nat.le_refl _)
  replace hlq := hlq.below hb10 (Nat.le_refl _)
  replace hfv := hfv.below hb10 (Nat.le_refl _)
  replace hs := hs.below hb10 (Nat.le_refl _)
  replace ha := ha.below hb10 (Nat.le_refl _)
  replace hd := hd.below hb10 (Nat.le_refl _)
  replace hm2 := hm2.below hb10 (Nat.le_refl _)
  replace hf9 := hf9.below hb10 (Nat.le_refl _)
  clear hf9
  replace HW3 := hid_le HW3 hb10.size
  replace hb := hb.trans (hb10.mono hb.size)
  clear hb10
  go_wp2_with fail
  refine (rmul_any hx hy (by omega) (by omega)).mono ?_
  rintro e w11 ⟨p11, n11, c11, rfl, hf11, hb11⟩
  replace hx := hx.below hb11 (Nat.le_refl _)
  replace hy := hy.below hb11 (Nat.le_refl _)
  replace hlp := hlp.below hb11 (Nat.le_refl _)
  replace hfw := hfw.below hb11 (Nat.le_refl _)
  replace hlq := hlq.below hb11 (Nat.le_refl _)
  replace hfv := hfv.below hb11 (Nat.le_refl _)
  replace hs := hs.below hb11 (Nat.le_refl _)
  replace ha := ha.below hb11 (Nat.le_refl _)
  replace hd := hd.below hb11 (Nat.le_refl _)
  replace hm2 := hm2.below hb11 (Nat.le_refl _)
  replace HW3 := hid_le HW3 hb11.size
  replace hb := hb.trans (hb11.mono hb.size)
  clear hb11
  go_wp2_with fail
  refine (same_yes hm2.sl hf11.sl).mono ?_
  rintro e w12 ⟨rfl, hb12⟩
  replace hx := hx.below hb12 (Nat.le_refl _)
  replace hy := hy.below hb12 (Nat.le_refl _)
  replace hlp := hlp.below hb12 (Nat.le_refl _)
  replace hfw := hfw.below hb12 (Nat.le_refl _)
  replace hlq := hlq.below hb12 (Nat.le_refl _)
  replace hfv := hfv.below hb12 (Nat.le_refl _)
  replace hs := hs.below hb12 (Nat.le_refl _)
  replace ha := ha.below hb12 (Nat.le_refl _)
  replace hd := hd.below hb12 (Nat.le_refl _)
  replace hm2 := hm2.below hb12 (Nat.le_refl _)
  replace hf11 := hf11.below hb12 (Nat.le_refl _)
  clear hf11 hm2
  replace HW3 := hid_le HW3 hb12.size
  replace hb := hb.trans (hb12.mono hb.size)
  clear hb12
  go_wp2_with fail
  refine (rnorm_any hx (by omega)).mono ?_
  rintro e w13 ⟨p13, n13, c13, rfl, hf13, hb13⟩
  replace hx := hx.below hb13 (Nat.le_refl _)
  replace hy := hy.below hb13 (Nat.le_refl _)
  replace hlp := hlp.below hb13 (Nat.le_refl _)
  replace hfw := hfw.below hb13 (Nat.le_refl _)
  replace hlq := hlq.below hb13 (Nat.le_refl _)
  replace hfv := hfv.below hb13 (Nat.le_refl _)
  replace hs := hs.below hb13 (Nat.le_refl _)
  replace ha := ha.below hb13 (Nat.le_refl _)
  replace hd := hd.below hb13 (Nat.le_refl _)
  have hl13 := norm_len hx hf13
  replace HW3 := hid_le HW3 hb13.size
  replace hb := hb.trans (hb13.mono hb.size)
  clear hb13
  go_wp2_with fail
  refine (rnorm_any hy (by omega)).mono ?_
  rintro e w14 ⟨p14, n14, c14, rfl, hf14, hb14⟩
  replace hx := hx.below hb14 (Nat.le_refl _)
  replace hy := hy.below hb14 (Nat.le_refl _)
  replace hlp := hlp.below hb14 (Nat.le_refl _)
  replace hfw := hfw.below hb14 (Nat.le_refl _)
  replace hlq := hlq.below hb14 (Nat.le_refl _)
  replace hfv := hfv.below hb14 (Nat.le_refl _)
  replace hs := hs.below hb14 (Nat.le_refl _)
  replace ha := ha.below hb14 (Nat.le_refl _)
  replace hd := hd.below hb14 (Nat.le_refl _)
  replace hf13 := hf13.below hb14 (Nat.le_refl _)
  replace HW3 := hid_le HW3 hb14.size
  replace hb := hb.trans (hb14.mono hb.size)
  clear hb14
  go_wp2_with fail
  refine (rsub_any hf13.sl hf14.sl (by omega) (by rw [val_lim, val_lim]; exact HC.out)).mono ?_
  rintro e w15 ⟨p15, n15, c15, rfl, hf15, hb15⟩
  replace hx := hx.below hb15 (Nat.le_refl _)
  replace hy := hy.below hb15 (Nat.le_refl _)
  replace hlp := hlp.below hb15 (Nat.le_refl _)
  replace hfw := hfw.below hb15 (Nat.le_refl _)
  replace hlq := hlq.below hb15 (Nat.le_refl _)
  replace hfv := hfv.below hb15 (Nat.le_refl _)
  replace hs := hs.below hb15 (Nat.le_refl _)
  replace ha := ha.below hb15 (Nat.le_refl _)
  replace hd := hd.below hb15 (Nat.le_refl _)
  replace hf13 := hf13.below hb15 (Nat.le_refl _)
  replace hf14 := hf14.below hb15 (Nat.le_refl _)
  rw [val_lim, val_lim] at hf15
  clear hf13 hf14
  replace HW3 := hid_le HW3 hb15.size
  replace hb := hb.trans (hb15.mono hb.size)
  clear hb15
  go_wp2_with fail
  refine (same_yes hd.sl hf15.sl).mono ?_
  rintro e w16 ⟨rfl, hb16⟩
  replace hx := hx.below hb16 (Nat.le_refl _)
  replace hy := hy.below hb16 (Nat.le_refl _)
  replace hlp := hlp.below hb16 (Nat.le_refl _)
  replace hfw := hfw.below hb16 (Nat.le_refl _)
  replace hlq := hlq.below hb16 (Nat.le_refl _)
  replace hfv := hfv.below hb16 (Nat.le_refl _)
  replace hs := hs.below hb16 (Nat.le_refl _)
  replace ha := ha.below hb16 (Nat.le_refl _)
  replace hd := hd.below hb16 (Nat.le_refl _)
  replace hf15 := hf15.below hb16 (Nat.le_refl _)
  clear hf15 hd
  replace HW3 := hid_le HW3 hb16.size
  replace hb := hb.trans (hb16.mono hb.size)
  clear hb16
  go_wp2_with fail
  refine (radd_any hx hy (by omega) (by omega)).mono ?_
  rintro e w17 ⟨pw, nw, cw, rfl, hwant, hb17⟩
  replace hx := hx.below hb17 (Nat.le_refl _)
  replace hy := hy.below hb17 (Nat.le_refl _)
  replace hlp := hlp.below hb17 (Nat.le_refl _)
  replace hfw := hfw.below hb17 (Nat.le_refl _)
  replace hlq := hlq.below hb17 (Nat.le_refl _)
  replace hfv := hfv.below hb17 (Nat.le_refl _)
  replace hs := hs.below hb17 (Nat.le_refl _)
  replace ha := ha.below hb17 (Nat.le_refl _)
  replace hb := hb.trans (hb17.mono hb.size)
  clear hb17
  obtain ⟨B3, hwant, HW3⟩ : ∃ B, Fr B w17 pw nw cw (lim (val xs + val ys)) ∧ Hid (w3.heap.size ≤ B) := ⟨_, hwant, HW3⟩
  have hgs : ∀ g, ps = some ⟨g, 0, none⟩ → g ≠ gw ∧ g ≠ gv := fun g hg => by have := HSB.out g hg; omega
  have hga : ∀ g h, ps = some ⟨g, 0, none⟩ → pa = some ⟨h, 0, none⟩ → h ≠ g := fun g h hg hh => by have h1 := HSB.out g hg; subst hh; have h2 := ha.block; omega
  have hgt : ∀ g h, ps = some ⟨g, 0, none⟩ → pw = some ⟨h, 0, none⟩ → h ≠ g := fun g h hg hh => by have h1 := HSB.out g hg; subst hh; have h2 := hwant.block; have h3 := HW3.out; omega
  have hgb : ∀ g, ps = some ⟨g, 0, none⟩ → w.heap.size ≤ g := fun g hg => by have h1 := HSB.out g hg; have h3 := HW2.out; omega
  have H1 : SumsAt w w2.heap.size w3.heap.size B3 ps pa pw ns cs na ca nw cw (lim (val xs + val ys)) gw gv n m xs ys w17 := ⟨_, hs, ha, hwant, hfw, hfv, hb⟩
  have HG1 := Lib.hid hgs
  have HG2 := Lib.hid hga
  have HG3 := Lib.hid hgt
  have HG4 := Lib.hid hgb
  have hcs := hs.sl.cap
  have hns := hs.sl.le
  unfold maxLen at hcs
  clear hgs hga hgt hgb hs ha hwant hfw hfv hb hx hy hlp hlq
  go_wp2_with fail

  go_loopw [100] (fun v wr => ∃ i : Nat, i ≤ ns ∧ v = .int .i64 (i : Int) ∧ SumsAt w w2.heap.size w3.heap.size B3 ps pa pw ns cs na ca nw cw (lim (val xs + val ys)) gw gv n m xs ys wr) (fun v _ => ns - (intOf v).toNat)
  case atStart => exact ⟨0, by omega, rfl, H1⟩
  case round =>
    clear H1
    obtain ⟨k, hk, rfl, zs, hs, ha, hwant, hfw, hfv, hb⟩ := hrel
    by_cases hkn : k < ns
    · obtain ⟨g, rfl, hg1, hg2⟩ := hs.pos (by omega)
      have hzc := hs.cellAt hkn
      have hzf := hs.frozenAt k
      go_wp2_with fail
      refine ⟨⟨k + 1, by omega, by go_num, _, hs.set k (v := 9) (by omega), ha.setOther (a := ⟨g, k, none⟩) (fun h hh => HG2.out g h rfl hh) _, hwant.setOther (a := ⟨g, k, none⟩) (fun h hh => HG3.out g h rfl hh) _, hfw.setOther (a := ⟨g, k, none⟩) (fun h hh => by simp at hh; have := (HG1.out g rfl).1; show h ≠ g; omega) _, hfv.setOther (a := ⟨g, k, none⟩) (fun h hh => by simp at hh; have := (HG1.out g rfl).2; show h ≠ g; omega) _, hb.setCell (p := ⟨g, k, none⟩) (HG4.out g rfl) _⟩, by simp [intOf]; omega⟩
    · obtain rfl : k = ns := by omega
      have hx := hx0.below hb (Nat.le_refl _)
      have hy := hy0.below hb (Nat.le_refl _)
      go_wp2_with fail
      refine (same_yes ha.sl hwant.sl).mono ?_
      rintro e w18 ⟨rfl, hb18⟩
      replace hx := hx.below hb18 (Nat.le_refl _)
      replace hy := hy.below hb18 (Nat.le_refl _)
      replace hfw := hfw.below hb18 (Nat.le_refl _)
      replace hfv := hfv.below hb18 (Nat.le_refl _)
      replace hb := hb.trans (hb18.mono hb.size)
      clear hb18 ha hwant hs
      go_wp2_with fail
      refine (kept_any hfw.sl hx (by omega)).mono ?_
      rintro e w19 ⟨rfl, hb19⟩
      replace hy := hy.below hb19 (Nat.le_refl _)
      replace hfv := hfv.below hb19 (Nat.le_refl _)
      replace hb := hb.trans (hb19.mono hb.size)
      clear hb19 hfw hx
      go_wp2_with fail
      refine (kept_any hfv.sl hy (by omega)).mono ?_
      rintro e w20 ⟨rfl, hb20⟩
      replace hb := hb.trans (hb20.mono hb.size)
      clear hb20 hfv hy
      go_wp2_with fail
      refine lives_any.mono ?_
      rintro e w21 ⟨rfl, hb21⟩
      go_wp2_with fail
      go_ret
      exact ⟨rfl, hb.trans (hb21.mono hb.size)⟩

/-- The law, of any two numbers of at most so many limbs. -/
theorem sums_any {p q : Option Addr} {n m c d : Nat} {xs ys : List Nat} {w : World} (hx : Sl w p n c xs) (hy : Sl w q m d ys) (hn : n ≤ 1048576) (hm : m ≤ 1048576) :
    Calls Try.prog 6 #[.slice p n c, .slice q m d] w (RetB w true) := by
  rcases Nat.lt_or_ge (val xs) (val ys) with h | h
  · exact sums_lt hx hy hn hm h
  · exact sums_ge hx hy hn hm h

end Go.Proofs.Ytgemncfpehmdeaa
