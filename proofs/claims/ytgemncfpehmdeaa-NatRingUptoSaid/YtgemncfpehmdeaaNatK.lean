/-
  The walk of nat.Sqrt.
-/
import Derived.Test.YtgemncfpehmdeaaNatI2
import Derived.Test.YtgemncfpehmdeaaNum7
import Derived.Test.YtgemncfpehmdeaaSums
import Derived.Test.YtgemncfpehmdeaaRefG
import Derived.Deep.LoopGhost
namespace Go.Proofs.Ytgemncfpehmdeaa
open Go.RowKit

/-- What Newton's loop keeps. -/
def RootAt (w : World) (L N k : Nat) (x : Value) (wr : World) : Prop :=
  ∃ p n c X, x = .slice p n c ∧ Fr w.heap.size wr p n c (lim X) ∧ Below w.heap.size w wr ∧ n ≤ L ∧ 0 < X ∧ rt N ≤ X ∧ Hid (X = k)

set_option maxHeartbeats 2000000 in
theorem sqrt_any {p : Option Addr} {n c : Nat} {xs : List Nat} {w : World} (hx : Sl w p n c xs) (hn : n ≤ 1048576000) :
    Calls Try.prog 34 #[.slice p n c] w (RetN w (lim (rt (val xs)))) := by
  have hN := val_lt hx.lims
  rw [hx.len] at hN
  have HN := Lib.hid hN
  clear hN
  have hx0 := hx
  go_enter Try.func34, Try.ntmps34
  go_wp2_with fail
  go_step3
  go_wp2_with fail
  refine (len_any hx (by omega)).mono ?_
  rintro e w1 ⟨rfl, rfl⟩
  by_cases h0 : val xs = 0
  · have hz : ((blen (val xs) : Int) == 0) = true := by rw [h0]; rfl
    go_wp2_with fail
    rw [Exit.noGoto_ret]
    go_ret
    rw [h0]
    exact ⟨_, _, _, rfl, Fr.nil _ _, Below.refl _ _⟩
  · have hz : ((blen (val xs) : Int) == 0) = false := by
      have : blen (val xs) ≠ 0 := by unfold blen; rw [if_neg h0]; omega
      simp; omega
    have hbl := blen_len hx.lims
    rw [hx.len] at hbl
    have hr1 := rt_start (lt_blen (val xs))
    have hr2 := rt_pos h0
    generalize hNx : val xs = N at *
    have HNX := Lib.hid hNx
    clear hNx h0
    generalize hBx : blen N = B at *
    have HBX := Lib.hid hBx
    clear hBx
    have HR1 := Lib.hid hr1
    clear hr1
    go_wp2_with fail
    refine (of_any (N := 1) rfl (by omega)).mono ?_
    rintro e w2 ⟨p2, n2, c2, rfl, hf2, hb2⟩
    have hl2 : n2 ≤ 1 := by rw [hf2.sl.lln]; exact ll_le (by omega)
    replace hx := hx.below hb2 (Nat.le_refl _)
    go_wp2_with fail
    refine (len_any hx (by omega)).mono ?_
    rw [HNX.out, HBX.out]
    rintro e w3 ⟨rfl, rfl⟩
    go_wp2_with fail
    rw [show ((B : Int) + 1) / 2 = (((B + 1) / 2 : Nat) : Int) by omega]
    refine (left_any hf2.sl (by omega) (by omega)).mono ?_
    rw [val_lim]
    rintro e w4 ⟨p4, n4, c4, zs, rfl, hf4, hb4, hv4, _, hn4, _⟩
    have hv5 : val zs = 2 ^ ((B + 1) / 2) := by rw [hv4.out, Nat.one_mul]
    have HV := Lib.hid hv5
    have hn5 : n4 ≤ 1048576002 := by
      have e1 : ll 1 ≤ 1 := ll_le (by omega)
      omega
    clear hv5
    replace hx := hx.below hb4 (Nat.le_refl _)
    replace hb2 := hb2.trans (hb4.mono hb2.size)
    clear hb4 hf2 hl2
    go_wp2_with fail
    refine (own_any hf4.sl (by omega)).mono ?_
    rw [HV.out]
    rintro e w5 ⟨p5, n5, c5, rfl, hf5, hb5⟩
    have hn6 : n5 ≤ 1048576002 := by rw [hf5.sl.lln, ll_two]; omega
    replace hx := hx.below hb5 (Nat.le_refl _)
    have HB4 := Lib.hid hb2.size
    replace hb2 := hb2.trans (hb5.mono hb2.size)
    have HR := HR1.out
    have hp2 := Nat.two_pow_pos ((B + 1) / 2)
    have H0 : RootAt w 1048576002 N (2 ^ ((B + 1) / 2)) (.slice p5 n5 c5) w5 := ⟨p5, n5, c5, _, rfl, hf5.mono HB4.out, hb2, hn6, hp2, HR, rfl⟩
    clear HR hp2 hf5 hf4 hb5 HB4
    generalize 2 ^ ((B + 1) / 2) = K at *
    go_wp2_with fail
    clear hx hb2
    go_step3
    go_wp2_with fail
    go_loopg [3] K (fun k x wr => RootAt w 1048576002 N k x wr)
    case atStart => exact H0
    case round =>
      clear H0
      obtain ⟨p, n, c, X, rfl, hf, hb, hn, hX, hR, HK⟩ := hrel
      have hx := hx0.below hb (Nat.le_refl _)
      go_wp2_with fail
      refine (div_any hx hf.sl (by omega) (by omega) (by rw [val_lim]; omega)).mono ?_
      rw [val_lim, HNX.out]
      rintro e w6 ⟨p6, n6, c6, p7, n7, c7, rfl, hf6, hf7, hb6⟩
      clear hx hf7
      replace hf := hf.below hb6 (Nat.le_refl _)
      replace hb := hb.trans (hb6.mono hb.size)
      have hn6 : n6 ≤ 1048576002 := by
        rw [hf6.sl.lln]
        have h1 := ll_mono (Nat.div_le_self N X)
        have h2 := val_ll hx0.lims
        rw [HNX.out, hx0.len] at h2
        omega
      clear hb6
      go_wp2_with fail
      refine (add_any hf.sl hf6.sl (by omega) (by omega)).mono ?_
      rw [val_lim, val_lim]
      rintro e w8 ⟨p8, n8, c8, rfl, hf8, hb8⟩
      have hn8 : n8 ≤ 1048576003 := by
        rw [hf8.sl.lln]
        exact ll_add (by rw [← hf.sl.lln]; exact hn) (by rw [← hf6.sl.lln]; exact hn6)
      replace hf := hf.below hb8 (Nat.le_refl _)
      replace hb := hb.trans (hb8.mono hb.size)
      clear hf6 hb8
      go_wp2_with fail
      refine (right_any (s := 1) hf8.sl (by omega) (by omega)).mono ?_
      rw [val_lim, Nat.pow_one]
      rintro e w9 ⟨p9, n9, c9, rfl, hf9, hb9⟩
      have HB9 := Lib.hid hb.size
      replace hf := hf.below hb9 (Nat.le_refl _)
      replace hb := hb.trans (hb9.mono hb.size)
      clear hb9 hf8
      have hge := newton_ge (N := N) hX
      have hst := newton_stop (N := N) hX hR
      have HST := Lib.hid hst
      clear hst
      generalize (X + N / X) / 2 = Y at *
      go_wp2_with fail
      refine (cmp_any hf9.sl hf.sl).mono ?_
      rw [val_lim, val_lim]
      rintro e w10 ⟨rfl, hb10⟩
      replace hf9 := hf9.below hb10 (Nat.le_refl _)
      replace hf := hf.below hb10 (Nat.le_refl _)
      replace hb := hb.trans (hb10.mono hb.size)
      clear hb10
      rcases Nat.lt_or_ge Y X with hYX | hYX
      · obtain ⟨cc, hcc, hcc0⟩ : ∃ cc : Int, cmpN Y X = cc ∧ cc < 0 := ⟨_, rfl, cmpN_below hYX⟩
        rw [hcc]
        have hz8 : decide ((0 : Int) ≤ cc) = false := by simp; omega
        clear hcc
        have hn9 : n9 ≤ n := by rw [hf9.sl.lln, hf.sl.lln]; exact ll_mono (Nat.le_of_lt hYX)
        go_wp2_with fail
        go_roundg Y
        case measure => rw [← HK.out]; exact hYX
        case rel => exact ⟨p9, n9, c9, Y, rfl, hf9.mono HB9.out, hb, by omega, Nat.lt_of_lt_of_le hr2 hge, hge, rfl⟩
      · obtain ⟨cc, hcc, hcc0⟩ : ∃ cc : Int, cmpN Y X = cc ∧ 0 ≤ cc := ⟨_, rfl, cmpN_not_below hYX⟩
        rw [hcc]
        have hz8 : decide ((0 : Int) ≤ cc) = true := by simp; omega
        clear hcc
        have hXr : X = rt N := HST.out hYX
        have HXR := Lib.hid hXr
        clear hXr
        go_wp2_with fail
        rw [Exit.noGoto_ret]
        go_ret
        rw [← HXR.out]
        exact ⟨_, _, _, rfl, hf, hb⟩

end Go.Proofs.Ytgemncfpehmdeaa
