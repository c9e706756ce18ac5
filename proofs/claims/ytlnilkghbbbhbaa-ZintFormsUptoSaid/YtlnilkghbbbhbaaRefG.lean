
/-
  The walk of simileref01: Gcd.
-/
import Derived.Test.YtlnilkghbbbhbaaRefF
import Derived.Test.YtlnilkghbbbhbaaMore
import Derived.Test.YtlnilkghbbbhbaaNum7
import Derived.Deep.LoopGhost
namespace Go.Proofs.Ytlnilkghbbbhbaa
open Go.RowKit

/-- A number that a call owns, in normal form. -/
def Own (w : World) (L : Nat) (A : Nat) (v : Value) (wr : World) : Prop := ∃ p n c, v = .slice p n c ∧ Fr w.heap.size wr p n c (lim A) ∧ n ≤ L

theorem gcd_odd_half {A C : Nat} (ha : A % 2 = 0) (h : Nat.gcd A C % 2 = 1) : Nat.gcd (A / 2) C = Nat.gcd A C := by
  obtain ⟨k, rfl⟩ : ∃ k, A = 2 * k := ⟨A / 2, by omega⟩
  have e : 2 * k / 2 = k := by omega
  rw [e]
  apply Nat.dvd_antisymm
  · exact Nat.dvd_gcd (Nat.dvd_trans (Nat.gcd_dvd_left _ _) ⟨2, Nat.mul_comm _ _⟩) (Nat.gcd_dvd_right _ _)
  · refine Nat.dvd_gcd ?_ (Nat.gcd_dvd_right _ _)
    have hc : Nat.Coprime (Nat.gcd (2 * k) C) 2 := by
      have h1 : Nat.gcd (Nat.gcd (2 * k) C) 2 ≤ 2 := Nat.le_of_dvd (by omega) (Nat.gcd_dvd_right _ _)
      have h2 := Nat.gcd_dvd_left (Nat.gcd (2 * k) C) 2
      have h3 : 0 < Nat.gcd (Nat.gcd (2 * k) C) 2 := Nat.gcd_pos_of_pos_right _ (by omega)
      show Nat.gcd _ 2 = 1
      generalize Nat.gcd (Nat.gcd (2 * k) C) 2 = g at *
      rcases (by omega : g = 1 ∨ g = 2) with rfl | rfl
      · rfl
      · omega
    exact hc.dvd_of_dvd_mul_left (Nat.gcd_dvd_left _ _)

/-- What the first loop keeps. -/
def GcdOne (w : World) (L G A k : Nat) (a b t : Value) (wr : World) : Prop :=
  ∃ p n c q m d X Y s, a = .slice p n c ∧ b = .slice q m d ∧ t = .int .i64 ((s : Nat) : Int) ∧ Fr w.heap.size wr p n c (lim X) ∧ Fr w.heap.size wr q m d (lim Y) ∧ Below w.heap.size w wr ∧ n ≤ L ∧ m ≤ L ∧ 0 < n ∧ 0 < m ∧ s ≤ 17592186044416 ∧
    Hid (Nat.gcd X Y * 2 ^ s = G) ∧ Hid (X * 2 ^ s = A) ∧ Hid (X = k)

/-- What the second loop keeps: the gcd is odd. -/
def GcdTwo (w : World) (L G k : Nat) (a b : Value) (wr : World) : Prop :=
  ∃ p n c q m d X Y, a = .slice p n c ∧ b = .slice q m d ∧ Fr w.heap.size wr p n c (lim X) ∧ Fr w.heap.size wr q m d (lim Y) ∧ Below w.heap.size w wr ∧ n ≤ L ∧ m ≤ L ∧ Hid (Nat.gcd X Y = G) ∧ Hid (X + Y = k)

/-- What an inner loop keeps: one number is halved, the other one waits. -/
def GcdIn (w : World) (L G : Nat) (q : Option Addr) (m d Y X0 k : Nat) (a : Value) (wr : World) : Prop :=
  ∃ p n c X, a = .slice p n c ∧ Fr w.heap.size wr p n c (lim X) ∧ Fr w.heap.size wr q m d (lim Y) ∧ Below w.heap.size w wr ∧ n ≤ L ∧ 0 < n ∧ X ≤ X0 ∧ Hid (Nat.gcd X Y = G) ∧ Hid (X = k)

theorem gcd_less {a b : Nat} (h : b ≤ a) : Nat.gcd (a - b) b = Nat.gcd a b := by
  obtain ⟨k, rfl⟩ := Nat.exists_eq_add_of_le h
  rw [Nat.add_sub_cancel_left, Nat.add_comm, Nat.gcd_add_self_left]

theorem low_even {X : Nat} : nd (lim X) 0 % 2 = X % 2 := by
  rw [nd_lim, Nat.pow_zero, Nat.div_one]
  omega

theorem pos_of_len {w : World} {p : Option Addr} {n c X : Nat} (h : Sl w p n c (lim X)) (h0 : 0 < n) : 0 < X := by
  rcases Nat.eq_zero_or_pos X with e | e
  · have := h.lln
    rw [e] at this
    have h2 : ll 0 = 0 := rfl
    omega
  · exact e

theorem len_of_pos {w : World} {p : Option Addr} {n c X : Nat} (h : Sl w p n c (lim X)) (h0 : 0 < X) : 0 < n := by
  rw [h.lln]; exact ll_pos (by omega)

theorem zero_of_len {w : World} {p : Option Addr} {n c X : Nat} (h : Sl w p n c (lim X)) (h0 : n = 0) : X = 0 := by
  rcases Nat.eq_zero_or_pos X with e | e
  · exact e
  · have := len_of_pos h e; omega

theorem twos_bd {X s A n : Nat} (h : X * 2 ^ s = A) (hX : 0 < X) (hA : A < 4294967296 ^ n) : s < 32 * n := by
  have e : (4294967296 : Nat) ^ n = 2 ^ (32 * n) := by rw [Nat.pow_mul]
  rw [e] at hA
  have h1 : 1 * 2 ^ s ≤ X * 2 ^ s := Nat.mul_le_mul_right _ hX
  rw [h, Nat.one_mul] at h1
  exact (Nat.pow_lt_pow_iff_right (by omega)).1 (Nat.lt_of_le_of_lt h1 hA)

theorem gcd_halves {X Y s G : Nat} (hx : X % 2 = 0) (hy : Y % 2 = 0) (h : Nat.gcd X Y * 2 ^ s = G) : Nat.gcd (X / 2) (Y / 2) * 2 ^ (s + 1) = G := by
  have e : Nat.gcd X Y = 2 * Nat.gcd (X / 2) (Y / 2) := by
    rw [← Nat.gcd_mul_left]
    congr 1 <;> omega
  rw [← h, e, Nat.pow_succ, Nat.mul_comm 2, Nat.mul_assoc, Nat.mul_comm 2]

theorem half_up {X s A : Nat} (hx : X % 2 = 0) (h : X * 2 ^ s = A) : X / 2 * 2 ^ (s + 1) = A := by
  rw [← h, Nat.pow_succ, Nat.mul_comm (2 ^ s), ← Nat.mul_assoc]
  congr 1
  omega

theorem gcd_odd {X Y : Nat} (h : X % 2 = 1 ∨ Y % 2 = 1) : Nat.gcd X Y % 2 = 1 := by
  have h1 := Nat.gcd_dvd_left X Y
  have h2 := Nat.gcd_dvd_right X Y
  generalize Nat.gcd X Y = g at *
  rcases Nat.mod_two_eq_zero_or_one g with h0 | h0
  · have h3 : 2 ∣ g := Nat.dvd_of_mod_eq_zero h0
    have h4 := Nat.dvd_trans h3 h1
    have h5 := Nat.dvd_trans h3 h2
    omega
  · exact h0

set_option maxHeartbeats 4000000 in
theorem rgcd_any {p q : Option Addr} {n m c d : Nat} {xs ys : List Nat} {w : World} (hx : Sl w p n c xs) (hy : Sl w q m d ys) (hn : n ≤ 549755813888) (hm : m ≤ 549755813888) :
    Calls Try.prog 102 #[.slice p n c, .slice q m d] w (RetN w (lim (Nat.gcd (val xs) (val ys)))) := by
  go_enter Try.func102, Try.ntmps102
  go_wp2_with fail
  refine (rnorm_any hx (by omega)).mono ?_
  rintro e w1 ⟨p1, n1, c1, rfl, hf1, hb1⟩
  go_wp2_with fail
  refine (rnorm_any (hy.below hb1 (Nat.le_refl _)) (by omega)).mono ?_
  rintro e w2 ⟨q1, m1, d1, rfl, hg2, hb2⟩
  have hl1 := norm_len hx hf1
  have hl2 := norm_len (hy.below hb1 (Nat.le_refl _)) hg2
  replace hf1 := hf1.below hb2 (Nat.le_refl _)
  replace hg2 := hg2.mono hb1.size
  have hb := hb1.trans (hb2.mono hb1.size)
  clear hb1 hb2
  generalize val xs = A at *
  generalize val ys = C at *
  have hA := hf1.sl.lln
  have hC := hg2.sl.lln
  have HA := Lib.hid hA
  have HC := Lib.hid hC
  clear hA hC
  rcases Nat.eq_zero_or_pos n1 with h0 | h0
  · have hz : ((n1 : Int) == 0) = true := by simp; omega
    go_wp2_with fail
    go_ret
    have hA0 := zero_of_len hf1.sl h0
    rw [hA0, Nat.gcd_zero_left]
    exact ⟨_, _, _, rfl, hg2, hb⟩
  · have hz : ((n1 : Int) == 0) = false := by simp; omega
    rcases Nat.eq_zero_or_pos m1 with h1 | h1
    · have hz1 : ((m1 : Int) == 0) = true := by simp; omega
      go_wp2_with fail
      go_ret
      have hC0 := zero_of_len hg2.sl h1
      rw [hC0, Nat.gcd_zero_right]
      exact ⟨_, _, _, rfl, hf1, hb⟩
    · have hz1 : ((m1 : Int) == 0) = false := by simp; omega
      have hn1 : n1 ≤ 549755813888 := by omega
      have hm1 : m1 ≤ 549755813888 := by omega
      have H0 : GcdOne w 549755813888 (Nat.gcd A C) A A (.slice p1 n1 c1) (.slice q1 m1 d1) (.int .i64 0) w2 := ⟨p1, n1, c1, q1, m1, d1, A, C, 0, rfl, rfl, rfl, hf1, hg2, hb, hn1, hm1, h0, h1, by omega, by show _ = _; rw [Nat.pow_zero, Nat.mul_one], by show _ = _; rw [Nat.pow_zero, Nat.mul_one], rfl⟩
      have HLT : Hid (A < 4294967296 ^ n1) := by show _ < _; rw [HA.out]; exact lt_ll A
      go_wp2_with fail
      clear hf1 hg2 hb
      go_loopg [0, 1, 5] A (fun k a b t wr => GcdOne w 549755813888 (Nat.gcd A C) A k a b t wr)
      case atStart => exact H0
      case round =>
        clear H0
        obtain ⟨p, n, c, q, m, d, X, Y, s, rfl, rfl, rfl, hf, hg, hb, hln, hlm, hnp, hmp, hs, HG, HX, HK⟩ := hrel
        obtain ⟨g1, rfl, hg11, hg12⟩ := hf.pos hnp
        obtain ⟨g2, rfl, hg21, hg22⟩ := hg.pos hmp
        have hxc := hf.cellAt hnp
        have hyc := hg.cellAt hmp
        have hx1 := hf.sl.lim1 0
        have hy1 := hg.sl.lim1 0
        have hxe := low_even (X := X)
        have hye := low_even (X := Y)
        generalize nd (lim X) 0 = x0 at *
        generalize nd (lim Y) 0 = y0 at *
        have HXE := Lib.hid hxe
        have HYE := Lib.hid hye
        clear hxe hye
        have hzx : ((x0 : Int) % 2 == 0) = decide (x0 % 2 = 0) := by rw [Bool.eq_iff_iff]; simp; omega
        have hzy : ((y0 : Int) % 2 == 0) = decide (y0 % 2 = 0) := by rw [Bool.eq_iff_iff]; simp; omega
        by_cases hboth : x0 % 2 = 0 ∧ y0 % 2 = 0
        · have hz2 : ((x0 : Int) % 2 == 0) = true := by rw [hzx]; simp [hboth.1]
          have hz3 : ((y0 : Int) % 2 == 0) = true := by rw [hzy]; simp [hboth.2]
          have HXE2 : Hid (X % 2 = 0) := by show _ = _; rw [← HXE.out]; exact hboth.1
          have HYE2 : Hid (Y % 2 = 0) := by show _ = _; rw [← HYE.out]; exact hboth.2
          clear hzx hzy hboth
          go_wp2_with fail
          refine (rhalf_any hf.sl (by omega)).mono ?_
          rw [val_lim]
          rintro e w5 ⟨p5, n5, c5, rfl, hf5, hb5⟩
          go_wp2_with fail
          refine (rhalf_any (hg.sl.below hb5 (Nat.le_refl _)) (by omega)).mono ?_
          rw [val_lim]
          rintro e w6 ⟨p6, m6, c6, rfl, hf6, hb6⟩
          have hX0 := pos_of_len hf.sl hnp
          have hY0 := pos_of_len hg.sl hmp
          have hx2 : 0 < X / 2 := by have := HXE2.out; omega
          have hy2 : 0 < Y / 2 := by have := HYE2.out; omega
          have hup := half_up HXE2.out HX.out
          have hs1 := twos_bd hup hx2 HLT.out
          have HUP := Lib.hid hup
          have hl5 : n5 ≤ n := by rw [hf5.sl.lln, hf.sl.lln]; exact ll_mono (Nat.div_le_self _ _)
          have hl6 : m6 ≤ m := by rw [hf6.sl.lln, hg.sl.lln]; exact ll_mono (Nat.div_le_self _ _)
          have hb56 := hb5.trans (hb6.mono hb5.size)
          have hp5 := len_of_pos hf5.sl hx2
          have hp6 := len_of_pos hf6.sl hy2
          have hlt : X / 2 < gk := by rw [← HK.out]; omega
          clear hup
          go_wp2_with fail
          go_roundg (X / 2)
          case measure => exact hlt
          case rel => exact ⟨p5, n5, c5, p6, m6, c6, X / 2, Y / 2, s + 1, rfl, rfl, by go_num, (hf5.below hb6 (Nat.le_refl _)).mono hb.size, hf6.mono (Nat.le_trans hb.size hb5.size), hb.trans (hb56.mono hb.size), by omega, by omega, hp5, hp6, by omega, gcd_halves HXE2.out HYE2.out HG.out, HUP, rfl⟩
        · have HODD : Hid (Nat.gcd X Y % 2 = 1) := gcd_odd (by have := HXE.out; have := HYE.out; omega)
          have H2 : GcdTwo w 549755813888 (Nat.gcd X Y) (X + Y) (.slice (some ⟨g1, 0, none⟩) n c) (.slice (some ⟨g2, 0, none⟩) m d) wr := ⟨_, n, c, _, m, d, X, Y, rfl, rfl, hf, hg, hb, hln, hlm, rfl, rfl⟩
          have hg0 : Nat.gcd X Y ≤ X := Nat.le_of_dvd (pos_of_len hf.sl hnp) (Nat.gcd_dvd_left _ _)
          clear HX HK hf hg hb
          have hcs : ((x0 : Int) % 2 == 0) = false ∨ ((x0 : Int) % 2 == 0) = true ∧ ((y0 : Int) % 2 == 0) = false := by
            rcases Nat.mod_two_eq_zero_or_one x0 with h | h
            · right
              refine ⟨by simp; omega, ?_⟩
              have : ¬ y0 % 2 = 0 := fun h2 => hboth ⟨h, h2⟩
              simp; omega
            · left; simp; omega
          generalize Nat.gcd X Y = G at *
          generalize X + Y = K at *
          clear hzx hzy hboth HXE HYE
          rcases hcs with hzx2 | ⟨hzx2, hzy2⟩
          all_goals
            go_wp2_with fail
            clear hxc hyc hx1 hy1 hg11 hg12 hg21 hg22
            go_loopg [0, 1] K (fun k a b wr => GcdTwo w 549755813888 G k a b wr)
            case atStart => exact H2
            case round =>
              clear H2
              obtain ⟨p, n, c, q, m, d, X, Y, rfl, rfl, hf, hg, hb, hln, hlm, HG2, HK⟩ := hrel
              rcases Nat.eq_zero_or_pos n with hn0 | hn0
              · have hz5 : decide ((0 : Int) < (n : Int)) = false := by simp; omega
                have hz6 : ((n : Int) == 0) = true := by simp; omega
                go_wp2_with fail
                refine (rleft_any hg.sl (by omega) (by omega)).mono ?_
                have hX0 := zero_of_len hf.sl hn0
                have hG2 := HG2.out
                rw [hX0, Nat.gcd_zero_left] at hG2
                rw [val_lim, hG2, HG.out]
                rintro e w5 ⟨p5, n5, c5, rfl, hf5, hb5⟩
                clear hG2 hX0
                go_wp2_with fail
                go_ret
                exact ⟨_, _, _, rfl, hf5.mono hb.size, hb.trans (hb5.mono hb.size)⟩
              · have hz5 : decide ((0 : Int) < (n : Int)) = true := by simp; omega
                rcases Nat.eq_zero_or_pos m with hm0 | hm0
                · have hz6 : decide ((0 : Int) < (m : Int)) = false := by simp; omega
                  have hz7 : ((n : Int) == 0) = false := by simp; omega
                  go_wp2_with fail
                  refine (rleft_any hf.sl (by omega) (by omega)).mono ?_
                  have hY0 := zero_of_len hg.sl hm0
                  have hG2 := HG2.out
                  rw [hY0, Nat.gcd_zero_right] at hG2
                  rw [val_lim, hG2, HG.out]
                  rintro e w5 ⟨p5, n5, c5, rfl, hf5, hb5⟩
                  clear hG2 hY0
                  go_wp2_with fail
                  go_ret
                  exact ⟨_, _, _, rfl, hf5.mono hb.size, hb.trans (hb5.mono hb.size)⟩
                · have hz6 : decide ((0 : Int) < (m : Int)) = true := by simp; omega
                  have HA0 : GcdIn w 549755813888 G q m d Y X X (.slice p n c) wr := ⟨p, n, c, X, rfl, hf, hg, hb, hln, hn0, Nat.le_refl _, HG2, rfl⟩
                  go_wp2_with fail
                  obtain ⟨wo, rfl⟩ : ∃ wo : World, wo = wr := ⟨_, rfl⟩
                  clear hf hg hb HG2
                  go_loopg [0] X (fun k a wr => GcdIn w 549755813888 G q m d Y X k a wr)
                  case atStart => exact HA0
                  case round =>
                    clear HA0
                    obtain ⟨p, n, c, X1, rfl, hf, hg, hb, hln, hnp, hX1, HG2, HK1⟩ := hrel
                    obtain ⟨g1, rfl, hg11, hg12⟩ := hf.pos hnp
                    have hxc := hf.cellAt hnp
                    have hx1 := hf.sl.lim1 0
                    have HXE := Lib.hid (low_even (X := X1))
                    generalize nd (lim X1) 0 = x0 at *
                    by_cases hev : x0 % 2 = 0
                    · have hz2 : ((x0 : Int) % 2 == 0) = true := by simp; omega
                      go_wp2_with fail
                      refine (rhalf_any hf.sl (by omega)).mono ?_
                      rw [val_lim]
                      rintro e w5 ⟨p5, n5, c5, rfl, hf5, hb5⟩
                      have hx2 : X1 % 2 = 0 := by have := HXE.out; omega
                      have hX0 := pos_of_len hf.sl hnp
                      have hl5 : n5 ≤ n := by rw [hf5.sl.lln, hf.sl.lln]; exact ll_mono (Nat.div_le_self _ _)
                      have hp5 := len_of_pos hf5.sl (by omega)
                      have hlt : X1 / 2 < gk := by rw [← HK1.out]; omega
                      have hle : X1 / 2 ≤ X := by omega
                      have HX2 : Hid (Nat.gcd (X1 / 2) Y = G) := by
                        show _ = _
                        have h1 := gcd_odd_half (A := X1) (C := Y) hx2 (by rw [HG2.out]; exact HODD.out)
                        rw [h1]; exact HG2.out
                      clear hx2
                      go_wp2_with fail
                      go_roundg (X1 / 2)
                      case measure => exact hlt
                      case rel => exact ⟨p5, n5, c5, X1 / 2, rfl, hf5.mono hb.size, hg.below hb5 (Nat.le_refl _), hb.trans (hb5.mono hb.size), by omega, hp5, hle, HX2, rfl⟩
                    · have hz2 : ((x0 : Int) % 2 == 0) = false := by simp; omega
                      have HGs : Hid (Nat.gcd Y X1 = G) := by show _ = _; rw [Nat.gcd_comm]; exact HG2.out
                      have hX1p := pos_of_len hf.sl hnp
                      have HB0 : GcdIn w 549755813888 G (some ⟨g1, 0, none⟩) n c X1 Y Y (.slice q m d) wr := ⟨q, m, d, Y, rfl, hg, hf, hb, hlm, hm0, Nat.le_refl _, HGs, rfl⟩
                      clear HG2 HGs HK1
                      go_wp2_with fail
                      clear hxc hf hg hb
                      obtain ⟨wo, rfl⟩ : ∃ wo : World, wo = wr := ⟨_, rfl⟩
                      go_loopg [1] Y (fun k b wr => GcdIn w 549755813888 G (some ⟨g1, 0, none⟩) n c X1 Y k b wr)
                      case atStart => exact HB0
                      case round =>
                        clear HB0
                        obtain ⟨q, m, d, Y1, rfl, hg, hf, hb, hlm, hmp, hY1, HG2, HK1⟩ := hrel
                        obtain ⟨g2, rfl, hg21, hg22⟩ := hg.pos hmp
                        have hyc := hg.cellAt hmp
                        have hy1 := hg.sl.lim1 0
                        have HYE := Lib.hid (low_even (X := Y1))
                        generalize nd (lim Y1) 0 = y0 at *
                        by_cases hev2 : y0 % 2 = 0
                        · have hz3 : ((y0 : Int) % 2 == 0) = true := by simp; omega
                          go_wp2_with fail
                          refine (rhalf_any hg.sl (by omega)).mono ?_
                          rw [val_lim]
                          rintro e w5 ⟨p5, n5, c5, rfl, hf5, hb5⟩
                          have hx2 : Y1 % 2 = 0 := by have := HYE.out; omega
                          have hX0 := pos_of_len hg.sl hmp
                          have hl5 : n5 ≤ m := by rw [hf5.sl.lln, hg.sl.lln]; exact ll_mono (Nat.div_le_self _ _)
                          have hp5 := len_of_pos hf5.sl (by omega)
                          have hlt : Y1 / 2 < gk := by rw [← HK1.out]; omega
                          have hle : Y1 / 2 ≤ Y := by omega
                          have HX2 : Hid (Nat.gcd (Y1 / 2) X1 = G) := by
                            show _ = _
                            have h1 := gcd_odd_half (A := Y1) (C := X1) hx2 (by rw [HG2.out]; exact HODD.out)
                            rw [h1]; exact HG2.out
                          clear hx2
                          go_wp2_with fail
                          go_roundg (Y1 / 2)
                          case measure => exact hlt
                          case rel => exact ⟨p5, n5, c5, Y1 / 2, rfl, hf5.mono hb.size, hf.below hb5 (Nat.le_refl _), hb.trans (hb5.mono hb.size), by omega, hp5, hle, HX2, rfl⟩
                        · have hz3 : ((y0 : Int) % 2 == 0) = false := by simp; omega
                          have hY1p := pos_of_len hg.sl hmp
                          go_wp2_with fail
                          refine (rcmp_any hf.sl hg.sl).mono ?_
                          rw [val_lim, val_lim]
                          rintro e w6 ⟨rfl, rfl⟩
                          rcases Nat.lt_or_ge X1 Y1 with hxy | hxy
                          · obtain ⟨cc, hcc, hcc0⟩ : ∃ cc : Int, cmpN X1 Y1 = cc ∧ cc < 0 := ⟨_, rfl, cmpN_below hxy⟩
                            rw [hcc]
                            have hz8 : decide ((0 : Int) ≤ cc) = false := by simp; omega
                            clear hcc
                            go_wp2_with fail
                            refine (rsub_any hg.sl hf.sl (by omega) (by rw [val_lim, val_lim]; omega)).mono ?_
                            rw [val_lim, val_lim]
                            rintro e w7 ⟨p7, n7, c7, rfl, hf7, hb7⟩
                            have hl7 : n7 ≤ m := by rw [hf7.sl.lln, hg.sl.lln]; exact ll_mono (Nat.sub_le _ _)
                            have hlt : X1 + (Y1 - X1) < X + Y := by omega
                            have HX2 : Hid (Nat.gcd X1 (Y1 - X1) = G) := by show _ = _; rw [Nat.gcd_comm, gcd_less (by omega)]; exact HG2.out
                            go_wp2_with fail
                            go_roundg (X1 + (Y1 - X1))
                            case measure => exact HK.out ▸ hlt
                            case rel => exact ⟨_, n, c, p7, n7, c7, X1, Y1 - X1, rfl, rfl, hf.below hb7 (Nat.le_refl _), hf7.mono hb.size, hb.trans (hb7.mono hb.size), by omega, by omega, HX2, rfl⟩
                          · obtain ⟨cc, hcc, hcc0⟩ : ∃ cc : Int, cmpN X1 Y1 = cc ∧ 0 ≤ cc := ⟨_, rfl, cmpN_not_below hxy⟩
                            rw [hcc]
                            have hz8 : decide ((0 : Int) ≤ cc) = true := by simp; omega
                            clear hcc
                            go_wp2_with fail
                            refine (rsub_any hf.sl hg.sl (by omega) (by rw [val_lim, val_lim]; omega)).mono ?_
                            rw [val_lim, val_lim]
                            rintro e w7 ⟨p7, n7, c7, rfl, hf7, hb7⟩
                            have hl7 : n7 ≤ n := by rw [hf7.sl.lln, hf.sl.lln]; exact ll_mono (Nat.sub_le _ _)
                            have hlt : X1 - Y1 + Y1 < X + Y := by omega
                            have HX2 : Hid (Nat.gcd (X1 - Y1) Y1 = G) := by show _ = _; rw [gcd_less (by omega), Nat.gcd_comm]; exact HG2.out
                            go_wp2_with fail
                            go_roundg (X1 - Y1 + Y1)
                            case measure => exact HK.out ▸ hlt
                            case rel => exact ⟨p7, n7, c7, _, m, d, X1 - Y1, Y1, rfl, rfl, hf7.mono hb.size, hg.below hb7 (Nat.le_refl _), hb.trans (hb7.mono hb.size), by omega, by omega, HX2, rfl⟩

end Go.Proofs.Ytlnilkghbbbhbaa
