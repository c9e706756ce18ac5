
/-
  The walk of nat.Gcd.
-/
import Derived.Test.YtlnilkghbbbhbaaNatI2
import Derived.Deep.LoopGhost
import Derived.Test.YtlnilkghbbbhbaaMore
namespace Go.Proofs.Ytlnilkghbbbhbaa
open Go.RowKit

/-- What the loop of Gcd keeps. -/
def GcdAt (w : World) (L G k : Nat) (a b : Value) (wr : World) : Prop :=
  ∃ p n c q m d A C, a = .slice p n c ∧ b = .slice q m d ∧ Fr w.heap.size wr p n c (lim A) ∧ Fr w.heap.size wr q m d (lim C) ∧ Below w.heap.size w wr ∧ n ≤ L ∧ m ≤ L ∧ Hid (Nat.gcd A C = G) ∧ Hid (C = k)

set_option maxHeartbeats 2000000 in
theorem gcd_any {p q : Option Addr} {n m c d : Nat} {xs ys : List Nat} {w : World} (hx : Sl w p n c xs) (hy : Sl w q m d ys) (hn : n ≤ 1099511627776) (hm : m ≤ 1099511627776) :
    Calls Try.prog 103 #[.slice p n c, .slice q m d] w (RetN w (lim (Nat.gcd (val xs) (val ys)))) := by
  go_enter Try.func103, Try.ntmps103
  go_wp2_with fail
  refine (own_any hx (by omega)).mono ?_
  rintro e w1 ⟨p1, n1, c1, rfl, hf1, hb1⟩
  go_wp2_with fail
  refine (own_any (hy.below hb1 (Nat.le_refl _)) (by omega)).mono ?_
  rintro e w2 ⟨q1, m1, d1, rfl, hg2, hb2⟩
  have hl1 := norm_len hx hf1
  have hl2 := norm_len (hy.below hb1 (Nat.le_refl _)) hg2
  have hb12 := hb1.trans (hb2.mono hb1.size)
  have H0 : GcdAt w 1099511627776 (Nat.gcd (val xs) (val ys)) (val ys) (.slice p1 n1 c1) (.slice q1 m1 d1) w2 := ⟨p1, n1, c1, q1, m1, d1, _, _, rfl, rfl, hf1.below hb2 (Nat.le_refl _), hg2.mono hb1.size, hb12, by omega, by omega, rfl, rfl⟩
  clear hf1 hg2 hb1 hb2 hb12 hl1 hl2
  generalize Nat.gcd (val xs) (val ys) = G at *
  generalize val ys = Y at *
  go_wp2_with fail
  go_loopg [0, 1] Y (fun k a b wr => GcdAt w 1099511627776 G k a b wr)
  case atStart => exact H0
  case round =>
    clear H0
    obtain ⟨p, n, c, q, m, d, A, C, rfl, rfl, hf, hg, hb, hln, hlm, HG, HK⟩ := hrel
    rcases Nat.eq_zero_or_pos m with hm0 | hm0
    · have hz : decide ((0 : Int) < (m : Int)) = false := by simp; omega
      go_wp2_with fail
      refine (own_any hf.sl (by omega)).mono ?_
      rw [val_lim]
      rintro e w5 ⟨p5, n5, c5, rfl, hf5, hb5⟩
      go_wp2_with fail
      go_ret
      have hC : C = 0 := by
        rcases Nat.eq_zero_or_pos C with h | h
        · exact h
        · have := ll_pos (Nat.ne_of_gt h); rw [← hg.sl.lln] at this; omega
      have hG := HG.out
      rw [hC, Nat.gcd_zero_right] at hG
      rw [hG] at hf5
      exact ⟨_, _, _, rfl, hf5.mono hb.size, hb.trans (hb5.mono hb.size)⟩
    · have hz : decide ((0 : Int) < (m : Int)) = true := by simp; omega
      have hC : C ≠ 0 := by
        intro h
        have h1 := hg.sl.lln
        rw [h] at h1
        have h2 : ll 0 = 0 := rfl
        omega
      go_wp2_with fail
      refine (div_any hf.sl hg.sl (by omega) (by omega) (by rw [val_lim]; exact hC)).mono ?_
      rw [val_lim, val_lim]
      rintro e w5 ⟨p5, n5, c5, q5, m5, d5, rfl, hf5, hg5, hb5⟩
      go_wp2_with fail
      have hlt : A % C < gk := by rw [← HK.out]; exact Nat.mod_lt _ (by omega)
      have hb2 := hb.trans (hb5.mono hb.size)
      have hl5 : m5 ≤ m := by rw [hg5.sl.lln, hg.sl.lln]; exact ll_mono (Nat.le_of_lt (Nat.mod_lt _ (by omega)))
      have hgc : Nat.gcd C (A % C) = G := by rw [← HG.out, Nat.gcd_comm, ← Nat.gcd_rec, Nat.gcd_comm]
      go_roundg (A % C)
      case measure => exact hlt
      case rel => exact ⟨q, m, d, q5, m5, d5, C, A % C, rfl, rfl, hg.below hb5 (Nat.le_refl _), hg5.mono hb.size, hb2, hlm, by omega, hgc, rfl⟩

end Go.Proofs.Ytlnilkghbbbhbaa
