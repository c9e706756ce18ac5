/-
  The walk of simileref01: Sqrt.
-/
import Derived.Test.YtgemncfpehmdeaaRefG
import Derived.Test.YtgemncfpehmdeaaNum7
namespace Go.Proofs.Ytgemncfpehmdeaa
open Go.RowKit

theorem root_up {N S j : Nat} (h2 : N < (S + 2 ^ (j + 1)) * (S + 2 ^ (j + 1))) : N < (S + 2 ^ j + 2 ^ j) * (S + 2 ^ j + 2 ^ j) := by
  have e : S + 2 ^ j + 2 ^ j = S + 2 ^ (j + 1) := by rw [Nat.pow_succ]; omega
  rw [e]; exact h2

theorem root_start {N : Nat} : N < (0 + 2 ^ (blen N / 2 + 2)) * (0 + 2 ^ (blen N / 2 + 2)) := by
  rw [Nat.zero_add, ← Nat.pow_add]
  exact Nat.lt_of_lt_of_le (lt_blen N) (Nat.pow_le_pow_right (by omega) (by omega))

theorem sq_self {S N : Nat} (h : S * S ≤ N) : S ≤ N := by
  rcases Nat.eq_zero_or_pos S with h0 | h0
  · omega
  · exact Nat.le_trans (Nat.le_mul_of_pos_left S h0) h

/-- What the loop of Sqrt keeps. -/
def RRootAt (w : World) (N L j : Nat) (s : Value) (wr : World) : Prop :=
  ∃ p n c S, s = .slice p n c ∧ Fr w.heap.size wr p n c (lim S) ∧ Below w.heap.size w wr ∧ n ≤ L ∧ Hid (S * S ≤ N) ∧ Hid (N < (S + 2 ^ j) * (S + 2 ^ j))

set_option maxHeartbeats 2000000 in
theorem rsqrt_any {p : Option Addr} {n c : Nat} {xs : List Nat} {w : World} (hx : Sl w p n c xs) (hn : n ≤ 1048576000) :
    Calls Try.prog 36 #[.slice p n c] w (RetN w (lim (rt (val xs)))) := by
  have hbl := blen_len hx.lims
  rw [hx.len] at hbl
  have HL : Hid (ll (val xs) ≤ n) := by have := val_ll hx.lims; rw [hx.len] at this; exact this
  go_enter Try.func36, Try.ntmps36
  go_wp2_with fail
  refine (rlen_any hx (by omega)).mono ?_
  rintro e w1 ⟨rfl, hb1⟩
  have HS : Hid (val xs < (0 + 2 ^ (blen (val xs) / 2 + 2)) * (0 + 2 ^ (blen (val xs) / 2 + 2))) := root_start
  generalize hNx : val xs = N at *
  have HNX := Lib.hid hNx
  clear hNx
  generalize blen N = B at *
  replace hx := hx.below hb1 (Nat.le_refl _)
  go_wp2_with fail
  go_loopw [3, 4] (fun s v wr => ∃ j : Nat, j ≤ B / 2 + 2 ∧ v = .int .i64 ((j : Int) - 1) ∧ RRootAt w1 N 1048576002 j s wr) (fun _ v _ => (intOf v + 1).toNat)
  case atStart => exact ⟨B / 2 + 2, by omega, by go_num, none, 0, 0, 0, rfl, Fr.nil _ _, Below.refl _ _, by omega, Nat.zero_le _, HS.out⟩
  case round =>
    clear HS
    obtain ⟨j, hj, rfl, p3, n3, c3, S, rfl, hf3, hb3, hn3, HS1, HS2⟩ := hrel
    rcases j with _ | j
    · go_wp2_with fail
      refine (rnorm_any hf3.sl (by omega)).mono ?_
      rw [val_lim]
      rintro e w4 ⟨p4, n4, c4, rfl, hf4, hb4⟩
      have hS := rt_unique HS1.out HS2.out
      go_wp2_with fail
      go_ret
      rw [← hS]
      have hb13 := hb1.trans (hb3.mono hb1.size)
      exact ⟨_, _, _, rfl, hf4.mono hb13.size, hb13.trans (hb4.mono hb13.size)⟩
    · have ej : ((j + 1 : Nat) : Int) - 1 = (j : Int) := by omega
      rw [ej]
      clear ej
      have hx3 := hx.below hb3 (Nat.le_refl _)
      have h1 : Sl (wr.alloc (.cells ([1].map fun x : Nat => Value.int .u32 (x : Int)).toArray 42)) (some ⟨wr.heap.size, 0, none⟩) 1 1 [1] := Sl.lit wr [1] (lims_single (by omega))
      have hb4 : Below wr.heap.size wr (wr.alloc (.cells ([1].map fun x : Nat => Value.int .u32 (x : Int)).toArray 42)) := (Below.refl _ _).alloc (Nat.le_refl _) _
      have HS3 : Hid (N < (S + 2 ^ j + 2 ^ j) * (S + 2 ^ j + 2 ^ j)) := root_up HS2.out
      go_wp2_with fail
      refine (rleft_any h1 (by omega) (by omega)).mono ?_
      rw [val_single, Nat.one_mul]
      rintro e w5 ⟨p5, n5, c5, rfl, hf5, hb5⟩
      have hl5 : n5 ≤ 1048576001 := by rw [hf5.sl.lln, ll_two]; omega
      replace hf3 := (hf3.below hb4 (Nat.le_refl _)).below hb5 (Nat.le_refl _)
      replace hx3 := (hx3.below hb4 (Nat.le_refl _)).below hb5 (Nat.le_refl _)
      replace hb3 := hb3.trans ((hb4.trans (hb5.mono hb4.size)).mono hb3.size)
      clear hb4 hb5 h1 HS2
      have HF := Lib.hid hb3.size
      go_wp2_with fail
      refine (radd_any hf3.sl hf5.sl (by omega) (by omega)).mono ?_
      rw [val_lim, val_lim]
      rintro e w6 ⟨p6, n6, c6, rfl, hf6, hb6⟩
      have hl6 : n6 ≤ 1048576003 := by
        rw [hf6.sl.lln]; exact ll_add (by rw [← hf3.sl.lln]; exact hn3) (by rw [← hf5.sl.lln]; omega)
      generalize hP : 2 ^ j = P at *
      have HP := Lib.hid hP
      clear hP
      replace hf3 := hf3.below hb6 (Nat.le_refl _)
      replace hx3 := hx3.below hb6 (Nat.le_refl _)
      replace hb3 := hb3.trans (hb6.mono hb3.size)
      clear hb6 hf5
      go_wp2_with fail
      refine (rmul_any hf6.sl hf6.sl (by omega) (by omega)).mono ?_
      rw [val_lim]
      rintro e w7 ⟨p7, n7, c7, rfl, hf7, hb7⟩
      replace hf3 := hf3.below hb7 (Nat.le_refl _)
      replace hf6 := hf6.below hb7 (Nat.le_refl _)
      replace hx3 := hx3.below hb7 (Nat.le_refl _)
      replace hb3 := hb3.trans (hb7.mono hb3.size)
      go_wp2_with fail
      refine (rcmp_any hf7.sl hx3).mono ?_
      rw [val_lim, HNX.out]
      rintro e w8 ⟨rfl, rfl⟩
      rcases Nat.lt_or_ge N ((S + P) * (S + P)) with ht | ht
      · obtain ⟨cc, hcc, hcc0⟩ : ∃ cc : Int, cmpN ((S + P) * (S + P)) N = cc ∧ 0 < cc := ⟨_, rfl, cmpN_above ht⟩
        rw [hcc]
        have hz8 : decide (cc ≤ (0 : Int)) = false := by simp; omega
        clear hcc
        have HT := Lib.hid ht
        clear ht
        go_wp2_with fail
        exact ⟨⟨j, by omega, rfl, p3, n3, c3, S, rfl, hf3, hb3, hn3, HS1, by rw [HP.out]; exact HT⟩, by simp [intOf]⟩
      · obtain ⟨cc, hcc, hcc0⟩ : ∃ cc : Int, cmpN ((S + P) * (S + P)) N = cc ∧ cc ≤ 0 := ⟨_, rfl, cmpN_not_above ht⟩
        rw [hcc]
        have hz8 : decide (cc ≤ (0 : Int)) = true := by simp; omega
        clear hcc
        have HT := Lib.hid ht
        have hl6 : n6 ≤ 1048576002 := by rw [hf6.sl.lln]; have := ll_mono (sq_self ht); have := HL.out; omega
        clear ht
        go_wp2_with fail
        exact ⟨⟨j, by omega, rfl, p6, n6, c6, S + P, rfl, hf6.mono HF.out, hb3, hl6, HT, by rw [HP.out]; exact HS3⟩, by simp [intOf]⟩

end Go.Proofs.Ytgemncfpehmdeaa
