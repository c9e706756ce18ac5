
/-
  The walks of simileref01: Mul.
-/
import Derived.Test.YtlnilkghbbbhbaaRefB
import Derived.Deep.RegionHeld3
namespace Go.Proofs.Ytlnilkghbbbhbaa
open Go.RowKit

theorem shift_bd {w w' : World} {p q : Option Addr} {n c m d y M : Nat} {xs : List Nat} (h : Sl w p n c (lim (y + 4294967296 * val xs))) (hx : Sl w' q m d xs) (hy : y < 4294967296) (hm : m + 1 ≤ M) : n ≤ M := by
  rw [← h.len, length_lim]
  refine Nat.le_trans (ll_le ?_) hm
  have h1 := val_lt hx.lims
  rw [hx.len] at h1
  rw [Nat.pow_succ]
  omega

theorem small_bd {w w' : World} {p q : Option Addr} {n c m d y M : Nat} {xs : List Nat} (h : Sl w p n c (lim (val xs * y))) (hx : Sl w' q m d xs) (hy : y < 4294967296) (hm : m + 1 ≤ M) : n ≤ M := by
  rw [← h.len, length_lim]
  refine Nat.le_trans (ll_le ?_) hm
  have h1 := val_lt hx.lims
  rw [hx.len] at h1
  rw [Nat.pow_succ]
  have h2 : val xs * y ≤ val xs * 4294967296 := Nat.mul_le_mul_left _ (by omega)
  omega

theorem keepS {wr W w4 : World} {b o : Nat} {v : Value} (hS : W.cell? ⟨b, o, none⟩ = some v ∧ Below wr.heap.size wr W) (hb : Below W.heap.size W w4) (hlt : b < wr.heap.size) : w4.cell? ⟨b, o, none⟩ = some v ∧ Below wr.heap.size wr w4 := by
  have h := hS.2.size
  exact ⟨by rw [(below_cell hb).1 b o (by omega)]; exact hS.1, hS.2.trans (hb.mono h)⟩

set_option maxHeartbeats 2000000 in
theorem rmul_any {p q : Option Addr} {n m c d : Nat} {xs ys : List Nat} {w : World} (hx : Sl w p n c xs) (hy : Sl w q m d ys) (hn : n ≤ 1099511627776) (hm : m ≤ 1099511627776) :
    Calls Try.prog 66 #[.slice p n c, .slice q m d] w (RetN w (lim (val xs * val ys))) := by
  go_enter Try.func66, Try.ntmps66
  go_wp2_with fail
  refine (rnorm_any hx (by omega)).mono ?_
  rintro e w1 ⟨p1, n1, c1, rfl, hf1, hb1⟩
  go_wp2_with fail
  refine (rnorm_any (hy.below hb1 (Nat.le_refl _)) (by omega)).mono ?_
  rintro e w2 ⟨q1, m1, d1, rfl, hg2, hb2⟩
  have hx2 := (hf1.below hb2 (Nat.le_refl _)).sl
  have hy2 := hg2.sl
  have hbw := hb1.trans (hb2.mono hb1.size)
  have HN : Hid (ll (val xs) = n1) := by show _ = _; rw [← hx2.len, length_lim]
  have HM : Hid (ll (val ys) = m1) := by show _ = _; rw [← hy2.len, length_lim]
  have hn1 : n1 ≤ 1099511627776 := by rw [← HN.out, ← tl_ll hx.lims, hx.len]; exact Nat.le_trans (tl_le _ _) hn
  have hm1 : m1 ≤ 1099511627776 := by rw [← HM.out, ← tl_ll hy.lims, hy.len]; exact Nat.le_trans (tl_le _ _) hm
  clear hf1 hg2 hb1 hb2
  have HA : Hid (val (lim (val xs)) = val xs) := val_lim _
  have HC : Hid (val (lim (val ys)) = val ys) := val_lim _
  generalize lim (val xs) = us at *
  generalize lim (val ys) = vs at *
  generalize val xs = A at *
  generalize val ys = C at *
  have HB : Hid (∀ k, ll (A * val (vs.drop k)) ≤ n1 + m1) := by
    intro k
    apply ll_le
    have h1 := val_lt hx2.lims
    rw [HA.out, hx2.len] at h1
    have h2 := val_lt (hy2.lims.drop k)
    have h3 := pow_le (show (vs.drop k).length ≤ m1 by rw [List.length_drop, hy2.len]; omega)
    rw [Nat.pow_add]
    exact Nat.lt_of_le_of_lt (Nat.mul_le_mul_left A (Nat.le_of_lt (Nat.lt_of_lt_of_le h2 h3))) (Nat.mul_lt_mul_of_pos_right h1 (pos_pow m1))
  go_wp2_with fail
  go_loopw [5, 6] (fun o v wr => ∃ k : Nat, k ≤ m1 ∧ v = .int .i64 ((k : Int) - 1) ∧ ∃ p3 n3 c3, o = .slice p3 n3 c3 ∧ Sl wr p3 n3 c3 (lim (A * val (vs.drop k))) ∧ Below w2.heap.size w2 wr) (fun _ v _ => (intOf v + 1).toNat)
  case atStart => exact ⟨m1, by omega, rfl, none, 0, 0, rfl, by rw [val_drop_len (by rw [hy2.len]; exact Nat.le_refl _)]; exact Sl.nil _, Below.refl _ _⟩
  case round =>
    obtain ⟨k, hk, rfl, p3, n3, c3, rfl, hs3, hb3⟩ := hrel
    have HB3 : Hid (ll (A * val (vs.drop k)) = n3) := by show _ = _; rw [← hs3.len, length_lim]
    have hn3 : n3 ≤ n1 + m1 := by rw [← HB3.out]; exact HB.out k
    rcases k with _ | j
    · go_wp2_with fail
      refine (rnorm_any hs3 (by omega)).mono ?_
      rintro e w3 ⟨p4, n4, c4, rfl, hf4, hb4⟩
      go_wp2_with fail
      go_ret
      have e : val (lim (A * val (vs.drop 0))) = A * C := by rw [val_lim, List.drop_zero, HC.out]
      rw [e] at hf4
      have hbr := hbw.trans (hb3.mono hbw.size)
      exact ⟨_, _, _, rfl, hf4.mono hbr.size, hbr.trans (hb4.mono hbr.size)⟩
    · have ej : ((j + 1 : Nat) : Int) - 1 = (j : Int) := by omega
      rw [ej]
      clear ej
      obtain ⟨b2, o2, rfl, hyc⟩ := (hy2.below hb3 (Nat.le_refl _)).cell j (by omega)
      have hY := hy2.lim1 j
      generalize hYY : nd vs j = Y at *
      have HYY := Lib.hid hYY
      clear hYY
      have hx3 := hx2.below hb3 (Nat.le_refl _)
      have hji : (j : Int) < (m1 : Int) := by omega
      have hlt := World.block_lt_of_cell? wr _ hyc
      have hlt2 : b2 < wr.heap.size := hlt
      clear hlt
      go_wp2_with fail
      go_region_held3 (fun w' => w'.cell? ⟨b2, o2 + j, none⟩ = some (.int .u32 (Y : Int)) ∧ Below wr.heap.size wr w')
        (first | exact ⟨hyc, (Below.refl _ _).drew⟩ | exact keepS ‹World.cell? _ _ = some _ ∧ Below wr.heap.size wr _› hb4 hlt2 | exact keepS ‹World.cell? _ _ = some _ ∧ Below wr.heap.size wr _› hb5 hlt2 | exact keepS ‹World.cell? _ _ = some _ ∧ Below wr.heap.size wr _› hb6 hlt2)
        (first
          | (go_at_call 94; have hS := ‹World.cell? _ _ = some _ ∧ Below wr.heap.size wr _›; refine (rshift_any (y := 0) rfl (hs3.below hS.2 (Nat.le_refl _)) (by omega) (by omega)).mono ?_; rintro e w4 ⟨p4, n4, c4, rfl, hf4, hb4⟩; clear hS; have hn4 : n4 ≤ 8796093022208 := shift_bd hf4.sl hs3 (by omega) (by omega))
          | (go_at_call 95; have hS := ‹World.cell? _ _ = some _ ∧ Below wr.heap.size wr _›; refine (rsmall_any rfl (hx3.below hS.2 (Nat.le_refl _)) hY (by omega)).mono ?_; rintro e w5 ⟨p5, n5, c5, rfl, hf5, hb5⟩; clear hS; have hn5 : n5 ≤ 8796093022208 := small_bd hf5.sl hx3 hY (by omega))
          | (go_at_call 61; refine (radd_any (hf4.sl.below hb5 (Nat.le_refl _)) hf5.sl hn4 hn5).mono ?_; rintro e w6 ⟨p6, n6, c6, rfl, hf6, hb6⟩))
      go_wp2_with fail
      have e6 : val (lim (0 + 4294967296 * val (lim (A * val (List.drop (j + 1) vs))))) + val (lim (val us * Y)) = A * val (List.drop j vs) := by
        rw [val_lim, val_lim, val_lim, HA.out, val_drop_succ (xs := vs) (k := j) (by rw [hy2.len]; omega), HYY.out, Nat.mul_add, Nat.mul_left_comm]
        omega
      rw [e6] at hf6
      have hS := ‹World.cell? _ _ = some _ ∧ Below wr.heap.size wr _›
      exact ⟨⟨j, by omega, rfl, _, _, _, rfl, hf6.sl, hb3.trans (hS.2.mono hb3.size)⟩, by simp [intOf]⟩

end Go.Proofs.Ytlnilkghbbbhbaa
