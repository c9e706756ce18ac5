
/-
  The walks of simileref01: Len, half, Lend, Kept.
-/
import Derived.Test.YtlnilkghbbbhbaaRefD
import Derived.Test.YtlnilkghbbbhbaaNum4
namespace Go.Proofs.Ytlnilkghbbbhbaa
open Go.RowKit

set_option maxHeartbeats 1000000 in
theorem rlen_any {p : Option Addr} {n c : Nat} {xs : List Nat} {w : World} (hx : Sl w p n c xs) (hn : n ≤ 1099511627776) :
    Calls Try.prog 54 #[.slice p n c] w (RetInt w ((blen (val xs) : Nat) : Int)) := by
  obtain ⟨N, hN⟩ : ∃ N, N = val xs := ⟨_, rfl⟩
  rw [← hN]
  have HV := Lib.hid hN
  clear hN
  go_enter Try.func54, Try.ntmps54
  go_wp2_with fail
  refine (rnorm_any hx (by omega)).mono ?_
  rw [← HV.out]
  rintro e w1 ⟨p1, n1, c1, rfl, hf1, hb1⟩
  have hx1 := hf1.sl
  have hn1 : n1 ≤ n := by rw [hx1.lln, HV.out, ← tl_ll hx.lims, hx.len]; exact tl_le _ _
  have HN : Hid (ll N = n1) := hx1.lln.symm
  rcases Nat.eq_zero_or_pos N with h0 | h0
  · subst h0
    obtain rfl : 0 = n1 := HN.out
    go_wp2_with fail
    go_ret
    exact ⟨rfl, hb1⟩
  · have hb := blen_lim (N := N) (by omega)
    have hn0 : 0 < n1 := by rw [← HN.out]; exact ll_pos (by omega)
    rw [HN.out] at hb
    obtain ⟨k, rfl⟩ : ∃ k, n1 = k + 1 := ⟨n1 - 1, by omega⟩
    rw [Nat.add_sub_cancel] at hb
    have HB := Lib.hid hb
    clear hb
    obtain ⟨b1, o1, rfl, hxc⟩ := hx1.cell k (by omega)
    have hX := hx1.lim1 k
    generalize nd (lim N) k = X at *
    have hz : ((k : Int) + 1 == 0) = false := by rw [beq_eq_false_iff_ne]; omega
    go_wp2_with fail
    go_loop [3, 4] (fun nv xv => ∃ y t : Nat, y < 4294967296 ∧ xv = .int .u32 (y : Int) ∧ nv = .int .i64 (t : Int) ∧ t ≤ 32 * k + 32 ∧ Hid (t + blen y = 32 * k + blen X)) (fun _ xv => (intOf xv).toNat)
    case atStart => exact ⟨X, 32 * k, hX, rfl, by simp, by omega, rfl⟩
    case round =>
      obtain ⟨y, t, hy, rfl, rfl, ht, HT⟩ := hrel
      have hbX : blen X ≤ 32 := blen_le (show X < 2 ^ 32 from hX)
      rcases Nat.eq_zero_or_pos y with rfl | hy0
      · go_wp2_with fail
        go_ret
        have := HT.out
        rw [blen_zero] at this
        exact ⟨by rw [HB.out, ← this]; rfl, hb1⟩
      · have hh := blen_half (n := y) (by omega)
        have hT := HT.out
        have h1 : t + 1 ≤ 32 * k + 32 := by omega
        have h2 : t + 1 + blen (y / 2) = 32 * k + blen X := by omega
        have H2 := Lib.hid h2
        clear h2 hh hT
        go_wp2_with fail
        exact ⟨⟨y / 2, t + 1, by omega, rfl, by go_num, h1, H2.out⟩, by simp [intOf]; omega⟩

theorem half_num {x y : Nat} (hx : x < 4294967296) : x / 2 + y % 2 * 2147483648 = (y * 4294967296 + x) / 2 ^ 1 % 4294967296 := by
  rw [Nat.pow_one]; omega

set_option maxHeartbeats 1000000 in
theorem rhalf_any {p : Option Addr} {n c : Nat} {xs : List Nat} {w : World} (hx : Sl w p n c xs) (hn : n ≤ 1099511627776) :
    Calls Try.prog 109 #[.slice p n c] w (RetN w (lim (val xs / 2))) := by
  have HL := Lib.hid hx.len
  have HX := Lib.hid hx.lims
  go_enter Try.func109, Try.ntmps109
  go_wp2_with (at_make; refine wp_make32 _ rfl _ _ _ rfl Try.underlying23 _ _ _ _ n rfl rfl rfl rfl (by omega) w.heap.size w (Below.refl _ _) (Nat.le_refl _) ?_; intro w1 hf1 hb1 hb2 hsz1)
  have H0 : Filling w w.heap.size n (fun k => val xs / 2 ^ 1 / 4294967296 ^ k % 4294967296) 0 w1 := ⟨_, hf1, hb2, by intro i hi; omega⟩
  clear hf1 hb1 hb2 hsz1
  go_loopw [10] (fun v wr => ∃ i : Nat, i ≤ n ∧ v = .int .i64 (i : Int) ∧ Filling w w.heap.size n (fun k => val xs / 2 ^ 1 / 4294967296 ^ k % 4294967296) i wr) (fun v _ => n - (intOf v).toNat)
  case atStart => exact ⟨0, by omega, rfl, H0⟩
  case round =>
    clear H0
    obtain ⟨k, hk, rfl, zs, hf, hb, HH⟩ := hrel
    by_cases hkn : k < n
    · have hzc := hf.cellAt hkn
      have hzf := hf.frozenAt k
      have hX := hx.lim1 k
      have hY := hx.lim1 (k + 1)
      have hx2 := hx.below hb (Nat.le_refl _)
      have HD : Hid (nd xs k / 2 + nd xs (k + 1) % 2 * 2147483648 = val xs / 2 ^ 1 / 4294967296 ^ k % 4294967296) := by
        show _ = _
        rw [half_num hX]
        exact right_digit (by omega) (nd_of_val HX.out rfl k) (nd_of_val HX.out rfl (k + 1))
      go_wp2_with fail
      refine (limb_any rfl hx2 (by omega)).mono ?_
      rintro e w2 ⟨rfl, rfl⟩
      go_wp2_with fail
      refine (limb_any (i := k + 1) (by omega) hx2 (by omega)).mono ?_
      rintro e w2 ⟨rfl, rfl⟩
      go_wp2_with fail
      exact ⟨⟨k + 1, by omega, by go_num, filling_next (v := nd xs k / 2 + nd xs (k + 1) % 2 * 2147483648) hkn hf hb HH HD.out (by omega)⟩, by simp [intOf]; omega⟩
    · obtain rfl : k = n := by omega
      go_wp2_with fail
      refine (rnorm_any hf.sl (by omega)).mono ?_
      have e : val zs = val xs / 2 := by
        rw [show val xs / 2 = val xs / 2 ^ 1 from rfl]
        refine right_end (by rw [hf.len]; exact HH.out) ?_
        rw [hf.len]
        have h1 := val_lt HX.out
        rw [HL.out] at h1
        exact Nat.lt_of_le_of_lt (Nat.div_le_self _ _) h1
      rw [e]
      rintro e w2 ⟨p2, n2, c2, rfl, hf2, hb2⟩
      go_wp2_with fail
      go_ret
      exact ⟨_, _, _, rfl, hf2.mono hb.size, hb.trans (hb2.mono hb.size)⟩

/-- What Lend hands out. -/
def RetLend (w : World) (n : Nat) (xs : List Nat) (e : Ending) (w' : World) : Prop :=
  ∃ g, e = .returned (.tuple #[.slice (some ⟨g, 0, none⟩) (n + 2) (n + 2), .slice (some ⟨g, 1, none⟩) n (n + 1)]) ∧ Fr w.heap.size w' (some ⟨g, 0, none⟩) (n + 2) (n + 2) (2779096485 :: xs ++ [2779096485]) ∧ Sl w' (some ⟨g, 1, none⟩) n (n + 1) xs ∧ Below w.heap.size w w'

theorem lend_list {zs xs : List Nat} {n : Nat} (hl : zs.length = n + 2) (hx : xs.length = n) (h : ∀ j, j < n + 2 → nd zs j = if 0 < j ∧ j < n + 1 then nd xs (j - 1) else 2779096485) : zs = 2779096485 :: xs ++ [2779096485] := by
  apply nd_ext
  · simp [hl, hx]
  · intro i hi
    rw [h i (by omega)]
    rcases i with _ | i
    · rfl
    · rw [List.cons_append, nd_cons_succ, nd_append, hx]
      by_cases h2 : i < n
      · rw [if_pos ⟨by omega, by omega⟩, if_pos h2]; rfl
      · rw [if_neg (by omega), if_neg h2]
        obtain rfl : i = n := by omega
        rw [Nat.sub_self]; rfl

theorem lend_get {xs : List Nat} {n : Nat} (hx : xs.length = n) : nd (2779096485 :: xs ++ [2779096485]) 0 = 2779096485 ∧ nd (2779096485 :: xs ++ [2779096485]) (n + 1) = 2779096485 ∧ ∀ i, i < n → nd (2779096485 :: xs ++ [2779096485]) (i + 1) = nd xs i := by
  refine ⟨rfl, ?_, fun i hi => ?_⟩
  · rw [List.cons_append, nd_cons_succ, nd_append, hx, if_neg (by omega), Nat.sub_self]; rfl
  · rw [List.cons_append, nd_cons_succ, nd_append, hx, if_pos hi]

end Go.Proofs.Ytlnilkghbbbhbaa
