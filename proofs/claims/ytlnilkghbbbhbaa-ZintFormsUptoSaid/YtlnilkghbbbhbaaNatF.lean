
/-
  The walks of nat.short, nat.left, nat.Len, nat.Left, nat.Right.
-/
import Derived.Test.YtlnilkghbbbhbaaNatE
import Derived.Test.YtlnilkghbbbhbaaBits
import Derived.Test.YtlnilkghbbbhbaaNum3
namespace Go.Proofs.Ytlnilkghbbbhbaa
open Go.RowKit

def RetShort (w : World) (N b : Nat) (e : Ending) (w' : World) : Prop :=
  ∃ p n c r, e = .returned (.tuple #[.slice p n c, .int .u32 ((r : Nat) : Int)]) ∧ Fr w.heap.size w' p n c (lim (N / b)) ∧ Below w.heap.size w w' ∧ Hid (r = N % b) ∧ r < 4294967296

set_option maxHeartbeats 1000000 in
theorem short_any {p : Option Addr} {n c : Nat} {xs : List Nat} {w : World} {b : Nat} (hx : Sl w p n c xs) (hb : b < 4294967296) (hb0 : 0 < b) (hn : n ≤ 17592186044416) :
    Calls Try.prog 98 #[.slice p n c, .int .u32 (b : Int)] w (RetShort w (val xs) b) := by
  have hcap := hx.cap
  have hle := hx.le
  unfold maxLen at hcap
  go_enter Try.func98, Try.ntmps98
  go_wp2_with (at_make; refine wp_make32 _ rfl _ _ _ rfl Try.underlying23 _ _ _ _ n rfl rfl rfl rfl (by omega) w.heap.size w (Below.refl _ _) (Nat.le_refl _) ?_; intro w1 hf1 hb1 hb2 hsz1)
  clear hsz1 hb1
  go_loopw [7, 8] (fun r v wr => ∃ k s : Nat, k ≤ n ∧ v = .int .i64 ((k : Int) - 1) ∧ s < b ∧ r = .int .u64 s ∧ ∃ zs, Fr w.heap.size wr (some ⟨w.heap.size, 0, none⟩) n n zs ∧ Below w.heap.size w wr ∧ Hid (val (zs.drop k) * b + s = val (xs.drop k))) (fun _ v _ => (intOf v + 1).toNat)
  case atStart => exact ⟨n, 0, by omega, rfl, hb0, rfl, _, hf1, hb2, by show _ = _; rw [val_drop_len (by simp), val_drop_len (by rw [hx.len]; exact Nat.le_refl _), Nat.zero_mul]⟩
  case round =>
    clear hf1 hb2
    obtain ⟨k, s, hk, rfl, hs, rfl, zs, hf, hbr, HH⟩ := hrel
    rcases k with _ | j
    · go_wp2_with fail
      refine (own_any hf.sl hn).mono ?_
      rintro e w2 ⟨p2, n2, c2, rfl, hf2, hb2⟩
      have hs2 : s < 4294967296 := by omega
      go_wp2_with fail
      go_ret2
      have h := HH.out
      simp only [List.drop_zero] at h
      have h1 : val zs = val xs / b := by
        rw [← h, Nat.add_comm, Nat.add_mul_div_right _ _ hb0, Nat.div_eq_of_lt hs, Nat.zero_add]
      have h2 : s = val xs % b := by
        rw [← h, Nat.add_comm, Nat.add_mul_mod_self_right, Nat.mod_eq_of_lt hs]
      rw [h1] at hf2
      exact ⟨_, _, _, s, rfl, hf2.mono hbr.size, hbr.trans (hb2.mono hbr.size), h2, hs2⟩
    · have ej : ((j + 1 : Nat) : Int) - 1 = (j : Int) := by omega
      rw [ej]
      clear ej
      obtain ⟨b1, o1, rfl, hxc⟩ := (hx.below hbr (Nat.le_refl _)).cell j (by omega)
      have hx1 := hx.lim1 j
      have hzc := hf.cellAt (i := j) (by omega)
      have hzf := hf.frozenAt j
      have hor := or64 (show s < 4294967296 by omega) hx1
      have hjl : j < xs.length := by rw [hx.len]; omega
      have hjz : j < zs.length := by rw [hf.len]; omega
      have HX := Lib.hid (val_drop_succ hjl)
      have HJZ := Lib.hid hjz
      clear hjl hjz
      generalize nd xs j = X at *
      obtain ⟨t, ht⟩ : ∃ t, t = s * 4294967296 + X := ⟨_, rfl⟩
      rw [← ht] at hor
      have HT := Lib.hid ht
      have ht1 : t < 18446744073709551616 := by omega
      have hq1 : t / b < 4294967296 := by
        rw [Nat.div_lt_iff_lt_mul hb0, ht]
        have : (s + 1) * 4294967296 ≤ b * 4294967296 := Nat.mul_le_mul_right _ hs
        omega
      have hr1 : t % b < b := Nat.mod_lt _ hb0
      have hq2 : (t : Int) / (b : Int) = ((t / b : Nat) : Int) := by omega
      have hr2 : (t : Int) % (b : Int) = ((t % b : Nat) : Int) := by omega
      have hd := Nat.div_add_mod t b
      generalize t / b = Q at *
      generalize t % b = R at *
      have HD := Lib.hid hd
      clear hd ht
      go_wp2_with fail
      rw [hr2]
      refine ⟨⟨j, R, by omega, rfl, hr1, rfl, _, hf.set j hq1, hbr.setCell (p := ⟨w.heap.size, j, none⟩) (Nat.le_refl _) _, ?_⟩, by simp [intOf]⟩
      show _ = _
      rw [val_drop_set HJZ.out, HX.out, Nat.add_mul]
      have h := HH.out
      have h4 : 4294967296 * val (List.drop (j + 1) zs) * b = 4294967296 * (val (List.drop (j + 1) zs) * b) := Nat.mul_assoc _ _ _
      have h5 : Q * b = b * Q := Nat.mul_comm _ _
      have h6 := HD.out
      have h7 := HT.out
      omega

/-- What left leaves: a 2^s, in as many limbs as it says. -/
def RetLeft (w : World) (N s : Nat) (e : Ending) (w' : World) : Prop :=
  ∃ p n c zs, e = .returned (.slice p n c) ∧ Fr w.heap.size w' p n c zs ∧ Below w.heap.size w w' ∧ Hid (val zs = N * 2 ^ s) ∧ s / 32 + ll N ≤ n ∧ n ≤ s / 32 + ll N + 1 ∧ Hid (n = s / 32 + ll N + 1 → 4294967296 ^ (s / 32 + ll N) ≤ N * 2 ^ s)

theorem left_end0 {zs xs : List Nat} {s cy N : Nat} (hx : xs = lim N) (hc : cy = 0) (h : val zs + cy * 4294967296 ^ (s / 32 + ll N) = 4294967296 ^ (s / 32) * 2 ^ (s % 32) * sm (nd xs) (ll N)) : val zs = N * 2 ^ s := by
  rw [pow_split] at h
  have e : sm (nd xs) (ll N) = N := by
    rw [← length_lim N, hx]
    exact val_lim N
  rw [e, hc] at h
  rw [Nat.mul_comm]; omega

theorem left_end1 {zs xs : List Nat} {s cy N : Nat} (hx : xs = lim N) (hl : zs.length = s / 32 + ll N) (h : val zs + cy * 4294967296 ^ (s / 32 + ll N) = 4294967296 ^ (s / 32) * 2 ^ (s % 32) * sm (nd xs) (ll N)) : val (zs ++ [cy]) = N * 2 ^ s := by
  rw [pow_split] at h
  have e : sm (nd xs) (ll N) = N := by
    rw [← length_lim N, hx]
    exact val_lim N
  rw [e] at h
  rw [val_append, val_single, hl, Nat.mul_comm N, ← h, Nat.mul_comm cy]

set_option maxHeartbeats 2000000 in
theorem left_any {p : Option Addr} {n c : Nat} {xs : List Nat} {w : World} {s : Nat} (hx : Sl w p n c xs) (hs : s ≤ 17592186044416) (hn : n ≤ 4398046511104) :
    Calls Try.prog 107 #[.slice p n c, .int .i64 (s : Int)] w (RetLeft w (val xs) s) := by
  have hcap := hx.cap
  have hle := hx.le
  unfold maxLen at hcap
  go_enter Try.func107, Try.ntmps107
  go_wp2_with fail
  refine (trim_any hx).mono ?_
  rintro e w1 ⟨n1, rfl, hx1, hn1, rfl⟩
  have hx1l := hx1.le
  have HN : Hid (ll (val xs) = n1) := by show _ = _; rw [← hx1.len, length_lim]
  generalize val xs = N at *
  obtain ⟨us, hus⟩ : ∃ us, us = lim N := ⟨_, rfl⟩
  rw [← hus] at hx1
  have HU := Lib.hid hus
  clear hus hx
  go_wp2_with (at_make; refine wp_make32c _ rfl _ _ _ rfl Try.underlying23 _ _ _ _ (s / 32) (s / 32 + n1 + 3) rfl rfl rfl rfl (by omega) (by omega) w.heap.size w (Below.refl _ _) (Nat.le_refl _) ?_; intro w1 hf1 hb1 hb2 hsz1)
  clear hb1 hsz1
  go_loopw [5, 6, 22] (fun o cv v wr => ∃ k cy : Nat, k ≤ n1 ∧ v = .int .i64 (k : Int) ∧ cy < 2 ^ (s % 32) ∧ cv = .int .u32 cy ∧ ∃ p2 n2 c2 zs, o = .slice p2 n2 c2 ∧ Fr w.heap.size wr p2 n2 c2 zs ∧ Below w.heap.size w wr ∧ n2 = s / 32 + k ∧ Hid (val zs + cy * 4294967296 ^ (s / 32 + k) = 4294967296 ^ (s / 32) * 2 ^ (s % 32) * sm (nd us) k)) (fun _ _ v _ => n1 - (intOf v).toNat)
  case atStart => exact ⟨0, 0, by omega, rfl, Nat.two_pow_pos _, rfl, _, _, _, _, rfl, hf1, hb2, rfl, by show _ = _; simp [sm]; unfold val; exact sm_zero (fun i _ => nd_replicate _ _)⟩
  case round =>
    clear hf1 hb2
    obtain ⟨k, cy, hk, rfl, hcy, rfl, p2, n2, c2, zs, rfl, hf, hbr, hn2, HH⟩ := hrel
    have HN2 := Lib.hid hn2
    have hn3 : n2 ≤ s / 32 + k := by omega
    clear hn2
    by_cases hkn : k < n1
    · obtain ⟨b1, o1, rfl, hxc⟩ := (hx1.below hbr (Nat.le_refl _)).cell k hkn
      have hX := hx1.lim1 k
      have ht : s % 32 < 32 := Nat.mod_lt _ (by omega)
      have hor := or32_shift (X := nd us k) ht hcy
      have hlt := shift_lt (X := nd us k) ht hcy
      have hcl := carry_lt (t := s % 32) hX
      have hcw : ((nd us k : Nat) : Int) * 2 ^ (s % 32) / 4294967296 = ((nd us k * 2 ^ (s % 32) / 4294967296 : Nat) : Int) := by
        rw [Int.natCast_ediv, Int.natCast_mul, Int.natCast_pow]; rfl
      have hcb : nd us k * 2 ^ (s % 32) / 4294967296 < 4294967296 := by
        have : 2 ^ (s % 32) ≤ 2 ^ 32 := Nat.pow_le_pow_right (by omega) (by omega)
        omega
      have hstep := left_step (X := nd us k) (by rw [hf.len]; exact HN2.out) HH.out
      have HC := Lib.hid hcw
      obtain ⟨y, hy⟩ : ∃ y, y = nd us k * 2 ^ (s % 32) % 4294967296 + cy := ⟨_, rfl⟩
      rw [← hy] at hor hlt hstep
      have HY := Lib.hid hy
      have HS := Lib.hid hstep
      obtain ⟨cz, hcz⟩ : ∃ cz, cz = nd us k * 2 ^ (s % 32) / 4294967296 := ⟨_, rfl⟩
      have HCZ := Lib.hid hcz
      rw [← hcz] at hcb hcl
      clear hy hstep hcw hcz
      have hw1 : 0 ≤ ((nd us k : Nat) : Int) * 2 ^ (s % 32) := by
        have e : ((nd us k : Nat) : Int) * 2 ^ (s % 32) = ((nd us k * 2 ^ (s % 32) : Nat) : Int) := by rw [Int.natCast_mul, Int.natCast_pow]; rfl
        rw [e]; omega
      have hw2 : ((nd us k : Nat) : Int) * 2 ^ (s % 32) ≤ 18446744073709551615 := by
        have h1 := HC.out
        have h2 := HCZ.out
        omega
      have hb3 := (Below.refl wr.heap.size wr).alloc (Nat.le_refl _) (.cells #[.int .u32 (y : Int)] 29)
      have hy3 := Sl.single wr y hlt
      have hf3 := hf.below hb3 (Nat.le_refl _)
      have hbr3 := hbr.trans (hb3.mono hbr.size)
      have hsz := hbr.size
      go_wp2_with (at_builtin; refine wp_append32 _ rfl _ _ _ rfl Try.underlying23 w.heap.size _ n2 _ zs rfl hf3 _ 1 _ [y] rfl hy3 (by omega) hbr3 (Nat.le_refl _) (by simp; omega) ?_; intro p4 c4 w4 hf4 hg4 hb4)
      rw [HC.out, ← HCZ.out]
      refine ⟨⟨k + 1, cz, by omega, by go_num, hcl, rfl, _, _, _, _, rfl, hf4, hb4, by rw [HN2.out]; omega, ?_⟩, by simp [intOf]; omega⟩
      have h1 := HS.out
      rw [← HCZ.out] at h1
      exact h1
    · obtain rfl : k = n1 := by omega
      have hcy2 : cy < 4294967296 := by
        have : 2 ^ (s % 32) ≤ 2 ^ 32 := Nat.pow_le_pow_right (by omega) (by omega)
        omega
      rcases Nat.eq_zero_or_pos cy with h0 | h0
      · have H0 := Lib.hid h0
        have hz : ((cy : Int) != 0) = false := by simp [h0]
        clear h0
        go_wp2_with fail
        go_ret
        have h1 := HH.out
        rw [← HN.out] at h1
        refine ⟨p2, n2, c2, zs, rfl, hf, hbr, left_end0 HU.out H0.out h1, by rw [HN.out, HN2.out]; exact Nat.le_refl _, by rw [HN.out, HN2.out]; omega, ?_⟩
        intro h2
        rw [HN.out, HN2.out] at h2
        omega
      · have hz : ((cy : Int) != 0) = true := by simp; omega
        have hb3 := (Below.refl wr.heap.size wr).alloc (Nat.le_refl _) (.cells #[.int .u32 (cy : Int)] 29)
        have hy3 := Sl.single wr cy hcy2
        have hf3 := hf.below hb3 (Nat.le_refl _)
        have hbr3 := hbr.trans (hb3.mono hbr.size)
        have hsz := hbr.size
        go_wp2_with (at_builtin; refine wp_append32 _ rfl _ _ _ rfl Try.underlying23 w.heap.size _ n2 _ zs rfl hf3 _ 1 _ [cy] rfl hy3 (by omega) hbr3 (Nat.le_refl _) (by simp; omega) ?_; intro p4 c4 w4 hf4 hg4 hb4)
        go_ret
        have h1 := HH.out
        rw [← HN.out] at h1
        have hl : zs.length = s / 32 + ll N := by rw [hf.len, HN.out, HN2.out]
        refine ⟨p4, n2 + 1, c4, zs ++ [cy], rfl, hf4, hb4, left_end1 HU.out hl h1, by rw [HN.out, HN2.out]; omega, by rw [HN.out, HN2.out]; omega, ?_⟩
        intro _
        rw [← left_end1 HU.out hl h1, val_append, val_single, hl]
        have : 4294967296 ^ (s / 32 + ll N) * 1 ≤ 4294967296 ^ (s / 32 + ll N) * cy := Nat.mul_le_mul_left _ h0
        omega

end Go.Proofs.Ytlnilkghbbbhbaa
