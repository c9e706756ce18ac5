
/-
  The walks of nat.Len, nat.Left, nat.Right.
-/
import Derived.Test.YtlnilkghbbbhbaaNatF
import Derived.Test.YtlnilkghbbbhbaaNum4
namespace Go.Proofs.Ytlnilkghbbbhbaa
open Go.RowKit

def RetLen (w : World) (k : Nat) (e : Ending) (w' : World) : Prop := e = .returned (.int .i64 (k : Int)) ∧ w = w'

set_option maxHeartbeats 400000 in
theorem len_any {p : Option Addr} {n c : Nat} {xs : List Nat} {w : World} (hx : Sl w p n c xs) (hn : n ≤ 17592186044416) :
    Calls Try.prog 72 #[.slice p n c] w (RetLen w (blen (val xs))) := by
  obtain ⟨N, hN⟩ : ∃ N, N = val xs := ⟨_, rfl⟩
  rw [← hN]
  have HV := Lib.hid hN
  clear hN
  go_enter Try.func72, Try.ntmps72
  go_wp2_with fail
  refine (trim_any hx).mono ?_
  rintro e w1 ⟨n1, rfl, hx1, hn1, rfl⟩
  rw [← HV.out] at hx1
  have HN : Hid (ll N = n1) := by show _ = _; rw [← hx1.len, length_lim]
  rcases Nat.eq_zero_or_pos N with h0 | h0
  · subst h0
    obtain rfl : 0 = n1 := HN.out
    go_wp2_with fail
    go_ret
    exact ⟨rfl, rfl⟩
  · have hb := blen_lim (N := N) (by omega)
    have hn0 : 0 < n1 := by rw [← HN.out]; exact ll_pos (by omega)
    rw [HN.out] at hb
    obtain ⟨k, rfl⟩ : ∃ k, n1 = k + 1 := ⟨n1 - 1, by omega⟩
    rw [Nat.add_sub_cancel] at hb
    have HB := Lib.hid hb
    clear hb
    obtain ⟨b1, o1, rfl, hxc⟩ := hx1.cell k (by omega)
    have hX := hx1.lim1 k
    have hl := blen_le (show nd (lim N) k < 2 ^ 32 from hX)
    generalize nd (lim N) k = X at *
    have hz : ((k : Int) + 1 == 0) = false := by rw [beq_eq_false_iff_ne]; omega
    go_wp2_with fail
    refine (len32_any rfl hX).mono ?_
    rintro e w2 ⟨rfl, rfl⟩
    go_wp2_with fail
    go_ret
    refine ⟨congrArg Ending.returned (congrArg (Value.int IntKind.i64) ?_), rfl⟩
    rw [HB.out]
    omega

set_option maxHeartbeats 400000 in
theorem right_neg {p : Option Addr} {n c : Nat} {s : Int} {w : World} (hs : s < 0) :
    Calls Try.prog 108 #[.slice p n c, .int .i64 s] w (RetNE w [] 1) := by
  go_enter Try.func108, Try.ntmps108
  go_wp2_with fail
  go_ret2
  exact ⟨_, _, _, rfl, Fr.nil _ _, Below.refl _ _⟩

def RightAt (w : World) (L M k : Nat) (wr : World) : Prop :=
  ∃ zs, Fr w.heap.size wr (some ⟨w.heap.size, 0, none⟩) L L zs ∧ Below w.heap.size w wr ∧ Hid (∀ j, j < k → nd zs j = M / 4294967296 ^ j % 4294967296)

theorem rightAt_next {w wr : World} {L M k v : Nat} {zs : List Nat} (hk : k < L) (hf : Fr w.heap.size wr (some ⟨w.heap.size, 0, none⟩) L L zs) (hb : Below w.heap.size w wr) (h : Hid (∀ j, j < k → nd zs j = M / 4294967296 ^ j % 4294967296))
    (hv : v = M / 4294967296 ^ k % 4294967296) : RightAt w L M (k + 1) (wr.setCell ⟨w.heap.size, k, none⟩ (.int .u32 ((v : Nat) : Int))) := by
  refine ⟨zs.set k v, hf.set k (by rw [hv]; exact Nat.mod_lt _ (by omega)), hb.setCell (p := ⟨w.heap.size, k, none⟩) (Nat.le_refl _) _, ?_⟩
  intro j hj
  rw [nd_set _ _ _ _ (by rw [hf.len]; exact hk)]
  split
  · rename_i e; subst e; exact hv
  · exact h.out j (by omega)

set_option maxHeartbeats 2000000 in
theorem right_any {p : Option Addr} {n c : Nat} {xs : List Nat} {s : Nat} {w : World} (hx : Sl w p n c xs) (hn : n ≤ 17592186044416) (hs : s ≤ 9223372036854775807) :
    Calls Try.prog 108 #[.slice p n c, .int .i64 (s : Int)] w (RetNE w (lim (val xs / 2 ^ s)) 0) := by
  have hcap := hx.cap
  have hle := hx.le
  unfold maxLen at hcap
  go_enter Try.func108, Try.ntmps108
  go_wp2_with fail
  refine (trim_any hx).mono ?_
  rintro e w1 ⟨n1, rfl, hx1, hn1, rfl⟩
  have hx1l := hx1.le
  have HN : Hid (ll (val xs) = n1) := by show _ = _; rw [← hx1.len, length_lim]
  generalize val xs = N at *
  rcases Nat.lt_or_ge (s / 32) n1 with hq | hq
  · obtain ⟨b1, o1, rfl, _⟩ := hx1.cell 0 (by omega)
    have hx2 := hx1.drop (q := s / 32) (by omega)
    have HV : Hid (val ((lim N).drop (s / 32)) = N / 4294967296 ^ (s / 32)) := by
      show _ = _
      rw [val_drop _ _ (lims_lim N) (by rw [hx1.len]; omega), val_lim]
    obtain ⟨us, hus⟩ : ∃ us, us = (lim N).drop (s / 32) := ⟨_, rfl⟩
    rw [← hus] at hx2 HV
    clear hus
    have hcq : ¬ c = s / 32 := by omega
    obtain ⟨L, hL⟩ : ∃ L, L = n1 - s / 32 := ⟨_, rfl⟩
    rw [← hL] at hx2
    have HL := Lib.hid hL
    have hL1 : n1 - s / 32 = L := hL.symm
    have hL2 : L ≤ n1 := by omega
    have hLc : L ≤ c - s / 32 := by omega
    clear hL
    go_wp2_with (at_make; refine wp_make32 _ rfl _ _ _ rfl Try.underlying23 _ _ _ _ L rfl rfl rfl rfl (by omega) w.heap.size w (Below.refl _ _) (Nat.le_refl _) ?_; intro w1 hf1 hb1 hb2 hsz1)
    clear hb1 hsz1
    have H0 : RightAt w L (N / 2 ^ s) 0 w1 := ⟨_, hf1, hb2, by intro j hj; omega⟩
    clear hf1 hb2
    go_loopw [28] (fun v wr => ∃ k : Nat, k ≤ L ∧ v = .int .i64 (k : Int) ∧ RightAt w L (N / 2 ^ s) k wr) (fun v _ => L - (intOf v).toNat)
    case atStart => exact ⟨0, by omega, rfl, H0⟩
    case round =>
      clear H0
      obtain ⟨k, hk, rfl, zs, hf, hb, HH⟩ := hrel
      by_cases hkL : k < L
      · obtain ⟨b2, o2, hp2, hxc⟩ := (hx2.below hb (Nat.le_refl _)).cell k hkL
        simp only [Option.some.injEq, Addr.mk.injEq, and_true] at hp2
        obtain ⟨rfl, rfl⟩ := hp2
        have hX := hx2.lim1 k
        have hzc := hf.cellAt hkL
        have hzf := hf.frozenAt k
        have ht : s % 32 < 32 := Nat.mod_lt _ (by omega)
        by_cases hk1 : k + 1 < L
        · obtain ⟨b2, o2, hp2, hyc⟩ := (hx2.below hb (Nat.le_refl _)).cell (k + 1) hk1
          simp only [Option.some.injEq, Addr.mk.injEq, and_true] at hp2
          obtain ⟨rfl, rfl⟩ := hp2
          have hY := hx2.lim1 (k + 1)
          have hor := or64' hY hX
          go_wp2_with fail
          rw [right_cast]
          refine ⟨⟨k + 1, by omega, by go_num, rightAt_next hkL hf hb HH ?_⟩, by simp [intOf]; omega⟩
          rw [right_div N s]
          exact right_digit ht (nd_of_val hx2.lims HV.out k) (nd_of_val hx2.lims HV.out (k + 1))
        · go_wp2_with fail
          rw [right_cast0]
          refine ⟨⟨k + 1, by omega, by go_num, rightAt_next hkL hf hb HH ?_⟩, by simp [intOf]; omega⟩
          rw [right_div N s]
          have h0 : (0 : Nat) = N / 4294967296 ^ (s / 32) / 4294967296 ^ (k + 1) % 4294967296 := by
            rw [← nd_of_val hx2.lims HV.out (k + 1), nd_lt_len (by rw [hx2.len]; omega)]
          have := right_digit ht (nd_of_val hx2.lims HV.out k) h0
          rw [← this, Nat.zero_mul, Nat.zero_add]
      · obtain rfl : k = L := by omega
        go_wp2_with fail
        refine (own_any hf.sl (by omega)).mono ?_
        have e : val zs = N / 2 ^ s := by
          refine right_end (by rw [hf.len]; exact HH.out) ?_
          rw [right_div N s, hf.len]
          have h1 := val_lt hx2.lims
          rw [HV.out, hx2.len] at h1
          exact Nat.lt_of_le_of_lt (Nat.div_le_self _ _) h1
        rw [e]
        rintro e w2 ⟨p2, n2, c2, rfl, hf2, hb2⟩
        go_wp2_with fail
        go_ret2
        exact ⟨_, _, _, rfl, hf2.mono hb.size, hb.trans (hb2.mono hb.size)⟩
  · go_wp2_with fail
    go_ret2
    have e : N / 2 ^ s = 0 := by
      apply Nat.div_eq_of_lt
      have h1 := lt_ll N
      rw [HN.out] at h1
      have h2 := pow_le hq
      have h3 := pow_split s
      have h4 : 4294967296 ^ (s / 32) * 1 ≤ 4294967296 ^ (s / 32) * 2 ^ (s % 32) := Nat.mul_le_mul_left _ (Nat.two_pow_pos _)
      omega
    rw [e]
    exact ⟨_, _, _, rfl, Fr.nil _ _, Below.refl _ _⟩

end Go.Proofs.Ytlnilkghbbbhbaa
