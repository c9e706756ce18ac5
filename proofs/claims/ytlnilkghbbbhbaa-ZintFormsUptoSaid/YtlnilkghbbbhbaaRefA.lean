
/-
  The walks of simileref01: limb, Norm, Zero, Same, Cmp, Add, Sub, Small, shift.
-/
import Derived.Test.YtlnilkghbbbhbaaKit
import Derived.Test.YtlnilkghbbbhbaaNum3
import Derived.Deep.QuietTactic
import Derived.BigQuiet
namespace Go.Proofs.Ytlnilkghbbbhbaa
open Go.RowKit

theorem Sl.lln {w : World} {p : Option Addr} {n c N : Nat} (h : Sl w p n c (lim N)) : n = ll N := by rw [← h.len, length_lim]

def RetB (w : World) (b : Bool) (e : Ending) (w' : World) : Prop := e = .returned (.bool b) ∧ Below w.heap.size w w'

set_option maxHeartbeats 400000 in
theorem limb_any {p : Option Addr} {n c : Nat} {xs : List Nat} {w : World} {i : Nat} {I : Int} (hI : I = (i : Int)) (hx : Sl w p n c xs) (hi : i ≤ 9223372036854775807) :
    Calls Try.prog 92 #[.slice p n c, .int .i64 I] w fun e w' => e = .returned (.int .u64 ((nd xs i : Nat) : Int)) ∧ w = w' := by
  subst hI
  have hcap := hx.cap
  have hle := hx.le
  unfold maxLen at hcap
  rcases Nat.lt_or_ge i n with h | h
  · obtain ⟨b, off, rfl, hc⟩ := hx.cell i h
    have hX := hx.lim1 i
    go_enter Try.func92, Try.ntmps92
    go_wp2_with fail
    go_ret
    exact ⟨rfl, rfl⟩
  · have HZ : Hid (nd xs i = 0) := nd_lt_len (by rw [hx.len]; exact h)
    go_enter Try.func92, Try.ntmps92
    go_wp2_with fail
    go_ret
    exact ⟨by rw [HZ.out]; rfl, rfl⟩

/-- The row behind i rounds of a loop that writes limb after limb. -/
def Filling (w : World) (g L : Nat) (f : Nat → Nat) (k : Nat) (wr : World) : Prop :=
  ∃ zs, Fr w.heap.size wr (some ⟨g, 0, none⟩) L L zs ∧ Below w.heap.size w wr ∧ Hid (∀ j, j < k → nd zs j = f j)

theorem filling_next {w wr : World} {g L k v : Nat} {f : Nat → Nat} {zs : List Nat} (hk : k < L) (hf : Fr w.heap.size wr (some ⟨g, 0, none⟩) L L zs) (hb : Below w.heap.size w wr) (h : Hid (∀ j, j < k → nd zs j = f j))
    (hv : v = f k) (hv2 : v < 4294967296) : Filling w g L f (k + 1) (wr.setCell ⟨g, k, none⟩ (.int .u32 ((v : Nat) : Int))) := by
  refine ⟨zs.set k v, hf.set k hv2, hb.setCell (p := ⟨g, k, none⟩) hf.block.1 _, ?_⟩
  intro j hj
  rw [nd_set _ _ _ _ (by rw [hf.len]; exact hk)]
  split
  · rename_i e; subst e; exact hv
  · exact h.out j (by omega)

set_option maxHeartbeats 1000000 in
theorem rnorm_any {p : Option Addr} {n c : Nat} {xs : List Nat} {w : World} (hx : Sl w p n c xs) (hn : n ≤ 17592186044416) :
    Calls Try.prog 69 #[.slice p n c] w (RetN w (lim (val xs))) := by
  have HN := Lib.hid (nrm_eq hx.lims)
  have htl := tl_le xs n
  have HL := Lib.hid hx.len
  have hcap := hx.cap
  have hle := hx.le
  unfold maxLen at hcap
  go_enter Try.func69, Try.ntmps69
  go_wp2_with fail
  go_loop [3] (fun v => ∃ k : Nat, k ≤ n ∧ Hid (tl xs k = tl xs n) ∧ v = .int .i64 k) (fun v => (intOf v).toNat)
  case atStart => exact ⟨n, Nat.le_refl _, rfl, rfl⟩
  case round =>
    obtain ⟨k, hk, Ht, rfl⟩ := hrel
    have main : ∀ m, m ≤ n → m = tl xs n → Hid (m = tl xs n) := fun _ _ h => h
    rcases Nat.eq_zero_or_pos k with rfl | hk0
    · have e : tl xs n = 0 := by rw [← Ht.out]; rfl
      have HE := Lib.hid e
      clear e
      go_wp2_with (at_make; refine wp_make32 _ rfl _ _ _ rfl Try.underlying23 _ _ _ _ 0 rfl rfl rfl rfl (by omega) w.heap.size w (Below.refl _ _) (Nat.le_refl _) ?_; intro w1 hf1 hb1 hb2 hsz1)
      go_loopw [5] (fun v wr => v = .int .i64 0 ∧ wr = w1) (fun _ _ => 0)
      case atStart => exact ⟨rfl, rfl⟩
      case round =>
        obtain ⟨rfl, rfl⟩ := hrel
        go_wp2_with fail
        go_ret
        have e2 := HN.out
        rw [HL.out, HE.out] at e2
        rw [← e2]
        exact ⟨_, _, _, rfl, hf1, hb2⟩
    · obtain ⟨j, rfl⟩ : ∃ j, k = j + 1 := ⟨k - 1, by omega⟩
      obtain ⟨b, off, rfl, hc1⟩ := hx.cell j (by omega)
      by_cases h0 : nd xs j = 0
      · have hz : ((nd xs j : Int) == 0) = true := by simp [h0]
        have H0 := Lib.hid h0
        clear h0
        go_wp2_with fail
        refine ⟨⟨j, by omega, ?_, rfl⟩, by simp [intOf]⟩
        show _ = _
        rw [← Ht.out]; simp [tl, H0.out]
      · have hz : ((nd xs j : Int) == 0) = false := by simp; omega
        have H0 := Lib.hid h0
        clear h0
        have e : tl xs n = j + 1 := by rw [← Ht.out]; simp [tl, H0.out]
        have HE := Lib.hid e
        clear e htl
        go_wp2_with (at_make; refine wp_make32 _ rfl _ _ _ rfl Try.underlying23 _ _ _ _ (j + 1) rfl rfl rfl rfl (by omega) w.heap.size w (Below.refl _ _) (Nat.le_refl _) ?_; intro w1 hf1 hb1 hb2 hsz1)
        have HF : Filling w w.heap.size (j + 1) (nd xs) 0 w1 := ⟨_, hf1, hb2, by intro i hi; omega⟩
        clear hf1 hb1 hb2 hsz1
        go_loopw [5] (fun v wr => ∃ i : Nat, i ≤ j + 1 ∧ v = .int .i64 (i : Int) ∧ Filling w w.heap.size (j + 1) (nd xs) i wr) (fun v _ => j + 1 - (intOf v).toNat)
        case atStart => exact ⟨0, by omega, rfl, HF⟩
        case round =>
          clear HF hc1
          obtain ⟨i, hi, rfl, zs, hf, hb, HH⟩ := hrel
          by_cases hij : i < j + 1
          · obtain ⟨b2, o2, hp, hxc⟩ := (hx.below hb (Nat.le_refl _)).cell i (by omega)
            simp only [Option.some.injEq, Addr.mk.injEq, and_true] at hp
            obtain ⟨rfl, rfl⟩ := hp
            have hzc := hf.cellAt hij
            have hzf := hf.frozenAt i
            have hX := hx.lim1 i
            go_wp2_with fail
            exact ⟨⟨i + 1, by omega, by go_num, filling_next hij hf hb HH rfl hX⟩, by simp [intOf]; omega⟩
          · obtain rfl : i = j + 1 := by omega
            go_wp2_with fail
            go_ret
            have e2 : zs = lim (val xs) := by
              rw [← HN.out, HL.out, HE.out]
              apply nd_ext
              · rw [hf.len]; simp [HL.out]; omega
              · intro i hi
                rw [hf.len] at hi
                rw [nd_take, if_pos hi]
                exact HH.out i hi
            rw [e2] at hf
            exact ⟨_, _, _, rfl, hf, hb⟩

set_option maxHeartbeats 400000 in
theorem zero_yes {p : Option Addr} {n c : Nat} {xs : List Nat} {w : World} (hx : Sl w p n c xs) (h0 : val xs = 0) :
    Calls Try.prog 73 #[.slice p n c] w (RetB w true) := by
  have hall : ∀ i, nd xs i = 0 := by
    have h1 := val_eq_zero h0 hx.lims
    intro i
    by_cases hi : i < xs.length
    · exact tl_zero xs xs.length i (by omega) hi
    · exact nd_lt_len (by omega)
  have HA := Lib.hid hall
  clear hall
  have hcap := hx.cap
  have hle := hx.le
  unfold maxLen at hcap
  go_enter Try.func73, Try.ntmps73
  go_wp2_with fail
  go_loop [7] (fun v => ∃ k : Nat, k ≤ n ∧ v = .int .i64 k) (fun v => n - (intOf v).toNat)
  case atStart => exact ⟨0, Nat.zero_le _, rfl⟩
  case round =>
    obtain ⟨k, hk, rfl⟩ := hrel
    by_cases hkn : k < n
    · obtain ⟨b, off, rfl, hc⟩ := hx.cell k hkn
      rw [HA.out k] at hc
      have hc2 : w.cell? ⟨b, off + k, none⟩ = some (.int .u32 0) := hc
      clear hc
      go_wp2_with fail
      exact ⟨⟨k + 1, by omega, by go_num⟩, by simp [intOf]; omega⟩
    · go_wp2_with fail
      go_ret
      exact ⟨rfl, Below.refl _ _⟩

set_option maxHeartbeats 400000 in
theorem zero_no {p : Option Addr} {n c : Nat} {xs : List Nat} {w : World} (hx : Sl w p n c xs) (h0 : val xs ≠ 0) :
    Calls Try.prog 73 #[.slice p n c] w (RetB w false) := by
  have hcap := hx.cap
  have hle := hx.le
  unfold maxLen at hcap
  have HL := Lib.hid hx.len
  go_enter Try.func73, Try.ntmps73
  go_wp2_with fail
  go_loop [7] (fun v => ∃ k : Nat, k ≤ n ∧ v = .int .i64 k ∧ Hid (∀ j, j < k → nd xs j = 0)) (fun v => n - (intOf v).toNat)
  case atStart => exact ⟨0, Nat.zero_le _, rfl, by intro j hj; omega⟩
  case round =>
    obtain ⟨k, hk, rfl, HJ⟩ := hrel
    by_cases hkn : k < n
    · obtain ⟨b, off, rfl, hc⟩ := hx.cell k hkn
      by_cases hz : nd xs k = 0
      · have HZ := Lib.hid hz
        have hz2 : ((nd xs k : Int) != 0) = false := by simp [hz]
        clear hz
        go_wp2_with fail
        refine ⟨⟨k + 1, by omega, by go_num, fun j hj => ?_⟩, by simp [intOf]; omega⟩
        by_cases e : j = k
        · subst e; exact HZ.out
        · exact HJ.out j (by omega)
      · have hz2 : ((nd xs k : Int) != 0) = true := by simp; omega
        go_wp2_with fail
        go_ret
        exact ⟨rfl, Below.refl _ _⟩
    · exfalso
      apply h0
      obtain rfl : k = n := by omega
      unfold val
      rw [HL.out]
      exact sm_zero HJ.out

set_option maxHeartbeats 400000 in
theorem same_yes {p q : Option Addr} {n m c d : Nat} {xs : List Nat} {w : World} (hx : Sl w p n c xs) (hy : Sl w q m d xs) :
    Calls Try.prog 93 #[.slice p n c, .slice q m d] w (RetB w true) := by
  obtain rfl : n = m := by rw [← hx.len, ← hy.len]
  have hcap := hx.cap
  have hle := hx.le
  have hle2 := hy.le
  unfold maxLen at hcap
  go_enter Try.func93, Try.ntmps93
  go_wp2_with fail
  go_loopw [13] (fun v wr => ∃ k : Nat, k ≤ n ∧ v = .int .i64 k ∧ Below w.heap.size w wr) (fun v _ => n - (intOf v).toNat)
  case atStart => exact ⟨0, Nat.zero_le _, rfl, Below.refl _ _⟩
  case round =>
    obtain ⟨k, hk, rfl, hb⟩ := hrel
    by_cases hkn : k < n
    · obtain ⟨b, off, rfl, hc⟩ := (hx.below hb (Nat.le_refl _)).cell k hkn
      obtain ⟨b2, off2, rfl, hc2⟩ := (hy.below hb (Nat.le_refl _)).cell k hkn
      have hi1 : (k : Int) < (n : Int) := by omega
      generalize nd xs k = X at *
      go_wp2_with fail
      go_quiet (fail)
      go_wp2_with fail
      exact ⟨⟨k + 1, by omega, by go_num, hb.trans (below_drewN (Below.refl _ _) _)⟩, by simp [intOf]; omega⟩
    · go_wp2_with fail
      go_ret
      exact ⟨rfl, hb⟩

end Go.Proofs.Ytlnilkghbbbhbaa
