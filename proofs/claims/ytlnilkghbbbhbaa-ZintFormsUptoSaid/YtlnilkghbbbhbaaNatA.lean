
/-
  The walks of nat.trim, nat.own, nat.Norm.
-/
import Derived.Test.YtlnilkghbbbhbaaKit
namespace Go.Proofs.Ytlnilkghbbbhbaa
open Go.RowKit

/-- A slice of the same memory, in normal form. -/
def RetTrim (w : World) (p : Option Addr) (n c : Nat) (N : Nat) (e : Ending) (w' : World) : Prop :=
  ∃ m, e = .returned (.slice p m c) ∧ Sl w p m c (lim N) ∧ m ≤ n ∧ w = w'

set_option maxHeartbeats 400000 in
theorem trim_any {p : Option Addr} {n c : Nat} {xs : List Nat} {w : World} (hs : Sl w p n c xs) :
    Calls Try.prog 87 #[.slice p n c] w (RetTrim w p n c (val xs)) := by
  have HN := Lib.hid (nrm_eq hs.lims)
  have hn := hs.le
  have hc := hs.cap
  unfold maxLen at hc
  have HL := Lib.hid hs.len
  go_enter Try.func87, Try.ntmps87
  go_wp2
  go_loop [0] (fun v => ∃ k : Nat, k ≤ n ∧ tl xs k = tl xs n ∧ v = .slice p k c) (fun v => match v with | .slice _ k _ => k | _ => 0)
  case atStart => exact ⟨_, Nat.le_refl _, rfl, rfl⟩
  case round =>
    obtain ⟨k, hk, ht, rfl⟩ := hrel
    have Ht := Lib.hid ht
    clear ht
    rcases Nat.eq_zero_or_pos k with rfl | hk0
    · go_wp2
      go_ret
      have e : tl xs xs.length = 0 := by rw [HL.out, ← Ht.out]; rfl
      have e2 := HN.out
      rw [e] at e2
      exact ⟨0, rfl, by rw [← e2]; exact hs.take (Nat.zero_le _), Nat.zero_le _, rfl⟩
    · obtain ⟨j, rfl⟩ : ∃ j, k = j + 1 := ⟨k - 1, by omega⟩
      obtain ⟨b, off, rfl, hc1⟩ := hs.cell j (by omega)
      by_cases h0 : nd xs j = 0
      · have hz : ((nd xs j : Int) == 0) = true := by simp [h0]
        have H0 := Lib.hid h0
        clear h0
        go_wp2
        refine ⟨⟨j, by omega, ?_, rfl⟩, by simp⟩
        rw [← Ht.out]; simp [tl, H0.out]
      · have hz : ((nd xs j : Int) == 0) = false := by simp; omega
        have H0 := Lib.hid h0
        clear h0
        go_wp2
        go_ret
        have e : tl xs xs.length = j + 1 := by rw [HL.out, ← Ht.out]; simp [tl, H0.out]
        have e2 := HN.out
        rw [e] at e2
        exact ⟨j + 1, rfl, by rw [← e2]; exact hs.take hk, hk, rfl⟩

set_option maxHeartbeats 400000 in
theorem own_any {p : Option Addr} {n c : Nat} {xs : List Nat} {w : World} (hs : Sl w p n c xs) (hb : n ≤ 17592186044416) :
    Calls Try.prog 90 #[.slice p n c] w (RetN w (lim (val xs))) := by
  go_enter Try.func90, Try.ntmps90
  go_wp2_with fail
  refine (trim_any hs).mono ?_
  rintro e w' ⟨m, rfl, hm, hmn, rfl⟩
  rcases Nat.eq_zero_or_pos m with rfl | h0
  · go_wp2_with fail
    go_ret
    have e : lim (val xs) = [] := List.eq_nil_of_length_eq_zero hm.len
    rw [e]
    exact ⟨_, _, _, rfl, Fr.nil _ _, Below.refl _ _⟩
  · have hz : ((m : Int) == 0) = false := by simp; omega
    go_wp2_with (at_make; refine wp_make32 _ rfl _ _ _ rfl Try.underlying23 _ _ _ _ m rfl rfl rfl rfl (by omega) w.heap.size w (Below.refl _ _) (Nat.le_refl _) ?_; intro w1 hf1 hb1 hb0 hsz1; obtain ⟨w2, hr2, hf2, hb2, hsz2⟩ := run_copy32 23 23 3 Try.underlying23 hf1 (hm.below hb1 (Nat.le_refl _)) hb0)
    go_ret
    exact ⟨_, _, _, rfl, hf2, hb2⟩
end Go.Proofs.Ytlnilkghbbbhbaa
