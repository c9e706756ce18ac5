
/-
  The walks of nat.Bit at 0, zint's row.up, row.down, signs.
-/
import Derived.Test.YtlnilkghbbbhbaaZD
import Derived.Laws.BitsAllLaws
import Derived.Laws.EntriesVeiled
namespace Go.Proofs.Ytlnilkghbbbhbaa
open Go.RowKit

theorem bit_zero {p : Option Addr} {n c : Nat} {xs : List Nat} {w : World} (hx : Sl w p n c xs) (hn : n ≤ 17592186044416) :
    Calls Try.prog 76 #[.slice p n c, .int .i64 0] w fun e w' => e = .returned (.int .u64 ((nd xs 0 % 2 : Nat) : Int)) ∧ w = w' := by
  rcases Nat.eq_zero_or_pos n with h | h
  · have h0 : nd xs 0 = 0 := nd_lt_len (by rw [hx.len]; omega)
    subst h
    go_enter Try.func76, Try.ntmps76
    go_wp2_with fail
    go_ret
    rw [h0]
    exact ⟨rfl, rfl⟩
  · obtain ⟨b, off, rfl, hc⟩ := hx.cell 0 h
    rw [Nat.add_zero] at hc
    have hl := hx.lim1 0
    have HA : Hid (∀ k : Nat, k < 4294967296 → bits BinOp.and IntKind.u64 (k : Int) 1 = ((k % 2 : Nat) : Int)) := fun k hk => by
      have e2 : (1 : Int) = ((1 : Nat) : Int) := rfl
      rw [e2, u64_and_nat _ _ (by omega) (by omega), nat_mask1]
    generalize nd xs 0 = x at *
    have hd : decide ((n : Int) ≤ 0) = false := by simp; omega
    go_enter Try.func76, Try.ntmps76
    go_wp2_with fail
    go_ret
    exact ⟨by show Ending.returned (.int .u64 (bits BinOp.and IntKind.u64 (x : Int) 1)) = _; rw [HA.out _ hl], rfl⟩

set_option maxHeartbeats 1000000 in
theorem zup_any {p : Option Addr} {n c : Nat} {b : Bool} {xs : List Nat} {w : World} (hx : Sl w p n c xs) (hn : n ≤ 1099511627776) :
    Calls Try.prog 100 #[.agg #[.bool b, .slice p n c]] w (RetZ w (zv b (val xs) + 1)) := by
  go_enter Try.func100, Try.ntmps100
  go_wp2_with fail
  obtain ⟨W, hW⟩ : ∃ W : World, W = ((w.alloc (.cells #[.bool b, .slice p n c] 80)).alloc (.cells #[.bool false, .slice none 0 0] 25)) := ⟨_, rfl⟩
  rw [← hW]
  have hA00 : W.cell? ⟨w.heap.size, 0, none⟩ = some (.bool b) := by rw [hW]; exact (cell_on (box_c0 (by simp)) (below_alloc _ _))
  have hA01 : W.cell? ⟨w.heap.size, 1, none⟩ = some (.slice p n c) := by rw [hW]; exact (cell_on (box_c1 (by simp)) (below_alloc _ _))
  have hR0 : Cel (w.heap.size + 1) W := by rw [hW]; exact (Cel.ofAlloc (by simp))
  have hB : Box w (w.heap.size + 1) W := by rw [hW]; exact ⟨by (try simp) <;> omega, (((Below.refl _ _).alloc (Nat.le_refl _) _).alloc (by (try simp) <;> omega) _)⟩
  clear hW
  go_wp2_with fail
  go_region_held3 (fun w' => w'.cell? ⟨w.heap.size, 0, none⟩ = some (.bool b) ∧ w'.cell? ⟨w.heap.size, 1, none⟩ = some (.slice p n c) ∧ Cel (w.heap.size + 1) w' ∧ Box w (w.heap.size + 1) w')
    (first | exact ⟨by simpa using hA00, by simpa using hA01, hR0.drew, hB.drew⟩ | (have hS := ‹World.cell? _ _ = some _ ∧ World.cell? _ _ = some _ ∧ Cel _ _ ∧ Box w _ _›; exact ⟨cell_on hS.1 hb1, cell_on hS.2.1 hb1, hS.2.2.1.on hb1, hS.2.2.2.on hb1⟩) | (have hS := ‹World.cell? _ _ = some _ ∧ World.cell? _ _ = some _ ∧ Cel _ _ ∧ Box w _ _›; exact ⟨cell_on hS.1 hb2, cell_on hS.2.1 hb2, hS.2.2.1.on hb2, hS.2.2.2.on hb2⟩) | (have hS := ‹World.cell? _ _ = some _ ∧ World.cell? _ _ = some _ ∧ Cel _ _ ∧ Box w _ _›; exact ⟨cell_set (cell_set hS.1 (by omega)) (by omega), cell_set (cell_set hS.2.1 (by omega)) (by omega), (hS.2.2.1.set _ _ _).set _ _ _, (hS.2.2.2.set (by omega) _ _).set (by omega) _ _⟩))
    (first | (go_at_call 24; have hS := ‹World.cell? _ _ = some _ ∧ World.cell? _ _ = some _ ∧ Cel _ _ ∧ Box w _ _›; refine (zof_any (z := 1) (by omega) (by omega)).mono ?_; rintro e w1 ⟨p3, n3, c3, rfl, hf3, hb1⟩; have hlt1 := hS.2.2.2.lt; have hn3 : n3 ≤ 1099511627776 := z_len hf3 (Nat.le_trans (ll_le (n := (1 : Int).natAbs) (k := 1) (by decide)) (by omega)); clear hS) | (go_at_call 11; have hS := ‹World.cell? _ _ = some _ ∧ World.cell? _ _ = some _ ∧ Cel _ _ ∧ Box w _ _›; refine (zadd_of (z := zv b (val xs) + 1) (hx.below hS.2.2.2.below (Nat.le_refl _)) hf3.sl (by omega) (by omega) (by show _ = _; rw [val_lim, zv_ng])).mono ?_; rintro e w2 ⟨p4, n4, c4, rfl, hf4, hb2⟩; replace hf3 := hf3.below hb2 (Nat.le_refl _); have hlt2 := hS.2.2.2.lt; obtain ⟨⟨u0, hu0⟩, ⟨u1, hu1⟩, hug0, hug1⟩ := (hS.2.2.1).on hb2; clear hS))
  obtain ⟨hA00, hA01, hR0, hB⟩ := ‹World.cell? _ _ = some _ ∧ World.cell? _ _ = some _ ∧ Cel _ _ ∧ Box w _ _›
  go_wp2_with fail
  refine bodyPost_ret (v := .agg #[.bool (ng (zv b (val xs) + 1)), .slice p4 n4 c4]) (by simp [results, Try.results100, go_sem, hu0, hu1]) rfl ?_
  exact retZ_cp hf4 (by omega) (by omega) hB.below

set_option maxHeartbeats 1000000 in
theorem zdown_any {p : Option Addr} {n c : Nat} {b : Bool} {xs : List Nat} {w : World} (hx : Sl w p n c xs) (hn : n ≤ 1099511627776) :
    Calls Try.prog 101 #[.agg #[.bool b, .slice p n c]] w (RetZ w (zv b (val xs))) := by
  go_enter Try.func101, Try.ntmps101
  go_wp2_with fail
  obtain ⟨W, hW⟩ : ∃ W : World, W = ((w.alloc (.cells #[.bool b, .slice p n c] 80)).alloc (.cells #[.bool false, .slice none 0 0] 25)) := ⟨_, rfl⟩
  rw [← hW]
  have hA00 : W.cell? ⟨w.heap.size, 0, none⟩ = some (.bool b) := by rw [hW]; exact (cell_on (box_c0 (by simp)) (below_alloc _ _))
  have hA01 : W.cell? ⟨w.heap.size, 1, none⟩ = some (.slice p n c) := by rw [hW]; exact (cell_on (box_c1 (by simp)) (below_alloc _ _))
  have hR0 : Cel (w.heap.size + 1) W := by rw [hW]; exact (Cel.ofAlloc (by simp))
  have hB : Box w (w.heap.size + 1) W := by rw [hW]; exact ⟨by (try simp) <;> omega, (((Below.refl _ _).alloc (Nat.le_refl _) _).alloc (by (try simp) <;> omega) _)⟩
  clear hW
  go_wp2_with fail
  refine (znorm_any (hx.below hB.below (Nat.le_refl _)) (by omega)).mono ?_
  rintro e w1 ⟨p4, n4, c4, rfl, hf4, hb1⟩
  have hlt1 := hB.lt
  replace hA00 := cell_on hA00 hb1
  replace hA01 := cell_on hA01 hb1
  replace hR0 := hR0.on hb1
  replace hB := hB.on hb1
  clear hb1
  obtain ⟨⟨u0, hu0⟩, ⟨u1, hu1⟩, hug0, hug1⟩ := hR0
  go_wp2_with fail
  refine bodyPost_ret (v := .agg #[.bool (ng (zv b (val xs))), .slice p4 n4 c4]) (by simp [results, Try.results101, go_sem, hu0, hu1]) rfl ?_
  exact retZ_cp hf4 (by omega) (by omega) ((hB.set (by omega) _ _).set (by omega) _ _).below

theorem signs_any {w : World} :
    Calls Try.prog 77 #[] w fun e w' => e = .returned (.agg #[.func (.func 100) #[] #[], .func (.func 101) #[] #[]]) ∧ Below w.heap.size w w' := by
  go_enter Try.func77, Try.ntmps77
  go_wp2_with fail

  exact bodyPost_ret (v := .agg #[.func (.func 100) #[] #[], .func (.func 101) #[] #[]]) (by simp [results, Try.results77, go_sem]) rfl ⟨rfl, (Below.refl _ _).alloc (Nat.le_refl _) _⟩

end Go.Proofs.Ytlnilkghbbbhbaa
