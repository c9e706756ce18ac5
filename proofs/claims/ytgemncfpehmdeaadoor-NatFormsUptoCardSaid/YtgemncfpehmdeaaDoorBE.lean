/-
  Contracts and lemmas, joined in one text.
-/
import Derived.Test.YtgemncfpehmdeaaDoorBD
import Derived.Laws.BitsAllLaws
import Derived.Laws.EntriesVeiled
import Derived.Test.YtgemncfpehmdeaaDoorZE
set_option linter.unusedVariables false
set_option linter.unusedSimpArgs false

/-
  The walks of nat.Bit at 0, zint's row.up, row.down, signs.
-/
namespace Go.Proofs.YtgemncfpehmdeaaDoor
open Go.RowKit

theorem bit_zero {p : Option Addr} {n c : Nat} {xs : List Nat} {w : World} (hx : Sl w p n c xs) (hn : n ≤ 17592186044416) :
    Calls Tryd.prog 13 #[.slice p n c, .int .i64 0] w fun e w' => e = .returned (.int .u64 ((nd xs 0 % 2 : Nat) : Int)) ∧ w = w' := by
  rcases Nat.eq_zero_or_pos n with h | h
  · have h0 : nd xs 0 = 0 := nd_lt_len (by rw [hx.len]; omega)
    subst h
    go_enter Tryd.func13, Tryd.ntmps13
    go_wp2_with fail
    go_ret
    rw [h0]
    exact ⟨rfl, rfl⟩
  · obtain ⟨b, off, rfl, hc⟩ := hx.cell 0 h
    rw [Nat.add_zero] at hc
    have hl := hx.lim1 0
    have HA : Hid (∀ k : Nat, k < 4294967296 → bits BinOp.and IntKind.u64 (k : Int) 1 = ((k % 2 : Nat) : Int)) := fun k hk => by
      have e2 : (1 : Int) = ((1 : Nat) : Int) := rfl
      rw [e2, u64_and_nat _ _ (by omega) (by omega), nat_mask1]
    generalize nd xs 0 = x at *
    have hd : decide ((n : Int) ≤ 0) = false := by simp; omega
    go_enter Tryd.func13, Tryd.ntmps13
    go_wp2_with fail
    go_ret
    exact ⟨by show Ending.returned (.int .u64 (bits BinOp.and IntKind.u64 (x : Int) 1)) = _; rw [HA.out _ hl], rfl⟩

end Go.Proofs.YtgemncfpehmdeaaDoor

/-
  The walk of zint: Euclid, where the rest is below 0.
-/
namespace Go.Proofs.YtgemncfpehmdeaaDoor
open Go.RowKit

/-- What lies in the boxes behind 'r = Add(r, Abs(b))', and behind 'q = Sub(q, ..)'. -/
def Eu1 (w w1 : World) (b2 : Bool) (q : Option Addr) (m d : Nat) (Q R : Int) (p4 : Option Addr) (n4 c4 : Nat) (p7 : Option Addr) (n7 c7 : Nat) (wc : World) : Prop :=
  wc.cell? ⟨w.heap.size + 1, 0, none⟩ = some (.bool b2) ∧ wc.cell? ⟨w.heap.size + 1, 1, none⟩ = some (.slice q m d) ∧ wc.cell? ⟨w1.heap.size, 0, none⟩ = some (.bool (ng Q)) ∧ wc.cell? ⟨w1.heap.size, 1, none⟩ = some (.slice p4 n4 c4) ∧
    wc.cell? ⟨w1.heap.size + 1, 0, none⟩ = some (.bool (ng R)) ∧ wc.cell? ⟨w1.heap.size + 1, 1, none⟩ = some (.slice p7 n7 c7) ∧ Cel (w.heap.size + 2) wc ∧ Cel (w.heap.size + 3) wc ∧ Cel w1.heap.size wc ∧ Cel (w1.heap.size + 1) wc ∧
    (∃ B4, Fr B4 wc p4 n4 c4 (lim Q.natAbs) ∧ w.heap.size + 3 < B4) ∧ (∃ B7, Fr B7 wc p7 n7 c7 (lim R.natAbs) ∧ w1.heap.size + 1 < B7) ∧ Box w (w1.heap.size + 1) wc
def Eu2 (w w1 : World) (b2 : Bool) (q : Option Addr) (m d : Nat) (Q R : Int) (wc : World) : Prop := ∃ p4 n4 c4 p7 n7 c7, Eu1 w w1 b2 q m d Q R p4 n4 c4 p7 n7 c7 wc

end Go.Proofs.YtgemncfpehmdeaaDoor
