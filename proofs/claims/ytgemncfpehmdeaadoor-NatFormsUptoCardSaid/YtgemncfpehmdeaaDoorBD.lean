/-
  Contracts and lemmas, joined in one text.
-/
import Derived.Test.YtgemncfpehmdeaaDoorBB
import Derived.Test.YtgemncfpehmdeaaDoorBC
import Derived.Deep.RegionHeld3
import Derived.Deep.Cut
set_option linter.unusedVariables false
set_option linter.unusedSimpArgs false

/-
  Words for calls that lay their struct arguments and results in boxes of two cells.
-/
namespace Go.Proofs.YtgemncfpehmdeaaDoor
open Go.RowKit

theorem cell_on {W w4 : World} {b i : Nat} {v : Value} (h : W.cell? ⟨b, i, none⟩ = some v) (hb : Below W.heap.size W w4) : w4.cell? ⟨b, i, none⟩ = some v := by
  rw [(below_cell hb).1 _ i (World.block_lt_of_cell? W _ h)]; exact h

theorem frozen_on {W w4 : World} {b i j : Nat} {v : Value} (h : W.cell? ⟨b, j, none⟩ = some v) (hf : W.frozen? ⟨b, i, none⟩ = false) (hb : Below W.heap.size W w4) : w4.frozen? ⟨b, i, none⟩ = false := by
  rw [(below_cell hb).2 _ i (World.block_lt_of_cell? W _ h)]; exact hf

theorem cell_set {W : World} {b i r j : Nat} {v x : Value} (h : W.cell? ⟨b, i, none⟩ = some v) (hne : b ≠ r) : (W.setCell ⟨r, j, none⟩ x).cell? ⟨b, i, none⟩ = some v := by
  rw [World.cell?_of_block (w := W) (Below.heap_setCell W ⟨r, j, none⟩ x b hne)]; exact h

theorem cell_same {W : World} {b i : Nat} {v x : Value} (h : W.cell? ⟨b, i, none⟩ = some v) : (W.setCell ⟨b, i, none⟩ x).cell? ⟨b, i, none⟩ = some x := World.cell?_setCell_same _ _ _ h
theorem cell_idx {W : World} {b i r j : Nat} {v x : Value} (h : W.cell? ⟨b, i, none⟩ = some v) (hne : i ≠ j) : (W.setCell ⟨r, j, none⟩ x).cell? ⟨b, i, none⟩ = some v := by
  rw [World.cell?_setCell_other]
  · exact h
  · intro e; simp only [Addr.mk.injEq] at e; omega

/-- A box of two cells that may be written. -/
structure Cel (r : Nat) (w : World) : Prop where
  c0 : ∃ u, w.cell? ⟨r, 0, none⟩ = some u
  c1 : ∃ u, w.cell? ⟨r, 1, none⟩ = some u
  f0 : w.frozen? ⟨r, 0, none⟩ = false
  f1 : w.frozen? ⟨r, 1, none⟩ = false

theorem Cel.on {r : Nat} {W w4 : World} (h : Cel r W) (hb : Below W.heap.size W w4) : Cel r w4 := by
  obtain ⟨⟨u, hu⟩, ⟨v, hv⟩, h2, h3⟩ := h
  exact ⟨⟨u, cell_on hu hb⟩, ⟨v, cell_on hv hb⟩, frozen_on hu h2 hb, frozen_on hv h3 hb⟩

theorem Cel.drew {r : Nat} {W : World} (h : Cel r W) : Cel r W.drew := by
  obtain ⟨⟨u, hu⟩, ⟨v, hv⟩, h2, h3⟩ := h
  exact ⟨⟨u, by simpa using hu⟩, ⟨v, by simpa using hv⟩, by simpa using h2, by simpa using h3⟩

theorem Cel.set {r : Nat} {W : World} (h : Cel r W) (s j : Nat) (x : Value) : Cel r (W.setCell ⟨s, j, none⟩ x) := by
  obtain ⟨⟨u, hu⟩, ⟨v, hv⟩, h2, h3⟩ := h
  obtain ⟨u', hu'⟩ := cell?_setCell_some (w := W) (p := ⟨s, j, none⟩) (x := x) (q := ⟨r, 0, none⟩) (v := u) hu
  obtain ⟨v', hv'⟩ := cell?_setCell_some (w := W) (p := ⟨s, j, none⟩) (x := x) (q := ⟨r, 1, none⟩) (v := v) hv
  exact ⟨⟨u', hu'⟩, ⟨v', hv'⟩, by rw [World.frozen?_setCell]; exact h2, by rw [World.frozen?_setCell]; exact h3⟩

theorem Cel.ofAlloc {W : World} {u v : Value} {t : TypeId} {r : Nat} (hr : r = W.heap.size) : Cel r (W.alloc (.cells #[u, v] t)) := by
  subst hr
  exact ⟨⟨u, by simp⟩, ⟨v, by simp⟩, by simp, by simp⟩

theorem box_c0 {W : World} {u v : Value} {t : TypeId} {r : Nat} (hr : r = W.heap.size) : (W.alloc (.cells #[u, v] t)).cell? ⟨r, 0, none⟩ = some u := by subst hr; simp
theorem box_c1 {W : World} {u v : Value} {t : TypeId} {r : Nat} (hr : r = W.heap.size) : (W.alloc (.cells #[u, v] t)).cell? ⟨r, 1, none⟩ = some v := by subst hr; simp
theorem below_alloc (W : World) (x : Obj) : Below W.heap.size W (W.alloc x) := (Below.refl _ _).alloc (Nat.le_refl _) _

theorem cell_onB {W w4 : World} {b i B : Nat} {v : Value} (h : W.cell? ⟨b, i, none⟩ = some v) (hb : Below B W w4) (hlt : b < B) : w4.cell? ⟨b, i, none⟩ = some v := by
  rw [(below_cell hb).1 _ i hlt]; exact h
theorem Cel.onB {r : Nat} {W w4 : World} {B : Nat} (h : Cel r W) (hb : Below B W w4) (hlt : r < B) : Cel r w4 := by
  obtain ⟨⟨u, hu⟩, ⟨v, hv⟩, h2, h3⟩ := h
  exact ⟨⟨u, cell_onB hu hb hlt⟩, ⟨v, cell_onB hv hb hlt⟩, by rw [(below_cell hb).2 _ 0 hlt]; exact h2, by rw [(below_cell hb).2 _ 1 hlt]; exact h3⟩

/-- A world in which the boxes of this call lie, up to block k. -/
structure Box (w : World) (k : Nat) (w' : World) : Prop where
  lt : k < w'.heap.size
  below : Below w.heap.size w w'

theorem Box.on {w w1 w2 : World} {k : Nat} (h : Box w k w1) (hb : Below w1.heap.size w1 w2) : Box w k w2 :=
  ⟨Nat.lt_of_lt_of_le h.lt hb.size, h.below.trans (hb.mono h.below.size)⟩

theorem Box.onB {w w1 w2 : World} {k B : Nat} (h : Box w k w1) (hb : Below B w1 w2) (hk : w.heap.size ≤ B) : Box w k w2 :=
  ⟨Nat.lt_of_lt_of_le h.lt hb.size, h.below.trans (hb.mono hk)⟩

theorem Box.drew {w w1 : World} {k : Nat} (h : Box w k w1) : Box w k w1.drew := ⟨by simpa using h.lt, h.below.drew⟩

theorem Box.set {w w1 : World} {k r : Nat} (h : Box w k w1) (hr : w.heap.size ≤ r) (j : Nat) (x : Value) : Box w k (w1.setCell ⟨r, j, none⟩ x) := ⟨by simpa using h.lt, h.below.setCell (p := ⟨r, j, none⟩) hr _⟩

/-- A row of one's own that lies behind a box is as it was behind a store into the box. -/
theorem Fr.setLow {B : Nat} {w : World} {p : Option Addr} {n c : Nat} {xs : List Nat} (h : Fr B w p n c xs) {r : Nat} (hr : r < B) (j : Nat) (v : Value) : Fr B (w.setCell ⟨r, j, none⟩ v) p n c xs :=
  h.setOther (a := ⟨r, j, none⟩) (fun g hg => by subst hg; have := h.block; show g ≠ r; omega) v

theorem Fr.setHigh {B : Nat} {w : World} {p : Option Addr} {n c : Nat} {xs : List Nat} (h : Fr B w p n c xs) {r : Nat} (hr : Hid (∀ g, p = some ⟨g, 0, none⟩ → g < r)) (j : Nat) (v : Value) : Fr B (w.setCell ⟨r, j, none⟩ v) p n c xs :=
  h.setOther (a := ⟨r, j, none⟩) (fun g hg => by have := hr.out g hg; show g ≠ r; omega) v

theorem Fr.under {B : Nat} {w : World} {p : Option Addr} {n c : Nat} {xs : List Nat} (h : Fr B w p n c xs) {r : Nat} (hr : w.heap.size ≤ r) : Hid (∀ g, p = some ⟨g, 0, none⟩ → g < r) := fun g hg => by
  subst hg
  have := h.block.2
  omega

/-- What make1 leaves: the very slice that it was given, and the sign where there are limbs. -/
def RetMk (w : World) (b : Bool) (p : Option Addr) (n c : Nat) (e : Ending) (w' : World) : Prop :=
  e = .returned (.agg #[.bool b, .slice p n c]) ∧ Below w.heap.size w w'

/-- What a function leaves that tells an integer: in normal form, in new memory. -/
def RetZ (w : World) (z : Int) (e : Ending) (w' : World) : Prop :=
  ∃ p n c, e = .returned (.agg #[.bool (ng z), .slice p n c]) ∧ Fr w.heap.size w' p n c (lim z.natAbs) ∧ Below w.heap.size w w'

theorem mk_ng {b : Bool} {N n : Nat} (h : n = ll N) : (b && decide (0 < n)) = ng (zv b N) := by
  rw [ng_zv]
  congr 1
  rw [Bool.eq_iff_iff]
  simp only [decide_eq_true_eq]
  rw [h]
  constructor
  · intro h1
    rcases Nat.eq_zero_or_pos N with h0 | h0
    · rw [h0] at h1; exact absurd h1 (Nat.lt_irrefl _)
    · exact h0
  · intro h1; exact ll_pos (by omega)

/-- What lies in the result's box tells an integer. -/
theorem retZ_box {w W : World} {B r n c N : Nat} {p : Option Addr} {b : Bool} {u v : Value} {z : Int} (hf : Fr B W p n c (lim N)) (hr : r < B) (hw : w.heap.size ≤ r) (hb : Below w.heap.size w ((W.setCell ⟨r, 0, none⟩ u).setCell ⟨r, 1, none⟩ v)) (hz : z = zv b N) :
    RetZ w z (.returned (.agg #[.bool (b && decide (0 < n)), .slice p n c])) ((W.setCell ⟨r, 0, none⟩ u).setCell ⟨r, 1, none⟩ v) := by
  subst hz
  rw [mk_ng hf.sl.lln]
  exact ⟨p, n, c, rfl, by rw [natAbs_zv]; exact ((hf.setLow hr 0 u).setLow hr 1 v).mono (by omega), hb⟩

/-- How long a number is that was told. -/
theorem z_len {w : World} {B n c k : Nat} {p : Option Addr} {z : Int} (h : Fr B w p n c (lim z.natAbs)) (hz : ll z.natAbs ≤ k) : n ≤ k := by rw [h.sl.lln]; exact hz
theorem z_same {w w' : World} {B n c m d : Nat} {p q : Option Addr} {xs : List Nat} (hx : Sl w p n c xs) (h : Fr B w' q m d (lim (val xs))) : m ≤ n := norm_len hx h

def RetZE (w : World) (z : Int) (E : Int) (e : Ending) (w' : World) : Prop :=
  ∃ p n c, e = .returned (.tuple #[.agg #[.bool (ng z), .slice p n c], .int .i64 E]) ∧ Fr w.heap.size w' p n c (lim z.natAbs) ∧ Below w.heap.size w w'

def RetZZE (w : World) (x y : Int) (E : Int) (e : Ending) (w' : World) : Prop :=
  ∃ p n c q m d, e = .returned (.tuple #[.agg #[.bool (ng x), .slice p n c], .agg #[.bool (ng y), .slice q m d], .int .i64 E]) ∧ Fr w.heap.size w' p n c (lim x.natAbs) ∧ Fr w.heap.size w' q m d (lim y.natAbs) ∧ Below w.heap.size w w'

def RetZZ (w : World) (x y : Int) (e : Ending) (w' : World) : Prop :=
  ∃ p n c q m d, e = .returned (.tuple #[.agg #[.bool (ng x), .slice p n c], .agg #[.bool (ng y), .slice q m d]]) ∧ Fr w.heap.size w' p n c (lim x.natAbs) ∧ Fr w.heap.size w' q m d (lim y.natAbs) ∧ Below w.heap.size w w'

def RetZB (w : World) (z : Int) (b : Bool) (e : Ending) (w' : World) : Prop :=
  ∃ p n c, e = .returned (.tuple #[.agg #[.bool (ng z), .slice p n c], .bool b]) ∧ Fr w.heap.size w' p n c (lim z.natAbs) ∧ Below w.heap.size w w'

def RetZZZ (w : World) (x y z : Int) (e : Ending) (w' : World) : Prop :=
  ∃ p n c q m d r k f, e = .returned (.tuple #[.agg #[.bool (ng x), .slice p n c], .agg #[.bool (ng y), .slice q m d], .agg #[.bool (ng z), .slice r k f]]) ∧ Fr w.heap.size w' p n c (lim x.natAbs) ∧ Fr w.heap.size w' q m d (lim y.natAbs) ∧ Fr w.heap.size w' r k f (lim z.natAbs) ∧ Below w.heap.size w w'

/-- Fr in what is left behind stores into boxes. -/
theorem Fr.setBox {B B' r : Nat} {w : World} {p : Option Addr} {n c : Nat} {xs : List Nat} {u v : Value} (h : Fr B w p n c xs) (hr : r < B) (hB : B' ≤ B) : Fr B' ((w.setCell ⟨r, 0, none⟩ u).setCell ⟨r, 1, none⟩ v) p n c xs :=
  ((h.setLow hr 0 u).setLow hr 1 v).mono hB

theorem Fr.setBox' {B r : Nat} {w : World} {p : Option Addr} {n c : Nat} {xs : List Nat} {u v : Value} (h : Fr B w p n c xs) (hr : r < B) : Fr B ((w.setCell ⟨r, 0, none⟩ u).setCell ⟨r, 1, none⟩ v) p n c xs := (h.setLow hr 0 u).setLow hr 1 v

theorem retZ_cp {w W : World} {B r n c : Nat} {p : Option Addr} {u v : Value} {z : Int} (hf : Fr B W p n c (lim z.natAbs)) (hr : r < B) (hw : w.heap.size ≤ r) (hb : Below w.heap.size w ((W.setCell ⟨r, 0, none⟩ u).setCell ⟨r, 1, none⟩ v)) :
    RetZ w z (.returned (.agg #[.bool (ng z), .slice p n c])) ((W.setCell ⟨r, 0, none⟩ u).setCell ⟨r, 1, none⟩ v) :=
  ⟨p, n, c, rfl, hf.setBox hr (by omega), hb⟩

theorem lim_zero : lim (0 : Int).natAbs = [] := rfl

end Go.Proofs.YtgemncfpehmdeaaDoor

/-
  The walks of zint: make1, Norm.
-/
namespace Go.Proofs.YtgemncfpehmdeaaDoor
open Go.RowKit

theorem nnorm_any {p : Option Addr} {n c : Nat} {xs : List Nat} {w : World} (hx : Sl w p n c xs) (hn : n ≤ 17592186044416) :
    Calls Tryd.prog 5 #[.slice p n c] w (RetN w (lim (val xs))) := by
  go_enter Tryd.func5, Tryd.ntmps5
  go_wp2_with fail
  refine (own_any hx hn).mono ?_
  rintro e w1 ⟨p1, n1, c1, rfl, hf1, hb1⟩
  go_wp2_with fail
  go_ret
  exact ⟨_, _, _, rfl, hf1, hb1⟩

end Go.Proofs.YtgemncfpehmdeaaDoor

/-
  The walks of zint: Sign, Neg, joined, Add, Sub, Cmp, Of, Trunc.
-/
namespace Go.Proofs.YtgemncfpehmdeaaDoor
open Go.RowKit

theorem sign_zv_zero {b : Bool} {n : Nat} (h : n = 0) : (zv b n).sign = 0 := by rw [h, zv_zero]; rfl
theorem sign_zv_neg {n : Nat} (h : n ≠ 0) : (zv true n).sign = -1 := Int.sign_eq_neg_one_of_neg (by rw [zv_true]; omega)
theorem sign_zv_pos {n : Nat} (h : n ≠ 0) : (zv false n).sign = 1 := Int.sign_eq_one_of_pos (by rw [zv_false]; omega)

theorem neg_zv (b : Bool) (N : Nat) : -(zv b N) = zv (decide (0 < zv b N)) N := by
  cases b
  · rcases Nat.eq_zero_or_pos N with h | h
    · subst h; rfl
    · rw [zv_false, decide_eq_true (by omega)]; rfl
  · rw [zv_true, decide_eq_false (by omega), zv_false]; omega

end Go.Proofs.YtgemncfpehmdeaaDoor

/-
  The walks of zint: Add, Sub, Cmp, Of, Trunc.
-/
namespace Go.Proofs.YtgemncfpehmdeaaDoor
open Go.RowKit

end Go.Proofs.YtgemncfpehmdeaaDoor

/-
  The walks of zint: Trunc, Exact.
-/
namespace Go.Proofs.YtgemncfpehmdeaaDoor
open Go.RowKit

end Go.Proofs.YtgemncfpehmdeaaDoor
