
/-
  Words for slices of 32-bit limbs in memory, and laws for the walk that make and fill them.
-/
import Derived.Test.YtlnilkghbbbhbaaRows
import Derived.Test.YtlnilkghbbbhbaaNum
import Derived.WalkKit
import Derived.WalkSpells
import Derived.WalkLawsBesides
import Derived.Lib.Hide
import Derived.Laws.CopyOwn
namespace Go.Proofs.Ytlnilkghbbbhbaa
open Go.RowKit

/-- A slice that reads as xs. -/
structure Sl (w : World) (p : Option Addr) (n c : Nat) (xs : List Nat) : Prop where
  len : xs.length = n
  le : n ≤ c
  cap : c ≤ maxLen
  lims : Lims xs
  isnil : p = none → c = 0
  cell : ∀ i, i < n → ∃ b off, p = some ⟨b, off, none⟩ ∧ w.cell? ⟨b, off + i, none⟩ = some (.int .u32 ((nd xs i : Nat) : Int))

theorem Sl.drop {w : World} {b off n c : Nat} {xs : List Nat} (h : Sl w (some ⟨b, off, none⟩) n c xs) {q : Nat} (hq : q ≤ n) : Sl w (some ⟨b, off + q, none⟩) (n - q) (c - q) (xs.drop q) := by
  refine ⟨by simp [h.len], by have := h.le; omega, by have := h.cap; omega, h.lims.drop q, (fun h => by cases h), fun i hi => ?_⟩
  obtain ⟨b', off', hp, hc⟩ := h.cell (q + i) (by omega)
  simp only [Option.some.injEq, Addr.mk.injEq, and_true] at hp
  obtain ⟨rfl, rfl⟩ := hp
  refine ⟨b, off + q, rfl, ?_⟩
  rw [nd_drop, Nat.add_assoc]
  exact hc

/-- A slice in memory of the call's own, from block B on, that reads as xs. -/
structure Fr (B : Nat) (w : World) (p : Option Addr) (n c : Nat) (xs : List Nat) : Prop where
  len : xs.length = n
  lims : Lims xs
  own : w.ownsRow B 29 1 (.slice p n c) n (xs.map fun x : Nat => Value.int .u32 (x : Int))

theorem info_u32 : (Try.prog.info? 29).map (fun i => (i.zero, i.size, i.bytes)) = some (some (.int .u32 0), 1, 4) := by kernel_rfl

theorem Sl.below {w w' : World} {p : Option Addr} {n c : Nat} {xs : List Nat} (h : Sl w p n c xs) {B : Nat} (hb : Below B w w') (hB : w.heap.size ≤ B) : Sl w' p n c xs := by
  refine ⟨h.len, h.le, h.cap, h.lims, h.isnil, fun i hi => ?_⟩
  obtain ⟨b, off, hp, hc⟩ := h.cell i hi
  refine ⟨b, off, hp, ?_⟩
  have hlt := World.block_lt_of_cell? w _ hc
  exact (hb.cell (p := ⟨b, off + i, none⟩) (Nat.lt_of_lt_of_le hlt hB)).trans hc

/-- Back to an older world in which the same memory was read. -/
theorem Sl.back {w w' : World} {p : Option Addr} {n c m d : Nat} {xs ys : List Nat} (h : Sl w' p m d ys) (h0 : Sl w p n c xs) (hb : Below w.heap.size w w') (hm : m ≤ n) : Sl w p m d ys := by
  refine ⟨h.len, h.le, h.cap, h.lims, h.isnil, fun i hi => ?_⟩
  obtain ⟨b, off, hp, hc⟩ := h.cell i hi
  obtain ⟨b', off', hp', hc'⟩ := h0.cell i (by omega)
  rw [hp] at hp'
  simp only [Option.some.injEq, Addr.mk.injEq, and_true] at hp'
  obtain ⟨rfl, rfl⟩ := hp'
  refine ⟨b, off, hp, ?_⟩
  have hlt := World.block_lt_of_cell? w _ hc'
  rw [← hb.cell (p := ⟨b, off + i, none⟩) hlt]
  exact hc

theorem Sl.lim1 {w : World} {p : Option Addr} {n c : Nat} {xs : List Nat} (h : Sl w p n c xs) (i : Nat) : nd xs i < 4294967296 := h.lims.all i

theorem Sl.nil (w : World) : Sl w none 0 0 [] := ⟨rfl, Nat.le_refl _, by simp [maxLen], lims_nil, fun _ => rfl, fun i hi => by omega⟩

theorem Sl.take {w : World} {p : Option Addr} {n c : Nat} {xs : List Nat} (h : Sl w p n c xs) {k : Nat} (hk : k ≤ n) : Sl w p k c (xs.take k) := by
  refine ⟨by simp [h.len]; omega, by have := h.le; omega, h.cap, h.lims.take k, h.isnil, fun i hi => ?_⟩
  rw [nd_take, if_pos hi]
  exact h.cell i (by omega)

theorem Fr.nil (B : Nat) (w : World) : Fr B w none 0 0 [] := ⟨rfl, lims_nil, World.ownsRow_nil _ _ _ _⟩

theorem Fr.sl {B : Nat} {w : World} {p : Option Addr} {n c : Nat} {xs : List Nat} (h : Fr B w p n c xs) : Sl w p n c xs := by
  rcases h.own.2 with ⟨h1, h2⟩ | ⟨g, cap, cur, h1, hb, hg, hnc, hcm, hcs, ht⟩
  · simp only [Value.slice.injEq] at h1
    obtain ⟨rfl, rfl, rfl⟩ := h1
    exact ⟨h.len, Nat.le_refl _, by simp [maxLen], h.lims, fun _ => rfl, fun i hi => by omega⟩
  · simp only [Value.slice.injEq, true_and] at h1
    obtain ⟨rfl, rfl⟩ := h1
    refine ⟨h.len, hnc, hcm, h.lims, (fun h => by cases h), fun i hi => ⟨g, 0, rfl, ?_⟩⟩
    have := h.own.cellAt i (by omega)
    rw [Nat.zero_add, this, nd_get (by rw [h.len]; exact hi)]
    simp [h.len, hi]

theorem Fr.mono {B B' : Nat} {w : World} {p : Option Addr} {n c : Nat} {xs : List Nat} (h : Fr B w p n c xs) (hB : B' ≤ B) : Fr B' w p n c xs := by
  refine ⟨h.len, h.lims, h.own.1, ?_⟩
  rcases h.own.2 with h1 | ⟨g, cap, cur, h1, hb, r⟩
  · exact .inl h1
  · exact .inr ⟨g, cap, cur, h1, Nat.le_trans hB hb, r⟩

theorem Fr.below {B : Nat} {w w' : World} {p : Option Addr} {n c : Nat} {xs : List Nat} (h : Fr B w p n c xs) {B' : Nat} (hb : Below B' w w') (hB : w.heap.size ≤ B') : Fr B w' p n c xs := by
  refine ⟨h.len, h.lims, h.own.1, ?_⟩
  rcases h.own.2 with h1 | ⟨g, cap, cur, h1, hbg, hg, r⟩
  · exact .inl h1
  · refine .inr ⟨g, cap, cur, h1, hbg, ?_, r⟩
    rw [hb.block g (Nat.lt_of_lt_of_le (Array.getElem?_eq_some_iff.1 hg).1 hB)]
    exact hg

theorem Fr.grown {B : Nat} {w w' : World} {p : Option Addr} {n c : Nat} {xs : List Nat} (h : Fr B w p n c xs) {row : Option Nat} (hg : w.grownBy w' row) (hne : (Value.slice p n c).ownBlock = none ∨ (Value.slice p n c).ownBlock ≠ row) : Fr B w' p n c xs :=
  ⟨h.len, h.lims, h.own.kept hg hne⟩

theorem Fr.pos {B : Nat} {w : World} {p : Option Addr} {n c : Nat} {xs : List Nat} (h : Fr B w p n c xs) (h0 : 0 < n) : ∃ g, p = some ⟨g, 0, none⟩ ∧ B ≤ g ∧ g < w.heap.size := by
  rcases h.own.2 with ⟨h1, h2⟩ | ⟨g, cap, cur, h1, hbg, hg, r⟩
  · omega
  · simp only [Value.slice.injEq, true_and] at h1
    exact ⟨g, h1.1, hbg, (Array.getElem?_eq_some_iff.1 hg).1⟩

theorem Fr.cellAt {B : Nat} {w : World} {g n c : Nat} {xs : List Nat} (h : Fr B w (some ⟨g, 0, none⟩) n c xs) {i : Nat} (hi : i < n) : w.cell? ⟨g, i, none⟩ = some (.int .u32 ((nd xs i : Nat) : Int)) := by
  obtain ⟨b, off, hp, hc⟩ := h.sl.cell i hi
  simp only [Option.some.injEq, Addr.mk.injEq, and_true] at hp
  obtain ⟨rfl, rfl⟩ := hp
  simpa using hc

theorem Fr.frozenAt {B : Nat} {w : World} {g n c : Nat} {xs : List Nat} (h : Fr B w (some ⟨g, 0, none⟩) n c xs) (i : Nat) : w.frozen? ⟨g, i, none⟩ = false := h.own.frozenAt i

theorem Fr.block {B : Nat} {w : World} {g n c : Nat} {xs : List Nat} (h : Fr B w (some ⟨g, 0, none⟩) n c xs) : B ≤ g ∧ g < w.heap.size := by
  have := h.own.lt g rfl
  exact this

/-- Behind a store into a row of one's own. -/
theorem Fr.set {B : Nat} {w : World} {g n c : Nat} {xs : List Nat} (h : Fr B w (some ⟨g, 0, none⟩) n c xs) (i : Nat) {v : Nat} (hv : v < 4294967296) :
    Fr B (w.setCell ⟨g, i, none⟩ (.int .u32 (v : Int))) (some ⟨g, 0, none⟩) n c (xs.set i v) := by
  refine ⟨by rw [List.length_set]; exact h.len, h.lims.set i hv, ?_⟩
  have := (h.own.stored i (.int .u32 (v : Int))).1
  rwa [List.map_set]

/-- A store into another block. -/
theorem Fr.setOther {B : Nat} {w : World} {p : Option Addr} {n c : Nat} {xs : List Nat} (h : Fr B w p n c xs) {a : Addr} (ha : ∀ g, p = some ⟨g, 0, none⟩ → g ≠ a.block) (v : Value) : Fr B (w.setCell a v) p n c xs := by
  refine ⟨h.len, h.lims, h.own.1, ?_⟩
  rcases h.own.2 with h1 | ⟨g, cap, cur, h1, hbg, hg, r⟩
  · exact .inl h1
  · refine .inr ⟨g, cap, cur, h1, hbg, ?_, r⟩
    simp only [Value.slice.injEq, true_and] at h1
    rw [Below.heap_setCell _ _ _ _ (ha g h1.1)]
    exact hg

theorem Sl.setOther {B : Nat} {w : World} {p : Option Addr} {n c : Nat} {xs : List Nat} (h : Sl w p n c xs) {w0 : World} (h0 : Sl w0 p n c xs) (hB : w0.heap.size ≤ B) {a : Addr} (ha : B ≤ a.block) (v : Value) : Sl (w.setCell a v) p n c xs := by
  refine ⟨h.len, h.le, h.cap, h.lims, h.isnil, fun i hi => ?_⟩
  obtain ⟨b, off, hp, hc⟩ := h.cell i hi
  obtain ⟨b', off', hp', hc'⟩ := h0.cell i hi
  rw [hp] at hp'
  simp only [Option.some.injEq, Addr.mk.injEq, and_true] at hp'
  obtain ⟨rfl, rfl⟩ := hp'
  have hlt : b < w0.heap.size := World.block_lt_of_cell? w0 _ hc'
  refine ⟨b, off, hp, ?_⟩
  rw [World.cell?_of_block (w := w) (Below.heap_setCell w a v b (by omega))]
  exact hc

/-- 'make([]uint32, n)'. -/
theorem wp_make32 (w : World) {ops : Array Oper} {rest : List Oper} {o : Oper} {a : Act} {Q : Exit → Act → World → Prop}
    (hg : o.guard = none) (l c : Operand) (t : TypeId) (hop : o.op = Op.makeSlice t l c) (h1 : Try.prog.underlying t = some (.slice 29))
    (kl kc : IntKind) (L C : Int) (n : Nat) (hl : a.eval l = .int kl L) (hc : a.eval c = .int kc C) (hL : L = (n : Int)) (hC : C = (n : Int)) (b2 : n ≤ 35184372088832)
    (B : Nat) (w0 : World) (hb : Below B w0 w) (hB : B ≤ w.heap.size)
    (hK : ∀ w', Fr B w' (some ⟨w.heap.size, 0, none⟩) n n (List.replicate n 0) → Below w.heap.size w w' → Below B w0 w' → w'.heap.size = w.heap.size + 1 → wpList Try.prog ops Q rest (a.put o.dst (.slice (some ⟨w.heap.size, 0, none⟩) n n)) w') :
    wpList Try.prog ops Q (o :: rest) a w := by
  obtain ⟨i, hi, hz0, hz1, hz2⟩ := info_parts info_u32
  refine wpList_plain hg fun K hK' => ?_
  have hr := run_make (P := Try.prog) w t 29 i (.int .u32 0) h1 hi hz0 kl kc n n (by omega) (Int.le_refl _) (by rw [hz2]; omega) (by omega)
  subst hL
  subst hC
  unfold Oper.wp
  simp [execOp, hop, hl, hc, hr, Result.andThen]
  have hm : maxLen = 9223372036854775807 := rfl
  refine hK' _ _ (hK _ ⟨by simp, lims_zeros n, ?_⟩ ((Below.refl _ _).alloc (Nat.le_refl _) _) (hb.alloc hB _) (by simp))
  have := World.ownsRow_lit (base := B) (e := 29) (size := 1) w (madeCells #[.int .u32 0] (n * 1)) n hB (by omega) (size_madeCells _ _)
  rw [toList_madeCells_one] at this
  have e : (List.replicate n 0).map (fun x : Nat => Value.int .u32 (x : Int)) = List.replicate (n * 1) (.int .u32 0) := by simp
  rw [e, hz1]
  simpa [Value.cells] using this

/-- 'make([]uint32, n, m)'. -/
theorem wp_make32c (w : World) {ops : Array Oper} {rest : List Oper} {o : Oper} {a : Act} {Q : Exit → Act → World → Prop}
    (hg : o.guard = none) (l c : Operand) (t : TypeId) (hop : o.op = Op.makeSlice t l c) (h1 : Try.prog.underlying t = some (.slice 29))
    (kl kc : IntKind) (L C : Int) (n m : Nat) (hl : a.eval l = .int kl L) (hc : a.eval c = .int kc C) (hL : L = (n : Int)) (hC : C = (m : Int)) (hnm : n ≤ m) (b2 : m ≤ 35184372088832)
    (B : Nat) (w0 : World) (hb : Below B w0 w) (hB : B ≤ w.heap.size)
    (hK : ∀ w', Fr B w' (some ⟨w.heap.size, 0, none⟩) n m (List.replicate n 0) → Below w.heap.size w w' → Below B w0 w' → w'.heap.size = w.heap.size + 1 → wpList Try.prog ops Q rest (a.put o.dst (.slice (some ⟨w.heap.size, 0, none⟩) n m)) w') :
    wpList Try.prog ops Q (o :: rest) a w := by
  obtain ⟨i, hi, hz0, hz1, hz2⟩ := info_parts info_u32
  refine wpList_plain hg fun K hK' => ?_
  have hr := run_make (P := Try.prog) w t 29 i (.int .u32 0) h1 hi hz0 kl kc n m (by omega) (by omega) (by rw [hz2]; omega) (by omega)
  subst hL
  subst hC
  unfold Oper.wp
  simp [execOp, hop, hl, hc, hr, Result.andThen]
  have hm : maxLen = 9223372036854775807 := rfl
  refine hK' _ _ (hK _ ⟨by simp, lims_zeros n, ?_⟩ ((Below.refl _ _).alloc (Nat.le_refl _) _) (hb.alloc hB _) (by simp))
  refine ⟨by simp, .inr ⟨w.heap.size, m, _, rfl, hB, heap_alloc_new w _, hnm, by omega, ?_, ?_⟩⟩
  · rw [size_madeCells, hz1]
  · have e : (madeCells (Value.int IntKind.u32 0).cells (m * i.size)).toList = List.replicate m (.int .u32 0) := by
      rw [hz1, Nat.mul_one]; exact toList_madeCells_one _ _
    rw [e, List.take_replicate]
    simp [Nat.min_eq_left hnm]

/-- 'append(s, x..)': s the call's own or nil, x somewhere. -/
theorem wp_append32 (w : World) {ops : Array Oper} {rest : List Oper} {o : Oper} {a : Act} {Q : Exit → Act → World → Prop} (hgd : o.guard = none) (s x : Operand) (t : TypeId)
    (ho : o.op = .call { callee := .builtin .append, args := #[s, x], argTypes := #[t, t] }) (ht : Try.prog.underlying t = some (.slice 29))
    (B : Nat) (p : Option Addr) (n c : Nat) (xs : List Nat) (hs : a.eval s = .slice p n c) (hown : Fr B w p n c xs)
    (ad : Addr) (m c2 : Nat) (ys : List Nat) (hx : a.eval x = .slice (some ad) m c2) (hy : Sl w (some ad) m c2 ys) (hb : n + m ≤ 35184372088832)
    {B0 : Nat} {w0 : World} (hB0 : Below B0 w0 w) (hBB : B0 ≤ B) (hB : B ≤ w.heap.size)
    (h : ∀ p' c' w', Fr B w' p' (n + m) c' (xs ++ ys) → w.grownBy w' (Value.slice p n c).ownBlock → Below B0 w0 w' → wpList Try.prog ops Q rest (a.put o.dst (.slice p' (n + m) c')) w') : wpList Try.prog ops Q (o :: rest) a w := by
  obtain ⟨i, hi, hz0, hz1, hz2⟩ := info_parts info_u32
  have hm : maxLen = 9223372036854775807 := rfl
  refine wpList_append_own w hgd s x t ho B 29 i (.int .u32 0) 1 4 ht hi hz0 hz1 hz2 rfl (by decide) _ n _ hs hown.own ad m c2 (ys.map fun x : Nat => Value.int .u32 (x : Int)) hx (by simp [hy.len]) ?_ ?_ (by omega) (by omega) hB ?_
  · intro j u hu
    have hj : j < m := by
      have := (List.getElem?_eq_some_iff.1 hu).1
      simp [hy.len] at this; omega
    obtain ⟨b', off', hp, hc⟩ := hy.cell j hj
    simp only [Option.some.injEq] at hp
    subst hp
    rw [Addr.add_lit, hc, ← hu, nd_get (by rw [hy.len]; exact hj)]
    simp [hy.len, hj]
  · intro u hu
    obtain ⟨_, _, rfl⟩ := List.mem_map.1 hu
    rfl
  · intro v' w' ho' hg' _
    have hex : ∃ p' c', v' = .slice p' (n + m) c' := by
      rcases ho'.2 with ⟨h1, h2⟩ | ⟨g, cap, cur, h1, _⟩
      · exact ⟨none, 0, by rw [h1, h2]⟩
      · exact ⟨_, _, h1⟩
    obtain ⟨p', c', rfl⟩ := hex
    refine h p' c' w' ⟨by simp [hown.len, hy.len], hown.lims.append hy.lims, by rw [List.map_append]; exact ho'⟩ hg' (hB0.grown hg' (Nat.le_trans hBB hB) ?_)
    intro k hk
    exact Nat.le_trans hBB (hown.own.lt k hk).1

/-- 'append(s, x...)', x any slice, nil too. -/
theorem wp_appendAny (w : World) {ops : Array Oper} {rest : List Oper} {o : Oper} {a : Act} {Q : Exit → Act → World → Prop} (hgd : o.guard = none) (s x : Operand) (t : TypeId)
    (ho : o.op = .call { callee := .builtin .append, args := #[s, x], argTypes := #[t, t] }) (ht : Try.prog.underlying t = some (.slice 29))
    (B : Nat) (p : Option Addr) (n c : Nat) (xs : List Nat) (hs : a.eval s = .slice p n c) (hown : Fr B w p n c xs)
    (q : Option Addr) (m c2 : Nat) (ys : List Nat) (hx : a.eval x = .slice q m c2) (hy : Sl w q m c2 ys) (hb : n + m ≤ 35184372088832)
    {B0 : Nat} {w0 : World} (hB0 : Below B0 w0 w) (hBB : B0 ≤ B) (hB : B ≤ w.heap.size)
    (h : ∀ p' c' w', Fr B w' p' (n + m) c' (xs ++ ys) → w.grownBy w' (Value.slice p n c).ownBlock → Below B0 w0 w' → wpList Try.prog ops Q rest (a.put o.dst (.slice p' (n + m) c')) w') : wpList Try.prog ops Q (o :: rest) a w := by
  cases q with
  | some ad => exact wp_append32 w hgd s x t ho ht B p n c xs hs hown ad m c2 ys hx hy hb hB0 hBB hB h
  | none =>
    obtain rfl : c2 = 0 := hy.isnil rfl
    obtain rfl : m = 0 := by have := hy.le; omega
    obtain rfl : ys = [] := List.eq_nil_of_length_eq_zero hy.len
    obtain ⟨i, hi, hz0, hz1, hz2⟩ := info_parts info_u32
    refine wpList_plain hgd fun K hK' => ?_
    have hrun := run_append_owned_none (P := Try.prog) w B t o.type 29 i 1 ht hi _ n _ hown.own
    unfold Oper.wp
    simp [execOp, ho, resolve, invoke, builtin, hs, hx, hrun, Result.andThen]
    exact hK' _ _ (h p c w (by simpa using hown) (World.grownBy.refl _ _) hB0)

theorem Fr.lit {B : Nat} (w : World) (xs : List Nat) (h : Lims xs) (hB : B ≤ w.heap.size) (hl : xs.length ≤ maxLen := by simp [maxLen]) : Fr B (w.alloc (.cells (xs.map fun x : Nat => Value.int .u32 (x : Int)).toArray 29)) (some ⟨w.heap.size, 0, none⟩) xs.length xs.length xs := by
  refine ⟨rfl, h, ?_⟩
  have := World.ownsRow_lit (base := B) (e := 29) (size := 1) w (xs.map fun x : Nat => Value.int .u32 (x : Int)).toArray xs.length hB hl (by simp)
  simpa using this

/-- 'copy(dst, src)', both of n limbs, dst the call's own. -/
theorem run_copy32 {w : World} (dT sT ty : TypeId) (hu : Try.prog.underlying dT = some (.slice 29))
    {g n c cs : Nat} {p : Option Addr} {B : Nat} {ys xs : List Nat} (hf : Fr B w (some ⟨g, 0, none⟩) n c ys) (hx : Sl w p n cs xs) {w0 : World} (hb : Below B w0 w) :
    ∃ w', (Builtin.copy_ #[dT, sT] ty #[.slice (some ⟨g, 0, none⟩) n c, .slice p n cs]).run Try.prog w = .ok (.int .i64 (n : Int)) w' ∧ Fr B w' (some ⟨g, 0, none⟩) n c xs ∧ Below B w0 w' ∧ w'.heap.size = w.heap.size := by
  have hsz : (Try.prog.info? 29).map (·.size) = some 1 := by kernel_rfl
  have hB := hf.block
  rcases Nat.eq_zero_or_pos n with rfl | h0
  · have e : xs = ys := by
      rw [List.eq_nil_of_length_eq_zero hx.len, List.eq_nil_of_length_eq_zero hf.len]
    subst e
    exact ⟨w, run_copy_none (P := Try.prog) w dT sT ty 29 _ _ _ _ _ _ hu hsz (by simp), hf, hb, rfl⟩
  · obtain ⟨b, off, rfl, _⟩ := hx.cell 0 h0
    rcases hf.own.2 with ⟨h1, _⟩ | ⟨g', cap, cur, h1, hbg, hg, hnc, hcm, hcz, ht⟩
    · simp at h1
    · simp only [Value.slice.injEq, Option.some.injEq, Addr.mk.injEq, and_true, true_and] at h1
      obtain ⟨rfl, rfl⟩ := h1
      have hl : (xs.map fun x : Nat => Value.int .u32 (x : Int)).length = n := by simp [hx.len]
      have hr := run_copy_row (P := Try.prog) w dT sT ty 29 g 0 n c ⟨b, off, none⟩ n cs cur 29 (xs.map fun x : Nat => Value.int .u32 (x : Int)) hu hsz hg (by simp [hx.len])
        (by
          intro j v hv
          have hj : j < n := by
            have := (List.getElem?_eq_some_iff.1 hv).1
            omega
          obtain ⟨b', off', hp, hc⟩ := hx.cell j hj
          simp only [Option.some.injEq, Addr.mk.injEq, and_true] at hp
          obtain ⟨rfl, rfl⟩ := hp
          rw [Addr.add_lit, hc]
          rw [← hv, nd_get (by rw [hx.len]; exact hj)]
          simp [hx.len, hj])
        (by rw [hl]; omega)
        (by
          intro u hu
          obtain ⟨_, _, rfl⟩ := List.mem_map.1 hu
          rfl)
      rw [hl] at hr
      refine ⟨_, hr, ⟨hx.len, hx.lims, by rw [hl]; omega, .inr ⟨g, c, _, rfl, hbg, setRow_heap w g cur _ _ _ hg, hnc, hcm, ?_, ?_⟩⟩, (below_setRow hb hbg _), (by simp [World.setRow])⟩
      · simp [hx.len]; omega
      · simp only [List.take_zero, List.nil_append]
        rw [List.take_append_of_le_length (by rw [hl]; omega), List.take_of_length_le (by rw [hl]; omega)]

def nmax (a b : Nat) : Nat := max a b
theorem nmax_le (a b : Nat) : a ≤ nmax a b ∧ b ≤ nmax a b := ⟨Nat.le_max_left _ _, Nat.le_max_right _ _⟩
theorem nmax_or (a b : Nat) : nmax a b = a ∨ nmax a b = b := by unfold nmax; omega
theorem nmax_bd {a b c : Nat} (h1 : a ≤ c) (h2 : b ≤ c) : nmax a b ≤ c := Nat.max_le.2 ⟨h1, h2⟩
theorem run_nmax (n m : Nat) (w : World) (ts : Array TypeId) (t : TypeId) : (Builtin.max_ ts t #[.int .i64 (n : Int), .int .i64 (m : Int)]).run Try.prog w = .ok (.int .i64 ((nmax n m : Nat) : Int)) w := by
  rw [run_max_int2]
  congr 2
  unfold nmax
  split <;> omega

theorem Sl.single (w : World) (s : Nat) (hs : s < 4294967296) : Sl (w.alloc (.cells #[.int .u32 (s : Int)] 29)) (some ⟨w.heap.size, 0, none⟩) 1 1 [s] := by
  refine ⟨rfl, Nat.le_refl _, by simp [maxLen], lims_single hs, (fun h => by cases h), fun i hi => ⟨w.heap.size, 0, rfl, ?_⟩⟩
  obtain rfl : i = 0 := by omega
  rw [World.cell?_alloc_new]; rfl

theorem Sl.lit (w : World) (xs : List Nat) (h : Lims xs) (hl : xs.length ≤ maxLen := by simp [maxLen]) : Sl (w.alloc (.cells (xs.map fun x : Nat => Value.int .u32 (x : Int)).toArray 29)) (some ⟨w.heap.size, 0, none⟩) xs.length xs.length xs := by
  refine ⟨rfl, Nat.le_refl _, hl, h, (fun h => by cases h), fun i hi => ⟨w.heap.size, 0, rfl, ?_⟩⟩
  rw [Nat.zero_add, World.cell?_alloc_new, nd_get hi]
  simp [hi]

def RetN (w : World) (xs : List Nat) (e : Ending) (w' : World) : Prop :=
  ∃ p n c, e = .returned (.slice p n c) ∧ Fr w.heap.size w' p n c xs ∧ Below w.heap.size w w'

def RetInt (w : World) (z : Int) (e : Ending) (w' : World) : Prop := e = .returned (.int .i64 z) ∧ Below w.heap.size w w'

def RetNE (w : World) (xs : List Nat) (E : Int) (e : Ending) (w' : World) : Prop :=
  ∃ p n c, e = .returned (.tuple #[.slice p n c, .int .i64 E]) ∧ Fr w.heap.size w' p n c xs ∧ Below w.heap.size w w'

theorem below_cell {B : Nat} {W w1 : World} (hb : Below B W w1) : (∀ b o, b < B → w1.cell? ⟨b, o, none⟩ = W.cell? ⟨b, o, none⟩) ∧ (∀ b o, b < B → w1.frozen? ⟨b, o, none⟩ = W.frozen? ⟨b, o, none⟩) :=
  ⟨fun b o h => hb.cell (p := ⟨b, o, none⟩) h, fun b o h => hb.frozen (p := ⟨b, o, none⟩) h⟩

end Go.Proofs.Ytlnilkghbbbhbaa
