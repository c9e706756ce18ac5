
/-
  Lists of fractions as they came in: the document's CopyAll, SameAll, AllMay.
-/
import Derived.Test.YtoinfkimlhhmpaaRatNeg
import Derived.Test.YtoinfkimlhhmpaaZRaw
set_option linter.unusedVariables false
set_option linter.unusedSimpArgs false
namespace Go.Proofs.Ytoinfkimlhhmpaa
open Go.RowKit

abbrev RawR := (Bool × List Nat) × (Bool × List Nat)
def rvr (e : RawR) : Int × Int := (zvr e.1, zvr e.2)
/-- A list of fractions: each part's sign and limbs; each of so many limbs at most. -/
def RL (w : World) (p : Option Addr) (m : Nat) (L : List RawR) (K : Nat) : Prop :=
  m = L.length ∧ m ≤ 1048576 ∧ ∀ i e, L[i]? = some e → ∃ g off q n k q2 n2 k2, p = some ⟨g, off, none⟩ ∧ (∀ j v, [Value.bool e.1.1, .slice q n k, .bool e.2.1, .slice q2 n2 k2][j]? = some v → w.cell? ⟨g, off + i * 4 + j, none⟩ = some v) ∧ Sl w q n k e.1.2 ∧ Sl w q2 n2 k2 e.2.2 ∧ n ≤ K ∧ n2 ≤ K
theorem RL.on {w w' : World} {p : Option Addr} {m K B : Nat} {L : List RawR} (h : RL w p m L K) (hb : Below B w w') (hB : w.heap.size ≤ B) : RL w' p m L K := by
  refine ⟨h.1, h.2.1, fun i z hi => ?_⟩
  obtain ⟨g, off, q, n, k, q2, n2, k2, hp, h1, h2, h3, h4⟩ := h.2.2 i z hi
  have hg : g < w.heap.size := World.block_lt_of_cell? w _ (h1 0 _ rfl)
  have he := hb.block g (by omega)
  exact ⟨g, off, q, n, k, q2, n2, k2, hp, fun j v hj => (World.cell?_of_block (w := w) he).trans (h1 j v hj), h2.below hb hB, h3.below hb hB, h4⟩
theorem RL.at {w w' : World} {R : List Res} {p : Option Addr} {m K : Nat} {L : List RawR} (h : RL w p m L K) (hS : Sep w R w') : RL w' p m L K := h.on hS.below (Nat.le_refl _)
theorem RL.rs {w : World} {p : Option Addr} {m K : Nat} {L : List RawR} (h : RL w p m L K) : Rs w p m (L.map rvr) K := by
  refine ⟨by rw [List.length_map]; exact h.1, h.2.1, fun i z hi => ?_⟩
  rw [List.getElem?_map] at hi
  rcases hL : L[i]? with _ | e
  · rw [hL] at hi; cases hi
  · rw [hL] at hi
    simp only [Option.map_some, Option.some.injEq] at hi
    subst hi
    obtain ⟨g, off, q, n, k, q2, n2, k2, hp, h1, h2, h3, h4, h5⟩ := h.2.2 i e hL
    exact ⟨g, off, _, q, n, k, _, q2, n2, k2, hp, h1, ⟨_, h2, rfl, h4⟩, ⟨_, h3, rfl, h5⟩⟩
theorem RL.el {w : World} {p : Option Addr} {m K : Nat} {L : List RawR} (h : RL w p m L K) {i : Nat} (hi : i < m) : ∃ e g off q n k q2 n2 k2, L[i]? = some e ∧ p = some ⟨g, off, none⟩ ∧ (∀ j v, [Value.bool e.1.1, .slice q n k, .bool e.2.1, .slice q2 n2 k2][j]? = some v → w.cell? ⟨g, off + i * 4 + j, none⟩ = some v) ∧ Sl w q n k e.1.2 ∧ Sl w q2 n2 k2 e.2.2 ∧ n ≤ K ∧ n2 ≤ K := by
  have hi' : i < L.length := by rw [← h.1]; exact hi
  obtain ⟨g, off, q, n, k, q2, n2, k2, r⟩ := h.2.2 i L[i] (List.getElem?_eq_getElem hi')
  exact ⟨_, g, off, q, n, k, q2, n2, k2, List.getElem?_eq_getElem hi', r⟩
/-- A fraction as it is, as an element of a list of one's own. -/
def elQ (e : RawR) (p : Option Addr) (n c : Nat) (q : Option Addr) (m d : Nat) : El := ⟨[.bool e.1.1, .slice p n c, .bool e.2.1, .slice q m d], [.rowm p n c e.1.2, .rowm q m d e.2.2]⟩
def QEls (L : List RawR) (i : Nat) (es : List El) : Prop := ∀ j e, j < i → L[j]? = some e → ∃ p n c q m d, es[j]? = some (elQ e p n c q m d)
theorem QEls.put {L : List RawR} {i : Nat} {es : List El} (h : QEls L i es) (hi : i < es.length) {e : RawR} (hL : L[i]? = some e) (p : Option Addr) (n c : Nat) (q : Option Addr) (m d : Nat) : QEls L (i + 1) (es.set i (elQ e p n c q m d)) := by
  intro j e' hj hj'
  by_cases hij : j = i
  · subst hij
    rw [hL] at hj'
    obtain rfl := Option.some.inj hj'
    exact ⟨p, n, c, q, m, d, by rw [List.getElem?_set_self hi]⟩
  · obtain ⟨p', n', c', q', m', d', h'⟩ := h j e' (by omega) hj'
    exact ⟨p', n', c', q', m', d', by rw [List.getElem?_set_ne (fun h => hij h.symm)]; exact h'⟩
/-- A list of one's own, as L. -/
def QLt (L : List RawR) (m : Nat) : Tell := fun v r => ∃ g es, QEls L m es ∧ v = .slice (some ⟨g, 0, none⟩) m m ∧ r = [.lst 27 4 (some ⟨g, 0, none⟩) m m es]
theorem RL.bd {w : World} {p : Option Addr} {m K : Nat} {L : List RawR} (h : RL w p m L K) : ∀ e ∈ L, e.1.2.length ≤ K ∧ e.2.2.length ≤ K := by
  intro e he
  obtain ⟨i, hi⟩ := List.mem_iff_getElem?.1 he
  obtain ⟨g, off, q, n, k, q2, n2, k2, hp, h1, h2, h3, h4, h5⟩ := h.2.2 i e hi
  rw [h2.len, h3.len]; exact ⟨h4, h5⟩
theorem Sep.rl {w0 w : World} {R : List Res} (hS : Sep w0 R w) (k : Nat) {g m K : Nat} {es : List El} {L : List RawR} (hk : R[k]? = some (.lst 27 4 (some ⟨g, 0, none⟩) m m es)) (hz : QEls L m es) (hL : m = L.length) (hm : m ≤ 1048576) (hK : ∀ e ∈ L, e.1.2.length ≤ K ∧ e.2.2.length ≤ K) : RL w (some ⟨g, 0, none⟩) m L K := by
  refine ⟨hL, hm, fun i e hi => ?_⟩
  have hil := (List.getElem?_eq_some_iff.1 hi).1
  obtain ⟨p, n, c, q, m2, d, he⟩ := hz i e (by omega) hi
  obtain ⟨g', hg, hc, hr⟩ := hS.lstCell k hk he (by omega)
  simp only [Option.some.injEq, Addr.mk.injEq, and_true] at hg
  subst hg
  have hf : Fr 0 w p n c e.1.2 := hr (.rowm p n c e.1.2) List.mem_cons_self
  have hf2 : Fr 0 w q m2 d e.2.2 := hr (.rowm q m2 d e.2.2) (List.mem_cons_of_mem _ List.mem_cons_self)
  have hb := hK e (List.mem_of_getElem? hi)
  refine ⟨g, 0, p, n, c, q, m2, d, rfl, hc, hf.sl, hf2.sl, ?_, ?_⟩
  · rw [← hf.len]; exact hb.1
  · rw [← hf2.len]; exact hb.2

set_option maxRecDepth 100000 in
set_option maxHeartbeats 16000000 in
theorem wsCopyAll {L : List RawR} {w : World} {pl : Option Addr} {m cl : Nat} (hx : RL w pl m L 67108864) :
    Calls Try.prog 17 #[.slice pl m cl] w (Ret (QLt L m) w) := by
  have hS := Sep.init w
  refine went Try.func17 rfl (n := 23) rfl rfl ?_
  refine wseq ?_
  refine wreg ?_
  refine wl rfl (oassign (v := .slice none 0 0) rfl rfl (evc (v := .slice none 0 0)) ?_)
  refine wnil ?_
  refine thenN ?_
  refine wseq ?_
  refine wreg ?_
  refine wl rfl (omove (v := .slice pl m cl) rfl rfl (ev (v := .slice pl m cl) rfl rfl) ?_)
  refine wl rfl (olen rfl rfl rfl Try.runUnderlying38 (p := pl) (k := m) (m := cl) (ev (v := .slice pl m cl) rfl rfl) ?_)
  refine wl rfl (omakeL (zs := [.bool false, .slice none 0 0, .bool false, .slice none 0 0]) (k := m) (m := m) hS rfl rfl Try.underlying38 infoRat rfl rfl (by decide) rfl (ev (v := .int .i64 (((m : Nat) : Int))) rfl rfl) (ev (v := .int .i64 (((m : Nat) : Int))) rfl rfl) (by omega) (by have := hx.2.1; omega) (by have := hx.2.1; omega) ?_)
  clear hS; intro g1 w2 hS
  refine wl rfl (oassign (v := .slice (some ⟨g1, 0, none⟩) m m) rfl rfl (ev (v := .slice (some ⟨g1, 0, none⟩) m m) rfl rfl) ?_)
  refine wnil ?_
  refine thenN ?_
  refine wseq ?_
  refine wseq ?_
  refine wreg ?_
  refine wl rfl (omove (v := .slice pl m cl) rfl rfl (ev (v := .slice pl m cl) rfl rfl) ?_)
  refine wl rfl (olen rfl rfl rfl Try.runUnderlying38 (p := pl) (k := m) (m := cl) (ev (v := .slice pl m cl) rfl rfl) ?_)
  refine wl rfl (omove (v := .int .i64 0) rfl rfl (evc (v := .int .i64 0)) ?_)
  refine wnil ?_
  refine thenN ?_
  refine wblock ?_
  refine wloop (σ := Nat) (fun i a w' => ∃ (fb : Nat → Value) (es : List El), a = act 23 (sets fb [(2, .slice none 0 0), (3, .slice (some ⟨g1, 0, none⟩) m m), (9, .slice pl m cl), (10, .int .i64 (((m : Nat) : Int))), (11, .int .i64 (((i : Nat) : Int)))]) ∧ Sep w [.lst 27 4 (some ⟨g1, 0, none⟩) m m es] w' ∧ (i ≤ m) ∧ (QEls L i es) ∧ (es.length = m)) (fun i => m - i) (0) ⟨_, _, act_sets (l := [(2, .slice none 0 0), (3, .slice (some ⟨g1, 0, none⟩) m m), (9, .slice pl m cl), (10, .int .i64 (((m : Nat) : Int))), (11, .int .i64 0)]) ⟨rfl, rfl, rfl, rfl, rfl, trivial⟩, hS, Nat.zero_le _, fun j e h => by omega, by simp⟩ ?_
  clear hS; rintro i _ w3 ⟨fb, es, rfl, hS, hi, hes, hls⟩
  refine wseq ?_
  refine wreg ?_
  by_cases hlt : i < m
  ·
    refine wl rfl (obin (u := .int .i64 (((i : Nat) : Int))) (v := .int .i64 (((m : Nat) : Int))) (z := .bool true) rfl rfl (ev (v := .int .i64 (((i : Nat) : Int))) rfl rfl) (ev (v := .int .i64 (((m : Nat) : Int))) rfl rfl) (bin_lss (decide_eq_true (by omega))) ?_)
    refine wnil ?_
    refine thenN ?_
    refine wseq ?_
    refine wT (ev (v := .bool true) rfl rfl) ?_
    refine wskip ?_
    refine thenN ?_
    refine wseq ?_
    refine wblock ?_
    refine wseq ?_
    refine wreg ?_
    refine wl rfl (omove (v := .int .i64 (((i : Nat) : Int))) rfl rfl (ev (v := .int .i64 (((i : Nat) : Int))) rfl rfl) ?_)
    obtain ⟨e1, g1x, o1, qx, nx, kx, qy, ny, ky, hle, hp1, hc1, hs1, hs2, hn1, hn2⟩ := hx.el hlt
    refine wl rfl (oindex (p := pl) (g := g1x) (off := o1) (m := m) (k := i) (j := (o1 + i * 4)) rfl rfl Try.runUnderlying38 Try.sizeOf27 (ev (v := .slice pl m cl) rfl rfl) (hp1) (ev (v := .int .i64 (((i : Nat) : Int))) rfl rfl) (hlt) rfl ?_)
    refine wl rfl (oloadA (vs := [.bool e1.1.1, .slice qx nx kx, .bool e1.2.1, .slice qy ny ky]) aggR rfl rfl (ev (v := .pointer (some ⟨g1x, (o1 + i * 4), none⟩)) rfl rfl) (fun j v hj => hS.cellAt (hc1 j v hj)) rfl ?_)
    refine wl rfl (oalloc [.bool false, .slice none 0 0, .bool false, .slice none 0 0] hS rfl rfl Try.zeroValue27 rfl ?_)
    clear hS; intro g4 w5 hS
    refine wl rfl (oassign (v := .int .i64 (((i : Nat) : Int))) rfl rfl (ev (v := .int .i64 (((i : Nat) : Int))) rfl rfl) ?_)
    refine wl rfl (ostore [.bool e1.1.1, .slice qx nx kx, .bool e1.2.1, .slice qy ny ky] [.bool e1.1.1, .slice qx nx kx, .bool e1.2.1, .slice qy ny ky] Try.sizeOf27 hS 0 rfl rfl (ev rfl rfl) (ev (v := .agg #[.bool e1.1.1, .slice qx nx kx, .bool e1.2.1, .slice qy ny ky]) rfl rfl) rfl rfl rfl rfl rfl rfl ?_)
    clear hS; intro w6 hS
    refine wnil ?_
    refine thenN ?_
    refine wreg ?_
    refine wl rfl (omove (v := .slice (some ⟨g1, 0, none⟩) m m) rfl rfl (ev (v := .slice (some ⟨g1, 0, none⟩) m m) rfl rfl) ?_)
    refine wl rfl (omove (v := .int .i64 (((i : Nat) : Int))) rfl rfl (ev (v := .int .i64 (((i : Nat) : Int))) rfl rfl) ?_)
    refine wl rfl (oload (vs := [.bool e1.1.1, .slice qx nx kx, .bool e1.2.1, .slice qy ny ky]) aggR hS 0 rfl rfl (ev rfl rfl) rfl rfl rfl ?_)
    refine wl rfl (ocall rfl rfl Try.call26 rfl (wscopy (hs1.below hS.below (Nat.le_refl _)) (hs2.below hS.below (Nat.le_refl _)) (by omega) (by omega)) (args1 (ev rfl rfl)) ?_)
    rintro _ w7 ⟨_, _, rfl, ⟨pc, cc, pd, cd, rfl, rfl⟩, hN⟩
    refine ⟨_, rfl, ?_⟩
    replace hS := hS.news hN; clear hN
    refine wl rfl (oindex (p := (some ⟨g1, 0, none⟩)) (g := g1) (off := 0) (m := m) (k := i) (j := (0 + i * 4)) rfl rfl Try.runUnderlying38 Try.sizeOf27 (ev (v := .slice (some ⟨g1, 0, none⟩) m m) rfl rfl) (rfl) (ev (v := .int .i64 (((i : Nat) : Int))) rfl rfl) (hlt) rfl ?_)
    obtain hS := (show Sep w [.rowm pc nx cc e1.1.2, .rowm pd ny cd e1.2.2, .lst 27 4 (some ⟨g1, 0, none⟩) m m es, .blk g4 [.bool e1.1.1, .slice qx nx kx, .bool e1.2.1, .slice qy ny ky] 27] w7 from hS.pick [0, 1, 3, 2] (by decide) rfl)
    refine wl rfl (ostoreL (i := i) (g := g1) [.bool e1.1.1, .slice pc nx cc, .bool e1.2.1, .slice pd ny cd] [.rowm pc nx cc e1.1.2, .rowm pd ny cd e1.2.2] Try.sizeOf27 hS rfl rfl (ev (v := .pointer (some ⟨g1, (0 + i * 4), none⟩)) rfl rfl) (ev (v := .agg #[.bool e1.1.1, .slice pc nx cc, .bool e1.2.1, .slice pd ny cd]) rfl rfl) (rfl) rfl rfl rfl rfl (hlt) rfl ?_)
    clear hS; intro w8 hS
    refine wnil ?_
    refine blkN ?_
    refine thenN ?_
    refine wreg ?_
    refine wl rfl (obin (u := .int .i64 (((i : Nat) : Int))) (v := .int .i64 1) (z := .int .i64 (((i + 1 : Nat) : Int))) rfl rfl (ev (v := .int .i64 (((i : Nat) : Int))) rfl rfl) (evc (v := .int .i64 1)) (bin_add (wrap_succ (by have := hx.2.1; omega))) ?_)
    refine wl rfl (omove (v := .int .i64 (((i + 1 : Nat) : Int))) rfl rfl (ev (v := .int .i64 (((i + 1 : Nat) : Int))) rfl rfl) ?_)
    refine wnil ?_
    refine thenN ?_
    exact ⟨(i + 1), ⟨_, _, act_sets (l := [(2, .slice none 0 0), (3, .slice (some ⟨g1, 0, none⟩) m m), (9, .slice pl m cl), (10, .int .i64 (((m : Nat) : Int))), (11, .int .i64 (((i + 1 : Nat) : Int)))]) ⟨rfl, rfl, rfl, rfl, rfl, trivial⟩, hS.pick [0] (by decide) rfl, by omega, hes.put (by rw [hls]; exact hlt) hle _ _ _ _ _ _, by rw [List.length_set]; exact hls⟩, by omega⟩
  ·
    refine wl rfl (obin (u := .int .i64 (((i : Nat) : Int))) (v := .int .i64 (((m : Nat) : Int))) (z := .bool false) rfl rfl (ev (v := .int .i64 (((i : Nat) : Int))) rfl rfl) (ev (v := .int .i64 (((m : Nat) : Int))) rfl rfl) (bin_lss (decide_eq_false (by omega))) ?_)
    refine wnil ?_
    refine thenN ?_
    refine wseq ?_
    refine wF (ev (v := .bool false) rfl rfl) ?_
    refine wexit ?_
    refine thenE ?_
    refine thenE ?_
    refine blkE ?_
    refine thenN ?_
    refine wseq ?_
    refine wreg ?_
    refine wl rfl (omove (v := .slice (some ⟨g1, 0, none⟩) m m) rfl rfl (ev (v := .slice (some ⟨g1, 0, none⟩) m m) rfl rfl) ?_)
    refine wl rfl (oassign (v := .slice (some ⟨g1, 0, none⟩) m m) rfl rfl (ev (v := .slice (some ⟨g1, 0, none⟩) m m) rfl rfl) ?_)
    refine wnil ?_
    refine thenN ?_
    refine wleave ?_
    have him : i = m := by omega
    rw [him] at hes
    refine wret1 Try.results17 (tellT (v := .slice (some ⟨g1, 0, none⟩) m m) rfl rfl) ?_
    exact ⟨_, _, rfl, ⟨_, _, hes, rfl, rfl⟩, hS.newR 0 rfl rfl⟩

set_option maxRecDepth 100000 in
set_option maxHeartbeats 16000000 in
theorem wsSameAll {L : List RawR} {w : World} {pl pk : Option Addr} {m cl ck : Nat} (hx : RL w pl m L 67108864) (hy : RL w pk m L 67108864) :
    Calls Try.prog 20 #[.slice pl m cl, .slice pk m ck] w (Ret (Is (.bool true)) w) := by
  have hS := Sep.init w
  refine went Try.func20 rfl (n := 27) rfl rfl ?_
  refine wseq ?_
  refine wreg ?_
  refine wl rfl (oassign (v := .bool false) rfl rfl (evc (v := .bool false)) ?_)
  refine wnil ?_
  refine thenN ?_
  refine wseq ?_
  refine wseq ?_
  refine wreg ?_
  refine wl rfl (omove (v := .slice pl m cl) rfl rfl (ev (v := .slice pl m cl) rfl rfl) ?_)
  refine wl rfl (olen rfl rfl rfl Try.runUnderlying38 (p := pl) (k := m) (m := cl) (ev (v := .slice pl m cl) rfl rfl) ?_)
  refine wl rfl (omove (v := .slice pk m ck) rfl rfl (ev (v := .slice pk m ck) rfl rfl) ?_)
  refine wl rfl (olen rfl rfl rfl Try.runUnderlying38 (p := pk) (k := m) (m := ck) (ev (v := .slice pk m ck) rfl rfl) ?_)
  refine wl rfl (obin (u := .int .i64 (((m : Nat) : Int))) (v := .int .i64 (((m : Nat) : Int))) (z := .bool false) rfl rfl (ev (v := .int .i64 (((m : Nat) : Int))) rfl rfl) (ev (v := .int .i64 (((m : Nat) : Int))) rfl rfl) (bin_neq (neF rfl)) ?_)
  refine wnil ?_
  refine thenN ?_
  refine wF (ev (v := .bool false) rfl rfl) ?_
  refine wskip ?_
  refine thenN ?_
  refine wseq ?_
  refine wseq ?_
  refine wreg ?_
  refine wl rfl (omove (v := .slice pl m cl) rfl rfl (ev (v := .slice pl m cl) rfl rfl) ?_)
  refine wl rfl (olen rfl rfl rfl Try.runUnderlying38 (p := pl) (k := m) (m := cl) (ev (v := .slice pl m cl) rfl rfl) ?_)
  refine wl rfl (omove (v := .int .i64 0) rfl rfl (evc (v := .int .i64 0)) ?_)
  refine wnil ?_
  refine thenN ?_
  refine wblock ?_
  refine wloop (σ := Nat) (fun i a w' => ∃ (fb : Nat → Value), a = act 27 (sets fb [(0, .slice pl m cl), (1, .slice pk m ck), (12, .int .i64 (((m : Nat) : Int))), (13, .int .i64 (((i : Nat) : Int)))]) ∧ Sep w [] w' ∧ (i ≤ m)) (fun i => m - i) (0) ⟨_, act_sets (l := [(0, .slice pl m cl), (1, .slice pk m ck), (12, .int .i64 (((m : Nat) : Int))), (13, .int .i64 0)]) ⟨rfl, rfl, rfl, rfl, trivial⟩, hS, Nat.zero_le _⟩ ?_
  clear hS; rintro i _ w1 ⟨fb, rfl, hS, hi⟩
  refine wseq ?_
  refine wreg ?_
  by_cases hlt : i < m
  ·
    refine wl rfl (obin (u := .int .i64 (((i : Nat) : Int))) (v := .int .i64 (((m : Nat) : Int))) (z := .bool true) rfl rfl (ev (v := .int .i64 (((i : Nat) : Int))) rfl rfl) (ev (v := .int .i64 (((m : Nat) : Int))) rfl rfl) (bin_lss (decide_eq_true (by omega))) ?_)
    refine wnil ?_
    refine thenN ?_
    refine wseq ?_
    refine wT (ev (v := .bool true) rfl rfl) ?_
    refine wskip ?_
    refine thenN ?_
    refine wseq ?_
    refine wblock ?_
    refine wseq ?_
    refine wreg ?_
    refine wl rfl (omove (v := .int .i64 (((i : Nat) : Int))) rfl rfl (ev (v := .int .i64 (((i : Nat) : Int))) rfl rfl) ?_)
    refine wl rfl (oassign (v := .int .i64 (((i : Nat) : Int))) rfl rfl (ev (v := .int .i64 (((i : Nat) : Int))) rfl rfl) ?_)
    refine wnil ?_
    refine thenN ?_
    refine wseq ?_
    obtain ⟨e1, g1x, o1, qx, nx, kx, qy, ny, ky, hle, hp1, hc1, hs1, hs2, hn1, hn2⟩ := hx.el hlt
    obtain ⟨e2, g2x, o2, px, mx, dx, py, my, dy, hle2, hp2, hc2, hs3, hs4, hn3, hn4⟩ := hy.el hlt
    obtain rfl : e1 = e2 := Option.some.inj (hle.symm.trans hle2)
    refine wstage 10 [16, 17, 18, 19, 20, 21, 22, 23, 24, 25] [[], [], [0, 1], [2, 0, 1], [], [], [4, 5], [6, 4, 5], [3, 7, 0, 1, 2, 4, 5, 6], [8, 0, 1, 2, 3, 4, 5, 6, 7]] [[], [], [], [], [], [], [], [], [], []] [] [] (fun i9 => ([fun _ => Is (.slice pl m cl), fun _ => Is (.int .i64 (((i : Nat) : Int))), fun _ => Is (.pointer (some ⟨g1x, (o1 + i * 4), none⟩)), fun _ => Is (.agg #[.bool e1.1.1, .slice qx nx kx, .bool e1.2.1, .slice qy ny ky]), fun _ => Is (.slice pk m ck), fun _ => Is (.int .i64 (((i : Nat) : Int))), fun _ => Is (.pointer (some ⟨g2x, (o2 + i * 4), none⟩)), fun _ => Is (.agg #[.bool e1.1.1, .slice px mx dx, .bool e1.2.1, .slice py my dy]), fun _ => Is (.bool true), fun _ => Is (.bool false)] : List (List Value → Tell)).getD i9 (fun _ _ _ => False)) (heldNil) (fun d _ _ _ _ h => (by cases d <;> exact h)) (by kernel_rfl) (by kernel_rfl) (by kernel_rfl) hS ?_ ?_
    ·
      refine stepsCons rfl ?_ ?_
      · intro Q f' w' ρ S ho hT hS hB
        exact .inl ⟨want_none rfl, omove (v := .slice pl m cl) rfl rfl (ev (v := .slice pl m cl) rfl (ho 0 rfl)) ⟨_, _, rfl, isI, New.same _⟩⟩
      refine stepsCons rfl ?_ ?_
      · intro Q f' w' ρ S ho hT hS hB
        exact .inl ⟨want_none rfl, omove (v := .int .i64 (((i : Nat) : Int))) rfl rfl (ev (v := .int .i64 (((i : Nat) : Int))) rfl (ho 5 rfl)) ⟨_, _, rfl, isI, New.same _⟩⟩
      refine stepsCons rfl ?_ ?_
      · intro Q f' w' ρ S ho hT hS hB
        obtain ⟨hv0, hr0⟩ := (hT 0 16 rfl rfl : (Is (.slice pl m cl)) (f' 16) (ρ 0))
        obtain ⟨hv1, hr1⟩ := (hT 1 17 rfl rfl : (Is (.int .i64 (((i : Nat) : Int)))) (f' 17) (ρ 1))
        obtain hS := hS.flat2 hr0 hr1
        exact .inl ⟨want_none rfl, oindex (p := pl) (g := g1x) (off := o1) (m := m) (k := i) (j := (o1 + i * 4)) rfl rfl Try.runUnderlying38 Try.sizeOf27 (ev (v := .slice pl m cl) rfl hv0) (hp1) (ev (v := .int .i64 (((i : Nat) : Int))) rfl hv1) (hlt) rfl ⟨_, _, rfl, isI, New.same _⟩⟩
      refine stepsCons rfl ?_ ?_
      · intro Q f' w' ρ S ho hT hS hB
        obtain ⟨hv2, hr2⟩ := (hT 2 18 rfl rfl : (Is (.pointer (some ⟨g1x, (o1 + i * 4), none⟩))) (f' 18) (ρ 2))
        obtain hS := hS.flat1 hr2
        exact .inl ⟨want_none rfl, oloadA (vs := [.bool e1.1.1, .slice qx nx kx, .bool e1.2.1, .slice qy ny ky]) aggR rfl rfl (ev (v := .pointer (some ⟨g1x, (o1 + i * 4), none⟩)) rfl hv2) (fun j v hj => hS.cellAt (hc1 j v hj)) rfl ⟨_, _, rfl, isI, New.same _⟩⟩
      refine stepsCons rfl ?_ ?_
      · intro Q f' w' ρ S ho hT hS hB
        exact .inl ⟨want_none rfl, omove (v := .slice pk m ck) rfl rfl (ev (v := .slice pk m ck) rfl (ho 1 rfl)) ⟨_, _, rfl, isI, New.same _⟩⟩
      refine stepsCons rfl ?_ ?_
      · intro Q f' w' ρ S ho hT hS hB
        exact .inl ⟨want_none rfl, omove (v := .int .i64 (((i : Nat) : Int))) rfl rfl (ev (v := .int .i64 (((i : Nat) : Int))) rfl (ho 5 rfl)) ⟨_, _, rfl, isI, New.same _⟩⟩
      refine stepsCons rfl ?_ ?_
      · intro Q f' w' ρ S ho hT hS hB
        obtain ⟨hv4, hr4⟩ := (hT 4 20 rfl rfl : (Is (.slice pk m ck)) (f' 20) (ρ 4))
        obtain ⟨hv5, hr5⟩ := (hT 5 21 rfl rfl : (Is (.int .i64 (((i : Nat) : Int)))) (f' 21) (ρ 5))
        obtain hS := hS.flat2 hr4 hr5
        exact .inl ⟨want_none rfl, oindex (p := pk) (g := g2x) (off := o2) (m := m) (k := i) (j := (o2 + i * 4)) rfl rfl Try.runUnderlying38 Try.sizeOf27 (ev (v := .slice pk m ck) rfl hv4) (hp2) (ev (v := .int .i64 (((i : Nat) : Int))) rfl hv5) (hlt) rfl ⟨_, _, rfl, isI, New.same _⟩⟩
      refine stepsCons rfl ?_ ?_
      · intro Q f' w' ρ S ho hT hS hB
        obtain ⟨hv6, hr6⟩ := (hT 6 22 rfl rfl : (Is (.pointer (some ⟨g2x, (o2 + i * 4), none⟩))) (f' 22) (ρ 6))
        obtain hS := hS.flat1 hr6
        exact .inl ⟨want_none rfl, oloadA (vs := [.bool e1.1.1, .slice px mx dx, .bool e1.2.1, .slice py my dy]) aggR rfl rfl (ev (v := .pointer (some ⟨g2x, (o2 + i * 4), none⟩)) rfl hv6) (fun j v hj => hS.cellAt (hc2 j v hj)) rfl ⟨_, _, rfl, isI, New.same _⟩⟩
      refine stepsCons rfl ?_ ?_
      · intro Q f' w' ρ S ho hT hS hB
        obtain ⟨hv3, hr3⟩ := (hT 3 19 rfl rfl : (Is (.agg #[.bool e1.1.1, .slice qx nx kx, .bool e1.2.1, .slice qy ny ky])) (f' 19) (ρ 3))
        obtain ⟨hv7, hr7⟩ := (hT 7 23 rfl rfl : (Is (.agg #[.bool e1.1.1, .slice px mx dx, .bool e1.2.1, .slice py my dy])) (f' 23) (ρ 7))
        obtain hS := hS.flat2 hr3 hr7
        refine .inl ⟨want_none rfl, ocall rfl rfl Try.call58 rfl (wssameX (hs1.below hS.below (Nat.le_refl _)) (hs2.below hS.below (Nat.le_refl _)) (hs3.below hS.below (Nat.le_refl _)) (hs4.below hS.below (Nat.le_refl _))) (args2 (ev rfl hv3) (ev rfl hv7)) ?_⟩
        rintro _ w9 ⟨_, _, rfl, hTT, hN⟩
        exact ⟨_, rfl, _, _, rfl, hTT, hN⟩
      refine stepsCons rfl ?_ ?_
      · intro Q f' w' ρ S ho hT hS hB
        obtain ⟨hv8, hr8⟩ := (hT 8 24 rfl rfl : (Is (.bool true)) (f' 24) (ρ 8))
        obtain hS := hS.flat1 hr8
        exact .inl ⟨want_none rfl, onot (b := true) rfl rfl (ev (v := .bool true) rfl hv8) ⟨_, _, rfl, isI, New.same _⟩⟩
      exact stepsNil
    ·
      intro vs ρ w2 f' hf hT hS
      obtain ⟨hv0, hr0⟩ := (hT 0 (by decide) : (Is (.slice pl m cl)) (vs 0) (ρ 0))
      obtain ⟨hv1, hr1⟩ := (hT 1 (by decide) : (Is (.int .i64 (((i : Nat) : Int)))) (vs 1) (ρ 1))
      obtain ⟨hv2, hr2⟩ := (hT 2 (by decide) : (Is (.pointer (some ⟨g1x, (o1 + i * 4), none⟩))) (vs 2) (ρ 2))
      obtain ⟨hv3, hr3⟩ := (hT 3 (by decide) : (Is (.agg #[.bool e1.1.1, .slice qx nx kx, .bool e1.2.1, .slice qy ny ky])) (vs 3) (ρ 3))
      obtain ⟨hv4, hr4⟩ := (hT 4 (by decide) : (Is (.slice pk m ck)) (vs 4) (ρ 4))
      obtain ⟨hv5, hr5⟩ := (hT 5 (by decide) : (Is (.int .i64 (((i : Nat) : Int)))) (vs 5) (ρ 5))
      obtain ⟨hv6, hr6⟩ := (hT 6 (by decide) : (Is (.pointer (some ⟨g2x, (o2 + i * 4), none⟩))) (vs 6) (ρ 6))
      obtain ⟨hv7, hr7⟩ := (hT 7 (by decide) : (Is (.agg #[.bool e1.1.1, .slice px mx dx, .bool e1.2.1, .slice py my dy])) (vs 7) (ρ 7))
      obtain ⟨hv8, hr8⟩ := (hT 8 (by decide) : (Is (.bool true)) (vs 8) (ρ 8))
      obtain ⟨hv9, hr9⟩ := (hT 9 (by decide) : (Is (.bool false)) (vs 9) (ρ 9))
      simp only [pool, if_true, hr0, hr1, hr2, hr3, hr4, hr5, hr6, hr7, hr8, hr9, List.nil_append, List.cons_append, List.append_nil] at hS
      simp only [layf, hv0, hv1, hv2, hv3, hv4, hv5, hv6, hv7, hv8, hv9] at hf
      subst hf; clear hT hv0 hv1 hv2 hv3 hv4 hv5 hv6 hv7 hv8 hv9 hr0 hr1 hr2 hr3 hr4 hr5 hr6 hr7 hr8 hr9
      refine wdone rfl ?_
      refine thenN ?_
      refine wF (ev (v := .bool false) rfl rfl) ?_
      refine wskip ?_
      refine blkN ?_
      refine thenN ?_
      refine wreg ?_
      refine wl rfl (obin (u := .int .i64 (((i : Nat) : Int))) (v := .int .i64 1) (z := .int .i64 (((i + 1 : Nat) : Int))) rfl rfl (ev (v := .int .i64 (((i : Nat) : Int))) rfl rfl) (evc (v := .int .i64 1)) (bin_add (wrap_succ (by have := hx.2.1; omega))) ?_)
      refine wl rfl (omove (v := .int .i64 (((i + 1 : Nat) : Int))) rfl rfl (ev (v := .int .i64 (((i + 1 : Nat) : Int))) rfl rfl) ?_)
      refine wnil ?_
      refine thenN ?_
      exact ⟨(i + 1), ⟨_, act_sets (l := [(0, .slice pl m cl), (1, .slice pk m ck), (12, .int .i64 (((m : Nat) : Int))), (13, .int .i64 (((i + 1 : Nat) : Int)))]) ⟨rfl, rfl, rfl, rfl, trivial⟩, hS.pick [] (by decide) rfl, by omega⟩, by omega⟩
  ·
    refine wl rfl (obin (u := .int .i64 (((i : Nat) : Int))) (v := .int .i64 (((m : Nat) : Int))) (z := .bool false) rfl rfl (ev (v := .int .i64 (((i : Nat) : Int))) rfl rfl) (ev (v := .int .i64 (((m : Nat) : Int))) rfl rfl) (bin_lss (decide_eq_false (by omega))) ?_)
    refine wnil ?_
    refine thenN ?_
    refine wseq ?_
    refine wF (ev (v := .bool false) rfl rfl) ?_
    refine wexit ?_
    refine thenE ?_
    refine thenE ?_
    refine blkE ?_
    refine thenN ?_
    refine wseq ?_
    refine wreg ?_
    refine wl rfl (oassign (v := .bool true) rfl rfl (evc (v := .bool true)) ?_)
    refine wnil ?_
    refine thenN ?_
    refine wleave ?_
    refine wret1 Try.results20 (tellT (v := .bool true) rfl rfl) ?_
    exact ⟨_, _, rfl, isI, hS.new0⟩

set_option maxRecDepth 100000 in
set_option maxHeartbeats 16000000 in
theorem wsAllMay {L : List (Int × Int)} {w : World} {pl : Option Addr} {m cl : Nat} (hl : Rs w pl m L 67108864) (hall : ∀ e ∈ L, e.2 ≠ 0) :
    Calls Try.prog 21 #[.slice pl m cl] w (Ret (Is (.bool true)) w) := by
  have hS := Sep.init w
  refine went Try.func21 rfl (n := 15) rfl rfl ?_
  refine wseq ?_
  refine wreg ?_
  refine wl rfl (oassign (v := .bool false) rfl rfl (evc (v := .bool false)) ?_)
  refine wnil ?_
  refine thenN ?_
  refine wseq ?_
  refine wseq ?_
  refine wreg ?_
  refine wl rfl (omove (v := .slice pl m cl) rfl rfl (ev (v := .slice pl m cl) rfl rfl) ?_)
  refine wl rfl (olen rfl rfl rfl Try.runUnderlying38 (p := pl) (k := m) (m := cl) (ev (v := .slice pl m cl) rfl rfl) ?_)
  refine wl rfl (omove (v := .int .i64 0) rfl rfl (evc (v := .int .i64 0)) ?_)
  refine wnil ?_
  refine thenN ?_
  refine wblock ?_
  refine wloop (σ := Nat) (fun i a w' => ∃ (fb : Nat → Value), a = act 15 (sets fb [(5, .slice pl m cl), (6, .int .i64 (((m : Nat) : Int))), (7, .int .i64 (((i : Nat) : Int)))]) ∧ Sep w [] w' ∧ (i ≤ m) ∧ (∀ j e, j < i → L[j]? = some e → e.2 ≠ 0)) (fun i => m - i) (0) ⟨_, act_sets (l := [(5, .slice pl m cl), (6, .int .i64 (((m : Nat) : Int))), (7, .int .i64 0)]) ⟨rfl, rfl, rfl, trivial⟩, hS, Nat.zero_le _, fun j e h => by omega⟩ ?_
  clear hS; rintro i _ w1 ⟨fb, rfl, hS, hi, hs⟩
  refine wseq ?_
  refine wreg ?_
  by_cases hlt : i < m
  ·
    refine wl rfl (obin (u := .int .i64 (((i : Nat) : Int))) (v := .int .i64 (((m : Nat) : Int))) (z := .bool true) rfl rfl (ev (v := .int .i64 (((i : Nat) : Int))) rfl rfl) (ev (v := .int .i64 (((m : Nat) : Int))) rfl rfl) (bin_lss (decide_eq_true (by omega))) ?_)
    refine wnil ?_
    refine thenN ?_
    refine wseq ?_
    refine wT (ev (v := .bool true) rfl rfl) ?_
    refine wskip ?_
    refine thenN ?_
    refine wseq ?_
    refine wblock ?_
    refine wseq ?_
    refine wreg ?_
    obtain ⟨e1, g1x, o1, bx, qx, nx, kx, by1, qy, ny, ky, hle, hp1, hc1, hzx, hzy⟩ := hl.el hlt
    refine wl rfl (oindex (p := pl) (g := g1x) (off := o1) (m := m) (k := i) (j := (o1 + i * 4)) rfl rfl Try.runUnderlying38 Try.sizeOf27 (ev (v := .slice pl m cl) rfl rfl) (hp1) (ev (v := .int .i64 (((i : Nat) : Int))) rfl rfl) (hlt) rfl ?_)
    refine wl rfl (oloadA (vs := [.bool bx, .slice qx nx kx, .bool by1, .slice qy ny ky]) aggR rfl rfl (ev (v := .pointer (some ⟨g1x, (o1 + i * 4), none⟩)) rfl rfl) (fun j v hj => hS.cellAt (hc1 j v hj)) rfl ?_)
    refine wl rfl (oalloc [.bool false, .slice none 0 0, .bool false, .slice none 0 0] hS rfl rfl Try.zeroValue27 rfl ?_)
    clear hS; intro g2 w3 hS
    refine wl rfl (ostore [.bool bx, .slice qx nx kx, .bool by1, .slice qy ny ky] [.bool bx, .slice qx nx kx, .bool by1, .slice qy ny ky] Try.sizeOf27 hS 0 rfl rfl (ev rfl rfl) (ev (v := .agg #[.bool bx, .slice qx nx kx, .bool by1, .slice qy ny ky]) rfl rfl) rfl rfl rfl rfl rfl rfl ?_)
    clear hS; intro w4 hS
    refine wnil ?_
    refine thenN ?_
    refine wseq ?_
    refine wreg ?_
    refine wl rfl (oload (vs := [.bool bx, .slice qx nx kx, .bool by1, .slice qy ny ky]) aggR hS 0 rfl rfl (ev rfl rfl) rfl rfl rfl ?_)
    have h0 := hall e1 (List.mem_of_getElem? hle)
    refine wl rfl (ocall rfl rfl Try.call11 rfl (wsmay (hzy.at hS) (h0)) (args1 (ev rfl rfl)) ?_)
    rintro _ w5 ⟨_, _, rfl, ⟨rfl, rfl⟩, hN⟩
    refine ⟨_, rfl, ?_⟩
    replace hS := hS.news hN; clear hN
    refine wl rfl (onot (b := true) rfl rfl (ev (v := .bool true) rfl rfl) ?_)
    refine wnil ?_
    refine thenN ?_
    refine wF (ev (v := .bool false) rfl rfl) ?_
    refine wskip ?_
    refine blkN ?_
    refine thenN ?_
    refine wreg ?_
    refine wl rfl (obin (u := .int .i64 (((i : Nat) : Int))) (v := .int .i64 1) (z := .int .i64 (((i + 1 : Nat) : Int))) rfl rfl (ev (v := .int .i64 (((i : Nat) : Int))) rfl rfl) (evc (v := .int .i64 1)) (bin_add (wrap_succ (by have := hl.2.1; omega))) ?_)
    refine wl rfl (omove (v := .int .i64 (((i + 1 : Nat) : Int))) rfl rfl (ev (v := .int .i64 (((i + 1 : Nat) : Int))) rfl rfl) ?_)
    refine wnil ?_
    refine thenN ?_
    exact ⟨(i + 1), ⟨_, act_sets (l := [(5, .slice pl m cl), (6, .int .i64 (((m : Nat) : Int))), (7, .int .i64 (((i + 1 : Nat) : Int)))]) ⟨rfl, rfl, rfl, trivial⟩, hS.pick [] (by decide) rfl, by omega, fun j e hj hje => by
          by_cases hij : j = i
          · subst hij; rw [hle] at hje; obtain rfl := Option.some.inj hje; exact h0
          · exact hs j e (by omega) hje⟩, by omega⟩
  ·
    refine wl rfl (obin (u := .int .i64 (((i : Nat) : Int))) (v := .int .i64 (((m : Nat) : Int))) (z := .bool false) rfl rfl (ev (v := .int .i64 (((i : Nat) : Int))) rfl rfl) (ev (v := .int .i64 (((m : Nat) : Int))) rfl rfl) (bin_lss (decide_eq_false (by omega))) ?_)
    refine wnil ?_
    refine thenN ?_
    refine wseq ?_
    refine wF (ev (v := .bool false) rfl rfl) ?_
    refine wexit ?_
    refine thenE ?_
    refine thenE ?_
    refine blkE ?_
    refine thenN ?_
    refine wseq ?_
    refine wreg ?_
    refine wl rfl (oassign (v := .bool true) rfl rfl (evc (v := .bool true)) ?_)
    refine wnil ?_
    refine thenN ?_
    refine wleave ?_
    refine wret1 Try.results21 (tellT (v := .bool true) rfl rfl) ?_
    exact ⟨_, _, rfl, isI, hS.new0⟩

set_option maxRecDepth 100000 in
set_option maxHeartbeats 16000000 in
theorem wsAllMay0 {L : List (Int × Int)} {w : World} {pl : Option Addr} {m cl : Nat} (hl : Rs w pl m L 67108864) (hbad : ∃ e ∈ L, e.2 = 0) :
    Calls Try.prog 21 #[.slice pl m cl] w (Ret (Is (.bool false)) w) := by
  have hS := Sep.init w
  refine went Try.func21 rfl (n := 15) rfl rfl ?_
  refine wseq ?_
  refine wreg ?_
  refine wl rfl (oassign (v := .bool false) rfl rfl (evc (v := .bool false)) ?_)
  refine wnil ?_
  refine thenN ?_
  refine wseq ?_
  refine wseq ?_
  refine wreg ?_
  refine wl rfl (omove (v := .slice pl m cl) rfl rfl (ev (v := .slice pl m cl) rfl rfl) ?_)
  refine wl rfl (olen rfl rfl rfl Try.runUnderlying38 (p := pl) (k := m) (m := cl) (ev (v := .slice pl m cl) rfl rfl) ?_)
  refine wl rfl (omove (v := .int .i64 0) rfl rfl (evc (v := .int .i64 0)) ?_)
  refine wnil ?_
  refine thenN ?_
  refine wblock ?_
  refine wloop (σ := Nat) (fun i a w' => ∃ (fb : Nat → Value), a = act 15 (sets fb [(5, .slice pl m cl), (6, .int .i64 (((m : Nat) : Int))), (7, .int .i64 (((i : Nat) : Int)))]) ∧ Sep w [] w' ∧ (i ≤ m) ∧ (∀ j e, j < i → L[j]? = some e → e.2 ≠ 0)) (fun i => m - i) (0) ⟨_, act_sets (l := [(5, .slice pl m cl), (6, .int .i64 (((m : Nat) : Int))), (7, .int .i64 0)]) ⟨rfl, rfl, rfl, trivial⟩, hS, Nat.zero_le _, fun j e h => by omega⟩ ?_
  clear hS; rintro i _ w1 ⟨fb, rfl, hS, hi, hs⟩
  refine wseq ?_
  refine wreg ?_
  by_cases hlt : i < m
  ·
    refine wl rfl (obin (u := .int .i64 (((i : Nat) : Int))) (v := .int .i64 (((m : Nat) : Int))) (z := .bool true) rfl rfl (ev (v := .int .i64 (((i : Nat) : Int))) rfl rfl) (ev (v := .int .i64 (((m : Nat) : Int))) rfl rfl) (bin_lss (decide_eq_true (by omega))) ?_)
    refine wnil ?_
    refine thenN ?_
    refine wseq ?_
    refine wT (ev (v := .bool true) rfl rfl) ?_
    refine wskip ?_
    refine thenN ?_
    refine wseq ?_
    refine wblock ?_
    refine wseq ?_
    refine wreg ?_
    obtain ⟨e1, g1x, o1, bx, qx, nx, kx, by1, qy, ny, ky, hle, hp1, hc1, hzx, hzy⟩ := hl.el hlt
    refine wl rfl (oindex (p := pl) (g := g1x) (off := o1) (m := m) (k := i) (j := (o1 + i * 4)) rfl rfl Try.runUnderlying38 Try.sizeOf27 (ev (v := .slice pl m cl) rfl rfl) (hp1) (ev (v := .int .i64 (((i : Nat) : Int))) rfl rfl) (hlt) rfl ?_)
    refine wl rfl (oloadA (vs := [.bool bx, .slice qx nx kx, .bool by1, .slice qy ny ky]) aggR rfl rfl (ev (v := .pointer (some ⟨g1x, (o1 + i * 4), none⟩)) rfl rfl) (fun j v hj => hS.cellAt (hc1 j v hj)) rfl ?_)
    refine wl rfl (oalloc [.bool false, .slice none 0 0, .bool false, .slice none 0 0] hS rfl rfl Try.zeroValue27 rfl ?_)
    clear hS; intro g2 w3 hS
    refine wl rfl (ostore [.bool bx, .slice qx nx kx, .bool by1, .slice qy ny ky] [.bool bx, .slice qx nx kx, .bool by1, .slice qy ny ky] Try.sizeOf27 hS 0 rfl rfl (ev rfl rfl) (ev (v := .agg #[.bool bx, .slice qx nx kx, .bool by1, .slice qy ny ky]) rfl rfl) rfl rfl rfl rfl rfl rfl ?_)
    clear hS; intro w4 hS
    refine wnil ?_
    refine thenN ?_
    refine wseq ?_
    refine wreg ?_
    refine wl rfl (oload (vs := [.bool bx, .slice qx nx kx, .bool by1, .slice qy ny ky]) aggR hS 0 rfl rfl (ev rfl rfl) rfl rfl rfl ?_)
    by_cases h0 : e1.2 = 0
    ·
      refine wl rfl (ocall rfl rfl Try.call11 rfl (wsmay0 (hzy.at hS) (h0)) (args1 (ev rfl rfl)) ?_)
      rintro _ w5 ⟨_, _, rfl, ⟨rfl, rfl⟩, hN⟩
      refine ⟨_, rfl, ?_⟩
      replace hS := hS.news hN; clear hN
      refine wl rfl (onot (b := false) rfl rfl (ev (v := .bool false) rfl rfl) ?_)
      refine wnil ?_
      refine thenN ?_
      refine wT (ev (v := .bool true) rfl rfl) ?_
      refine wseq ?_
      refine wreg ?_
      refine wl rfl (oassign (v := .bool false) rfl rfl (evc (v := .bool false)) ?_)
      refine wnil ?_
      refine thenN ?_
      refine wleave ?_
      refine blkR ?_
      refine thenR ?_
      refine thenR ?_
      refine blkR ?_
      refine thenR ?_
      refine wret1 Try.results21 (tellT (v := .bool false) rfl rfl) ?_
      exact ⟨_, _, rfl, isI, hS.new0⟩
    ·
      refine wl rfl (ocall rfl rfl Try.call11 rfl (wsmay (hzy.at hS) (h0)) (args1 (ev rfl rfl)) ?_)
      rintro _ w5 ⟨_, _, rfl, ⟨rfl, rfl⟩, hN⟩
      refine ⟨_, rfl, ?_⟩
      replace hS := hS.news hN; clear hN
      refine wl rfl (onot (b := true) rfl rfl (ev (v := .bool true) rfl rfl) ?_)
      refine wnil ?_
      refine thenN ?_
      refine wF (ev (v := .bool false) rfl rfl) ?_
      refine wskip ?_
      refine blkN ?_
      refine thenN ?_
      refine wreg ?_
      refine wl rfl (obin (u := .int .i64 (((i : Nat) : Int))) (v := .int .i64 1) (z := .int .i64 (((i + 1 : Nat) : Int))) rfl rfl (ev (v := .int .i64 (((i : Nat) : Int))) rfl rfl) (evc (v := .int .i64 1)) (bin_add (wrap_succ (by have := hl.2.1; omega))) ?_)
      refine wl rfl (omove (v := .int .i64 (((i + 1 : Nat) : Int))) rfl rfl (ev (v := .int .i64 (((i + 1 : Nat) : Int))) rfl rfl) ?_)
      refine wnil ?_
      refine thenN ?_
      exact ⟨(i + 1), ⟨_, act_sets (l := [(5, .slice pl m cl), (6, .int .i64 (((m : Nat) : Int))), (7, .int .i64 (((i + 1 : Nat) : Int)))]) ⟨rfl, rfl, rfl, trivial⟩, hS.pick [] (by decide) rfl, by omega, fun j e hj hje => by
            by_cases hij : j = i
            · subst hij; rw [hle] at hje; obtain rfl := Option.some.inj hje; exact h0
            · exact hs j e (by omega) hje⟩, by omega⟩
  ·
    refine wl rfl (obin (u := .int .i64 (((i : Nat) : Int))) (v := .int .i64 (((m : Nat) : Int))) (z := .bool false) rfl rfl (ev (v := .int .i64 (((i : Nat) : Int))) rfl rfl) (ev (v := .int .i64 (((m : Nat) : Int))) rfl rfl) (bin_lss (decide_eq_false (by omega))) ?_)
    refine wnil ?_
    refine thenN ?_
    refine wseq ?_
    refine wF (ev (v := .bool false) rfl rfl) ?_
    refine wexit ?_
    refine thenE ?_
    refine thenE ?_
    refine blkE ?_
    refine thenN ?_
    refine wseq ?_
    refine wreg ?_
    refine wl rfl (oassign (v := .bool true) rfl rfl (evc (v := .bool true)) ?_)
    refine wnil ?_
    refine thenN ?_
    refine wleave ?_
    obtain ⟨e, he, h0⟩ := hbad
    obtain ⟨j, hj⟩ := List.mem_iff_getElem?.1 he
    exact absurd h0 (hs j e (by have := (List.getElem?_eq_some_iff.1 hj).1; have := hl.1; omega) hj)

end Go.Proofs.Ytoinfkimlhhmpaa
