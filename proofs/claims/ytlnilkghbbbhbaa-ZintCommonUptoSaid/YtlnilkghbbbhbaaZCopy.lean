
/-
  The document's CopyAll: a list of integers in new memory.
-/
import Derived.Test.YtlnilkghbbbhbaaSlc
import Derived.Test.YtlnilkghbbbhbaaZRaw
set_option linter.unusedVariables false
set_option linter.unusedSimpArgs false
namespace Go.Proofs.Ytlnilkghbbbhbaa
open Go.RowKit

/-- An integer as an element of a list of one's own. -/
def elZ (b : Bool) (q : Option Addr) (n c : Nat) (xs : List Nat) : El := ⟨[.bool b, .slice q n c], [.rowm q n c xs]⟩
def Cpm (b : Bool) (n : Nat) (xs : List Nat) : Tell := fun v r => ∃ p c, v = .agg #[.bool b, .slice p n c] ∧ r = [.rowm p n c xs]
theorem Cpt.m {b : Bool} {n : Nat} {xs : List Nat} {w : World} (e : Ending) (w' : World) (h : Ret (Cpt b n xs) w e w') : Ret (Cpm b n xs) w e w' := by
  obtain ⟨_, _, rfl, ⟨p, c, rfl, rfl⟩, hN⟩ := h
  refine ⟨_, _, rfl, ⟨p, c, rfl, rfl⟩, New.one hN.below ?_ (fun g hg => hN.high (.row p n c xs) List.mem_cons_self g hg)⟩
  exact (show Fr 0 w' p n c xs from hN.holds (.row p n c xs) List.mem_cons_self)
/-- The first i places read as those of L. -/
def ZEls (L : List (Bool × List Nat)) (i : Nat) (es : List El) : Prop := ∀ j e, j < i → L[j]? = some e → ∃ q n c, es[j]? = some (elZ e.1 q n c e.2)
theorem ZEls.put {L : List (Bool × List Nat)} {i : Nat} {es : List El} (h : ZEls L i es) (hi : i < es.length) {e : Bool × List Nat} (hL : L[i]? = some e) (q : Option Addr) (n c : Nat) : ZEls L (i + 1) (es.set i (elZ e.1 q n c e.2)) := by
  intro j e' hj hj'
  by_cases hij : j = i
  · subst hij
    rw [hL] at hj'
    obtain rfl := Option.some.inj hj'
    exact ⟨q, n, c, by rw [List.getElem?_set_self hi]⟩
  · obtain ⟨q', n', c', h'⟩ := h j e' (by omega) hj'
    exact ⟨q', n', c', by rw [List.getElem?_set_ne (fun h => hij h.symm)]; exact h'⟩
/-- A list of one's own, as L. -/
def CLt (L : List (Bool × List Nat)) (m : Nat) : Tell := fun v r => ∃ g es, ZEls L m es ∧ v = .slice (some ⟨g, 0, none⟩) m m ∧ r = [.lst 25 2 (some ⟨g, 0, none⟩) m m es]

theorem Sep.zl {w0 w : World} {R : List Res} (hS : Sep w0 R w) (k : Nat) {g m K : Nat} {es : List El} {L : List (Bool × List Nat)} (hk : R[k]? = some (.lst 25 2 (some ⟨g, 0, none⟩) m m es)) (hz : ZEls L m es) (hL : m = L.length) (hm : m ≤ 1048576) (hK : ∀ e ∈ L, e.2.length ≤ K) : ZL w (some ⟨g, 0, none⟩) m L K := by
  refine ⟨hL, hm, fun i e hi => ?_⟩
  have hil := (List.getElem?_eq_some_iff.1 hi).1
  obtain ⟨q, n, c, he⟩ := hz i e (by omega) hi
  obtain ⟨g', hg, hc, hr⟩ := hS.lstCell k hk he (by omega)
  simp only [Option.some.injEq, Addr.mk.injEq, and_true] at hg
  subst hg
  have hf : Fr 0 w q n c e.2 := hr (.rowm q n c e.2) List.mem_cons_self
  have h0 := hc 0 _ rfl
  have h1 := hc 1 _ rfl
  refine ⟨g, 0, q, n, c, rfl, h0, h1, hf.sl, ?_⟩
  rw [← hf.len]; exact hK e (List.mem_of_getElem? hi)
theorem ZL.bd {w : World} {p : Option Addr} {m K : Nat} {L : List (Bool × List Nat)} (h : ZL w p m L K) : ∀ e ∈ L, e.2.length ≤ K := by
  intro e he
  obtain ⟨i, hi⟩ := List.mem_iff_getElem?.1 he
  obtain ⟨g, off, q, n, k, hp, h1, h2, h3, h4⟩ := h.2.2 i e hi
  rw [h3.len]; exact h4
set_option maxRecDepth 100000 in
set_option maxHeartbeats 16000000 in
theorem wqCopyAll {L : List (Bool × List Nat)} {w : World} {pl : Option Addr} {m cl : Nat} (hx : ZL w pl m L 67108864) :
    Calls Try.prog 44 #[.slice pl m cl] w (Ret (CLt L m) w) := by
  have hS := Sep.init w
  refine went Try.func44 rfl (n := 23) rfl rfl ?_
  refine wseq ?_
  refine wreg ?_
  refine wl rfl (oassign (v := .slice none 0 0) rfl rfl (evc (v := .slice none 0 0)) ?_)
  refine wnil ?_
  refine thenN ?_
  refine wseq ?_
  refine wreg ?_
  refine wl rfl (omove (v := .slice pl m cl) rfl rfl (ev (v := .slice pl m cl) rfl rfl) ?_)
  refine wl rfl (olen rfl rfl rfl Try.runUnderlying52 (p := pl) (k := m) (m := cl) (ev (v := .slice pl m cl) rfl rfl) ?_)
  refine wl rfl (omakeL (zs := [.bool false, .slice none 0 0]) (k := m) (m := m) hS rfl rfl Try.underlying52 infoInt rfl rfl (by decide) rfl (ev (v := .int .i64 (((m : Nat) : Int))) rfl rfl) (ev (v := .int .i64 (((m : Nat) : Int))) rfl rfl) (by omega) (by have := hx.2.1; omega) (by have := hx.2.1; omega) ?_)
  clear hS; intro g1 w2 hS
  refine wl rfl (oassign (v := .slice (some ⟨g1, 0, none⟩) m m) rfl rfl (ev (v := .slice (some ⟨g1, 0, none⟩) m m) rfl rfl) ?_)
  refine wnil ?_
  refine thenN ?_
  refine wseq ?_
  refine wseq ?_
  refine wreg ?_
  refine wl rfl (omove (v := .slice pl m cl) rfl rfl (ev (v := .slice pl m cl) rfl rfl) ?_)
  refine wl rfl (olen rfl rfl rfl Try.runUnderlying52 (p := pl) (k := m) (m := cl) (ev (v := .slice pl m cl) rfl rfl) ?_)
  refine wl rfl (omove (v := .int .i64 0) rfl rfl (evc (v := .int .i64 0)) ?_)
  refine wnil ?_
  refine thenN ?_
  refine wblock ?_
  refine wloop (σ := Nat) (fun i a w' => ∃ (fb : Nat → Value) (es : List El), a = act 23 (sets fb [(2, .slice none 0 0), (3, .slice (some ⟨g1, 0, none⟩) m m), (9, .slice pl m cl), (10, .int .i64 (((m : Nat) : Int))), (11, .int .i64 (((i : Nat) : Int)))]) ∧ Sep w [.lst 25 2 (some ⟨g1, 0, none⟩) m m es] w' ∧ (i ≤ m) ∧ (ZEls L i es) ∧ (es.length = m)) (fun i => m - i) (0) ⟨_, _, act_sets (l := [(2, .slice none 0 0), (3, .slice (some ⟨g1, 0, none⟩) m m), (9, .slice pl m cl), (10, .int .i64 (((m : Nat) : Int))), (11, .int .i64 0)]) ⟨rfl, rfl, rfl, rfl, rfl, trivial⟩, hS, Nat.zero_le _, fun j e h => by omega, by simp⟩ ?_
  clear hS; rintro i _ w3 ⟨fb, es, rfl, hS, hi, hes, hls⟩
  refine wseq ?_
  refine wreg ?_
  by_cases hlt : i < m
  ·
    refine wl rfl (obin (u := .int .i64 (((i : Nat) : Int))) (v := .int .i64 (((m : Nat) : Int))) (z := .bool true) rfl rfl (ev (v := .int .i64 (((i : Nat) : Int))) rfl rfl) (ev (v := .int .i64 (((m : Nat) : Int))) rfl rfl) (bin_lss (decide_eq_true (by omega))) ?_)
    refine wnil ?_
    refine thenN ?_
    refine wseq ?_
    refine wT (ev (v := .bool true) rfl rfl) ?_
    refine wskip ?_
    refine thenN ?_
    refine wseq ?_
    refine wblock ?_
    refine wseq ?_
    refine wreg ?_
    refine wl rfl (omove (v := .int .i64 (((i : Nat) : Int))) rfl rfl (ev (v := .int .i64 (((i : Nat) : Int))) rfl rfl) ?_)
    obtain ⟨e1, g1x, o1, q1, n1, k1, hle, hp1, hc1, hs1, hn1⟩ := hx.el hlt
    refine wl rfl (oindex (p := pl) (g := g1x) (off := o1) (m := m) (k := i) (j := (o1 + i * 2)) rfl rfl Try.runUnderlying52 Try.sizeOf25 (ev (v := .slice pl m cl) rfl rfl) (hp1) (ev (v := .int .i64 (((i : Nat) : Int))) rfl rfl) (hlt) rfl ?_)
    refine wl rfl (oloadA (vs := [.bool e1.1, .slice q1 n1 k1]) aggZ rfl rfl (ev (v := .pointer (some ⟨g1x, (o1 + i * 2), none⟩)) rfl rfl) (fun j v hj => hS.cellAt (hc1 j v hj)) rfl ?_)
    refine wl rfl (oalloc [.bool false, .slice none 0 0] hS rfl rfl Try.zeroValue25 rfl ?_)
    clear hS; intro g4 w5 hS
    refine wl rfl (oassign (v := .int .i64 (((i : Nat) : Int))) rfl rfl (ev (v := .int .i64 (((i : Nat) : Int))) rfl rfl) ?_)
    refine wl rfl (ostore [.bool e1.1, .slice q1 n1 k1] [.bool e1.1, .slice q1 n1 k1] Try.sizeOf25 hS 0 rfl rfl (ev rfl rfl) (ev (v := .agg #[.bool e1.1, .slice q1 n1 k1]) rfl rfl) rfl rfl rfl rfl rfl rfl ?_)
    clear hS; intro w6 hS
    refine wnil ?_
    refine thenN ?_
    refine wreg ?_
    refine wl rfl (omove (v := .slice (some ⟨g1, 0, none⟩) m m) rfl rfl (ev (v := .slice (some ⟨g1, 0, none⟩) m m) rfl rfl) ?_)
    refine wl rfl (omove (v := .int .i64 (((i : Nat) : Int))) rfl rfl (ev (v := .int .i64 (((i : Nat) : Int))) rfl rfl) ?_)
    refine wl rfl (oload (vs := [.bool e1.1, .slice q1 n1 k1]) aggZ hS 0 rfl rfl (ev rfl rfl) rfl rfl rfl ?_)
    refine wl rfl (ocall rfl rfl Try.call10 rfl ((wqcopy (hs1.below hS.below (Nat.le_refl _)) (by omega)).mono Cpt.m) (args1 (ev rfl rfl)) ?_)
    rintro _ w7 ⟨_, _, rfl, ⟨pc, cc, rfl, rfl⟩, hN⟩
    refine ⟨_, rfl, ?_⟩
    replace hS := hS.news hN; clear hN
    refine wl rfl (oindex (p := (some ⟨g1, 0, none⟩)) (g := g1) (off := 0) (m := m) (k := i) (j := (0 + i * 2)) rfl rfl Try.runUnderlying52 Try.sizeOf25 (ev (v := .slice (some ⟨g1, 0, none⟩) m m) rfl rfl) (rfl) (ev (v := .int .i64 (((i : Nat) : Int))) rfl rfl) (hlt) rfl ?_)
    obtain hS := (show Sep w [.rowm pc n1 cc e1.2, .lst 25 2 (some ⟨g1, 0, none⟩) m m es, .blk g4 [.bool e1.1, .slice q1 n1 k1] 25] w7 from hS.pick [0, 2, 1] (by decide) rfl)
    refine wl rfl (ostoreL (i := i) (g := g1) [.bool e1.1, .slice pc n1 cc] [.rowm pc n1 cc e1.2] Try.sizeOf25 hS rfl rfl (ev (v := .pointer (some ⟨g1, (0 + i * 2), none⟩)) rfl rfl) (ev (v := .agg #[.bool e1.1, .slice pc n1 cc]) rfl rfl) (rfl) rfl rfl rfl rfl (hlt) rfl ?_)
    clear hS; intro w8 hS
    refine wnil ?_
    refine blkN ?_
    refine thenN ?_
    refine wreg ?_
    refine wl rfl (obin (u := .int .i64 (((i : Nat) : Int))) (v := .int .i64 1) (z := .int .i64 (((i + 1 : Nat) : Int))) rfl rfl (ev (v := .int .i64 (((i : Nat) : Int))) rfl rfl) (evc (v := .int .i64 1)) (bin_add (wrap_succ (by have := hx.2.1; omega))) ?_)
    refine wl rfl (omove (v := .int .i64 (((i + 1 : Nat) : Int))) rfl rfl (ev (v := .int .i64 (((i + 1 : Nat) : Int))) rfl rfl) ?_)
    refine wnil ?_
    refine thenN ?_
    exact ⟨(i + 1), ⟨_, _, act_sets (l := [(2, .slice none 0 0), (3, .slice (some ⟨g1, 0, none⟩) m m), (9, .slice pl m cl), (10, .int .i64 (((m : Nat) : Int))), (11, .int .i64 (((i + 1 : Nat) : Int)))]) ⟨rfl, rfl, rfl, rfl, rfl, trivial⟩, hS.pick [0] (by decide) rfl, by omega, hes.put (by rw [hls]; exact hlt) hle _ _ _, by rw [List.length_set]; exact hls⟩, by omega⟩
  ·
    refine wl rfl (obin (u := .int .i64 (((i : Nat) : Int))) (v := .int .i64 (((m : Nat) : Int))) (z := .bool false) rfl rfl (ev (v := .int .i64 (((i : Nat) : Int))) rfl rfl) (ev (v := .int .i64 (((m : Nat) : Int))) rfl rfl) (bin_lss (decide_eq_false (by omega))) ?_)
    refine wnil ?_
    refine thenN ?_
    refine wseq ?_
    refine wF (ev (v := .bool false) rfl rfl) ?_
    refine wexit ?_
    refine thenE ?_
    refine thenE ?_
    refine blkE ?_
    refine thenN ?_
    refine wseq ?_
    refine wreg ?_
    refine wl rfl (omove (v := .slice (some ⟨g1, 0, none⟩) m m) rfl rfl (ev (v := .slice (some ⟨g1, 0, none⟩) m m) rfl rfl) ?_)
    refine wl rfl (oassign (v := .slice (some ⟨g1, 0, none⟩) m m) rfl rfl (ev (v := .slice (some ⟨g1, 0, none⟩) m m) rfl rfl) ?_)
    refine wnil ?_
    refine thenN ?_
    refine wleave ?_
    have him : i = m := by omega
    rw [him] at hes
    refine wret1 Try.results44 (tellT (v := .slice (some ⟨g1, 0, none⟩) m m) rfl rfl) ?_
    exact ⟨_, _, rfl, ⟨_, _, hes, rfl, rfl⟩, hS.newR 0 rfl rfl⟩

end Go.Proofs.Ytlnilkghbbbhbaa
