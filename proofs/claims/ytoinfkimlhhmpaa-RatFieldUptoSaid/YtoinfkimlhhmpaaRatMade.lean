
/-
  Lists of fractions; rat's made.
-/
import Derived.Test.YtoinfkimlhhmpaaRat
set_option linter.unusedVariables false
set_option linter.unusedSimpArgs false
namespace Go.Proofs.Ytoinfkimlhhmpaa
open Go.RowKit

section
variable {P : Program} {o : Oper} {n : Nat} {f : Nat → Value} {w w0 : World} {R : List Res} {K : Act → World → Prop} {Q : Exit → Act → World → Prop} {d : Nat}
/-- The call of a function value with what it holds. -/
theorem ocallc {F : FuncId} {caps : Array Value} {c : Call} {x : Operand} {xs : Array Operand} {ts : Array TypeId} {vs : Array Value} {Rp : Ending → World → Prop} (hop : o.op = .call c) (hc : c = { callee := .value x, args := xs, argTypes := ts }) (hv : (act n f).eval x = .func (.func F) #[] caps) (hF : ∀ args w, (callFunc F args).run P w = .ok (.enter F args) w) (ho : o.dst = some d)
    (hC : Calls P F (vs ++ caps) w Rp) (hx : xs.map (act n f).eval = vs) (hK : ∀ e w', Rp e w' → ∃ v, e = .returned v ∧ K (act n (upd f d v)) w') : OW P o (act n f) w K Q := by
  refine ⟨?_⟩
  subst hc
  unfold Oper.wp
  have e : (execOp (act n f).eval o).run P w = .ok (.enter F (vs ++ caps)) w := by
    simp only [execOp, hop, resolve, hx, hv]
    simp [Deferred.ofValue, invoke, hF]
  rw [e, Oper.upon_enter]
  refine hC.mono fun e w' h => ?_
  obtain ⟨v, rfl, hk⟩ := hK e w' h
  show K ((act n f).put o.dst v) w'
  rw [ho, act_put]
  exact hk
end

/-- A list of fractions: element by element in cells, each part of so many limbs at most. -/
def Rs (w : World) (p : Option Addr) (m : Nat) (L : List (Int × Int)) (K : Nat) : Prop :=
  m = L.length ∧ m ≤ 1048576 ∧ ∀ i e, L[i]? = some e → ∃ g off b q n k b2 q2 n2 k2, p = some ⟨g, off, none⟩ ∧ (∀ j v, [Value.bool b, .slice q n k, .bool b2, .slice q2 n2 k2][j]? = some v → w.cell? ⟨g, off + i * 4 + j, none⟩ = some v) ∧ Zr w b q n k e.1 K ∧ Zr w b2 q2 n2 k2 e.2 K
theorem Rs.on {w w' : World} {p : Option Addr} {m K B : Nat} {L : List (Int × Int)} (h : Rs w p m L K) (hb : Below B w w') (hB : w.heap.size ≤ B) : Rs w' p m L K := by
  refine ⟨h.1, h.2.1, fun i z hi => ?_⟩
  obtain ⟨g, off, b, q, n, k, b2, q2, n2, k2, hp, h1, h2, h3⟩ := h.2.2 i z hi
  have hg : g < w.heap.size := World.block_lt_of_cell? w _ (h1 0 _ rfl)
  have he := hb.block g (by omega)
  exact ⟨g, off, b, q, n, k, b2, q2, n2, k2, hp, fun j v hj => (World.cell?_of_block (w := w) he).trans (h1 j v hj), h2.on hb hB, h3.on hb hB⟩
theorem Rs.at {w w' : World} {R : List Res} {p : Option Addr} {m K : Nat} {L : List (Int × Int)} (h : Rs w p m L K) (hS : Sep w R w') : Rs w' p m L K := h.on hS.below (Nat.le_refl _)
theorem Rs.el {w : World} {p : Option Addr} {m K : Nat} {L : List (Int × Int)} (h : Rs w p m L K) {i : Nat} (hi : i < m) : ∃ e g off b q n k b2 q2 n2 k2, L[i]? = some e ∧ p = some ⟨g, off, none⟩ ∧ (∀ j v, [Value.bool b, .slice q n k, .bool b2, .slice q2 n2 k2][j]? = some v → w.cell? ⟨g, off + i * 4 + j, none⟩ = some v) ∧ Zr w b q n k e.1 K ∧ Zr w b2 q2 n2 k2 e.2 K := by
  have hi' : i < L.length := by rw [← h.1]; exact hi
  obtain ⟨g, off, b, q, n, k, b2, q2, n2, k2, r⟩ := h.2.2 i L[i] (List.getElem?_eq_getElem hi')
  exact ⟨_, g, off, b, q, n, k, b2, q2, n2, k2, List.getElem?_eq_getElem hi', r⟩
theorem Rs.one {w : World} {g K : Nat} {t : TypeId} {b b2 : Bool} {p q : Option Addr} {n m c d : Nat} {x y : Int} (hg : w.heap[g]? = some (.cells [.bool b, .slice p n c, .bool b2, .slice q m d].toArray t)) (hx : Zr w b p n c x K) (hy : Zr w b2 q m d y K) : Rs w (some ⟨g, 0, none⟩) 1 [(x, y)] K := by
  refine ⟨rfl, by omega, fun i z hi => ?_⟩
  match i, hi with
  | 0, hi => simp at hi; subst hi; exact ⟨g, 0, _, _, _, _, _, _, _, _, rfl, fun j v hj => by simpa using (blk_cell hg j).trans hj, hx, hy⟩
theorem Rs.two {w : World} {g K : Nat} {t : TypeId} {b b2 b3 b4 : Bool} {p q p3 p4 : Option Addr} {n m c d n3 c3 n4 c4 : Nat} {x y x2 y2 : Int} (hg : w.heap[g]? = some (.cells [.bool b, .slice p n c, .bool b2, .slice q m d, .bool b3, .slice p3 n3 c3, .bool b4, .slice p4 n4 c4].toArray t)) (hx : Zr w b p n c x K) (hy : Zr w b2 q m d y K) (hx2 : Zr w b3 p3 n3 c3 x2 K) (hy2 : Zr w b4 p4 n4 c4 y2 K) : Rs w (some ⟨g, 0, none⟩) 2 [(x, y), (x2, y2)] K := by
  refine ⟨rfl, by omega, fun i z hi => ?_⟩
  match i, hi with
  | 0, hi =>
    simp at hi; subst hi
    refine ⟨g, 0, _, _, _, _, _, _, _, _, rfl, fun j v hj => ?_, hx, hy⟩
    rw [show 0 + 0 * 4 + j = j by omega, blk_cell hg j]
    match j, hj with
    | 0, hj => exact hj
    | 1, hj => exact hj
    | 2, hj => exact hj
    | 3, hj => exact hj
    | j + 4, hj => simp at hj
  | 1, hi =>
    simp at hi; subst hi
    refine ⟨g, 0, _, _, _, _, _, _, _, _, rfl, fun j v hj => ?_, hx2, hy2⟩
    rw [show 0 + 1 * 4 + j = j + 4 by omega, blk_cell hg (j + 4)]
    match j, hj with
    | 0, hj => exact hj
    | 1, hj => exact hj
    | 2, hj => exact hj
    | 3, hj => exact hj
    | j + 4, hj => simp at hj

/-- A fraction as an element of a list of one's own. -/
def elR (x : Int) (p : Option Addr) (n c : Nat) (y : Int) (q : Option Addr) (m d : Nat) : El := ⟨[.bool (ng x), .slice p n c, .bool (ng y), .slice q m d], [.rowm p n c (lim x.natAbs), .rowm q m d (lim y.natAbs)]⟩
/-- The first i of L in lowest terms. -/
def REls (L : List (Int × Int)) (i : Nat) (es : List El) : Prop := es.length = i ∧ ∀ j e, j < i → L[j]? = some e → e.2 ≠ 0 ∧ ∃ p n c q m d, es[j]? = some (elR (RN e.1 e.2) p n c (RD e.1 e.2) q m d)
theorem REls.app {L : List (Int × Int)} {i : Nat} {es : List El} (h : REls L i es) {e : Int × Int} (hL : L[i]? = some e) (h0 : e.2 ≠ 0) (p : Option Addr) (n c : Nat) (q : Option Addr) (m d : Nat) : REls L (i + 1) (es ++ [elR (RN e.1 e.2) p n c (RD e.1 e.2) q m d]) := by
  refine ⟨by simp [h.1], fun j e' hj hj' => ?_⟩
  by_cases hij : j = i
  · subst hij
    rw [hL] at hj'
    obtain rfl := Option.some.inj hj'
    refine ⟨h0, p, n, c, q, m, d, ?_⟩
    rw [List.getElem?_append_right (by rw [h.1]; exact Nat.le_refl _), h.1, Nat.sub_self]
    rfl
  · obtain ⟨h1, h2⟩ := h.2 j e' (by omega) hj'
    refine ⟨h1, ?_⟩
    obtain ⟨p', n', c', q', m', d', h2⟩ := h2
    exact ⟨p', n', c', q', m', d', by rw [List.getElem?_append_left (by rw [h.1]; omega)]; exact h2⟩
/-- L in lowest terms. -/
def lows (L : List (Int × Int)) : List (Int × Int) := L.map fun e => (RN e.1 e.2, RD e.1 e.2)
theorem Sep.rs {w0 w : World} {R : List Res} (hS : Sep w0 R w) (k : Nat) {p : Option Addr} {c m K : Nat} {es : List El} {L : List (Int × Int)} (hk : R[k]? = some (.lst 27 4 p m c es)) (hz : REls L m es) (hL : m = L.length) (hm : m ≤ 1048576) (hK : ∀ e ∈ L, Wd e.1 K ∧ Wd e.2 K) : Rs w p m (lows L) K := by
  refine ⟨by rw [lows, List.length_map]; exact hL, hm, fun i e' hi => ?_⟩
  rw [lows, List.getElem?_map] at hi
  rcases hLi : L[i]? with _ | e
  · rw [hLi] at hi; cases hi
  rw [hLi] at hi
  simp only [Option.map_some, Option.some.injEq] at hi
  subst hi
  have hil := (List.getElem?_eq_some_iff.1 hLi).1
  obtain ⟨h0, p1, n1, c1, q, m1, d, he⟩ := hz.2 i e (by omega) hLi
  obtain ⟨g, hg, hc, hr⟩ := hS.lstCell k hk he (by omega)
  have hf : Fr 0 w p1 n1 c1 (lim (RN e.1 e.2).natAbs) := hr (.rowm p1 n1 c1 (lim (RN e.1 e.2).natAbs)) List.mem_cons_self
  have hf2 : Fr 0 w q m1 d (lim (RD e.1 e.2).natAbs) := hr (.rowm q m1 d (lim (RD e.1 e.2).natAbs)) (List.mem_cons_of_mem _ List.mem_cons_self)
  obtain ⟨hk1, hk2⟩ := hK e (List.mem_of_getElem? hLi)
  exact ⟨g, 0, _, _, _, _, _, _, _, _, hg, hc, hf.sl.zr (hk1.rn rfl), hf2.sl.zr (hk2.rd rfl)⟩
theorem Rs.wd {w : World} {p : Option Addr} {m K : Nat} {L : List (Int × Int)} (h : Rs w p m L K) : ∀ e ∈ L, Wd e.1 K ∧ Wd e.2 K := by
  intro e he
  obtain ⟨i, hi⟩ := List.mem_iff_getElem?.1 he
  obtain ⟨g, off, b, q, n, k, b2, q2, n2, k2, hp, h1, h2, h3⟩ := h.2.2 i e hi
  exact ⟨h2.wd, h3.wd⟩
/-- What a function of the list tells, the list being given away. -/
theorem giveL {T : Tell} {w0 w1 : World} {R : List Res} {r : Res} {e : Ending} {w' : World} (hS : Sep w0 (r :: R) w1) (h : Ret T w1 e w') : ∃ v s, e = .returned v ∧ T v s ∧ Sep w0 (s ++ R) w' := by
  obtain ⟨v, s, h1, h2, h3⟩ := h
  exact ⟨v, s, h1, h2, (hS.news h3).sub (List.Sublist.append (List.Sublist.refl s) (List.sublist_cons_self _ _))⟩

set_option maxRecDepth 100000 in
set_option maxHeartbeats 16000000 in
theorem wmadeR {F : FuncId} {caps : Array Value} (hF : ∀ args w, (callFunc F args).run Try.prog w = .ok (.enter F args) w) {z t E : Int} {L : List (Int × Int)} {w : World} {pl : Option Addr} {m cl : Nat} (hl : Rs w pl m L 67108864) (hall : ∀ e ∈ L, e.2 ≠ 0) (hf : ∀ (R : List Res) (w0 w1 : World) (p : Option Addr) (c : Nat) (es : List El), REls L m es → Sep w0 (.lst 27 4 p m c es :: R) w1 → Calls Try.prog F (#[.slice p m c] ++ caps) w1 (fun e w' => ∃ v s, e = .returned v ∧ RRt z t E v s ∧ Sep w0 (s ++ R) w')) :
    Calls Try.prog 53 #[.func (.func F) #[] caps, .slice pl m cl] w (Ret (RRt z t E) w) := by
  have hS := Sep.init w
  refine went Try.func53 rfl (n := 40) rfl rfl ?_
  refine wseq ?_
  refine wreg ?_
  refine wl rfl (oalloc [.bool false, .slice none 0 0, .bool false, .slice none 0 0] hS rfl rfl Try.zeroValue27 rfl ?_)
  clear hS; intro g1 w2 hS
  refine wl rfl (oassign (v := .int .i64 0) rfl rfl (evc (v := .int .i64 0)) ?_)
  refine wnil ?_
  refine thenN ?_
  refine wseq ?_
  refine wreg ?_
  refine wl rfl (oalloc [.bool false, .slice none 0 0, .bool false, .slice none 0 0] hS rfl rfl Try.zeroValue27 rfl ?_)
  clear hS; intro g3 w4 hS
  refine wnil ?_
  refine thenN ?_
  refine wseq ?_
  refine wreg ?_
  refine wl rfl (omove (v := .slice pl m cl) rfl rfl (ev (v := .slice pl m cl) rfl rfl) ?_)
  refine wl rfl (olen rfl rfl rfl Try.runUnderlying38 (p := pl) (k := m) (m := cl) (ev (v := .slice pl m cl) rfl rfl) ?_)
  refine wl rfl (omakeL (zs := [.bool false, .slice none 0 0, .bool false, .slice none 0 0]) (k := 0) (m := m) hS rfl rfl Try.underlying38 infoRat rfl rfl (by decide) rfl (evc (v := .int .i64 ((0 : Nat) : Int))) (ev (v := .int .i64 (((m : Nat) : Int))) rfl rfl) (Nat.zero_le _) (by have := hl.2.1; omega) (by have := hl.2.1; omega) ?_)
  clear hS; intro g5 w6 hS
  refine wl rfl (oassign (v := .slice (some ⟨g5, 0, none⟩) 0 m) rfl rfl (ev (v := .slice (some ⟨g5, 0, none⟩) 0 m) rfl rfl) ?_)
  refine wnil ?_
  refine thenN ?_
  refine wseq ?_
  refine wseq ?_
  refine wreg ?_
  refine wl rfl (omove (v := .slice pl m cl) rfl rfl (ev (v := .slice pl m cl) rfl rfl) ?_)
  refine wl rfl (olen rfl rfl rfl Try.runUnderlying38 (p := pl) (k := m) (m := cl) (ev (v := .slice pl m cl) rfl rfl) ?_)
  refine wl rfl (omove (v := .int .i64 0) rfl rfl (evc (v := .int .i64 0)) ?_)
  refine wnil ?_
  refine thenN ?_
  refine wblock ?_
  refine wloop (σ := Nat) (fun i a w' => ∃ (fb : Nat → Value) (es : List El) (pz : Option Addr) (cz : Nat), a = act 40 (sets fb [(0, .func (.func F) #[] caps), (4, .pointer (some ⟨g1, 0, none⟩)), (6, .pointer (some ⟨g3, 0, none⟩)), (7, .slice pz i cz), (15, .slice pl m cl), (16, .int .i64 (((m : Nat) : Int))), (17, .int .i64 (((i : Nat) : Int)))]) ∧ Sep w [.lst 27 4 pz i cz es, .blk g3 [.bool false, .slice none 0 0, .bool false, .slice none 0 0] 27, .blk g1 [.bool false, .slice none 0 0, .bool false, .slice none 0 0] 27] w' ∧ (i ≤ m) ∧ (REls L i es)) (fun i => m - i) (0) ⟨_, _, _, _, act_sets (l := [(0, .func (.func F) #[] caps), (4, .pointer (some ⟨g1, 0, none⟩)), (6, .pointer (some ⟨g3, 0, none⟩)), (7, .slice (some ⟨g5, 0, none⟩) 0 m), (15, .slice pl m cl), (16, .int .i64 (((m : Nat) : Int))), (17, .int .i64 0)]) ⟨rfl, rfl, rfl, rfl, rfl, rfl, rfl, trivial⟩, hS, Nat.zero_le _, ⟨rfl, fun j e h => by omega⟩⟩ ?_
  clear hS; rintro i _ w7 ⟨fb, es, pz, cz, rfl, hS, hi, hes⟩
  refine wseq ?_
  refine wreg ?_
  by_cases hlt : i < m
  ·
    refine wl rfl (obin (u := .int .i64 (((i : Nat) : Int))) (v := .int .i64 (((m : Nat) : Int))) (z := .bool true) rfl rfl (ev (v := .int .i64 (((i : Nat) : Int))) rfl rfl) (ev (v := .int .i64 (((m : Nat) : Int))) rfl rfl) (bin_lss (decide_eq_true (by omega))) ?_)
    refine wnil ?_
    refine thenN ?_
    refine wseq ?_
    refine wT (ev (v := .bool true) rfl rfl) ?_
    refine wskip ?_
    refine thenN ?_
    refine wseq ?_
    refine wblock ?_
    refine wseq ?_
    refine wreg ?_
    obtain ⟨e1, g1x, o1, bx, qx, nx, kx, by1, qy, ny, ky, hle, hp1, hc1, hzx, hzy⟩ := hl.el hlt
    refine wl rfl (oindex (p := pl) (g := g1x) (off := o1) (m := m) (k := i) (j := (o1 + i * 4)) rfl rfl Try.runUnderlying38 Try.sizeOf27 (ev (v := .slice pl m cl) rfl rfl) (hp1) (ev (v := .int .i64 (((i : Nat) : Int))) rfl rfl) (hlt) rfl ?_)
    refine wl rfl (oloadA (vs := [.bool bx, .slice qx nx kx, .bool by1, .slice qy ny ky]) aggR rfl rfl (ev (v := .pointer (some ⟨g1x, (o1 + i * 4), none⟩)) rfl rfl) (fun j v hj => hS.cellAt (hc1 j v hj)) rfl ?_)
    refine wl rfl (oalloc [.bool false, .slice none 0 0, .bool false, .slice none 0 0] hS rfl rfl Try.zeroValue27 rfl ?_)
    clear hS; intro g8 w9 hS
    refine wl rfl (ostore [.bool bx, .slice qx nx kx, .bool by1, .slice qy ny ky] [.bool bx, .slice qx nx kx, .bool by1, .slice qy ny ky] Try.sizeOf27 hS 0 rfl rfl (ev rfl rfl) (ev (v := .agg #[.bool bx, .slice qx nx kx, .bool by1, .slice qy ny ky]) rfl rfl) rfl rfl rfl rfl rfl rfl ?_)
    clear hS; intro w10 hS
    refine wnil ?_
    refine thenN ?_
    refine wseq ?_
    refine wreg ?_
    refine wl rfl (oload (vs := [.bool bx, .slice qx nx kx, .bool by1, .slice qy ny ky]) aggR hS 0 rfl rfl (ev rfl rfl) rfl rfl rfl ?_)
    have h0 := hall e1 (List.mem_of_getElem? hle)
    obtain ⟨z1, hz1⟩ : ∃ z : Int, Hid (RN e1.1 e1.2 = z) := ⟨_, rfl⟩
    have hk1 : Wd z1 67108864 := Wd.rn hzx.wd hz1
    obtain ⟨z2, hz2⟩ : ∃ z : Int, Hid (RD e1.1 e1.2 = z) := ⟨_, rfl⟩
    have hk2 : Wd z2 67108864 := Wd.rd hzy.wd hz2
    refine wl rfl (ocall rfl rfl Try.call43 rfl ((wrnorm (hzx.at hS) (hzy.at hS) (h0) hz1 hz2)) (args1 (ev rfl rfl)) ?_)
    rintro _ w11 ⟨_, _, rfl, ⟨p1, n1, c1, p2, n2, c2, rfl, rfl⟩, hN⟩
    refine ⟨_, rfl, ?_⟩
    replace hS := hS.news hN; clear hN
    refine wl rfl (omove (v := .tuple #[.agg #[.bool (ng z1), .slice p1 n1 c1, .bool (ng z2), .slice p2 n2 c2], .int .i64 0]) rfl rfl (ev (v := .tuple #[.agg #[.bool (ng z1), .slice p1 n1 c1, .bool (ng z2), .slice p2 n2 c2], .int .i64 0]) rfl rfl) ?_)
    refine wl rfl (oextract (vs := [.agg #[.bool (ng z1), .slice p1 n1 c1, .bool (ng z2), .slice p2 n2 c2], .int .i64 0]) (v := .agg #[.bool (ng z1), .slice p1 n1 c1, .bool (ng z2), .slice p2 n2 c2]) rfl rfl (ev (v := .tuple #[.agg #[.bool (ng z1), .slice p1 n1 c1, .bool (ng z2), .slice p2 n2 c2], .int .i64 0]) rfl rfl) rfl ?_)
    refine wl rfl (oextract (vs := [.agg #[.bool (ng z1), .slice p1 n1 c1, .bool (ng z2), .slice p2 n2 c2], .int .i64 0]) (v := .int .i64 0) rfl rfl (ev (v := .tuple #[.agg #[.bool (ng z1), .slice p1 n1 c1, .bool (ng z2), .slice p2 n2 c2], .int .i64 0]) rfl rfl) rfl ?_)
    refine wl rfl (oalloc [.bool false, .slice none 0 0, .bool false, .slice none 0 0] hS rfl rfl Try.zeroValue27 rfl ?_)
    clear hS; intro g12 w13 hS
    refine wl rfl (ostore [.bool (ng z1), .slice p1 n1 c1, .bool (ng z2), .slice p2 n2 c2] [.bool (ng z1), .slice p1 n1 c1, .bool (ng z2), .slice p2 n2 c2] Try.sizeOf27 hS 0 rfl rfl (ev rfl rfl) (ev (v := .agg #[.bool (ng z1), .slice p1 n1 c1, .bool (ng z2), .slice p2 n2 c2]) rfl rfl) rfl rfl rfl rfl rfl rfl ?_)
    clear hS; intro w14 hS
    refine wl rfl (oassign (v := .int .i64 0) rfl rfl (ev (v := .int .i64 0) rfl rfl) ?_)
    refine wnil ?_
    refine thenN ?_
    refine wseq ?_
    refine wseq ?_
    refine wreg ?_
    refine wl rfl (omove (v := .int .i64 0) rfl rfl (ev (v := .int .i64 0) rfl rfl) ?_)
    refine wl rfl (obin (u := .int .i64 0) (v := .int .i64 0) (z := .bool false) rfl rfl (ev (v := .int .i64 0) rfl rfl) (evc (v := .int .i64 0)) (bin_neq (by decide)) ?_)
    refine wnil ?_
    refine thenN ?_
    refine wF (ev (v := .bool false) rfl rfl) ?_
    refine wskip ?_
    refine thenN ?_
    refine wreg ?_
    refine wl rfl (omove (v := .slice pz i cz) rfl rfl (ev (v := .slice pz i cz) rfl rfl) ?_)
    refine wl rfl (oload (vs := [.bool (ng z1), .slice p1 n1 c1, .bool (ng z2), .slice p2 n2 c2]) aggR hS 0 rfl rfl (ev rfl rfl) rfl rfl rfl ?_)
    refine wl rfl (obslice (ps := #[(0, .agg #[.bool (ng z1), .slice p1 n1 c1, .bool (ng z2), .slice p2 n2 c2])]) (z := .agg #[.bool false, .slice none 0 0, .bool false, .slice none 0 0]) [.bool (ng z1), .slice p1 n1 c1, .bool (ng z2), .slice p2 n2 c2] hS rfl rfl Try.runUnderlying38 Try.sizeOf27 Try.zeroValue27 (parts1 (ev (v := .agg #[.bool (ng z1), .slice p1 n1 c1, .bool (ng z2), .slice p2 n2 c2]) rfl rfl)) rfl (by decide) fill4_1 ?_)
    clear hS; intro g15 w16 hS
    obtain hS := (show Sep w [.rowm p1 n1 c1 (lim z1.natAbs), .rowm p2 n2 c2 (lim z2.natAbs), .lst 27 4 pz i cz es, .blk g15 [.bool (ng z1), .slice p1 n1 c1, .bool (ng z2), .slice p2 n2 c2] 27, .blk g12 [.bool (ng z1), .slice p1 n1 c1, .bool (ng z2), .slice p2 n2 c2] 27, .blk g8 [.bool bx, .slice qx nx kx, .bool by1, .slice qy ny ky] 27, .blk g3 [.bool false, .slice none 0 0, .bool false, .slice none 0 0] 27, .blk g1 [.bool false, .slice none 0 0, .bool false, .slice none 0 0] 27] w16 from hS.pick [2, 3, 5, 0, 1, 4, 6, 7] (by decide) rfl)
    refine wl rfl (oappendL (p := pz) (m := i) (c := cz) (g2 := g15) (c2 := 1) (off := 0) [.bool (ng z1), .slice p1 n1 c1, .bool (ng z2), .slice p2 n2 c2] [.rowm p1 n1 c1 (lim z1.natAbs), .rowm p2 n2 c2 (lim z2.natAbs)] hS rfl rfl Try.underlying38 infoRat rfl (by decide) (ev (v := .slice pz i cz) rfl rfl) (ev (v := .slice (some ⟨g15, 0, none⟩) 1 1) rfl rfl) (fun j v hj => by rw [Nat.zero_add]; exact (blk_cell (hS.blkAt 3 rfl) j).trans hj) rfl rfl rfl (by have := hl.2.1; omega) (by have := hl.2.1; omega) ?_)
    clear hS; intro p18 c19 w17 hS
    refine wl rfl (oassign (v := .slice p18 ((i + 1)) c19) rfl rfl (ev (v := .slice p18 ((i + 1)) c19) rfl rfl) ?_)
    refine wnil ?_
    refine blkN ?_
    refine thenN ?_
    refine wreg ?_
    refine wl rfl (obin (u := .int .i64 (((i : Nat) : Int))) (v := .int .i64 1) (z := .int .i64 (((i + 1 : Nat) : Int))) rfl rfl (ev (v := .int .i64 (((i : Nat) : Int))) rfl rfl) (evc (v := .int .i64 1)) (bin_add (wrap_succ (by have := hl.2.1; omega))) ?_)
    refine wl rfl (omove (v := .int .i64 (((i + 1 : Nat) : Int))) rfl rfl (ev (v := .int .i64 (((i + 1 : Nat) : Int))) rfl rfl) ?_)
    refine wnil ?_
    refine thenN ?_
    obtain rfl := hz1.out
    obtain rfl := hz2.out
    exact ⟨(i + 1), ⟨_, _, _, _, act_sets (l := [(0, .func (.func F) #[] caps), (4, .pointer (some ⟨g1, 0, none⟩)), (6, .pointer (some ⟨g3, 0, none⟩)), (7, .slice p18 ((i + 1)) c19), (15, .slice pl m cl), (16, .int .i64 (((m : Nat) : Int))), (17, .int .i64 (((i + 1 : Nat) : Int)))]) ⟨rfl, rfl, rfl, rfl, rfl, rfl, rfl, trivial⟩, hS.pick [0, 4, 5] (by decide) rfl, by omega, hes.app hle h0 _ _ _ _ _ _⟩, by omega⟩
  ·
    refine wl rfl (obin (u := .int .i64 (((i : Nat) : Int))) (v := .int .i64 (((m : Nat) : Int))) (z := .bool false) rfl rfl (ev (v := .int .i64 (((i : Nat) : Int))) rfl rfl) (ev (v := .int .i64 (((m : Nat) : Int))) rfl rfl) (bin_lss (decide_eq_false (by omega))) ?_)
    refine wnil ?_
    refine thenN ?_
    refine wseq ?_
    refine wF (ev (v := .bool false) rfl rfl) ?_
    refine wexit ?_
    refine thenE ?_
    refine thenE ?_
    refine blkE ?_
    refine thenN ?_
    refine wseq ?_
    refine wreg ?_
    refine wl rfl (omove (v := .func (.func F) #[] caps) rfl rfl (ev (v := .func (.func F) #[] caps) rfl rfl) ?_)
    refine wl rfl (omove (v := .slice pz i cz) rfl rfl (ev (v := .slice pz i cz) rfl rfl) ?_)
    obtain rfl : i = m := by omega
    refine wl rfl (ocallc rfl rfl (ev (v := .func (.func F) #[] caps) rfl rfl) hF rfl (hf _ _ _ _ _ _ hes hS) (args1 (ev rfl rfl)) ?_)
    rintro _ w8 ⟨_, _, rfl, ⟨pr1, nr1, cr1, pr2, nr2, cr2, rfl, rfl⟩, hN⟩
    refine ⟨_, rfl, ?_⟩
    clear hS; have hS := hN; clear hN
    refine wl rfl (oextract (vs := [.agg #[.bool (ng z), .slice pr1 nr1 cr1, .bool (ng t), .slice pr2 nr2 cr2], .int .i64 E]) (v := .agg #[.bool (ng z), .slice pr1 nr1 cr1, .bool (ng t), .slice pr2 nr2 cr2]) rfl rfl (ev (v := .tuple #[.agg #[.bool (ng z), .slice pr1 nr1 cr1, .bool (ng t), .slice pr2 nr2 cr2], .int .i64 E]) rfl rfl) rfl ?_)
    refine wl rfl (oextract (vs := [.agg #[.bool (ng z), .slice pr1 nr1 cr1, .bool (ng t), .slice pr2 nr2 cr2], .int .i64 E]) (v := .int .i64 E) rfl rfl (ev (v := .tuple #[.agg #[.bool (ng z), .slice pr1 nr1 cr1, .bool (ng t), .slice pr2 nr2 cr2], .int .i64 E]) rfl rfl) rfl ?_)
    refine wl rfl (ostore [.bool (ng z), .slice pr1 nr1 cr1, .bool (ng t), .slice pr2 nr2 cr2] [.bool (ng z), .slice pr1 nr1 cr1, .bool (ng t), .slice pr2 nr2 cr2] Try.sizeOf27 hS 3 rfl rfl (ev rfl rfl) (ev (v := .agg #[.bool (ng z), .slice pr1 nr1 cr1, .bool (ng t), .slice pr2 nr2 cr2]) rfl rfl) rfl rfl rfl rfl rfl rfl ?_)
    clear hS; intro w9 hS
    refine wl rfl (oassign (v := .int .i64 E) rfl rfl (ev (v := .int .i64 E) rfl rfl) ?_)
    refine wnil ?_
    refine thenN ?_
    refine wleave ?_
    refine wret2 Try.results53 (tellC (cs := [.bool (ng z), .slice pr1 nr1 cr1, .bool (ng t), .slice pr2 nr2 cr2]) aggR hS 3 rfl rfl rfl rfl) (tellT (v := .int .i64 E) rfl rfl) ?_
    exact ⟨_, _, rfl, ⟨_, _, _, _, _, _, rfl, rfl⟩, hS.newM [0, 1] (by decide) rfl rfl⟩

end Go.Proofs.Ytoinfkimlhhmpaa
