
/-
  zint's folded: what a function of two integers makes of a list.
-/
import Derived.Test.YtoinfkimlhhmpaaZS
set_option linter.unusedVariables false
set_option linter.unusedSimpArgs false
namespace Go.Proofs.Ytoinfkimlhhmpaa
open Go.RowKit

theorem Sep.cellAt {w w' : World} {R : List Res} (hS : Sep w R w') {g j : Nat} {v : Value} (h : w.cell? ⟨g, j, none⟩ = some v) : w'.cell? ⟨g, j, none⟩ = some v :=
  (World.cell?_of_block (w := w) (hS.below.block g (World.block_lt_of_cell? w _ h))).trans h

set_option maxRecDepth 100000 in
set_option maxHeartbeats 16000000 in
theorem wfold0 {F : FuncId} (hF : ∀ args w, (callFunc F args).run Try.prog w = .ok (.enter F args) w) {l : List Int} {acc : Nat → Int} {w : World} {b0 : Bool} {p0 pl : Option Addr} {n0 c0 m cl : Nat} (hl : Zs w pl m l 67108864) (hm : m = 0) :
    Calls Try.prog 106 #[.agg #[.bool b0, .slice p0 n0 c0], .slice pl m cl, .func (.func F) #[] #[]] w (Ret (Is (.agg #[.bool b0, .slice p0 n0 c0])) w) := by
  have hS := Sep.init w
  refine went Try.func106 rfl (n := 21) rfl rfl ?_
  refine wseq ?_
  refine wreg ?_
  refine wl rfl (obox [.bool b0, .slice p0 n0 c0] hS rfl rfl (ev (v := .agg #[.bool b0, .slice p0 n0 c0]) rfl rfl) rfl ?_)
  clear hS; intro g1 w2 hS
  refine wl rfl (oalloc [.bool false, .slice none 0 0] hS rfl rfl Try.zeroValue25 rfl ?_)
  clear hS; intro g3 w4 hS
  refine wnil ?_
  refine thenN ?_
  refine wseq ?_
  refine wseq ?_
  refine wreg ?_
  refine wl rfl (omove (v := .slice pl m cl) rfl rfl (ev (v := .slice pl m cl) rfl rfl) ?_)
  refine wl rfl (olen rfl rfl rfl Try.runUnderlying40 (p := pl) (k := m) (m := cl) (ev (v := .slice pl m cl) rfl rfl) ?_)
  refine wl rfl (omove (v := .int .i64 0) rfl rfl (evc (v := .int .i64 0)) ?_)
  refine wnil ?_
  refine thenN ?_
  refine wblock ?_
  refine wloop (σ := Nat) (fun k a w' => ∃ (fb : Nat → Value), a = act 21 (sets fb [(2, .func (.func F) #[] #[]), (3, .pointer (some ⟨g1, 0, none⟩)), (6, .pointer (some ⟨g3, 0, none⟩)), (9, .slice pl m cl), (10, .int .i64 (((m : Nat) : Int))), (11, .int .i64 0)]) ∧ Sep w [.blk g3 [.bool false, .slice none 0 0] 25, .blk g1 [.bool b0, .slice p0 n0 c0] 25] w') (fun k => k) (0) ⟨_, act_sets (l := [(2, .func (.func F) #[] #[]), (3, .pointer (some ⟨g1, 0, none⟩)), (6, .pointer (some ⟨g3, 0, none⟩)), (9, .slice pl m cl), (10, .int .i64 (((m : Nat) : Int))), (11, .int .i64 0)]) ⟨rfl, rfl, rfl, rfl, rfl, rfl, trivial⟩, hS⟩ ?_
  clear hS; rintro k _ w5 ⟨fb, rfl, hS⟩
  refine wseq ?_
  refine wreg ?_
  refine wl rfl (obin (u := .int .i64 0) (v := .int .i64 (((m : Nat) : Int))) (z := .bool false) rfl rfl (ev (v := .int .i64 0) rfl rfl) (ev (v := .int .i64 (((m : Nat) : Int))) rfl rfl) (bin_lss (decide_eq_false (by omega))) ?_)
  refine wnil ?_
  refine thenN ?_
  refine wseq ?_
  refine wF (ev (v := .bool false) rfl rfl) ?_
  refine wexit ?_
  refine thenE ?_
  refine thenE ?_
  refine blkE ?_
  refine thenN ?_
  refine wseq ?_
  refine wreg ?_
  refine wl rfl (oload (vs := [.bool b0, .slice p0 n0 c0]) aggZ hS 1 rfl rfl (ev rfl rfl) rfl rfl rfl ?_)
  refine wl rfl (ostore [.bool b0, .slice p0 n0 c0] [.bool b0, .slice p0 n0 c0] Try.sizeOf25 hS 0 rfl rfl (ev rfl rfl) (ev (v := .agg #[.bool b0, .slice p0 n0 c0]) rfl rfl) rfl rfl rfl rfl rfl rfl ?_)
  clear hS; intro w6 hS
  refine wnil ?_
  refine thenN ?_
  refine wleave ?_
  refine wret1 Try.results106 (tellC (cs := [.bool b0, .slice p0 n0 c0]) aggZ hS 0 rfl rfl rfl rfl) ?_
  exact ⟨_, _, rfl, ⟨rfl, rfl⟩, hS.new0⟩

set_option maxRecDepth 100000 in
set_option maxHeartbeats 16000000 in
theorem wfold {F : FuncId} (hF : ∀ args w, (callFunc F args).run Try.prog w = .ok (.enter F args) w) {l : List Int} {acc : Nat → Int} {w : World} {b0 : Bool} {p0 pl : Option Addr} {n0 c0 m cl : Nat} (hl : Zs w pl m l 67108864) (hop : ∀ i z b b2 p q n c k d w, l[i]? = some z → Zr w b p n c (acc i) 1073741824 → Zr w b2 q k d z 67108864 → Calls Try.prog F #[.agg #[.bool b, .slice p n c], .agg #[.bool b2, .slice q k d]] w (Ret (Zt (acc (i + 1))) w)) (hW : ∀ i, i ≤ m → Wd (acc i) 1073741824) (h0 : Zr w b0 p0 n0 c0 (acc 0) 1073741824) (hm : 0 < m) :
    Calls Try.prog 106 #[.agg #[.bool b0, .slice p0 n0 c0], .slice pl m cl, .func (.func F) #[] #[]] w (Ret (Zt (acc m)) w) := by
  have hS := Sep.init w
  refine went Try.func106 rfl (n := 21) rfl rfl ?_
  refine wseq ?_
  refine wreg ?_
  refine wl rfl (obox [.bool b0, .slice p0 n0 c0] hS rfl rfl (ev (v := .agg #[.bool b0, .slice p0 n0 c0]) rfl rfl) rfl ?_)
  clear hS; intro g1 w2 hS
  refine wl rfl (oalloc [.bool false, .slice none 0 0] hS rfl rfl Try.zeroValue25 rfl ?_)
  clear hS; intro g3 w4 hS
  refine wnil ?_
  refine thenN ?_
  refine wseq ?_
  refine wseq ?_
  refine wreg ?_
  refine wl rfl (omove (v := .slice pl m cl) rfl rfl (ev (v := .slice pl m cl) rfl rfl) ?_)
  refine wl rfl (olen rfl rfl rfl Try.runUnderlying40 (p := pl) (k := m) (m := cl) (ev (v := .slice pl m cl) rfl rfl) ?_)
  refine wl rfl (omove (v := .int .i64 0) rfl rfl (evc (v := .int .i64 0)) ?_)
  refine wnil ?_
  refine thenN ?_
  refine wblock ?_
  refine wloopP (σ := Nat) (fun i a w' => ∃ (fb : Nat → Value) (pza : Option Addr) (nza : Nat) (cza : Nat), a = act 21 (sets fb [(2, .func (.func F) #[] #[]), (3, .pointer (some ⟨g1, 0, none⟩)), (6, .pointer (some ⟨g3, 0, none⟩)), (9, .slice pl m cl), (10, .int .i64 (((m : Nat) : Int))), (11, .int .i64 (((i : Nat) : Int)))]) ∧ Sep w [.row pza nza cza (lim ((acc i)).natAbs), .blk g3 [.bool false, .slice none 0 0] 25, .blk g1 [.bool (ng ((acc i))), .slice pza nza cza] 25] w' ∧ (i ≤ m) ∧ (Wd ((acc i)) 1073741824)) (fun i => m - i) (m) ?_ ?_
  ·
    refine wseq ?_
    refine wreg ?_
    refine wl rfl (obin (u := .int .i64 0) (v := .int .i64 (((m : Nat) : Int))) (z := .bool true) rfl rfl (ev (v := .int .i64 0) rfl rfl) (ev (v := .int .i64 (((m : Nat) : Int))) rfl rfl) (bin_lss (decide_eq_true (by omega))) ?_)
    refine wnil ?_
    refine thenN ?_
    refine wseq ?_
    refine wT (ev (v := .bool true) rfl rfl) ?_
    refine wskip ?_
    refine thenN ?_
    refine wseq ?_
    refine wblock ?_
    refine wseq ?_
    refine wreg ?_
    obtain ⟨ze, ge, oe, be, pe, ne, ce, hle, hpe, hce, hze⟩ := hl.el hm
    refine wl rfl (oindex (p := pl) (g := ge) (off := oe) (m := m) (k := 0) (j := (oe + 0 * 2)) rfl rfl Try.runUnderlying40 Try.sizeOf25 (ev (v := .slice pl m cl) rfl rfl) (hpe) (ev (v := .int .i64 0) rfl rfl) (hm) rfl ?_)
    refine wl rfl (oloadA (vs := [.bool be, .slice pe ne ce]) aggZ rfl rfl (ev (v := .pointer (some ⟨ge, (oe + 0 * 2), none⟩)) rfl rfl) (fun j v hj => hS.cellAt (hce j v hj)) rfl ?_)
    refine wl rfl (oalloc [.bool false, .slice none 0 0] hS rfl rfl Try.zeroValue25 rfl ?_)
    clear hS; intro g5 w6 hS
    refine wl rfl (ostore [.bool be, .slice pe ne ce] [.bool be, .slice pe ne ce] Try.sizeOf25 hS 0 rfl rfl (ev rfl rfl) (ev (v := .agg #[.bool be, .slice pe ne ce]) rfl rfl) rfl rfl rfl rfl rfl rfl ?_)
    clear hS; intro w7 hS
    refine wnil ?_
    refine thenN ?_
    refine wreg ?_
    refine wl rfl (omove (v := .func (.func F) #[] #[]) rfl rfl (ev (v := .func (.func F) #[] #[]) rfl rfl) ?_)
    refine wl rfl (oload (vs := [.bool b0, .slice p0 n0 c0]) aggZ hS 2 rfl rfl (ev rfl rfl) rfl rfl rfl ?_)
    refine wl rfl (oload (vs := [.bool be, .slice pe ne ce]) aggZ hS 0 rfl rfl (ev rfl rfl) rfl rfl rfl ?_)
    refine wl rfl (ocallv rfl rfl (ev (v := .func (.func F) #[] #[]) rfl rfl) hF rfl (hop 0 ze _ _ _ _ _ _ _ _ _ hle (h0.at hS) (hze.at hS)) (args2 (ev rfl rfl) (ev rfl rfl)) ?_)
    rintro _ w8 ⟨_, _, rfl, ⟨pr, nr, cr, rfl, rfl⟩, hN⟩
    refine ⟨_, rfl, ?_⟩
    replace hS := hS.news hN; clear hN
    have hkr : Wd (acc (0 + 1)) 1073741824 := hW _ (by omega)
    refine wl rfl (ostore [.bool (ng ((acc (0 + 1)))), .slice pr nr cr] [.bool (ng ((acc (0 + 1)))), .slice pr nr cr] Try.sizeOf25 hS 3 rfl rfl (ev rfl rfl) (ev (v := .agg #[.bool (ng ((acc (0 + 1)))), .slice pr nr cr]) rfl rfl) rfl rfl rfl rfl rfl rfl ?_)
    clear hS; intro w9 hS
    refine wnil ?_
    refine blkN ?_
    refine thenN ?_
    refine wreg ?_
    refine wl rfl (obin (u := .int .i64 0) (v := .int .i64 1) (z := .int .i64 (((0 + 1 : Nat) : Int))) rfl rfl (ev (v := .int .i64 0) rfl rfl) (evc (v := .int .i64 1)) (bin_add (wrap_succ (k := 0) (by have := hl.2.1; omega))) ?_)
    refine wl rfl (omove (v := .int .i64 (((0 + 1 : Nat) : Int))) rfl rfl (ev (v := .int .i64 (((0 + 1 : Nat) : Int))) rfl rfl) ?_)
    refine wnil ?_
    refine thenN ?_
    exact ⟨(0 + 1), ⟨_, _, _, _, act_sets (l := [(2, .func (.func F) #[] #[]), (3, .pointer (some ⟨g1, 0, none⟩)), (6, .pointer (some ⟨g3, 0, none⟩)), (9, .slice pl m cl), (10, .int .i64 (((m : Nat) : Int))), (11, .int .i64 (((0 + 1 : Nat) : Int)))]) ⟨rfl, rfl, rfl, rfl, rfl, rfl, trivial⟩, hS.pick [0, 2, 3] (by decide) rfl, by omega, (hkr).mono (by omega)⟩, by omega⟩
  clear hS; rintro i _ w10 ⟨fb, pza, nza, cza, rfl, hS, hi, hkza⟩
  refine wseq ?_
  refine wreg ?_
  by_cases hlt : i < m
  ·
    refine wl rfl (obin (u := .int .i64 (((i : Nat) : Int))) (v := .int .i64 (((m : Nat) : Int))) (z := .bool true) rfl rfl (ev (v := .int .i64 (((i : Nat) : Int))) rfl rfl) (ev (v := .int .i64 (((m : Nat) : Int))) rfl rfl) (bin_lss (decide_eq_true (by omega))) ?_)
    refine wnil ?_
    refine thenN ?_
    refine wseq ?_
    refine wT (ev (v := .bool true) rfl rfl) ?_
    refine wskip ?_
    refine thenN ?_
    refine wseq ?_
    refine wblock ?_
    refine wseq ?_
    refine wreg ?_
    obtain ⟨ze, ge, oe, be, pe, ne, ce, hle, hpe, hce, hze⟩ := hl.el hlt
    refine wl rfl (oindex (p := pl) (g := ge) (off := oe) (m := m) (k := i) (j := (oe + i * 2)) rfl rfl Try.runUnderlying40 Try.sizeOf25 (ev (v := .slice pl m cl) rfl rfl) (hpe) (ev (v := .int .i64 (((i : Nat) : Int))) rfl rfl) (hlt) rfl ?_)
    refine wl rfl (oloadA (vs := [.bool be, .slice pe ne ce]) aggZ rfl rfl (ev (v := .pointer (some ⟨ge, (oe + i * 2), none⟩)) rfl rfl) (fun j v hj => hS.cellAt (hce j v hj)) rfl ?_)
    refine wl rfl (oalloc [.bool false, .slice none 0 0] hS rfl rfl Try.zeroValue25 rfl ?_)
    clear hS; intro g11 w12 hS
    refine wl rfl (ostore [.bool be, .slice pe ne ce] [.bool be, .slice pe ne ce] Try.sizeOf25 hS 0 rfl rfl (ev rfl rfl) (ev (v := .agg #[.bool be, .slice pe ne ce]) rfl rfl) rfl rfl rfl rfl rfl rfl ?_)
    clear hS; intro w13 hS
    refine wnil ?_
    refine thenN ?_
    refine wreg ?_
    refine wl rfl (omove (v := .func (.func F) #[] #[]) rfl rfl (ev (v := .func (.func F) #[] #[]) rfl rfl) ?_)
    refine wl rfl (oload (vs := [.bool (ng ((acc i))), .slice pza nza cza]) aggZ hS 3 rfl rfl (ev rfl rfl) rfl rfl rfl ?_)
    refine wl rfl (oload (vs := [.bool be, .slice pe ne ce]) aggZ hS 0 rfl rfl (ev rfl rfl) rfl rfl rfl ?_)
    refine wl rfl (ocallv rfl rfl (ev (v := .func (.func F) #[] #[]) rfl rfl) hF rfl (hop i ze _ _ _ _ _ _ _ _ _ hle ((hS.sl 1 rfl).zr hkza) (hze.at hS)) (args2 (ev rfl rfl) (ev rfl rfl)) ?_)
    rintro _ w14 ⟨_, _, rfl, ⟨pr, nr, cr, rfl, rfl⟩, hN⟩
    refine ⟨_, rfl, ?_⟩
    replace hS := hS.news hN; clear hN
    have hkr : Wd (acc (i + 1)) 1073741824 := hW _ (by omega)
    refine wl rfl (ostore [.bool (ng ((acc (i + 1)))), .slice pr nr cr] [.bool (ng ((acc (i + 1)))), .slice pr nr cr] Try.sizeOf25 hS 4 rfl rfl (ev rfl rfl) (ev (v := .agg #[.bool (ng ((acc (i + 1)))), .slice pr nr cr]) rfl rfl) rfl rfl rfl rfl rfl rfl ?_)
    clear hS; intro w15 hS
    refine wnil ?_
    refine blkN ?_
    refine thenN ?_
    refine wreg ?_
    refine wl rfl (obin (u := .int .i64 (((i : Nat) : Int))) (v := .int .i64 1) (z := .int .i64 (((i + 1 : Nat) : Int))) rfl rfl (ev (v := .int .i64 (((i : Nat) : Int))) rfl rfl) (evc (v := .int .i64 1)) (bin_add (wrap_succ (k := i) (by have := hl.2.1; omega))) ?_)
    refine wl rfl (omove (v := .int .i64 (((i + 1 : Nat) : Int))) rfl rfl (ev (v := .int .i64 (((i + 1 : Nat) : Int))) rfl rfl) ?_)
    refine wnil ?_
    refine thenN ?_
    exact ⟨(i + 1), ⟨_, _, _, _, act_sets (l := [(2, .func (.func F) #[] #[]), (3, .pointer (some ⟨g1, 0, none⟩)), (6, .pointer (some ⟨g3, 0, none⟩)), (9, .slice pl m cl), (10, .int .i64 (((m : Nat) : Int))), (11, .int .i64 (((i + 1 : Nat) : Int)))]) ⟨rfl, rfl, rfl, rfl, rfl, rfl, trivial⟩, hS.pick [0, 3, 4] (by decide) rfl, by omega, (hkr).mono (by omega)⟩, by omega⟩
  ·
    refine wl rfl (obin (u := .int .i64 (((i : Nat) : Int))) (v := .int .i64 (((m : Nat) : Int))) (z := .bool false) rfl rfl (ev (v := .int .i64 (((i : Nat) : Int))) rfl rfl) (ev (v := .int .i64 (((m : Nat) : Int))) rfl rfl) (bin_lss (decide_eq_false (by omega))) ?_)
    refine wnil ?_
    refine thenN ?_
    refine wseq ?_
    refine wF (ev (v := .bool false) rfl rfl) ?_
    refine wexit ?_
    refine thenE ?_
    refine thenE ?_
    refine blkE ?_
    refine thenN ?_
    refine wseq ?_
    refine wreg ?_
    refine wl rfl (oload (vs := [.bool (ng ((acc i))), .slice pza nza cza]) aggZ hS 2 rfl rfl (ev rfl rfl) rfl rfl rfl ?_)
    refine wl rfl (ostore [.bool (ng ((acc i))), .slice pza nza cza] [.bool (ng ((acc i))), .slice pza nza cza] Try.sizeOf25 hS 1 rfl rfl (ev rfl rfl) (ev (v := .agg #[.bool (ng ((acc i))), .slice pza nza cza]) rfl rfl) rfl rfl rfl rfl rfl rfl ?_)
    clear hS; intro w11 hS
    refine wnil ?_
    refine thenN ?_
    refine wleave ?_
    refine wret1 Try.results106 (tellC (cs := [.bool (ng ((acc i))), .slice pza nza cza]) aggZ hS 1 rfl rfl rfl rfl) ?_
    obtain rfl : i = m := by omega
    exact ⟨_, _, rfl, ⟨_, _, _, rfl, rfl⟩, hS.new1 0 rfl⟩

end Go.Proofs.Ytoinfkimlhhmpaa
