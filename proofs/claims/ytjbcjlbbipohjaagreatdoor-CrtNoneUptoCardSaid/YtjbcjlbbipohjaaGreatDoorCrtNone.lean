
/-
  The walk of similelaw06.CrtNone.
-/
import Derived.Test.YtjbcjlbbipohjaaGreatDoorCrt4
import Derived.Test.YtjbcjlbbipohjaaGreatDoorLT
set_option linter.unusedVariables false
set_option linter.unusedSimpArgs false
set_option maxRecDepth 100000
set_option maxHeartbeats 16000000
namespace Go.Proofs.YtjbcjlbbipohjaaGreatDoor
open Go.RowKit

theorem fill1_2 {a b : Option Addr} : Instr.fill (fun i => some (i * 1, 1)) ((Array.range (2 * 1)).map ((Value.pointer none).cells[· % (Value.pointer none).cells.size]!)) #[(0, .pointer a), (1, .pointer b)].toList = some [Value.pointer a, Value.pointer b].toArray := by
 simp [Instr.fill, Value.cells, Array.range]
 apply Array.ext
 ·simp
 ·intro i h1 h2
  have h3 : i = 0 ∨ i = 1 := by simp at h2; omega
  rcases h3 with rfl | rfl <;> simp
theorem crtNone_walk0 {r p : Nat} {w : World} (ht : Tb w) :
  Calls Tryz.prog 12 #[.int .u32 ((r : Nat) : Int), .int .u32 ((p : Nat) : Int)] w (Ret (Is (.bool true)) w) := by
 have hS := Sep.init w
 refine went Tryz.func12 rfl (n := 54) rfl rfl ?_
 refine wseq ?_
 refine wreg ?_
 refine wl rfl (oassign (v := .bool false) rfl rfl evc ?_)
 refine wnil ?_
 refine thenN ?_
 refine wseq ?_
 refine wseq ?_
 refine wreg ?_
 refine wl rfl (obuild (ps := #[]) (v := .agg #[.slice none 0 0, .slice none 0 0, .slice none 0 0, .slice none 0 0, .map none]) rfl rfl (parts0) (fun w => by simp [go_sem, Instr.build, Instr.fill]) ?_)
 refine wl rfl (obox [.slice none 0 0, .slice none 0 0, .slice none 0 0, .slice none 0 0, .map none] hS rfl rfl (ev (v := .agg #[.slice none 0 0, .slice none 0 0, .slice none 0 0, .slice none 0 0, .map none]) rfl rfl) rfl ?_)
 clear hS; intro g1 w2 hS
 refine wl rfl (obslice (ps := #[(0, .pointer none), (1, .pointer (some ⟨g1, 0, none⟩))]) (z := .pointer none) [.pointer none, .pointer (some ⟨g1, 0, none⟩)] hS rfl rfl Tryz.runUnderlying94 Tryz.sizeOf64 Tryz.zeroValue64 (parts2 (evc (v := .pointer none)) (ev (v := .pointer (some ⟨g1, 0, none⟩)) rfl rfl)) rfl (by decide) fill1_2 ?_)
 clear hS; intro g3 w4 hS
 refine wl rfl (olen rfl rfl rfl Tryz.runUnderlying94 (p := (some ⟨g3, 0, none⟩)) (k := 2) (m := 2) (ev rfl rfl) ?_)
 refine wl rfl (omove (v := .int .i64 0) rfl rfl evc ?_)
 refine wnil ?_
 refine thenN ?_
 refine wblock ?_
 refine wloop (σ := Nat) (fun i a9 w' => ∃ (fb : Nat → Value), a9 = act 54 (sets fb [(0, .int .u32 (r : Int)), (1, .int .u32 (p : Int)), (10, .slice (some ⟨g3, 0, none⟩) 2 2), (11, .int .i64 (((2 : Nat) : Int))), (12, .int .i64 (i : Int))]) ∧ Sep w [.blk g3 [.pointer none, .pointer (some ⟨g1, 0, none⟩)] 64, .blk g1 [.slice none 0 0, .slice none 0 0, .slice none 0 0, .slice none 0 0, .map none] 93] w' ∧ (i ≤ 2)) (fun i => 2 - i) (0) ⟨_, act_sets (l := [(0, .int .u32 (r : Int)), (1, .int .u32 (p : Int)), (10, .slice (some ⟨g3, 0, none⟩) 2 2), (11, .int .i64 (((2 : Nat) : Int))), (12, .int .i64 0)]) ⟨rfl, rfl, rfl, rfl, rfl, trivial⟩, hS, by omega⟩ ?_
 clear hS; rintro i _ w5 ⟨fb, rfl, hS, hi⟩
 refine wseq ?_
 refine wreg ?_
 by_cases hlt : i < 2
 ·
  refine wl rfl (obin (u := .int .i64 (i : Int)) (v := .int .i64 (((2 : Nat) : Int))) (z := .bool true) rfl rfl (ev rfl rfl) (ev rfl rfl) (bin_lss (decide_eq_true (by omega))) ?_)
  refine wnil ?_
  refine thenN ?_
  refine wseq ?_
  refine wT (ev rfl rfl) ?_
  refine wskip ?_
  refine thenN ?_
  refine wseq ?_
  refine wblock ?_
  refine wseq ?_
  refine wreg ?_
  refine wl rfl (oindex (p := (some ⟨g3, 0, none⟩)) (g := g3) (off := 0) (m := 2) (k := i) (j := (0 + i * 1)) rfl rfl Tryz.runUnderlying94 Tryz.sizeOf64 (ev rfl rfl) (rfl) (ev rfl rfl) (hlt) rfl ?_)
  by_cases hi0 : i = 0
  ·
   refine wl rfl (oloadc (v := .pointer none) (show One Tryz.prog 64 from ⟨Tryz.isAgg64, Tryz.sizeOf64⟩) rfl rfl (ev (v := .pointer (some ⟨g3, (0 + i * 1), none⟩)) rfl rfl) ((by rw [hi0]; exact (blk_cell (hS.blkAt 0 rfl) 0).trans rfl)) ?_)
   refine wl rfl (oassign (v := .pointer none) rfl rfl (ev rfl rfl) ?_)
   refine wnil ?_
   refine thenN ?_
   refine wseq ?_
   refine wreg ?_
   refine wl rfl (omove (v := .pointer none) rfl rfl (ev rfl rfl) ?_)
   refine wl rfl (ocall rfl rfl Tryz.call39 rfl (wcSigned0n) (args1 (ev rfl rfl)) ?_)
   rintro _ w6 ⟨_, _, rfl, ⟨rfl, rfl⟩, hN⟩
   refine ⟨_, rfl, ?_⟩
   replace hS := hS.news hN; clear hN
   refine wl rfl (oalloc [.bool false, .slice none 0 0] hS rfl rfl Tryz.zeroValue28 rfl ?_)
   clear hS; intro g7 w8 hS
   refine wl rfl (ostore [.bool false, .slice none 0 0] [.bool false, .slice none 0 0] Tryz.sizeOf28 hS 0 rfl rfl (ev rfl rfl) (ev (v := .agg #[.bool false, .slice none 0 0]) rfl rfl) rfl rfl rfl rfl rfl rfl ?_)
   clear hS; intro w9 hS
   refine wnil ?_
   refine thenN ?_
   refine wseq ?_
   refine wreg ?_
   refine wl rfl (omove (v := .pointer none) rfl rfl (ev rfl rfl) ?_)
   refine wl rfl (omove (v := .int .u32 (r : Int)) rfl rfl (ev rfl rfl) ?_)
   refine wl rfl (omove (v := .int .u32 (p : Int)) rfl rfl (ev rfl rfl) ?_)
   refine wl rfl (ocall rfl rfl Tryz.call38 rfl (wcadd0n) (args3 (ev rfl rfl) (ev rfl rfl) (ev rfl rfl)) ?_)
   rintro _ w10 ⟨_, _, rfl, ⟨rfl, rfl⟩, hN⟩
   refine ⟨_, rfl, ?_⟩
   replace hS := hS.news hN; clear hN
   refine wl rfl (ocall rfl rfl Tryz.call13 rfl (wlnum6) (args1 (ev rfl rfl)) ?_)
   rintro _ w11 ⟨_, _, rfl, ⟨rfl, rfl⟩, hN⟩
   refine ⟨_, rfl, ?_⟩
   replace hS := hS.news hN; clear hN
   refine wl rfl (obin (u := .int .i64 8) (v := .int .i64 8) (z := .bool false) rfl rfl (ev rfl rfl) evc (bin_neq (by decide)) ?_)
   refine wl rfl (omove (v := .bool false) rfl rfl (ev rfl rfl) ?_)
   refine wlOn (e := 24) rfl rfl rfl rfl (omove (v := .pointer none) rfl rfl (ev rfl rfl) ?_)
   refine wlOn (e := 24) rfl rfl rfl rfl (ocall rfl rfl Tryz.call50 rfl (wcvalue0n) (args1 (ev rfl rfl)) ?_)
   rintro _ w12 ⟨_, _, rfl, ⟨rfl, rfl⟩, hN⟩
   refine ⟨_, rfl, ?_⟩
   replace hS := hS.news hN; clear hN
   refine wlOn (e := 24) rfl rfl rfl rfl (olen rfl rfl rfl Tryz.runUnderlying26 (p := none) (k := 0) (m := 0) (ev rfl rfl) ?_)
   refine wlOn (e := 24) rfl rfl rfl rfl (obin (u := .int .i64 (((0 : Nat) : Int))) (v := .int .i64 0) (z := .bool false) rfl rfl (ev rfl rfl) evc (bin_neq (neF (by omega))) ?_)
   refine wl rfl (opick (b := false) (v := .bool false) rfl rfl (ev rfl rfl) (ev rfl rfl) ?_)
   refine wl rfl (omove (v := .bool false) rfl rfl (ev rfl rfl) ?_)
   refine wlOn (e := 30) rfl rfl rfl rfl (omove (v := .pointer none) rfl rfl (ev rfl rfl) ?_)
   refine wlOn (e := 30) rfl rfl rfl rfl (ocall rfl rfl Tryz.call51 rfl (wcmod0n) (args1 (ev rfl rfl)) ?_)
   rintro _ w13 ⟨_, _, rfl, ⟨rfl, rfl⟩, hN⟩
   refine ⟨_, rfl, ?_⟩
   replace hS := hS.news hN; clear hN
   refine wlOn (e := 30) rfl rfl rfl rfl (olen rfl rfl rfl Tryz.runUnderlying26 (p := none) (k := 0) (m := 0) (ev rfl rfl) ?_)
   refine wlOn (e := 30) rfl rfl rfl rfl (obin (u := .int .i64 (((0 : Nat) : Int))) (v := .int .i64 0) (z := .bool false) rfl rfl (ev rfl rfl) evc (bin_neq (neF (by omega))) ?_)
   refine wl rfl (opick (b := false) (v := .bool false) rfl rfl (ev rfl rfl) (ev rfl rfl) ?_)
   refine wl rfl (omove (v := .bool false) rfl rfl (ev rfl rfl) ?_)
   refine wlOn (e := 36) rfl rfl rfl rfl (ofieldAddr (g := g7) (off := 0) 0 rfl rfl (ev rfl rfl) Tryz.runUnderlying28 rfl Tryz.sizeOf4 rfl ?_)
   refine wlOn (e := 36) rfl rfl rfl rfl (oload1 (v := .bool false) oneB hS 0 rfl rfl (ev rfl rfl) rfl rfl ?_)
   refine wl rfl (opick (b := false) (v := .bool false) rfl rfl (ev rfl rfl) (ev rfl rfl) ?_)
   refine wl rfl (omove (v := .bool false) rfl rfl (ev rfl rfl) ?_)
   refine wlOn (e := 40) rfl rfl rfl rfl (ofieldAddr (g := g7) (off := 0) 1 rfl rfl (ev rfl rfl) Tryz.runUnderlying28 rfl Tryz.sizeOf26 rfl ?_)
   refine wlOn (e := 40) rfl rfl rfl rfl (oload1 (v := .slice none 0 0) oneN hS 0 rfl rfl (ev rfl rfl) rfl rfl ?_)
   refine wlOn (e := 40) rfl rfl rfl rfl (olen rfl rfl rfl Tryz.runUnderlying26 (p := none) (k := 0) (m := 0) (ev rfl rfl) ?_)
   refine wlOn (e := 40) rfl rfl rfl rfl (obin (u := .int .i64 (((0 : Nat) : Int))) (v := .int .i64 0) (z := .bool false) rfl rfl (ev rfl rfl) evc (bin_neq (neF (by omega))) ?_)
   refine wl rfl (opick (b := false) (v := .bool false) rfl rfl (ev rfl rfl) (ev rfl rfl) ?_)
   refine wl rfl (omove (v := .bool false) rfl rfl (ev rfl rfl) ?_)
   refine wlOn (e := 46) rfl rfl rfl rfl (omove (v := .pointer none) rfl rfl (ev rfl rfl) ?_)
   refine wlOn (e := 46) rfl rfl rfl rfl (ocall rfl rfl Tryz.call52 rfl (wcpairs0n) (args1 (ev rfl rfl)) ?_)
   rintro _ w14 ⟨_, _, rfl, ⟨rfl, rfl⟩, hN⟩
   refine ⟨_, rfl, ?_⟩
   replace hS := hS.news hN; clear hN
   refine wlOn (e := 46) rfl rfl rfl rfl (olen rfl rfl rfl Tryz.runUnderlying37 (p := none) (k := 0) (m := 0) (ev rfl rfl) ?_)
   refine wlOn (e := 46) rfl rfl rfl rfl (obin (u := .int .i64 (((0 : Nat) : Int))) (v := .int .i64 0) (z := .bool false) rfl rfl (ev rfl rfl) evc (bin_neq (neF (by omega))) ?_)
   refine wl rfl (opick (b := false) (v := .bool false) rfl rfl (ev rfl rfl) (ev rfl rfl) ?_)
   refine wnil ?_
   refine thenN ?_
   refine wF (ev rfl rfl) ?_
   refine wskip ?_
   refine blkN ?_
   refine thenN ?_
   refine wreg ?_
   refine wl rfl (obin (u := .int .i64 (i : Int)) (v := .int .i64 1) (z := .int .i64 (((i + 1 : Nat) : Int))) rfl rfl (ev rfl rfl) evc (bin_add (wrap_i64 (by omega) (by omega))) ?_)
   refine wl rfl (omove (v := .int .i64 (((i + 1 : Nat) : Int))) rfl rfl (ev rfl rfl) ?_)
   refine wnil ?_
   refine thenN ?_
   exact ⟨(i + 1), ⟨_, act_sets (l := [(0, .int .u32 (r : Int)), (1, .int .u32 (p : Int)), (10, .slice (some ⟨g3, 0, none⟩) 2 2), (11, .int .i64 (((2 : Nat) : Int))), (12, .int .i64 (((i + 1 : Nat) : Int)))]) ⟨rfl, rfl, rfl, rfl, rfl, trivial⟩, hS.pick [1, 2] (by decide) rfl, by omega⟩, by omega⟩
  ·
   refine wl rfl (oloadc (v := .pointer (some ⟨g1, 0, none⟩)) (show One Tryz.prog 64 from ⟨Tryz.isAgg64, Tryz.sizeOf64⟩) rfl rfl (ev (v := .pointer (some ⟨g3, (0 + i * 1), none⟩)) rfl rfl) ((by rw [(show i = 1 by omega)]; exact (blk_cell (hS.blkAt 0 rfl) 1).trans rfl)) ?_)
   refine wl rfl (oassign (v := .pointer (some ⟨g1, 0, none⟩)) rfl rfl (ev rfl rfl) ?_)
   refine wnil ?_
   refine thenN ?_
   refine wseq ?_
   refine wreg ?_
   refine wl rfl (omove (v := .pointer (some ⟨g1, 0, none⟩)) rfl rfl (ev rfl rfl) ?_)
   refine wl rfl (ocall rfl rfl Tryz.call39 rfl (wcSigned1n (hS.blkAt 1 rfl)) (args1 (ev rfl rfl)) ?_)
   rintro _ w6 ⟨_, _, rfl, ⟨rfl, rfl⟩, hN⟩
   refine ⟨_, rfl, ?_⟩
   replace hS := hS.news hN; clear hN
   refine wl rfl (oalloc [.bool false, .slice none 0 0] hS rfl rfl Tryz.zeroValue28 rfl ?_)
   clear hS; intro g7 w8 hS
   refine wl rfl (ostore [.bool false, .slice none 0 0] [.bool false, .slice none 0 0] Tryz.sizeOf28 hS 0 rfl rfl (ev rfl rfl) (ev (v := .agg #[.bool false, .slice none 0 0]) rfl rfl) rfl rfl rfl rfl rfl rfl ?_)
   clear hS; intro w9 hS
   refine wnil ?_
   refine thenN ?_
   refine wseq ?_
   refine wreg ?_
   refine wl rfl (omove (v := .pointer (some ⟨g1, 0, none⟩)) rfl rfl (ev rfl rfl) ?_)
   refine wl rfl (omove (v := .int .u32 (r : Int)) rfl rfl (ev rfl rfl) ?_)
   refine wl rfl (omove (v := .int .u32 (p : Int)) rfl rfl (ev rfl rfl) ?_)
   refine wl rfl (ocall rfl rfl Tryz.call38 rfl (wcadd1n (hS.blkAt 2 rfl)) (args3 (ev rfl rfl) (ev rfl rfl) (ev rfl rfl)) ?_)
   rintro _ w10 ⟨_, _, rfl, ⟨rfl, rfl⟩, hN⟩
   refine ⟨_, rfl, ?_⟩
   replace hS := hS.news hN; clear hN
   refine wl rfl (ocall rfl rfl Tryz.call13 rfl (wlnum6) (args1 (ev rfl rfl)) ?_)
   rintro _ w11 ⟨_, _, rfl, ⟨rfl, rfl⟩, hN⟩
   refine ⟨_, rfl, ?_⟩
   replace hS := hS.news hN; clear hN
   refine wl rfl (obin (u := .int .i64 8) (v := .int .i64 8) (z := .bool false) rfl rfl (ev rfl rfl) evc (bin_neq (by decide)) ?_)
   refine wl rfl (omove (v := .bool false) rfl rfl (ev rfl rfl) ?_)
   refine wlOn (e := 24) rfl rfl rfl rfl (omove (v := .pointer (some ⟨g1, 0, none⟩)) rfl rfl (ev rfl rfl) ?_)
   refine wlOn (e := 24) rfl rfl rfl rfl (ocall rfl rfl Tryz.call50 rfl (wcvalue1n (hS.blkAt 2 rfl)) (args1 (ev rfl rfl)) ?_)
   rintro _ w12 ⟨_, _, rfl, ⟨rfl, rfl⟩, hN⟩
   refine ⟨_, rfl, ?_⟩
   replace hS := hS.news hN; clear hN
   refine wlOn (e := 24) rfl rfl rfl rfl (olen rfl rfl rfl Tryz.runUnderlying26 (p := none) (k := 0) (m := 0) (ev rfl rfl) ?_)
   refine wlOn (e := 24) rfl rfl rfl rfl (obin (u := .int .i64 (((0 : Nat) : Int))) (v := .int .i64 0) (z := .bool false) rfl rfl (ev rfl rfl) evc (bin_neq (neF (by omega))) ?_)
   refine wl rfl (opick (b := false) (v := .bool false) rfl rfl (ev rfl rfl) (ev rfl rfl) ?_)
   refine wl rfl (omove (v := .bool false) rfl rfl (ev rfl rfl) ?_)
   refine wlOn (e := 30) rfl rfl rfl rfl (omove (v := .pointer (some ⟨g1, 0, none⟩)) rfl rfl (ev rfl rfl) ?_)
   refine wlOn (e := 30) rfl rfl rfl rfl (ocall rfl rfl Tryz.call51 rfl (wcmod1n (hS.blkAt 2 rfl)) (args1 (ev rfl rfl)) ?_)
   rintro _ w13 ⟨_, _, rfl, ⟨rfl, rfl⟩, hN⟩
   refine ⟨_, rfl, ?_⟩
   replace hS := hS.news hN; clear hN
   refine wlOn (e := 30) rfl rfl rfl rfl (olen rfl rfl rfl Tryz.runUnderlying26 (p := none) (k := 0) (m := 0) (ev rfl rfl) ?_)
   refine wlOn (e := 30) rfl rfl rfl rfl (obin (u := .int .i64 (((0 : Nat) : Int))) (v := .int .i64 0) (z := .bool false) rfl rfl (ev rfl rfl) evc (bin_neq (neF (by omega))) ?_)
   refine wl rfl (opick (b := false) (v := .bool false) rfl rfl (ev rfl rfl) (ev rfl rfl) ?_)
   refine wl rfl (omove (v := .bool false) rfl rfl (ev rfl rfl) ?_)
   refine wlOn (e := 36) rfl rfl rfl rfl (ofieldAddr (g := g7) (off := 0) 0 rfl rfl (ev rfl rfl) Tryz.runUnderlying28 rfl Tryz.sizeOf4 rfl ?_)
   refine wlOn (e := 36) rfl rfl rfl rfl (oload1 (v := .bool false) oneB hS 0 rfl rfl (ev rfl rfl) rfl rfl ?_)
   refine wl rfl (opick (b := false) (v := .bool false) rfl rfl (ev rfl rfl) (ev rfl rfl) ?_)
   refine wl rfl (omove (v := .bool false) rfl rfl (ev rfl rfl) ?_)
   refine wlOn (e := 40) rfl rfl rfl rfl (ofieldAddr (g := g7) (off := 0) 1 rfl rfl (ev rfl rfl) Tryz.runUnderlying28 rfl Tryz.sizeOf26 rfl ?_)
   refine wlOn (e := 40) rfl rfl rfl rfl (oload1 (v := .slice none 0 0) oneN hS 0 rfl rfl (ev rfl rfl) rfl rfl ?_)
   refine wlOn (e := 40) rfl rfl rfl rfl (olen rfl rfl rfl Tryz.runUnderlying26 (p := none) (k := 0) (m := 0) (ev rfl rfl) ?_)
   refine wlOn (e := 40) rfl rfl rfl rfl (obin (u := .int .i64 (((0 : Nat) : Int))) (v := .int .i64 0) (z := .bool false) rfl rfl (ev rfl rfl) evc (bin_neq (neF (by omega))) ?_)
   refine wl rfl (opick (b := false) (v := .bool false) rfl rfl (ev rfl rfl) (ev rfl rfl) ?_)
   refine wl rfl (omove (v := .bool false) rfl rfl (ev rfl rfl) ?_)
   refine wlOn (e := 46) rfl rfl rfl rfl (omove (v := .pointer (some ⟨g1, 0, none⟩)) rfl rfl (ev rfl rfl) ?_)
   refine wlOn (e := 46) rfl rfl rfl rfl (ocall rfl rfl Tryz.call52 rfl (wcpairs1n (hS.blkAt 2 rfl)) (args1 (ev rfl rfl)) ?_)
   rintro _ w14 ⟨_, _, rfl, ⟨rfl, rfl⟩, hN⟩
   refine ⟨_, rfl, ?_⟩
   replace hS := hS.news hN; clear hN
   refine wlOn (e := 46) rfl rfl rfl rfl (olen rfl rfl rfl Tryz.runUnderlying37 (p := none) (k := 0) (m := 0) (ev rfl rfl) ?_)
   refine wlOn (e := 46) rfl rfl rfl rfl (obin (u := .int .i64 (((0 : Nat) : Int))) (v := .int .i64 0) (z := .bool false) rfl rfl (ev rfl rfl) evc (bin_neq (neF (by omega))) ?_)
   refine wl rfl (opick (b := false) (v := .bool false) rfl rfl (ev rfl rfl) (ev rfl rfl) ?_)
   refine wnil ?_
   refine thenN ?_
   refine wF (ev rfl rfl) ?_
   refine wskip ?_
   refine blkN ?_
   refine thenN ?_
   refine wreg ?_
   refine wl rfl (obin (u := .int .i64 (i : Int)) (v := .int .i64 1) (z := .int .i64 (((i + 1 : Nat) : Int))) rfl rfl (ev rfl rfl) evc (bin_add (wrap_i64 (by omega) (by omega))) ?_)
   refine wl rfl (omove (v := .int .i64 (((i + 1 : Nat) : Int))) rfl rfl (ev rfl rfl) ?_)
   refine wnil ?_
   refine thenN ?_
   exact ⟨(i + 1), ⟨_, act_sets (l := [(0, .int .u32 (r : Int)), (1, .int .u32 (p : Int)), (10, .slice (some ⟨g3, 0, none⟩) 2 2), (11, .int .i64 (((2 : Nat) : Int))), (12, .int .i64 (((i + 1 : Nat) : Int)))]) ⟨rfl, rfl, rfl, rfl, rfl, trivial⟩, hS.pick [1, 2] (by decide) rfl, by omega⟩, by omega⟩
 ·
  refine wl rfl (obin (u := .int .i64 (i : Int)) (v := .int .i64 (((2 : Nat) : Int))) (z := .bool false) rfl rfl (ev rfl rfl) (ev rfl rfl) (bin_lss (decide_eq_false (by omega))) ?_)
  refine wnil ?_
  refine thenN ?_
  refine wseq ?_
  refine wF (ev rfl rfl) ?_
  refine wexit ?_
  refine thenE ?_
  refine thenE ?_
  refine blkE ?_
  refine thenN ?_
  refine wseq ?_
  refine wreg ?_
  refine wl rfl (ocall rfl rfl Tryz.call14 rfl (wlawake6 (ht.at hS)) (args0 ) ?_)
  rintro _ w6 ⟨_, _, rfl, ⟨rfl, rfl⟩, hN⟩
  refine ⟨_, rfl, ?_⟩
  replace hS := hS.news hN; clear hN
  refine wl rfl (oassign (v := .bool true) rfl rfl (ev rfl rfl) ?_)
  refine wnil ?_
  refine thenN ?_
  refine wleave ?_
  refine wret1 Tryz.results12 (tellT (v := .bool true) rfl rfl) ?_
  exact ⟨_, _, rfl, isI, hS.new0⟩

theorem crtNone_walk {s0 s1 : Int} {w : World} (h1 : Tab w) (h2 : Bases w) (b1 : 0 ≤ s0 ∧ s0 ≤ 4294967295) (b2 : 0 ≤ s1 ∧ s1 ≤ 4294967295) : Calls Tryz.prog 12 #[.int .u32 s0, .int .u32 s1] w (RetB w true) := by
  obtain ⟨r, rfl⟩ := Int.eq_ofNat_of_zero_le b1.1
  obtain ⟨p, rfl⟩ := Int.eq_ofNat_of_zero_le b2.1
  exact Ret.bool (crtNone_walk0 ⟨h1, h2⟩)
end Go.Proofs.YtjbcjlbbipohjaaGreatDoor
