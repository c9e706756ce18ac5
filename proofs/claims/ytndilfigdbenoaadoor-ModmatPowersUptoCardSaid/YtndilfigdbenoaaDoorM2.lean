/-
  Contracts and lemmas, joined in one text.
-/
import Derived.Test.YtndilfigdbenoaaDoorMm3
set_option linter.unusedVariables false
set_option linter.unusedSimpArgs false
/-
  modmat's made, one, beside.
-/
set_option maxRecDepth 100000
set_option maxHeartbeats 16000000
namespace Go.Proofs.YtndilfigdbenoaaDoor
open Go.RowKit
def MdT (p r c : Nat) (ff : Nat → Nat → Nat) : Tell := fun v q => ∃ (pp : Option Addr) (cc : Nat) (Q : List Rw), nums Q = mkM r c ff ∧ v = .agg #[.int .u64 ((p : Nat) : Int), .slice pp r cc, .int .i64 ((c : Nat) : Int)] ∧ q = [.lst 52 1 pp r cc (mmE Q)]
theorem wxmade {p r c : Nat} {F : FuncId} {caps : Array Value} {ff : Nat → Nat → Nat} {w : World} (hF : ∀ args w, (callFunc F args).run Tryd.prog w = .ok (.enter F args) w) (hC : ∀ w', Below w.heap.size w w' → ∀ i k : Nat, i < r → k < c → Calls Tryd.prog F (#[.int .i64 ((i : Nat) : Int), .int .i64 ((k : Nat) : Int)] ++ caps) w' (Ret (Is (.int .u32 ((ff i k : Nat) : Int))) w')) (hlt : ∀ i k : Nat, i < r → k < c → ff i k < 4294967296) (hr : r ≤ 2097152) (hc : c ≤ 2097152) :
  Calls Tryd.prog 58 #[.int .u64 ((p : Nat) : Int), .int .i64 ((r : Nat) : Int), .int .i64 ((c : Nat) : Int), .func (.func F) #[] caps] w (Ret (MdT p r c ff) w) := by
 have hS := Sep.init w
 refine went Tryd.func58 rfl (n := 43) rfl rfl ?_
 refine wseq (wreg (wl rfl (oalloc [.int .u64 0, .slice none 0 0, .int .i64 0] hS rfl rfl Tryd.zeroValue63 rfl ?_)))
 clear hS; intro g1 w2 hS
 refine wnil (thenN (wseq (wreg (wl rfl (omove (v := .int .u64 (p : Int)) rfl rfl (ev rfl rfl) ?_)))))
 refine wl rfl (omove (v := .int .i64 (c : Int)) rfl rfl (ev rfl rfl) ?_)
 refine wl rfl (obuild (ps := #[(0, .int .u64 (p : Int)), (2, .int .i64 (c : Int))]) (v := .agg #[.int .u64 (p : Int), .slice none 0 0, .int .i64 (c : Int)]) rfl rfl (parts2 (ev (v := .int .u64 (p : Int)) rfl rfl) (ev (v := .int .i64 (c : Int)) rfl rfl)) (fun w => by simp [go_sem, Instr.build, Instr.fill]) ?_)
 refine wl rfl (oalloc [.int .u64 0, .slice none 0 0, .int .i64 0] hS rfl rfl Tryd.zeroValue63 rfl ?_)
 clear hS; intro g3 w4 hS
 refine wl rfl (ostore [.int .u64 (p : Int), .slice none 0 0, .int .i64 (c : Int)] [.int .u64 (p : Int), .slice none 0 0, .int .i64 (c : Int)] Tryd.sizeOf63 hS 0 rfl rfl (ev rfl rfl) (ev (v := .agg #[.int .u64 (p : Int), .slice none 0 0, .int .i64 (c : Int)]) rfl rfl) rfl rfl rfl rfl rfl rfl ?_)
 clear hS; intro w5 hS
 refine wnil (thenN (wseq (wseq (wreg (wl rfl (omove (v := .int .i64 (r : Int)) rfl rfl (ev rfl rfl) ?_))))))
 refine wl rfl (omove (v := .int .i64 0) rfl rfl evc ?_)
 refine wnil (thenN (wblock ?_))
 replace hS := hS.nilLst 52 1
 refine wloop (σ := Nat) (fun i a9 w' => ∃ (fb : Nat → Value) (Q : List Rw) (pX : Option Addr) (cX : Nat), a9 = act 43 (sets fb [(2, .int .i64 (c : Int)), (3, .func (.func F) #[] caps), (8, .pointer (some ⟨g1, 0, none⟩)), (9, .pointer (some ⟨g3, 0, none⟩)), (16, .int .i64 (r : Int)), (17, .int .i64 (i : Int))]) ∧ Sep w [.lst 52 1 pX i cX (mmE Q), .blk g3 [.int .u64 (p : Int), .slice pX i cX, .int .i64 (c : Int)] 63, .blk g1 [.int .u64 0, .slice none 0 0, .int .i64 0] 63] w' ∧ (i ≤ r) ∧ (nums Q = mkM i c ff)) (fun i => r - i) (0) ⟨_, [], none, 0, act_sets (l := [(2, .int .i64 (c : Int)), (3, .func (.func F) #[] caps), (8, .pointer (some ⟨g1, 0, none⟩)), (9, .pointer (some ⟨g3, 0, none⟩)), (16, .int .i64 (r : Int)), (17, .int .i64 0)]) ⟨rfl, rfl, rfl, rfl, rfl, rfl, trivial⟩, hS, Nat.zero_le _, rfl⟩ ?_
 clear hS; rintro i _ w6 ⟨fb, Q, pX, cX, rfl, hS, hi, hQ⟩
 refine wseq (wreg ?_)
 by_cases hli : i < r
 ·
  refine wl rfl (obin (u := .int .i64 (i : Int)) (v := .int .i64 (r : Int)) (z := .bool true) rfl rfl (ev rfl rfl) (ev rfl rfl) (bin_lss (decide_eq_true (by omega))) ?_)
  refine wnil (thenN (wseq ?_))
  refine wT (ev rfl rfl) ?_
  refine wskip (thenN (wseq (wblock (wseq (wreg (wl rfl (omove (v := .int .i64 (i : Int)) rfl rfl (ev rfl rfl) ?_)))))))
  refine wl rfl (oassign (v := .int .i64 (i : Int)) rfl rfl (ev rfl rfl) ?_)
  refine wnil (thenN (wseq (wreg (wl rfl (omove (v := .int .i64 (c : Int)) rfl rfl (ev rfl rfl) ?_)))))
  refine wl rfl (omakeL (zs := [.int .u32 0]) (k := c) (m := c) hS rfl rfl Tryd.underlying52 infouint32 rfl rfl (by decide) rfl (ev (v := .int .i64 (c : Int)) rfl rfl) (ev (v := .int .i64 (c : Int)) rfl rfl) (by omega) (by omega) (by omega) ?_)
  clear hS; intro g7 w8 hS
  refine wl rfl (oassign (v := .slice (some ⟨g7, 0, none⟩) c c) rfl rfl (ev rfl rfl) ?_)
  refine wnil (thenN (wseq (wseq (wreg (wl rfl (omove (v := .slice (some ⟨g7, 0, none⟩) c c) rfl rfl (ev rfl rfl) ?_))))))
  refine wl rfl (olen rfl rfl rfl Tryd.runUnderlying52 (p := (some ⟨g7, 0, none⟩)) (k := c) (m := c) (ev rfl rfl) ?_)
  refine wl rfl (omove (v := .int .i64 0) rfl rfl evc ?_)
  refine wnil (thenN (wblock ?_))
  obtain hS := (show Sep w [.lst 27 1 (some ⟨g7, 0, none⟩) c c (u32E (List.replicate c 0)), .lst 52 1 pX i cX (mmE Q), .blk g3 [.int .u64 (p : Int), .slice pX i cX, .int .i64 (c : Int)] 63, .blk g1 [.int .u64 0, .slice none 0 0, .int .i64 0] 63] w8 from by rw [u32E_rep]; exact hS).lstRow (lims_zeros _)
  rw [← mixR_zero (rowF c (ff i)) (List.replicate c 0)] at hS
  refine wloop (σ := Nat) (fun k a9 w' => ∃ (fb : Nat → Value), a9 = act 43 (sets fb [(2, .int .i64 (c : Int)), (3, .func (.func F) #[] caps), (8, .pointer (some ⟨g1, 0, none⟩)), (9, .pointer (some ⟨g3, 0, none⟩)), (10, .int .i64 (i : Int)), (11, .slice (some ⟨g7, 0, none⟩) c c), (16, .int .i64 (r : Int)), (17, .int .i64 (i : Int)), (23, .int .i64 (c : Int)), (24, .int .i64 (k : Int))]) ∧ Sep w [.rowm (some ⟨g7, 0, none⟩) c c (mixR (rowF c (ff i)) (List.replicate c 0) k), .lst 52 1 pX i cX (mmE Q), .blk g3 [.int .u64 (p : Int), .slice pX i cX, .int .i64 (c : Int)] 63, .blk g1 [.int .u64 0, .slice none 0 0, .int .i64 0] 63] w' ∧ (k ≤ c)) (fun k => c - k) (0) ⟨_, act_sets (l := [(2, .int .i64 (c : Int)), (3, .func (.func F) #[] caps), (8, .pointer (some ⟨g1, 0, none⟩)), (9, .pointer (some ⟨g3, 0, none⟩)), (10, .int .i64 (i : Int)), (11, .slice (some ⟨g7, 0, none⟩) c c), (16, .int .i64 (r : Int)), (17, .int .i64 (i : Int)), (23, .int .i64 (c : Int)), (24, .int .i64 0)]) ⟨rfl, rfl, rfl, rfl, rfl, rfl, rfl, rfl, rfl, rfl, trivial⟩, hS, Nat.zero_le _⟩ ?_
  clear hS; rintro k _ w9 ⟨fb, rfl, hS, hk⟩
  refine wseq (wreg ?_)
  by_cases hlk : k < c
  ·
   refine wl rfl (obin (u := .int .i64 (k : Int)) (v := .int .i64 (c : Int)) (z := .bool true) rfl rfl (ev rfl rfl) (ev rfl rfl) (bin_lss (decide_eq_true (by omega))) ?_)
   refine wnil (thenN (wseq ?_))
   refine wT (ev rfl rfl) ?_
   refine wskip (thenN (wseq (wblock (wseq (wreg (wl rfl (omove (v := .int .i64 (k : Int)) rfl rfl (ev rfl rfl) ?_)))))))
   refine wl rfl (oassign (v := .int .i64 (k : Int)) rfl rfl (ev rfl rfl) ?_)
   refine wnil (thenN (wreg (wl rfl (omove (v := .slice (some ⟨g7, 0, none⟩) c c) rfl rfl (ev rfl rfl) ?_))))
   refine wl rfl (omove (v := .int .i64 (k : Int)) rfl rfl (ev rfl rfl) ?_)
   refine wl rfl (omove (v := .func (.func F) #[] caps) rfl rfl (ev rfl rfl) ?_)
   refine wl rfl (omove (v := .int .i64 (i : Int)) rfl rfl (ev rfl rfl) ?_)
   refine wl rfl (omove (v := .int .i64 (k : Int)) rfl rfl (ev rfl rfl) ?_)
   refine wl rfl (ocallc (vs := #[.int .i64 (i : Int), .int .i64 (k : Int)]) (caps := caps) rfl rfl (ev (v := .func (.func F) #[] caps) rfl rfl) hF rfl (hC _ hS.below i k hli hlk) (args2 (ev rfl rfl) (ev rfl rfl)) ?_)
   rintro _ w10 ⟨_, _, rfl, ⟨rfl, rfl⟩, hN⟩
   refine ⟨_, rfl, ?_⟩
   replace hS := hS.news hN; clear hN
   refine wl rfl (oindex (p := (some ⟨g7, 0, none⟩)) (g := g7) (off := 0) (m := c) (k := k) (j := k) rfl rfl Tryd.runUnderlying52 Tryd.sizeOf27 (ev rfl rfl) (rfl) (ev rfl rfl) (by omega) (by simp) ?_)
   refine wl rfl (ostoreRow (i := k) (u := (ff i k)) Tryd.sizeOf27 hS 0 rfl rfl (ev (v := .pointer (some ⟨g7, k, none⟩)) rfl rfl) ((ev (v := .int .u32 (((ff i k : Nat) : Int))) rfl rfl)) rfl (rfl) ((by omega)) (hlt i k hli hlk) ?_)
   clear hS; intro w11 hS
   refine wnil (blkN (thenN (wreg (wl rfl (obin (u := .int .i64 (k : Int)) (v := .int .i64 1) (z := .int .i64 (((k + 1 : Nat) : Int))) rfl rfl (ev rfl rfl) evc (bin_add (wrap_i64 (by omega) (by omega))) ?_)))))
   refine wl rfl (omove (v := .int .i64 (((k + 1 : Nat) : Int))) rfl rfl (ev rfl rfl) ?_)
   refine wnil (thenN ?_)
   rw [mixR_set (new := (rowF c (ff i))) (old := (List.replicate c 0)) (by rw [rowF_len, List.length_replicate]) (by rw [List.length_replicate]; omega) (rowF_nd hlk).symm] at hS
   exact ⟨(k + 1), ⟨_, act_sets (l := [(2, .int .i64 (c : Int)), (3, .func (.func F) #[] caps), (8, .pointer (some ⟨g1, 0, none⟩)), (9, .pointer (some ⟨g3, 0, none⟩)), (10, .int .i64 (i : Int)), (11, .slice (some ⟨g7, 0, none⟩) c c), (16, .int .i64 (r : Int)), (17, .int .i64 (i : Int)), (23, .int .i64 (c : Int)), (24, .int .i64 (((k + 1 : Nat) : Int)))]) ⟨rfl, rfl, rfl, rfl, rfl, rfl, rfl, rfl, rfl, rfl, trivial⟩, hS.pick [0, 1, 2, 3] (by decide) rfl, by omega⟩, by omega⟩
  ·
   refine wl rfl (obin (u := .int .i64 (k : Int)) (v := .int .i64 (c : Int)) (z := .bool false) rfl rfl (ev rfl rfl) (ev rfl rfl) (bin_lss (decide_eq_false (by omega))) ?_)
   refine wnil (thenN (wseq ?_))
   refine wF (ev rfl rfl) ?_
   refine wexit ?_
   refine thenE ?_
   refine thenE ?_
   refine blkE ?_
   refine thenN (wreg (wl rfl (ofieldAddr (g := g3) (off := 0) 1 rfl rfl (ev rfl rfl) Tryd.runUnderlying63 rfl Tryd.sizeOf25 rfl ?_)))
   refine wl rfl (oload1 (v := .slice pX i cX) (show One Tryd.prog 25 from ⟨Tryd.isAgg25, Tryd.sizeOf25⟩) hS 2 rfl rfl (ev rfl rfl) rfl rfl ?_)
   refine wl rfl (omove (v := .slice (some ⟨g7, 0, none⟩) c c) rfl rfl (ev rfl rfl) ?_)
   refine wl rfl (obslice (ps := #[(0, .slice (some ⟨g7, 0, none⟩) c c)]) (z := .slice none 0 0) [.slice (some ⟨g7, 0, none⟩) c c] hS rfl rfl Tryd.runUnderlying25 Tryd.sizeOf52 Tryd.zeroValue52 (parts1 (ev (v := .slice (some ⟨g7, 0, none⟩) c c) rfl rfl)) rfl (by decide) (fill1_1s rfl rfl) ?_)
   clear hS; intro g10 w11 hS
   rw [mixR_full (new := (rowF c (ff i))) (old := (List.replicate c 0)) (by rw [rowF_len, List.length_replicate]) (by rw [List.length_replicate]; omega)] at hS
   obtain hS := (show Sep w [.rowm (some ⟨g7, 0, none⟩) c c (rowF c (ff i)), .lst 52 1 pX i cX (mmE Q), .blk g10 [.slice (some ⟨g7, 0, none⟩) c c] 52, .blk g3 [.int .u64 (((p : Nat) : Int)), .slice pX i cX, .int .i64 (((c : Nat) : Int))] 63, .blk g1 [.int .u64 0, .slice none 0 0, .int .i64 0] 63] w11 from hS.pick [1, 2, 0, 3, 4] (by decide) rfl)
   refine wl rfl (oappendL (p := pX) (m := i) (c := cX) (g2 := g10) (c2 := 1) (off := 0) [.slice (some ⟨g7, 0, none⟩) c c] [.rowm (some ⟨g7, 0, none⟩) c c (rowF c (ff i))] hS rfl rfl Tryd.underlying25 infoRow rfl (by decide) (ev (v := .slice pX i cX) rfl rfl) (ev (v := .slice (some ⟨g10, 0, none⟩) 1 1) rfl rfl) (fun j v hj => by rw [Nat.zero_add]; exact (blk_cell (hS.blkAt 2 rfl) j).trans hj) rfl rfl rfl (by omega) (by omega) ?_)
   clear hS; intro p13 c14 w12 hS
   refine wl rfl (ofieldAddr (g := g3) (off := 0) 1 rfl rfl (ev rfl rfl) Tryd.runUnderlying63 rfl Tryd.sizeOf25 rfl ?_)
   refine wl rfl (ostore [.slice p13 ((i + 1)) c14] [.int .u64 (p : Int), .slice p13 ((i + 1)) c14, .int .i64 (c : Int)] Tryd.sizeOf25 hS 2 rfl rfl (ev rfl rfl) (ev (v := .slice p13 ((i + 1)) c14) rfl rfl) rfl rfl rfl rfl rfl rfl ?_)
   clear hS; intro w15 hS
   refine wnil (blkN (thenN (wreg (wl rfl (obin (u := .int .i64 (i : Int)) (v := .int .i64 1) (z := .int .i64 (((i + 1 : Nat) : Int))) rfl rfl (ev rfl rfl) evc (bin_add (wrap_i64 (by omega) (by omega))) ?_)))))
   refine wl rfl (omove (v := .int .i64 (((i + 1 : Nat) : Int))) rfl rfl (ev rfl rfl) ?_)
   refine wnil (thenN ?_)
   rw [mmE_snoc (xs := rowF c (ff i)) (n := c) (rowF_len _ _)] at hS
   exact ⟨(i + 1), ⟨_, _, _, _, act_sets (l := [(2, .int .i64 (c : Int)), (3, .func (.func F) #[] caps), (8, .pointer (some ⟨g1, 0, none⟩)), (9, .pointer (some ⟨g3, 0, none⟩)), (16, .int .i64 (r : Int)), (17, .int .i64 (((i + 1 : Nat) : Int)))]) ⟨rfl, rfl, rfl, rfl, rfl, rfl, trivial⟩, hS.pick [0, 2, 3] (by decide) rfl, by omega, by rw [nums_app, hQ, mkM_S]⟩, by omega⟩
 ·
  refine wl rfl (obin (u := .int .i64 (i : Int)) (v := .int .i64 (r : Int)) (z := .bool false) rfl rfl (ev rfl rfl) (ev rfl rfl) (bin_lss (decide_eq_false (by omega))) ?_)
  refine wnil (thenN (wseq ?_))
  refine wF (ev rfl rfl) ?_
  refine wexit ?_
  refine thenE ?_
  refine thenE ?_
  refine blkE ?_
  refine thenN (wseq (wreg (wl rfl (oload (vs := [.int .u64 (p : Int), .slice pX i cX, .int .i64 (c : Int)]) (show Agg Tryd.prog 63 3 from ⟨Tryd.isAgg63, Tryd.sizeOf63⟩) hS 1 rfl rfl (ev rfl rfl) rfl rfl rfl ?_))))
  refine wl rfl (ostore [.int .u64 (p : Int), .slice pX i cX, .int .i64 (c : Int)] [.int .u64 (p : Int), .slice pX i cX, .int .i64 (c : Int)] Tryd.sizeOf63 hS 2 rfl rfl (ev rfl rfl) (ev (v := .agg #[.int .u64 (p : Int), .slice pX i cX, .int .i64 (c : Int)]) rfl rfl) rfl rfl rfl rfl rfl rfl ?_)
  clear hS; intro w7 hS
  refine wnil (thenN ?_)
  refine wleave ?_
  have hir : i = r := by omega
  refine wret1 Tryd.results58 (tellC (cs := [.int .u64 (p : Int), .slice pX i cX, .int .i64 (c : Int)]) (show Agg Tryd.prog 63 3 from ⟨Tryd.isAgg63, Tryd.sizeOf63⟩) hS 2 rfl rfl rfl rfl) ?_
  exact ⟨_, _, rfl, ⟨pX, cX, Q, by rw [← hir]; exact hQ, by rw [hir], by rw [hir]⟩, hS.newR 0 rfl rfl⟩
theorem wxone1 {i k : Nat} {w : World} :
  Calls Tryd.prog 60 #[.int .i64 ((i : Nat) : Int), .int .i64 ((k : Nat) : Int)] w (Ret (Is (.int .u32 (((if i = k then 1 else 0 : Nat) : Nat) : Int))) w) := by
 have hS := Sep.init w
 refine went Tryd.func60 rfl (n := 8) rfl rfl ?_
 refine wseq (wreg (wl rfl (oassign (v := .int .u32 0) rfl rfl evc ?_)))
 refine wnil (thenN (wseq (wseq (wreg (wl rfl (omove (v := .int .i64 (i : Int)) rfl rfl (ev rfl rfl) ?_))))))
 refine wl rfl (omove (v := .int .i64 (k : Int)) rfl rfl (ev rfl rfl) ?_)
 by_cases h : i = k
 ·
  refine wl rfl (obin (u := .int .i64 (i : Int)) (v := .int .i64 (k : Int)) (z := .bool true) rfl rfl (ev rfl rfl) (ev rfl rfl) (bin_eql (eqT (by omega))) ?_)
  refine wnil (thenN ?_)
  refine wT (ev rfl rfl) ?_
  refine wseq (wreg (wl rfl (oassign (v := .int .u32 1) rfl rfl evc ?_)))
  refine wnil (thenN ?_)
  refine wleave ?_
  refine thenR ?_
  refine wret1 Tryd.results60 (tellT (v := .int .u32 1) rfl rfl) ?_
  exact ⟨_, _, rfl, ⟨by rw [if_pos h]; rfl, rfl⟩, hS.new0⟩
 ·
  refine wl rfl (obin (u := .int .i64 (i : Int)) (v := .int .i64 (k : Int)) (z := .bool false) rfl rfl (ev rfl rfl) (ev rfl rfl) (bin_eql (eqF (by omega))) ?_)
  refine wnil (thenN ?_)
  refine wF (ev rfl rfl) ?_
  refine wskip (thenN (wseq (wreg (wl rfl (oassign (v := .int .u32 0) rfl rfl evc ?_)))))
  refine wnil (thenN ?_)
  refine wleave ?_
  refine wret1 Tryd.results60 (tellT (v := .int .u32 0) rfl rfl) ?_
  exact ⟨_, _, rfl, ⟨by rw [if_neg h]; rfl, rfl⟩, hS.new0⟩
def idM (n : Nat) : List (List Nat) := mkM n n fun i k => if i = k then 1 else 0
theorem wxone {p n : Nat} {w : World} (hn : n ≤ 2097152) :
  Calls Tryd.prog 39 #[.int .u64 ((p : Nat) : Int), .int .i64 ((n : Nat) : Int)] w (Ret (MdT p n n fun i k => if i = k then 1 else 0) w) := by
 have hS := Sep.init w
 refine went Tryd.func39 rfl (n := 9) rfl rfl ?_
 refine wseq (wreg (wl rfl (oalloc [.int .u64 0, .slice none 0 0, .int .i64 0] hS rfl rfl Tryd.zeroValue63 rfl ?_)))
 clear hS; intro g1 w2 hS
 refine wnil (thenN (wseq (wreg (wl rfl (omove (v := .int .u64 (p : Int)) rfl rfl (ev rfl rfl) ?_)))))
 refine wl rfl (omove (v := .int .i64 (n : Int)) rfl rfl (ev rfl rfl) ?_)
 refine wl rfl (omove (v := .int .i64 (n : Int)) rfl rfl (ev rfl rfl) ?_)
 refine wl rfl (ocall rfl rfl Tryd.call58 rfl (wxmade (caps := #[]) Tryd.call60 (fun _ _ i k _ _ => wxone1) (fun i k _ _ => by split <;> omega) (by omega) (by omega)) (args4 (ev rfl rfl) (ev rfl rfl) (ev rfl rfl) rfl) ?_)
 rintro _ w3 ⟨_, _, rfl, ⟨pI, cI, QI, hQI, rfl, rfl⟩, hN⟩
 refine ⟨_, rfl, ?_⟩
 replace hS := hS.news hN; clear hN
 refine wl rfl (ostore [.int .u64 (p : Int), .slice pI n cI, .int .i64 (n : Int)] [.int .u64 (p : Int), .slice pI n cI, .int .i64 (n : Int)] Tryd.sizeOf63 hS 1 rfl rfl (ev rfl rfl) (ev (v := .agg #[.int .u64 (p : Int), .slice pI n cI, .int .i64 (n : Int)]) rfl rfl) rfl rfl rfl rfl rfl rfl ?_)
 clear hS; intro w4 hS
 refine wnil (thenN ?_)
 refine wleave ?_
 refine wret1 Tryd.results39 (tellC (cs := [.int .u64 (p : Int), .slice pI n cI, .int .i64 (n : Int)]) (show Agg Tryd.prog 63 3 from ⟨Tryd.isAgg63, Tryd.sizeOf63⟩) hS 1 rfl rfl rfl rfl) ?_
 exact ⟨_, _, rfl, ⟨_, _, _, hQI, rfl, rfl⟩, hS.newR 0 rfl rfl⟩
end Go.Proofs.YtndilfigdbenoaaDoor
/-
  modmat's beside, Inverse, Det, Rank, Reduce.
-/
namespace Go.Proofs.YtndilfigdbenoaaDoor
open Go.RowKit
def besTo (M N : List (List Nat)) : Nat → List (List Nat)
  | 0 => M
  | i + 1 => (besTo M N i).set i ((besTo M N i).getD i [] ++ N.getD i [])
def besM (M N : List (List Nat)) : List (List Nat) := besTo M N M.length
theorem besTo_len {M N : List (List Nat)} : ∀ i, (besTo M N i).length = M.length
  | 0 => rfl
  | i + 1 => by rw [besTo, List.length_set]; exact besTo_len i
theorem besTo_from {M N : List (List Nat)} : ∀ {i l : Nat}, i ≤ l → (besTo M N i).getD l [] = M.getD l []
  | 0, _, _ => rfl
  | i + 1, l, h => by rw [besTo, getD_set_ne (by omega)]; exact besTo_from (by omega)
theorem besTo_done {M N : List (List Nat)} : ∀ {i l : Nat}, l < i → l < M.length → (besTo M N i).getD l [] = M.getD l [] ++ N.getD l []
 | 0, _, h, _ => by omega
 | i + 1, l, h, hl => by
  rw [besTo]
  by_cases e : l = i
  ·subst e; rw [getD_set_self (by rw [besTo_len]; exact hl), besTo_from (Nat.le_refl _)]
  ·rw [getD_set_ne (fun h => e h.symm)]; exact besTo_done (by omega) hl
theorem mem_getD {M : List (List Nat)} {r : List Nat} (h : r ∈ M) : ∃ i, i < M.length ∧ M.getD i [] = r := by
  obtain ⟨i, hi, rfl⟩ := List.getElem_of_mem h
  exact ⟨i, hi, by simp [List.getD, hi]⟩
theorem besM_shp {p C D : Nat} {M N : List (List Nat)} (hM : Shp p C M) (hN : Shp p D N) (hl : M.length = N.length) : Shp p (C + D) (besM M N) := fun r hr => by
  obtain ⟨i, hi, rfl⟩ := mem_getD hr
  unfold besM at hi ⊢
  rw [besTo_len] at hi
  rw [besTo_done hi hi]
  obtain ⟨a1, a2⟩ := hM.at hi
  obtain ⟨b1, b2⟩ := hN.at (show i < N.length by omega)
  refine ⟨by rw [List.length_append, a1, b1], fun x hx => ?_⟩
  exact (List.mem_append.1 hx).elim (a2 x) (b2 x)
theorem mkM_shp {p r c : Nat} {f : Nat → Nat → Nat} (h : ∀ i k, i < r → k < c → f i k < p) : Shp p c (mkM r c f) := fun q hq => by
  obtain ⟨i, hi, rfl⟩ := List.mem_map.1 hq
  refine ⟨rowF_len _ _, fun x hx => ?_⟩
  obtain ⟨k, hk, rfl⟩ := List.mem_map.1 hx
  exact h i k (List.mem_range.1 hi) (List.mem_range.1 hk)
theorem idM_shp {p n : Nat} (hp : 1 < p) : Shp p n (idM n) := mkM_shp fun i k _ _ => by split <;> omega
def dropTo (n : Nat) (M : List (List Nat)) : Nat → List (List Nat)
  | 0 => M
  | i + 1 => (dropTo n M i).set i (((dropTo n M i).getD i []).drop n)
theorem dropTo_len {n : Nat} {M : List (List Nat)} : ∀ i, (dropTo n M i).length = M.length
  | 0 => rfl
  | i + 1 => by rw [dropTo, List.length_set]; exact dropTo_len i
theorem dropTo_from {n : Nat} {M : List (List Nat)} : ∀ {i l : Nat}, i ≤ l → (dropTo n M i).getD l [] = M.getD l []
  | 0, _, _ => rfl
  | i + 1, l, h => by rw [dropTo, getD_set_ne (by omega)]; exact dropTo_from (by omega)
theorem dropTo_done {n : Nat} {M : List (List Nat)} : ∀ {i l : Nat}, l < i → l < M.length → (dropTo n M i).getD l [] = (M.getD l []).drop n
 | 0, _, h, _ => by omega
 | i + 1, l, h, hl => by
  rw [dropTo]
  by_cases e : l = i
  ·subst e; rw [getD_set_self (by rw [dropTo_len]; exact hl), dropTo_from (Nat.le_refl _)]
  ·rw [getD_set_ne (fun h => e h.symm)]; exact dropTo_done (by omega) hl
theorem ext_getD {M N : List (List Nat)} (hl : M.length = N.length) (h : ∀ i, i < M.length → M.getD i [] = N.getD i []) : M = N := by
  apply List.ext_getElem? 
  intro i
  by_cases hi : i < M.length
  · rw [get_getD hi, get_getD (by omega), h i hi]
  · rw [List.getElem?_eq_none (by omega), List.getElem?_eq_none (by omega)]
theorem dropTo_all {n : Nat} {M : List (List Nat)} : dropTo n M M.length = M.map (·.drop n) := by
  refine ext_getD (by rw [dropTo_len, List.length_map]) fun i hi => ?_
  rw [dropTo_len] at hi
  rw [dropTo_done hi hi]
  simp [List.getD, hi]
def BsX (p : Nat) (M N : List (List Nat)) (px : Option Addr) (n cx kr : Nat) (R' : List Res) : Tell := fun v r => ∃ (Q : List Rw), nums Q = besM M N ∧ v = .agg #[.int .u64 ((p : Nat) : Int), .slice px n cx, .int .i64 ((kr : Nat) : Int)] ∧ r = .lst 52 1 px n cx (mmE Q) :: R'
def MmE (M : List (List Nat)) (e : Int) : Tell := fun v r => ∃ (pp : Option Addr) (c : Nat) (Q : List Rw), nums Q = M ∧ v = .tuple #[.slice pp M.length c, .int .i64 e] ∧ r = [.lst 52 1 pp M.length c (mmE Q)]
theorem Sl.dropR {w : World} {p : Option Addr} {g c k m : Nat} {xs : List Nat} (h : Sl w p xs.length c xs) (hg : p = some ⟨g, 0, none⟩) (hm : xs.length = m) (hk : k ≤ m) : Sl w (some ⟨g, 0 + k * 1, none⟩) (m - k) (c - k) (xs.drop k) := by
  subst hg; subst hm
  rw [Nat.mul_one]
  exact h.drop hk
theorem wxclone {a : Addr} {n c : Nat} {xs : List Nat} {w : World} (h : Sl w (some a) n c xs) (hn : n ≤ 4294967296) :
  Calls Tryd.prog 43 #[.slice (some a) n c] w (Ret (Nw xs) w) := by
 have hS := Sep.init w
 refine went Tryd.func43 rfl (n := 8) rfl rfl ?_
 refine wseq (wreg (wl rfl (oassign (v := .slice none 0 0) rfl rfl evc ?_)))
 refine wnil (thenN (wseq (wseq (wreg (wl rfl (omove (v := .slice (some a) n c) rfl rfl (ev rfl rfl) ?_))))))
 refine wl rfl (obin (u := .slice (some a) n c) (v := .slice none 0 0) (z := .bool false) rfl rfl (ev rfl rfl) evc (bin_eqlS Tryd.underlying52 rfl) ?_)
 refine wnil (thenN ?_)
 refine wF (ev rfl rfl) ?_
 refine wskip (thenN (wseq (wreg (wl rfl (obslice0 hS rfl rfl Tryd.runUnderlying52 Tryd.sizeOf27 ?_)))))
 clear hS; intro g1 w2 hS
 refine wl rfl (omove (v := .slice (some a) n c) rfl rfl (ev rfl rfl) ?_)
 refine wl rfl (oappend0 (g := g1) (m := n) (c2 := c) (xs.map fun x : Nat => Value.int .u32 (x : Int)) hS rfl rfl Tryd.underlying52 infouint32 rfl (by decide) (ev (v := .slice (some ⟨g1, 0, none⟩) 0 0) rfl rfl) (ev (v := .slice (some a) n c) rfl rfl) (by rw [List.length_map, h.len, Nat.mul_one]) ((h.below hS.below (Nat.le_refl _)).news) (fun u hu => by obtain ⟨x, _, rfl⟩ := List.mem_map.1 hu; rfl) (by omega) (by omega) ?_)
 clear hS; intro p4 c5 w3 hS
 replace hS := hS.ownRow h.len h.lims
 refine wl rfl (oassign (v := .slice p4 n c5) rfl rfl (ev rfl rfl) ?_)
 refine wnil (thenN ?_)
 refine wleave ?_
 refine wret1 Tryd.results43 (tellT (v := .slice p4 n c5) rfl rfl) ?_
 exact ⟨_, _, rfl, ⟨_, _, _, rfl, rfl⟩, hS.newR 0 rfl rfl⟩
theorem wxinv1 {gb g p i n c kI : Nat} {nI cI : Nat} {pI q : Option Addr} {t : TypeId} {w : World} (hb : w.heap[gb]? = some (.cells [.int .u64 ((p : Nat) : Int), .slice pI nI cI, .int .i64 ((kI : Nat) : Int)].toArray t)) (hg : pI = some ⟨g, 0, none⟩) (hc : w.cell? ⟨g, 0 + i * 1, none⟩ = some (.slice q n c)) (hi : i < nI) :
  Calls Tryd.prog 41 #[.int .i64 ((i : Nat) : Int), .pointer (some ⟨gb, 0, none⟩)] w (Ret (Is (.slice q n c)) w) := by
 have hS := Sep.init w
 refine went Tryd.func41 rfl (n := 9) rfl rfl ?_
 refine wseq (wreg (wl rfl (oassign (v := .slice none 0 0) rfl rfl evc ?_)))
 refine wnil (thenN (wseq (wreg (wl rfl (ofieldAddr (g := gb) (off := 0) (0 + 1) rfl rfl (ev rfl rfl) Tryd.runUnderlying63 rfl Tryd.sizeOf25 rfl ?_)))))
 refine wl rfl (oloadc (v := .slice pI nI cI) (show One Tryd.prog 25 from ⟨Tryd.isAgg25, Tryd.sizeOf25⟩) rfl rfl (ev (v := .pointer (some ⟨gb, (0 + 1), none⟩)) rfl rfl) (hS.cellAt ((cell_sub (us := [.slice pI nI cI]) (box_cells hb) 1 rfl) 0 _ rfl)) ?_)
 refine wl rfl (omove (v := .int .i64 (i : Int)) rfl rfl (ev rfl rfl) ?_)
 refine wl rfl (oindex (p := pI) (g := g) (off := 0) (m := nI) (k := i) (j := (0 + i * 1)) rfl rfl Tryd.runUnderlying25 Tryd.sizeOf52 (ev rfl rfl) (hg) (ev rfl rfl) (hi) rfl ?_)
 refine wl rfl (oloadc (v := .slice q n c) (show One Tryd.prog 52 from ⟨Tryd.isAgg52, Tryd.sizeOf52⟩) rfl rfl (ev (v := .pointer (some ⟨g, (0 + i * 1), none⟩)) rfl rfl) (hS.cellAt hc) ?_)
 refine wl rfl (oassign (v := .slice q n c) rfl rfl (ev rfl rfl) ?_)
 refine wnil (thenN ?_)
 refine wleave ?_
 refine wret1 Tryd.results41 (tellT (v := .slice q n c) rfl rfl) ?_
 exact ⟨_, _, rfl, isI, hS.new0⟩
theorem wxbeside {w0 w : World} {R : List Res} {p n cX kr C CI gb nI cI kI : Nat} {pX pI : Option Addr} {Q QI : List Rw} (hS : Sep w0 (.lst 52 1 pX n cX (mmE Q) :: .lst 52 1 pI nI cI (mmE QI) :: .blk gb [.int .u64 ((p : Nat) : Int), .slice pI nI cI, .int .i64 ((kI : Nat) : Int)] 63 :: R) w) (hsh : Shp p C (nums Q)) (hshI : Shp p CI (nums QI)) (hnn : n = nI) (hn : n ≤ 1048576) (hC : C ≤ 1048576) (hCI : CI ≤ 1048576) (hC0 : 0 < C) (hCI0 : 0 < CI) :
  Calls Tryd.prog 40 #[.agg #[.int .u64 ((p : Nat) : Int), .slice pX n cX, .int .i64 ((kr : Nat) : Int)], .func (.func 41) #[] #[.pointer (some ⟨gb, 0, none⟩)]] w (RetS (BsX p (nums Q) (nums QI) pX n cX kr [.lst 52 1 pI nI cI (mmE QI), .blk gb [.int .u64 ((p : Nat) : Int), .slice pI nI cI, .int .i64 ((kI : Nat) : Int)] 63]) w0 R) := by
 have hQn : Q.length = n := by rw [← mmE_len]; exact hS.lstLen 0 rfl
 have hQIn : QI.length = nI := by rw [← mmE_len]; exact hS.lstLen 1 rfl
 have hN1 : (nums Q).length = n := by rw [nums_len]; exact hQn
 refine went Tryd.func40 rfl (n := 27) rfl rfl ?_
 refine wseq (wreg (wl rfl (obox [.int .u64 (p : Int), .slice pX n cX, .int .i64 (kr : Int)] hS rfl rfl (ev (v := .agg #[.int .u64 (p : Int), .slice pX n cX, .int .i64 (kr : Int)]) rfl rfl) rfl ?_)))
 clear hS; intro g1 w2 hS
 refine wl rfl (oalloc [.int .u64 0, .slice none 0 0, .int .i64 0] hS rfl rfl Tryd.zeroValue63 rfl ?_)
 clear hS; intro g3 w4 hS
 refine wnil (thenN (wseq (wseq (wreg (wl rfl (ofieldAddr (g := g1) (off := 0) 1 rfl rfl (ev rfl rfl) Tryd.runUnderlying63 rfl Tryd.sizeOf25 rfl ?_))))))
 refine wl rfl (oload1 (v := .slice pX n cX) (show One Tryd.prog 25 from ⟨Tryd.isAgg25, Tryd.sizeOf25⟩) hS 1 rfl rfl (ev rfl rfl) rfl rfl ?_)
 refine wl rfl (olen rfl rfl rfl Tryd.runUnderlying25 (p := pX) (k := n) (m := cX) (ev rfl rfl) ?_)
 refine wl rfl (omove (v := .int .i64 0) rfl rfl evc ?_)
 refine wnil (thenN (wblock ?_))
 refine wloop (σ := Nat) (fun i a9 w' => ∃ (fb : Nat → Value) (Qi : List Rw), a9 = act 27 (sets fb [(1, .func (.func 41) #[] #[.pointer (some ⟨gb, 0, none⟩)]), (2, .pointer (some ⟨g1, 0, none⟩)), (4, .pointer (some ⟨g3, 0, none⟩)), (8, .int .i64 (n : Int)), (9, .int .i64 (i : Int))]) ∧ Sep w0 (.blk g3 [.int .u64 0, .slice none 0 0, .int .i64 0] 63 :: .blk g1 [.int .u64 (p : Int), .slice pX n cX, .int .i64 (kr : Int)] 63 :: .lst 52 1 pX n cX (mmE Qi) :: .lst 52 1 pI nI cI (mmE QI) :: .blk gb [.int .u64 (p : Int), .slice pI nI cI, .int .i64 (kI : Int)] 63 :: R) w' ∧ (i ≤ n) ∧ (nums Qi = besTo (nums Q) (nums QI) i)) (fun i => n - i) (0) ⟨_, Q, act_sets (l := [(1, .func (.func 41) #[] #[.pointer (some ⟨gb, 0, none⟩)]), (2, .pointer (some ⟨g1, 0, none⟩)), (4, .pointer (some ⟨g3, 0, none⟩)), (8, .int .i64 (n : Int)), (9, .int .i64 0)]) ⟨rfl, rfl, rfl, rfl, rfl, trivial⟩, hS, Nat.zero_le _, rfl⟩ ?_
 clear hS; rintro i _ w5 ⟨fb, Qi, rfl, hS, hi, hQi⟩
 refine wseq (wreg ?_)
 by_cases hlt : i < n
 ·
  have hQin : Qi.length = n := by rw [nums_lenE hQi, besTo_len]; exact hN1
  refine wl rfl (obin (u := .int .i64 (i : Int)) (v := .int .i64 (n : Int)) (z := .bool true) rfl rfl (ev rfl rfl) (ev rfl rfl) (bin_lss (decide_eq_true (by omega))) ?_)
  refine wnil (thenN (wseq ?_))
  refine wT (ev rfl rfl) ?_
  refine wskip (thenN (wseq (wblock (wseq (wreg (wl rfl (omove (v := .int .i64 (i : Int)) rfl rfl (ev rfl rfl) ?_)))))))
  refine wl rfl (oassign (v := .int .i64 (i : Int)) rfl rfl (ev rfl rfl) ?_)
  refine wnil (thenN ?_)
  obtain ⟨gX, hgX⟩ := hS.lstPtr 2 rfl (by omega)
  obtain ⟨gI, hgI⟩ := hS.lstPtr 3 rfl (by omega)
  obtain ⟨⟨pa, ca, xa⟩, hqa⟩ : ∃ q, (Qi)[i]? = some q := ⟨_, List.getElem?_eq_getElem (by omega)⟩
  have hda : (nums (Qi)).getD i [] = xa := getD_get (nums_get hqa)
  have hna : xa.length = C := by rw [← hda, hQi, besTo_from (Nat.le_refl _)]; exact (hsh.at (by omega)).1
  obtain ⟨⟨pb, cb, xb⟩, hqb⟩ : ∃ q, (QI)[i]? = some q := ⟨_, List.getElem?_eq_getElem (by omega)⟩
  have hdb : (nums (QI)).getD i [] = xb := getD_get (nums_get hqb)
  obtain ⟨hnb, hltb⟩ := hshI.get (nums_get hqb)
  simp only at hnb hltb
  refine wstageP 11 [12, 13, 14, 15, 16, 17, 18, 19, 20, 21, 22] [[], [0], [], [], [3], [], [4, 5, 3], [6, 3, 4, 5], [], [], [8, 9]] [[], [], [], [], [], [], [], [], [], [], []] [0, 1, 2] [(g1, [.int .u64 (p : Int), .slice pX n cX, .int .i64 (kr : Int)], 63)] (fun i9 => ([fun _ => Is (.pointer (some ⟨g1, 1, none⟩)), fun _ => Is (.slice pX n cX), fun _ => Is (.int .i64 (i : Int)), fun _ => Is (.pointer (some ⟨g1, 1, none⟩)), fun _ => Is (.slice pX n cX), fun _ => Is (.int .i64 (i : Int)), fun _ => Is (.pointer (some ⟨gX, (0 + i * 1), none⟩)), fun _ => Is (.slice pa C ca), fun _ => Is (.func (.func 41) #[] #[.pointer (some ⟨gb, 0, none⟩)]), fun _ => Is (.int .i64 (i : Int)), fun _ => Is (.slice pb CI cb)] : List (List Value → Tell)).getD i9 (fun _ _ _ => False)) ((heldCons (hS.blkAt 1 rfl) heldNil)) (fun d _ _ _ _ h => (by cases d <;> exact h)) (by kernel_rfl) (by kernel_rfl) (by kernel_rfl) hS ?_ ?_
  ·
   refine stepsPure rfl ?_ ?_
   ·intro f' ρ ho hT
    exact ⟨_, .inl ⟨want_none rfl, fun w hw => yfieldAddr (i := 1) (g := g1) (off := 0) 1 rfl (ev (v := .pointer (some ⟨g1, 0, none⟩)) rfl (ho 2 rfl)) Tryd.runUnderlying63 rfl Tryd.sizeOf25 rfl w⟩, isI⟩
   refine stepsPure rfl ?_ ?_
   ·intro f' ρ ho hT
    obtain ⟨hv0, hr0⟩ := (hT 0 12 rfl rfl : (Is (.pointer (some ⟨g1, 1, none⟩))) _ _)
    exact ⟨_, .inl ⟨want_none rfl, fun w hw => yload1 (v := .slice pX n cX) (show One Tryd.prog 25 from ⟨Tryd.isAgg25, Tryd.sizeOf25⟩) rfl (ev rfl hv0) (hw.at 0 rfl) rfl⟩, isI⟩
   refine stepsPure rfl ?_ ?_
   ·intro f' ρ ho hT
    exact ⟨_, .inl ⟨want_none rfl, fun w hw => ymove (v := .int .i64 (i : Int)) rfl (ev (v := .int .i64 (i : Int)) rfl (ho 5 rfl)) w⟩, isI⟩
   refine stepsCons rfl (fun Q f' w' ρ S ho hT hS hB => ?_) ?_
   ·exact .inl ⟨want_none rfl, ofieldAddr (g := g1) (off := 0) 1 rfl rfl (ev rfl (ho 2 rfl)) Tryd.runUnderlying63 rfl Tryd.sizeOf25 rfl ⟨_, _, rfl, isI, New.same _⟩⟩
   refine stepsCons rfl (fun Q f' w' ρ S ho hT hS hB => ?_) ?_
   ·obtain ⟨hv3, hr3⟩ := (hT 3 15 rfl rfl : (Is (.pointer (some ⟨g1, 1, none⟩))) _ _)
    obtain hS := (hS.flat1 hr3).front1
    exact .inl ⟨want_none rfl, oload1 (v := .slice pX n cX) (show One Tryd.prog 25 from ⟨Tryd.isAgg25, Tryd.sizeOf25⟩) hS 1 rfl rfl (ev rfl hv3) rfl rfl ⟨_, _, rfl, isI, New.same _⟩⟩
   refine stepsCons rfl (fun Q f' w' ρ S ho hT hS hB => ?_) ?_
   ·exact .inl ⟨want_none rfl, omove (v := .int .i64 (i : Int)) rfl rfl (ev rfl (ho 5 rfl)) ⟨_, _, rfl, isI, New.same _⟩⟩
   refine stepsCons rfl (fun Q f' w' ρ S ho hT hS hB => ?_) ?_
   ·obtain ⟨hv4, hr4⟩ := (hT 4 16 rfl rfl : (Is (.slice pX n cX)) _ _)
    obtain ⟨hv5, hr5⟩ := (hT 5 17 rfl rfl : (Is (.int .i64 (((i : Nat) : Int)))) _ _)
    obtain hS := (hS.flat2 hr4 hr5).front2
    exact .inl ⟨want_none rfl, oindex (p := pX) (g := gX) (off := 0) (m := n) (k := i) (j := (0 + i * 1)) rfl rfl Tryd.runUnderlying25 Tryd.sizeOf52 (ev rfl hv4) (hgX) (ev rfl hv5) (by omega) rfl ⟨_, _, rfl, isI, New.same _⟩⟩
   refine stepsCons rfl (fun Q f' w' ρ S ho hT hS hB => ?_) ?_
   ·obtain ⟨hv6, hr6⟩ := (hT 6 18 rfl rfl : (Is (.pointer (some ⟨gX, (0 + i * 1), none⟩))) _ _)
    obtain hS := (hS.flat1 hr6).front1
    exact .inl ⟨want_none rfl, oloadc (v := .slice pa C ca) (show One Tryd.prog 52 from ⟨Tryd.isAgg52, Tryd.sizeOf52⟩) rfl rfl (ev (v := .pointer (some ⟨gX, (0 + i * 1), none⟩)) rfl hv6) (hS.mRow 2 rfl hqa hna hgX) ⟨_, _, rfl, isI, New.same _⟩⟩
   refine stepsCons rfl (fun Q f' w' ρ S ho hT hS hB => ?_) ?_
   ·exact .inl ⟨want_none rfl, omove (v := .func (.func 41) #[] #[.pointer (some ⟨gb, 0, none⟩)]) rfl rfl (ev rfl (ho 1 rfl)) ⟨_, _, rfl, isI, New.same _⟩⟩
   refine stepsCons rfl (fun Q f' w' ρ S ho hT hS hB => ?_) ?_
   ·exact .inl ⟨want_none rfl, omove (v := .int .i64 (i : Int)) rfl rfl (ev rfl (ho 5 rfl)) ⟨_, _, rfl, isI, New.same _⟩⟩
   refine stepsCons rfl (fun Q f' w' ρ S ho hT hS hB => ?_) ?_
   ·obtain ⟨hv8, hr8⟩ := (hT 8 20 rfl rfl : (Is (.func (.func 41) #[] #[.pointer (some ⟨gb, 0, none⟩)])) _ _)
    obtain ⟨hv9, hr9⟩ := (hT 9 21 rfl rfl : (Is (.int .i64 (((i : Nat) : Int)))) _ _)
    obtain hS := (hS.flat2 hr8 hr9).front2
    refine .inl ⟨want_none rfl, ocallc (vs := #[.int .i64 (i : Int)]) (caps := #[.pointer (some ⟨gb, 0, none⟩)]) rfl rfl (ev (v := .func (.func 41) #[] #[.pointer (some ⟨gb, 0, none⟩)]) rfl hv8) Tryd.call41 rfl (wxinv1 (hS.blkAt 4 rfl) hgI (hS.mRow 3 rfl hqb hnb hgI) (by omega)) (args1 (ev rfl hv9)) ?_⟩
    rintro _ w9 ⟨_, _, rfl, hTT, hN⟩
    exact ⟨_, rfl, _, _, rfl, hTT, hN⟩
   exact stepsNil
  ·
   intro vs ρ w6 f' hf hT hS
   obtain ⟨hv0, hr0⟩ := (hT 0 (by decide) : (Is (.pointer (some ⟨g1, 1, none⟩))) _ _)
   obtain ⟨hv1, hr1⟩ := (hT 1 (by decide) : (Is (.slice pX n cX)) _ _)
   obtain ⟨hv2, hr2⟩ := (hT 2 (by decide) : (Is (.int .i64 (((i : Nat) : Int)))) _ _)
   obtain ⟨hv3, hr3⟩ := (hT 3 (by decide) : (Is (.pointer (some ⟨g1, 1, none⟩))) _ _)
   obtain ⟨hv4, hr4⟩ := (hT 4 (by decide) : (Is (.slice pX n cX)) _ _)
   obtain ⟨hv5, hr5⟩ := (hT 5 (by decide) : (Is (.int .i64 (((i : Nat) : Int)))) _ _)
   obtain ⟨hv6, hr6⟩ := (hT 6 (by decide) : (Is (.pointer (some ⟨gX, (0 + i * 1), none⟩))) _ _)
   obtain ⟨hv7, hr7⟩ := (hT 7 (by decide) : (Is (.slice pa C ca)) _ _)
   obtain ⟨hv8, hr8⟩ := (hT 8 (by decide) : (Is (.func (.func 41) #[] #[.pointer (some ⟨gb, 0, none⟩)])) _ _)
   obtain ⟨hv9, hr9⟩ := (hT 9 (by decide) : (Is (.int .i64 (((i : Nat) : Int)))) _ _)
   obtain ⟨hv10, hr10⟩ := (hT 10 (by decide) : (Is (.slice pb CI cb)) _ _)
   simp only [pool, if_true, hr0, hr1, hr2, hr3, hr4, hr5, hr6, hr7, hr8, hr9, hr10, List.nil_append, List.cons_append, List.append_nil] at hS
   simp only [layf, hv0, hv1, hv2, hv3, hv4, hv5, hv6, hv7, hv8, hv9, hv10] at hf
   subst hf; clear hT hv0 hv1 hv2 hv3 hv4 hv5 hv6 hv7 hv8 hv9 hv10 hr0 hr1 hr2 hr3 hr4 hr5 hr6 hr7 hr8 hr9 hr10
   obtain hS := (show Sep w0 (.lst 52 1 pX n cX (mmE Qi) :: .blk g3 [.int .u64 0, .slice none 0 0, .int .i64 0] 63 :: .blk g1 [.int .u64 (((p : Nat) : Int)), .slice pX n cX, .int .i64 (((kr : Nat) : Int))] 63 :: .lst 52 1 pI nI cI (mmE QI) :: .blk gb [.int .u64 (((p : Nat) : Int)), .slice pI nI cI, .int .i64 (((kI : Nat) : Int))] 63 :: R) w6 from Sep.pickT [.blk g3 [.int .u64 0, .slice none 0 0, .int .i64 0] 63, .blk g1 [.int .u64 (((p : Nat) : Int)), .slice pX n cX, .int .i64 (((kr : Nat) : Int))] 63, .lst 52 1 pX n cX (mmE Qi), .lst 52 1 pI nI cI (mmE QI), .blk gb [.int .u64 (((p : Nat) : Int)), .slice pI nI cI, .int .i64 (((kI : Nat) : Int))] 63] [.lst 52 1 pX n cX (mmE Qi), .blk g3 [.int .u64 0, .slice none 0 0, .int .i64 0] 63, .blk g1 [.int .u64 (((p : Nat) : Int)), .slice pX n cX, .int .i64 (((kr : Nat) : Int))] 63, .lst 52 1 pI nI cI (mmE QI), .blk gb [.int .u64 (((p : Nat) : Int)), .slice pI nI cI, .int .i64 (((kI : Nat) : Int))] 63] hS [2, 0, 1, 3, 4] (by decide) rfl)
   obtain hS := hS.take1 hqa hna
   refine wlate 11 rfl (by kernel_rfl) (oappendR (p := pa) (m := C) (c := ca) (xs := xa) (k := CI) (c2 := cb) (a := pb) (ys := xb) hS rfl rfl Tryd.underlying52 infouint32 (ev (v := .slice pa C ca) rfl rfl) (ev (v := .slice pb CI cb) rfl rfl) ((show Sl _ pb CI cb xb from hnb ▸ (hS.mFr 4 rfl hqb).sl)) (by omega) (by omega) ?_)
   clear hS; intro p8 c9 w7 hS
   refine ⟨(heldCons (hS.blkAt 3 rfl) heldNil), ?_⟩
   refine wlate 12 rfl (by kernel_rfl) (oindex (p := pX) (g := gX) (off := 0) (m := n) (k := i) (j := (0 + i * 1)) rfl rfl Tryd.runUnderlying25 Tryd.sizeOf52 (ev rfl rfl) (hgX) (ev rfl rfl) (by omega) rfl ?_)
   refine ⟨(heldCons (hS.blkAt 3 rfl) heldNil), ?_⟩
   refine wlate 13 rfl (by kernel_rfl) (ostoreL (i := i) (g := gX) [.slice p8 ((C + CI)) c9] [.rowm p8 ((C + CI)) c9 (xa ++ xb)] Tryd.sizeOf52 hS rfl rfl (ev (v := .pointer (some ⟨gX, (0 + i * 1), none⟩)) rfl rfl) (ev (v := .slice p8 ((C + CI)) c9) rfl rfl) (rfl) rfl rfl rfl hgX (by omega) rfl ?_)
   clear hS; intro w10 hS
   refine ⟨(heldCons (hS.blkAt 2 rfl) heldNil), ?_⟩
   refine wdone rfl ?_
   refine blkN (thenN (wreg ?_))
   rw [set_mm (by rw [List.length_append, hna, hnb])] at hS
   refine wl rfl (obin (u := .int .i64 (i : Int)) (v := .int .i64 1) (z := .int .i64 (((i + 1 : Nat) : Int))) rfl rfl (ev rfl rfl) evc (bin_add (wrap_i64 (by omega) (by omega))) ?_)
   refine wl rfl (omove (v := .int .i64 (((i + 1 : Nat) : Int))) rfl rfl (ev rfl rfl) ?_)
   refine wnil (thenN ?_)
   exact ⟨(i + 1), ⟨_, _, act_sets (l := [(1, .func (.func 41) #[] #[.pointer (some ⟨gb, 0, none⟩)]), (2, .pointer (some ⟨g1, 0, none⟩)), (4, .pointer (some ⟨g3, 0, none⟩)), (8, .int .i64 (n : Int)), (9, .int .i64 (((i + 1 : Nat) : Int)))]) ⟨rfl, rfl, rfl, rfl, rfl, trivial⟩, Sep.pickT [.lst 52 1 pX n cX (mmE (Qi.set i ⟨p8, c9, xa ++ xb⟩)), .blk g3 [.int .u64 0, .slice none 0 0, .int .i64 0] 63, .blk g1 [.int .u64 (p : Int), .slice pX n cX, .int .i64 (kr : Int)] 63, .lst 52 1 pI nI cI (mmE QI), .blk gb [.int .u64 (p : Int), .slice pI nI cI, .int .i64 (kI : Int)] 63] [.blk g3 [.int .u64 0, .slice none 0 0, .int .i64 0] 63, .blk g1 [.int .u64 (p : Int), .slice pX n cX, .int .i64 (kr : Int)] 63, .lst 52 1 pX n cX (mmE (Qi.set i ⟨p8, c9, xa ++ xb⟩)), .lst 52 1 pI nI cI (mmE QI), .blk gb [.int .u64 (p : Int), .slice pI nI cI, .int .i64 (kI : Int)] 63] hS [1, 2, 0, 3, 4] (by decide) rfl, by omega, by rw [nums_set, besTo, ← hQi, hda, hdb]⟩, by omega⟩
 ·
  refine wl rfl (obin (u := .int .i64 (i : Int)) (v := .int .i64 (n : Int)) (z := .bool false) rfl rfl (ev rfl rfl) (ev rfl rfl) (bin_lss (decide_eq_false (by omega))) ?_)
  refine wnil (thenN (wseq ?_))
  refine wF (ev rfl rfl) ?_
  refine wexit ?_
  refine thenE ?_
  refine thenE ?_
  refine blkE ?_
  refine thenN (wseq (wreg (wl rfl (oload (vs := [.int .u64 (p : Int), .slice pX n cX, .int .i64 (kr : Int)]) (show Agg Tryd.prog 63 3 from ⟨Tryd.isAgg63, Tryd.sizeOf63⟩) hS 1 rfl rfl (ev rfl rfl) rfl rfl rfl ?_))))
  refine wl rfl (ostore [.int .u64 (p : Int), .slice pX n cX, .int .i64 (kr : Int)] [.int .u64 (p : Int), .slice pX n cX, .int .i64 (kr : Int)] Tryd.sizeOf63 hS 0 rfl rfl (ev rfl rfl) (ev (v := .agg #[.int .u64 (p : Int), .slice pX n cX, .int .i64 (kr : Int)]) rfl rfl) rfl rfl rfl rfl rfl rfl ?_)
  clear hS; intro w6 hS
  refine wnil (thenN ?_)
  refine wleave ?_
  refine wret1 Tryd.results40 (tellC (cs := [.int .u64 (p : Int), .slice pX n cX, .int .i64 (kr : Int)]) (show Agg Tryd.prog 63 3 from ⟨Tryd.isAgg63, Tryd.sizeOf63⟩) hS 0 rfl rfl rfl rfl) ?_
  have hin : i = n := by omega
  exact ⟨_, _, rfl, ⟨Qi, by rw [hQi, hin]; unfold besM; rw [hN1], rfl, rfl⟩, Sep.pickT [.blk g3 [.int .u64 (p : Int), .slice pX n cX, .int .i64 (kr : Int)] 63, .blk g1 [.int .u64 (p : Int), .slice pX n cX, .int .i64 (kr : Int)] 63, .lst 52 1 pX n cX (mmE Qi), .lst 52 1 pI nI cI (mmE QI), .blk gb [.int .u64 (p : Int), .slice pI nI cI, .int .i64 (kI : Int)] 63] [.lst 52 1 pX n cX (mmE Qi), .lst 52 1 pI nI cI (mmE QI), .blk gb [.int .u64 (p : Int), .slice pI nI cI, .int .i64 (kI : Int)] 63] hS [2, 3, 4] (by decide) rfl⟩
end Go.Proofs.YtndilfigdbenoaaDoor
