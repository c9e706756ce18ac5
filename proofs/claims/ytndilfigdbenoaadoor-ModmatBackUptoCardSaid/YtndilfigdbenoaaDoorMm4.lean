
/-
  modmat's made, one, beside.
-/
import Derived.Test.YtndilfigdbenoaaDoorMm3
set_option linter.unusedVariables false
set_option linter.unusedSimpArgs false
set_option maxRecDepth 100000
set_option maxHeartbeats 16000000
namespace Go.Proofs.YtndilfigdbenoaaDoor
open Go.RowKit
def MdT (p r c : Nat) (ff : Nat → Nat → Nat) : Tell := fun v q => ∃ (pp : Option Addr) (cc : Nat) (Q : List Rw), nums Q = mkM r c ff ∧ v = .agg #[.int .u64 ((p : Nat) : Int), .slice pp r cc, .int .i64 ((c : Nat) : Int)] ∧ q = [.lst 52 1 pp r cc (mmE Q)]
theorem wxmade {p r c : Nat} {F : FuncId} {caps : Array Value} {ff : Nat → Nat → Nat} {w : World} (hF : ∀ args w, (callFunc F args).run Tryd.prog w = .ok (.enter F args) w) (hC : ∀ w', Below w.heap.size w w' → ∀ i k : Nat, i < r → k < c → Calls Tryd.prog F (#[.int .i64 ((i : Nat) : Int), .int .i64 ((k : Nat) : Int)] ++ caps) w' (Ret (Is (.int .u32 ((ff i k : Nat) : Int))) w')) (hlt : ∀ i k : Nat, i < r → k < c → ff i k < 4294967296) (hr : r ≤ 2097152) (hc : c ≤ 2097152) :
  Calls Tryd.prog 58 #[.int .u64 ((p : Nat) : Int), .int .i64 ((r : Nat) : Int), .int .i64 ((c : Nat) : Int), .func (.func F) #[] caps] w (Ret (MdT p r c ff) w) := by
 have hS := Sep.init w
 refine went Tryd.func58 rfl (n := 43) rfl rfl ?_
 refine wseq (wreg (wl rfl (oalloc [.int .u64 0, .slice none 0 0, .int .i64 0] hS rfl rfl Tryd.zeroValue63 rfl ?_)))
 clear hS; intro g1 w2 hS
 refine wnil (thenN (wseq (wreg (wl rfl (omove (v := .int .u64 (p : Int)) rfl rfl (ev rfl rfl) ?_)))))
 refine wl rfl (omove (v := .int .i64 (c : Int)) rfl rfl (ev rfl rfl) ?_)
 refine wl rfl (obuild (ps := #[(0, .int .u64 (p : Int)), (2, .int .i64 (c : Int))]) (v := .agg #[.int .u64 (p : Int), .slice none 0 0, .int .i64 (c : Int)]) rfl rfl (parts2 (ev (v := .int .u64 (p : Int)) rfl rfl) (ev (v := .int .i64 (c : Int)) rfl rfl)) (fun w => by simp [go_sem, Instr.build, Instr.fill]) ?_)
 refine wl rfl (oalloc [.int .u64 0, .slice none 0 0, .int .i64 0] hS rfl rfl Tryd.zeroValue63 rfl ?_)
 clear hS; intro g3 w4 hS
 refine wl rfl (ostore [.int .u64 (p : Int), .slice none 0 0, .int .i64 (c : Int)] [.int .u64 (p : Int), .slice none 0 0, .int .i64 (c : Int)] Tryd.sizeOf63 hS 0 rfl rfl (ev rfl rfl) (ev (v := .agg #[.int .u64 (p : Int), .slice none 0 0, .int .i64 (c : Int)]) rfl rfl) rfl rfl rfl rfl rfl rfl ?_)
 clear hS; intro w5 hS
 refine wnil (thenN (wseq (wseq (wreg (wl rfl (omove (v := .int .i64 (r : Int)) rfl rfl (ev rfl rfl) ?_))))))
 refine wl rfl (omove (v := .int .i64 0) rfl rfl evc ?_)
 refine wnil (thenN (wblock ?_))
 replace hS := hS.nilLst 52 1
 refine wloop (σ := Nat) (fun i a9 w' => ∃ (fb : Nat → Value) (Q : List Rw) (pX : Option Addr) (cX : Nat), a9 = act 43 (sets fb [(2, .int .i64 (c : Int)), (3, .func (.func F) #[] caps), (8, .pointer (some ⟨g1, 0, none⟩)), (9, .pointer (some ⟨g3, 0, none⟩)), (16, .int .i64 (r : Int)), (17, .int .i64 (i : Int))]) ∧ Sep w [.lst 52 1 pX i cX (mmE Q), .blk g3 [.int .u64 (p : Int), .slice pX i cX, .int .i64 (c : Int)] 63, .blk g1 [.int .u64 0, .slice none 0 0, .int .i64 0] 63] w' ∧ (i ≤ r) ∧ (nums Q = mkM i c ff)) (fun i => r - i) (0) ⟨_, [], none, 0, act_sets (l := [(2, .int .i64 (c : Int)), (3, .func (.func F) #[] caps), (8, .pointer (some ⟨g1, 0, none⟩)), (9, .pointer (some ⟨g3, 0, none⟩)), (16, .int .i64 (r : Int)), (17, .int .i64 0)]) ⟨rfl, rfl, rfl, rfl, rfl, rfl, trivial⟩, hS, Nat.zero_le _, rfl⟩ ?_
 clear hS; rintro i _ w6 ⟨fb, Q, pX, cX, rfl, hS, hi, hQ⟩
 refine wseq (wreg ?_)
 by_cases hli : i < r
 ·
  refine wl rfl (obin (u := .int .i64 (i : Int)) (v := .int .i64 (r : Int)) (z := .bool true) rfl rfl (ev rfl rfl) (ev rfl rfl) (bin_lss (decide_eq_true (by omega))) ?_)
  refine wnil (thenN (wseq ?_))
  refine wT (ev rfl rfl) ?_
  refine wskip (thenN (wseq (wblock (wseq (wreg (wl rfl (omove (v := .int .i64 (i : Int)) rfl rfl (ev rfl rfl) ?_)))))))
  refine wl rfl (oassign (v := .int .i64 (i : Int)) rfl rfl (ev rfl rfl) ?_)
  refine wnil (thenN (wseq (wreg (wl rfl (omove (v := .int .i64 (c : Int)) rfl rfl (ev rfl rfl) ?_)))))
  refine wl rfl (omakeL (zs := [.int .u32 0]) (k := c) (m := c) hS rfl rfl Tryd.underlying52 infouint32 rfl rfl (by decide) rfl (ev (v := .int .i64 (c : Int)) rfl rfl) (ev (v := .int .i64 (c : Int)) rfl rfl) (by omega) (by omega) (by omega) ?_)
  clear hS; intro g7 w8 hS
  refine wl rfl (oassign (v := .slice (some ⟨g7, 0, none⟩) c c) rfl rfl (ev rfl rfl) ?_)
  refine wnil (thenN (wseq (wseq (wreg (wl rfl (omove (v := .slice (some ⟨g7, 0, none⟩) c c) rfl rfl (ev rfl rfl) ?_))))))
  refine wl rfl (olen rfl rfl rfl Tryd.runUnderlying52 (p := (some ⟨g7, 0, none⟩)) (k := c) (m := c) (ev rfl rfl) ?_)
  refine wl rfl (omove (v := .int .i64 0) rfl rfl evc ?_)
  refine wnil (thenN (wblock ?_))
  obtain hS := (show Sep w [.lst 27 1 (some ⟨g7, 0, none⟩) c c (u32E (List.replicate c 0)), .lst 52 1 pX i cX (mmE Q), .blk g3 [.int .u64 (p : Int), .slice pX i cX, .int .i64 (c : Int)] 63, .blk g1 [.int .u64 0, .slice none 0 0, .int .i64 0] 63] w8 from by rw [u32E_rep]; exact hS).lstRow (lims_zeros _)
  rw [← mixR_zero (rowF c (ff i)) (List.replicate c 0)] at hS
  refine wloop (σ := Nat) (fun k a9 w' => ∃ (fb : Nat → Value), a9 = act 43 (sets fb [(2, .int .i64 (c : Int)), (3, .func (.func F) #[] caps), (8, .pointer (some ⟨g1, 0, none⟩)), (9, .pointer (some ⟨g3, 0, none⟩)), (10, .int .i64 (i : Int)), (11, .slice (some ⟨g7, 0, none⟩) c c), (16, .int .i64 (r : Int)), (17, .int .i64 (i : Int)), (23, .int .i64 (c : Int)), (24, .int .i64 (k : Int))]) ∧ Sep w [.rowm (some ⟨g7, 0, none⟩) c c (mixR (rowF c (ff i)) (List.replicate c 0) k), .lst 52 1 pX i cX (mmE Q), .blk g3 [.int .u64 (p : Int), .slice pX i cX, .int .i64 (c : Int)] 63, .blk g1 [.int .u64 0, .slice none 0 0, .int .i64 0] 63] w' ∧ (k ≤ c)) (fun k => c - k) (0) ⟨_, act_sets (l := [(2, .int .i64 (c : Int)), (3, .func (.func F) #[] caps), (8, .pointer (some ⟨g1, 0, none⟩)), (9, .pointer (some ⟨g3, 0, none⟩)), (10, .int .i64 (i : Int)), (11, .slice (some ⟨g7, 0, none⟩) c c), (16, .int .i64 (r : Int)), (17, .int .i64 (i : Int)), (23, .int .i64 (c : Int)), (24, .int .i64 0)]) ⟨rfl, rfl, rfl, rfl, rfl, rfl, rfl, rfl, rfl, rfl, trivial⟩, hS, Nat.zero_le _⟩ ?_
  clear hS; rintro k _ w9 ⟨fb, rfl, hS, hk⟩
  refine wseq (wreg ?_)
  by_cases hlk : k < c
  ·
   refine wl rfl (obin (u := .int .i64 (k : Int)) (v := .int .i64 (c : Int)) (z := .bool true) rfl rfl (ev rfl rfl) (ev rfl rfl) (bin_lss (decide_eq_true (by omega))) ?_)
   refine wnil (thenN (wseq ?_))
   refine wT (ev rfl rfl) ?_
   refine wskip (thenN (wseq (wblock (wseq (wreg (wl rfl (omove (v := .int .i64 (k : Int)) rfl rfl (ev rfl rfl) ?_)))))))
   refine wl rfl (oassign (v := .int .i64 (k : Int)) rfl rfl (ev rfl rfl) ?_)
   refine wnil (thenN (wreg (wl rfl (omove (v := .slice (some ⟨g7, 0, none⟩) c c) rfl rfl (ev rfl rfl) ?_))))
   refine wl rfl (omove (v := .int .i64 (k : Int)) rfl rfl (ev rfl rfl) ?_)
   refine wl rfl (omove (v := .func (.func F) #[] caps) rfl rfl (ev rfl rfl) ?_)
   refine wl rfl (omove (v := .int .i64 (i : Int)) rfl rfl (ev rfl rfl) ?_)
   refine wl rfl (omove (v := .int .i64 (k : Int)) rfl rfl (ev rfl rfl) ?_)
   refine wl rfl (ocallc (vs := #[.int .i64 (i : Int), .int .i64 (k : Int)]) (caps := caps) rfl rfl (ev (v := .func (.func F) #[] caps) rfl rfl) hF rfl (hC _ hS.below i k hli hlk) (args2 (ev rfl rfl) (ev rfl rfl)) ?_)
   rintro _ w10 ⟨_, _, rfl, ⟨rfl, rfl⟩, hN⟩
   refine ⟨_, rfl, ?_⟩
   replace hS := hS.news hN; clear hN
   refine wl rfl (oindex (p := (some ⟨g7, 0, none⟩)) (g := g7) (off := 0) (m := c) (k := k) (j := k) rfl rfl Tryd.runUnderlying52 Tryd.sizeOf27 (ev rfl rfl) (rfl) (ev rfl rfl) (by omega) (by simp) ?_)
   refine wl rfl (ostoreRow (i := k) (u := (ff i k)) Tryd.sizeOf27 hS 0 rfl rfl (ev (v := .pointer (some ⟨g7, k, none⟩)) rfl rfl) ((ev (v := .int .u32 (((ff i k : Nat) : Int))) rfl rfl)) rfl (rfl) ((by omega)) (hlt i k hli hlk) ?_)
   clear hS; intro w11 hS
   refine wnil (blkN (thenN (wreg (wl rfl (obin (u := .int .i64 (k : Int)) (v := .int .i64 1) (z := .int .i64 (((k + 1 : Nat) : Int))) rfl rfl (ev rfl rfl) evc (bin_add (wrap_i64 (by omega) (by omega))) ?_)))))
   refine wl rfl (omove (v := .int .i64 (((k + 1 : Nat) : Int))) rfl rfl (ev rfl rfl) ?_)
   refine wnil (thenN ?_)
   rw [mixR_set (new := (rowF c (ff i))) (old := (List.replicate c 0)) (by rw [rowF_len, List.length_replicate]) (by rw [List.length_replicate]; omega) (rowF_nd hlk).symm] at hS
   exact ⟨(k + 1), ⟨_, act_sets (l := [(2, .int .i64 (c : Int)), (3, .func (.func F) #[] caps), (8, .pointer (some ⟨g1, 0, none⟩)), (9, .pointer (some ⟨g3, 0, none⟩)), (10, .int .i64 (i : Int)), (11, .slice (some ⟨g7, 0, none⟩) c c), (16, .int .i64 (r : Int)), (17, .int .i64 (i : Int)), (23, .int .i64 (c : Int)), (24, .int .i64 (((k + 1 : Nat) : Int)))]) ⟨rfl, rfl, rfl, rfl, rfl, rfl, rfl, rfl, rfl, rfl, trivial⟩, hS.pick [0, 1, 2, 3] (by decide) rfl, by omega⟩, by omega⟩
  ·
   refine wl rfl (obin (u := .int .i64 (k : Int)) (v := .int .i64 (c : Int)) (z := .bool false) rfl rfl (ev rfl rfl) (ev rfl rfl) (bin_lss (decide_eq_false (by omega))) ?_)
   refine wnil (thenN (wseq ?_))
   refine wF (ev rfl rfl) ?_
   refine wexit ?_
   refine thenE ?_
   refine thenE ?_
   refine blkE ?_
   refine thenN (wreg (wl rfl (ofieldAddr (g := g3) (off := 0) 1 rfl rfl (ev rfl rfl) Tryd.runUnderlying63 rfl Tryd.sizeOf25 rfl ?_)))
   refine wl rfl (oload1 (v := .slice pX i cX) (show One Tryd.prog 25 from ⟨Tryd.isAgg25, Tryd.sizeOf25⟩) hS 2 rfl rfl (ev rfl rfl) rfl rfl ?_)
   refine wl rfl (omove (v := .slice (some ⟨g7, 0, none⟩) c c) rfl rfl (ev rfl rfl) ?_)
   refine wl rfl (obslice (ps := #[(0, .slice (some ⟨g7, 0, none⟩) c c)]) (z := .slice none 0 0) [.slice (some ⟨g7, 0, none⟩) c c] hS rfl rfl Tryd.runUnderlying25 Tryd.sizeOf52 Tryd.zeroValue52 (parts1 (ev (v := .slice (some ⟨g7, 0, none⟩) c c) rfl rfl)) rfl (by decide) (fill1_1s rfl rfl) ?_)
   clear hS; intro g10 w11 hS
   rw [mixR_full (new := (rowF c (ff i))) (old := (List.replicate c 0)) (by rw [rowF_len, List.length_replicate]) (by rw [List.length_replicate]; omega)] at hS
   obtain hS := (show Sep w [.rowm (some ⟨g7, 0, none⟩) c c (rowF c (ff i)), .lst 52 1 pX i cX (mmE Q), .blk g10 [.slice (some ⟨g7, 0, none⟩) c c] 52, .blk g3 [.int .u64 (((p : Nat) : Int)), .slice pX i cX, .int .i64 (((c : Nat) : Int))] 63, .blk g1 [.int .u64 0, .slice none 0 0, .int .i64 0] 63] w11 from hS.pick [1, 2, 0, 3, 4] (by decide) rfl)
   refine wl rfl (oappendL (p := pX) (m := i) (c := cX) (g2 := g10) (c2 := 1) (off := 0) [.slice (some ⟨g7, 0, none⟩) c c] [.rowm (some ⟨g7, 0, none⟩) c c (rowF c (ff i))] hS rfl rfl Tryd.underlying25 infoRow rfl (by decide) (ev (v := .slice pX i cX) rfl rfl) (ev (v := .slice (some ⟨g10, 0, none⟩) 1 1) rfl rfl) (fun j v hj => by rw [Nat.zero_add]; exact (blk_cell (hS.blkAt 2 rfl) j).trans hj) rfl rfl rfl (by omega) (by omega) ?_)
   clear hS; intro p13 c14 w12 hS
   refine wl rfl (ofieldAddr (g := g3) (off := 0) 1 rfl rfl (ev rfl rfl) Tryd.runUnderlying63 rfl Tryd.sizeOf25 rfl ?_)
   refine wl rfl (ostore [.slice p13 ((i + 1)) c14] [.int .u64 (p : Int), .slice p13 ((i + 1)) c14, .int .i64 (c : Int)] Tryd.sizeOf25 hS 2 rfl rfl (ev rfl rfl) (ev (v := .slice p13 ((i + 1)) c14) rfl rfl) rfl rfl rfl rfl rfl rfl ?_)
   clear hS; intro w15 hS
   refine wnil (blkN (thenN (wreg (wl rfl (obin (u := .int .i64 (i : Int)) (v := .int .i64 1) (z := .int .i64 (((i + 1 : Nat) : Int))) rfl rfl (ev rfl rfl) evc (bin_add (wrap_i64 (by omega) (by omega))) ?_)))))
   refine wl rfl (omove (v := .int .i64 (((i + 1 : Nat) : Int))) rfl rfl (ev rfl rfl) ?_)
   refine wnil (thenN ?_)
   rw [mmE_snoc (xs := rowF c (ff i)) (n := c) (rowF_len _ _)] at hS
   exact ⟨(i + 1), ⟨_, _, _, _, act_sets (l := [(2, .int .i64 (c : Int)), (3, .func (.func F) #[] caps), (8, .pointer (some ⟨g1, 0, none⟩)), (9, .pointer (some ⟨g3, 0, none⟩)), (16, .int .i64 (r : Int)), (17, .int .i64 (((i + 1 : Nat) : Int)))]) ⟨rfl, rfl, rfl, rfl, rfl, rfl, trivial⟩, hS.pick [0, 2, 3] (by decide) rfl, by omega, by rw [nums_app, hQ, mkM_S]⟩, by omega⟩
 ·
  refine wl rfl (obin (u := .int .i64 (i : Int)) (v := .int .i64 (r : Int)) (z := .bool false) rfl rfl (ev rfl rfl) (ev rfl rfl) (bin_lss (decide_eq_false (by omega))) ?_)
  refine wnil (thenN (wseq ?_))
  refine wF (ev rfl rfl) ?_
  refine wexit ?_
  refine thenE ?_
  refine thenE ?_
  refine blkE ?_
  refine thenN (wseq (wreg (wl rfl (oload (vs := [.int .u64 (p : Int), .slice pX i cX, .int .i64 (c : Int)]) (show Agg Tryd.prog 63 3 from ⟨Tryd.isAgg63, Tryd.sizeOf63⟩) hS 1 rfl rfl (ev rfl rfl) rfl rfl rfl ?_))))
  refine wl rfl (ostore [.int .u64 (p : Int), .slice pX i cX, .int .i64 (c : Int)] [.int .u64 (p : Int), .slice pX i cX, .int .i64 (c : Int)] Tryd.sizeOf63 hS 2 rfl rfl (ev rfl rfl) (ev (v := .agg #[.int .u64 (p : Int), .slice pX i cX, .int .i64 (c : Int)]) rfl rfl) rfl rfl rfl rfl rfl rfl ?_)
  clear hS; intro w7 hS
  refine wnil (thenN ?_)
  refine wleave ?_
  have hir : i = r := by omega
  refine wret1 Tryd.results58 (tellC (cs := [.int .u64 (p : Int), .slice pX i cX, .int .i64 (c : Int)]) (show Agg Tryd.prog 63 3 from ⟨Tryd.isAgg63, Tryd.sizeOf63⟩) hS 2 rfl rfl rfl rfl) ?_
  exact ⟨_, _, rfl, ⟨pX, cX, Q, by rw [← hir]; exact hQ, by rw [hir], by rw [hir]⟩, hS.newR 0 rfl rfl⟩
theorem wxone1 {i k : Nat} {w : World} :
  Calls Tryd.prog 60 #[.int .i64 ((i : Nat) : Int), .int .i64 ((k : Nat) : Int)] w (Ret (Is (.int .u32 (((if i = k then 1 else 0 : Nat) : Nat) : Int))) w) := by
 have hS := Sep.init w
 refine went Tryd.func60 rfl (n := 8) rfl rfl ?_
 refine wseq (wreg (wl rfl (oassign (v := .int .u32 0) rfl rfl evc ?_)))
 refine wnil (thenN (wseq (wseq (wreg (wl rfl (omove (v := .int .i64 (i : Int)) rfl rfl (ev rfl rfl) ?_))))))
 refine wl rfl (omove (v := .int .i64 (k : Int)) rfl rfl (ev rfl rfl) ?_)
 by_cases h : i = k
 ·
  refine wl rfl (obin (u := .int .i64 (i : Int)) (v := .int .i64 (k : Int)) (z := .bool true) rfl rfl (ev rfl rfl) (ev rfl rfl) (bin_eql (eqT (by omega))) ?_)
  refine wnil (thenN ?_)
  refine wT (ev rfl rfl) ?_
  refine wseq (wreg (wl rfl (oassign (v := .int .u32 1) rfl rfl evc ?_)))
  refine wnil (thenN ?_)
  refine wleave ?_
  refine thenR ?_
  refine wret1 Tryd.results60 (tellT (v := .int .u32 1) rfl rfl) ?_
  exact ⟨_, _, rfl, ⟨by rw [if_pos h]; rfl, rfl⟩, hS.new0⟩
 ·
  refine wl rfl (obin (u := .int .i64 (i : Int)) (v := .int .i64 (k : Int)) (z := .bool false) rfl rfl (ev rfl rfl) (ev rfl rfl) (bin_eql (eqF (by omega))) ?_)
  refine wnil (thenN ?_)
  refine wF (ev rfl rfl) ?_
  refine wskip (thenN (wseq (wreg (wl rfl (oassign (v := .int .u32 0) rfl rfl evc ?_)))))
  refine wnil (thenN ?_)
  refine wleave ?_
  refine wret1 Tryd.results60 (tellT (v := .int .u32 0) rfl rfl) ?_
  exact ⟨_, _, rfl, ⟨by rw [if_neg h]; rfl, rfl⟩, hS.new0⟩
def idM (n : Nat) : List (List Nat) := mkM n n fun i k => if i = k then 1 else 0
theorem wxone {p n : Nat} {w : World} (hn : n ≤ 1048576) :
  Calls Tryd.prog 39 #[.int .u64 ((p : Nat) : Int), .int .i64 ((n : Nat) : Int)] w (Ret (MdT p n n fun i k => if i = k then 1 else 0) w) := by
 have hS := Sep.init w
 refine went Tryd.func39 rfl (n := 9) rfl rfl ?_
 refine wseq (wreg (wl rfl (oalloc [.int .u64 0, .slice none 0 0, .int .i64 0] hS rfl rfl Tryd.zeroValue63 rfl ?_)))
 clear hS; intro g1 w2 hS
 refine wnil (thenN (wseq (wreg (wl rfl (omove (v := .int .u64 (p : Int)) rfl rfl (ev rfl rfl) ?_)))))
 refine wl rfl (omove (v := .int .i64 (n : Int)) rfl rfl (ev rfl rfl) ?_)
 refine wl rfl (omove (v := .int .i64 (n : Int)) rfl rfl (ev rfl rfl) ?_)
 refine wl rfl (ocall rfl rfl Tryd.call58 rfl (wxmade (caps := #[]) Tryd.call60 (fun _ _ i k _ _ => wxone1) (fun i k _ _ => by split <;> omega) (by omega) (by omega)) (args4 (ev rfl rfl) (ev rfl rfl) (ev rfl rfl) rfl) ?_)
 rintro _ w3 ⟨_, _, rfl, ⟨pI, cI, QI, hQI, rfl, rfl⟩, hN⟩
 refine ⟨_, rfl, ?_⟩
 replace hS := hS.news hN; clear hN
 refine wl rfl (ostore [.int .u64 (p : Int), .slice pI n cI, .int .i64 (n : Int)] [.int .u64 (p : Int), .slice pI n cI, .int .i64 (n : Int)] Tryd.sizeOf63 hS 1 rfl rfl (ev rfl rfl) (ev (v := .agg #[.int .u64 (p : Int), .slice pI n cI, .int .i64 (n : Int)]) rfl rfl) rfl rfl rfl rfl rfl rfl ?_)
 clear hS; intro w4 hS
 refine wnil (thenN ?_)
 refine wleave ?_
 refine wret1 Tryd.results39 (tellC (cs := [.int .u64 (p : Int), .slice pI n cI, .int .i64 (n : Int)]) (show Agg Tryd.prog 63 3 from ⟨Tryd.isAgg63, Tryd.sizeOf63⟩) hS 1 rfl rfl rfl rfl) ?_
 exact ⟨_, _, rfl, ⟨_, _, _, hQI, rfl, rfl⟩, hS.newR 0 rfl rfl⟩
end Go.Proofs.YtndilfigdbenoaaDoor
