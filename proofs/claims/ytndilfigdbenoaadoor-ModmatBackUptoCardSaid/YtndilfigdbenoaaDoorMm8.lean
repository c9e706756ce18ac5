
/-
  The document's small functions of matrices.
-/
import Derived.Test.YtndilfigdbenoaaDoorMm7
set_option linter.unusedVariables false
set_option linter.unusedSimpArgs false
set_option maxRecDepth 100000
set_option maxHeartbeats 16000000
namespace Go.Proofs.YtndilfigdbenoaaDoor
open Go.RowKit
def MMn (n : Nat) (M : List (List Nat)) : Tell := fun v r => ∃ (pp : Option Addr) (c : Nat) (Q : List Rw), nums Q = M ∧ v = .slice pp n c ∧ r = [.lst 52 1 pp n c (mmE Q)]
theorem idrow {n i : Nat} (h : i < n) : (List.replicate n 0).set i 1 = rowF n (fun k => if i = k then 1 else 0) := by
 apply List.ext_getElem
 ·rw [List.length_set, List.length_replicate, rowF_len]
 ·intro k h1 h2
  rw [List.getElem_set]
  simp only [rowF, List.getElem_map, List.getElem_range, List.getElem_replicate]
theorem wrident {n : Nat} {w : World} (hn : n ≤ 1048576) :
  Calls Tryd.prog 24 #[.int .i64 ((n : Nat) : Int)] w (Ret (MMn n (idM n)) w) := by
 have hS := Sep.init w
 refine went Tryd.func24 rfl (n := 21) rfl rfl ?_
 refine wseq (wreg (wl rfl (oassign (v := .slice none 0 0) rfl rfl evc ?_)))
 refine wnil (thenN (wseq (wreg (wl rfl (oassign (v := .slice none 0 0) rfl rfl evc ?_)))))
 refine wnil (thenN (wseq (wseq (wreg (wl rfl (omove (v := .int .i64 (n : Int)) rfl rfl (ev rfl rfl) ?_))))))
 refine wl rfl (omove (v := .int .i64 0) rfl rfl evc ?_)
 refine wnil (thenN (wblock ?_))
 replace hS := hS.nilLst 52 1
 refine wloop (σ := Nat) (fun i a9 w' => ∃ (fb : Nat → Value) (Q : List Rw) (pX : Option Addr) (cX : Nat), a9 = act 21 (sets fb [(0, .int .i64 (n : Int)), (2, .slice none 0 0), (3, .slice pX i cX), (6, .int .i64 (n : Int)), (7, .int .i64 (i : Int))]) ∧ Sep w [.lst 52 1 pX i cX (mmE Q)] w' ∧ (i ≤ n) ∧ (nums Q = mkM i n (fun i k => if i = k then 1 else 0))) (fun i => n - i) (0) ⟨_, [], none, 0, act_sets (l := [(0, .int .i64 (n : Int)), (2, .slice none 0 0), (3, .slice none 0 0), (6, .int .i64 (n : Int)), (7, .int .i64 0)]) ⟨rfl, rfl, rfl, rfl, rfl, trivial⟩, hS, Nat.zero_le _, rfl⟩ ?_
 clear hS; rintro i _ w1 ⟨fb, Q, pX, cX, rfl, hS, hi, hQ⟩
 refine wseq (wreg ?_)
 by_cases hlt : i < n
 ·
  refine wl rfl (obin (u := .int .i64 (i : Int)) (v := .int .i64 (n : Int)) (z := .bool true) rfl rfl (ev rfl rfl) (ev rfl rfl) (bin_lss (decide_eq_true (by omega))) ?_)
  refine wnil (thenN (wseq ?_))
  refine wT (ev rfl rfl) ?_
  refine wskip (thenN (wseq (wblock (wseq (wreg (wl rfl (omove (v := .int .i64 (i : Int)) rfl rfl (ev rfl rfl) ?_)))))))
  refine wl rfl (oassign (v := .int .i64 (i : Int)) rfl rfl (ev rfl rfl) ?_)
  refine wnil (thenN (wseq (wreg (wl rfl (omove (v := .int .i64 (n : Int)) rfl rfl (ev rfl rfl) ?_)))))
  refine wl rfl (omakeL (zs := [.int .u32 0]) (k := n) (m := n) hS rfl rfl Tryd.underlying52 infouint32 rfl rfl (by decide) rfl (ev (v := .int .i64 (n : Int)) rfl rfl) (ev (v := .int .i64 (n : Int)) rfl rfl) (by omega) (by omega) (by omega) ?_)
  clear hS; intro g2 w3 hS
  refine wl rfl (oassign (v := .slice (some ⟨g2, 0, none⟩) n n) rfl rfl (ev rfl rfl) ?_)
  refine wnil (thenN (wseq (wreg (wl rfl (omove (v := .slice (some ⟨g2, 0, none⟩) n n) rfl rfl (ev rfl rfl) ?_)))))
  refine wl rfl (omove (v := .int .i64 (i : Int)) rfl rfl (ev rfl rfl) ?_)
  obtain hS := (show Sep w [.lst 27 1 (some ⟨g2, 0, none⟩) n n (u32E (List.replicate n 0)), .lst 52 1 pX i cX (mmE Q)] w3 from by rw [u32E_rep]; exact hS).lstRow (lims_zeros _)
  refine wl rfl (oindex (p := (some ⟨g2, 0, none⟩)) (g := g2) (off := 0) (m := n) (k := i) (j := i) rfl rfl Tryd.runUnderlying52 Tryd.sizeOf27 (ev rfl rfl) (rfl) (ev rfl rfl) (by omega) (by simp) ?_)
  refine wl rfl (ostoreRow (i := i) (u := 1) Tryd.sizeOf27 hS 0 rfl rfl (ev (v := .pointer (some ⟨g2, i, none⟩)) rfl rfl) (evc (v := .int .u32 ((1 : Nat) : Int))) rfl (rfl) ((by omega)) (by omega) ?_)
  clear hS; intro w4 hS
  refine wnil (thenN (wreg (wl rfl (omove (v := .slice pX i cX) rfl rfl (ev rfl rfl) ?_))))
  refine wl rfl (omove (v := .slice (some ⟨g2, 0, none⟩) n n) rfl rfl (ev rfl rfl) ?_)
  refine wl rfl (obslice (ps := #[(0, .slice (some ⟨g2, 0, none⟩) n n)]) (z := .slice none 0 0) [.slice (some ⟨g2, 0, none⟩) n n] hS rfl rfl Tryd.runUnderlying26 Tryd.sizeOf52 Tryd.zeroValue52 (parts1 (ev (v := .slice (some ⟨g2, 0, none⟩) n n) rfl rfl)) rfl (by decide) (fill1_1s rfl rfl) ?_)
  clear hS; intro g5 w6 hS
  rw [idrow hlt] at hS
  obtain hS := (show Sep w [.rowm (some ⟨g2, 0, none⟩) n n (rowF n (fun k => if i = k then 1 else 0)), .lst 52 1 pX i cX (mmE Q), .blk g5 [.slice (some ⟨g2, 0, none⟩) n n] 52] w6 from hS.pick [1, 2, 0] (by decide) rfl)
  refine wl rfl (oappendL (p := pX) (m := i) (c := cX) (g2 := g5) (c2 := 1) (off := 0) [.slice (some ⟨g2, 0, none⟩) n n] [.rowm (some ⟨g2, 0, none⟩) n n (rowF n (fun k => if i = k then 1 else 0))] hS rfl rfl Tryd.underlying26 infoRow rfl (by decide) (ev (v := .slice pX i cX) rfl rfl) (ev (v := .slice (some ⟨g5, 0, none⟩) 1 1) rfl rfl) (fun j v hj => by rw [Nat.zero_add]; exact (blk_cell (hS.blkAt 2 rfl) j).trans hj) rfl rfl rfl (by omega) (by omega) ?_)
  clear hS; intro p8 c9 w7 hS
  refine wl rfl (oassign (v := .slice p8 ((i + 1)) c9) rfl rfl (ev rfl rfl) ?_)
  refine wnil (blkN (thenN (wreg (wl rfl (obin (u := .int .i64 (i : Int)) (v := .int .i64 1) (z := .int .i64 (((i + 1 : Nat) : Int))) rfl rfl (ev rfl rfl) evc (bin_add (wrap_i64 (by omega) (by omega))) ?_)))))
  refine wl rfl (omove (v := .int .i64 (((i + 1 : Nat) : Int))) rfl rfl (ev rfl rfl) ?_)
  refine wnil (thenN ?_)
  rw [mmE_snoc (xs := rowF n (fun k => if i = k then 1 else 0)) (n := n) (rowF_len _ _)] at hS
  exact ⟨(i + 1), ⟨_, _, _, _, act_sets (l := [(0, .int .i64 (n : Int)), (2, .slice none 0 0), (3, .slice p8 ((i + 1)) c9), (6, .int .i64 (n : Int)), (7, .int .i64 (((i + 1 : Nat) : Int)))]) ⟨rfl, rfl, rfl, rfl, rfl, trivial⟩, hS.pick [0] (by decide) rfl, by omega, by rw [nums_app, hQ, mkM_S]⟩, by omega⟩
 ·
  refine wl rfl (obin (u := .int .i64 (i : Int)) (v := .int .i64 (n : Int)) (z := .bool false) rfl rfl (ev rfl rfl) (ev rfl rfl) (bin_lss (decide_eq_false (by omega))) ?_)
  refine wnil (thenN (wseq ?_))
  refine wF (ev rfl rfl) ?_
  refine wexit ?_
  refine thenE ?_
  refine thenE ?_
  refine blkE ?_
  refine thenN (wseq (wreg (wl rfl (omove (v := .slice pX i cX) rfl rfl (ev rfl rfl) ?_))))
  refine wl rfl (oassign (v := .slice pX i cX) rfl rfl (ev rfl rfl) ?_)
  refine wnil (thenN ?_)
  refine wleave ?_
  have hin : i = n := by omega
  refine wret1 Tryd.results24 (tellT (v := .slice pX i cX) rfl rfl) ?_
  exact ⟨_, _, rfl, ⟨pX, cX, Q, by rw [hQ, hin]; rfl, by rw [hin], by rw [hin]⟩, hS.newR 0 rfl rfl⟩
end Go.Proofs.YtndilfigdbenoaaDoor
