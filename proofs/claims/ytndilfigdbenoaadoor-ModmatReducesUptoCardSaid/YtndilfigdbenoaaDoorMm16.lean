/-
  Contracts and lemmas, joined in one text.
-/
import Derived.Test.YtndilfigdbenoaaDoorM8
set_option linter.unusedVariables false
set_option linter.unusedSimpArgs false
/-
  The document's Kernel.
-/
set_option maxRecDepth 100000
set_option maxHeartbeats 16000000
namespace Go.Proofs.YtndilfigdbenoaaDoor
open Go.RowKit
def kerD (p C : Nat) (R : List (List Nat)) (P : List Nat) (c : Nat) : Nat → List Nat
  | 0 => (List.replicate C 0).set c 1
  | i + 1 => (kerD p C R P c i).set (nd P i) ((nd (kerD p C R P c i) (nd P i) + p - nd (R.getD i []) c) % p)
theorem kerD_len {p C c : Nat} {R : List (List Nat)} {P : List Nat} : ∀ i, (kerD p C R P c i).length = C
  | 0 => by simp [kerD]
  | i + 1 => by rw [kerD, List.length_set]; exact kerD_len i
theorem kerD_lt {p C c : Nat} {R : List (List Nat)} {P : List Nat} (hp : 1 < p) : ∀ i, ∀ x ∈ kerD p C R P c i, x < p
 | 0, x, hx => by
  rcases List.mem_or_eq_of_mem_set hx with h | h
  ·rw [List.eq_of_mem_replicate h]; omega
  ·omega
 | i + 1, x, hx => by
  rcases List.mem_or_eq_of_mem_set hx with h | h
  ·exact kerD_lt hp i x h
  ·rw [h]; exact Nat.mod_lt _ (by omega)
theorem kerTo_zero {p C c : Nat} {R : List (List Nat)} {P : List Nat} (hc : c < C) : ∀ i j, j < C → j ≠ c → (∀ l, l < i → nd P l ≠ j) → nd (kerTo p C R P c i) j = 0
 | 0, j, hj, hjc, _ => by rw [kerTo, nd_set _ _ _ _ (by simpa using hc), if_neg hjc, nd_get (by simpa using hj), List.getElem_replicate]
 | i + 1, j, hj, hjc, h => by
  rw [kerTo]
  have ih := kerTo_zero (p := p) (R := R) (P := P) hc i j hj hjc (fun l hl => h l (by omega))
  by_cases hl : nd P i < (kerTo p C R P c i).length
  ·rw [nd_set _ _ _ _ hl, if_neg (fun e => h i (by omega) e.symm)]; exact ih
  ·rw [List.set_eq_of_length_le (by omega)]; exact ih
theorem kerD_eq {p C c : Nat} {R : List (List Nat)} {P : List Nat} (hc : c < C) (hcP : ∀ i, i < P.length → nd P i ≠ c) (ii : ∀ i k, i < k → k < P.length → nd P i < nd P k) (hw : ∀ i, i < P.length → nd P i < C) : ∀ i, i ≤ P.length → kerD p C R P c i = kerTo p C R P c i
 | 0, _ => rfl
 | i + 1, hi => by
  rw [kerD, kerTo, kerD_eq hc hcP ii hw i (by omega), kerTo_zero hc i _ (hw i (by omega)) (hcP i (by omega)) (fun l hl => by have := ii l i hl (by omega); omega)]
theorem wrkernel {pm : Option Addr} {n cm p : Nat} {M : List (List Nat)} {w : World} (hm : MS w pm n M) (hp : MR.Pr p) (hp2 : p < 4294967296) (hr : RectM M) (hs : SmallM M) :
  Calls Tryd.prog 34 #[.slice pm n cm, .int .u32 ((p : Nat) : Int)] w (Ret (MMn (kerP p M).length (kerP p M)) w) := by
 have hnm := hm.1
 have hsl := hs.1
 have hcb := hs.cols
 have hp1 : 1 < p := by have := hp.1; omega
 have hp0 : 0 < p := by omega
 have hshM := hr.shp hp0
 have hS := Sep.init w
 refine went Tryd.func34 rfl (n := 68) rfl rfl ?_
 refine wseq (wreg (wl rfl (oassign (v := .slice none 0 0) rfl rfl evc ?_)))
 refine wnil (thenN (wseq (wreg (wl rfl (omove (v := .slice pm n cm) rfl rfl (ev rfl rfl) ?_)))))
 refine wl rfl (omove (v := .int .u32 (p : Int)) rfl rfl (ev rfl rfl) ?_)
 refine wl rfl (ocall rfl rfl Tryd.call33 rfl (wrreduce (hm.at hS) hp1 hp2 hr (by omega) (fun r h => by have := hs.2 r h; omega)) (args2 (ev rfl rfl) (ev rfl rfl)) ?_)
 rintro _ w1 ⟨_, _, rfl, ⟨pY, cY, pT, cT, PT, QY, hRT, rfl, rfl⟩, hN⟩
 refine ⟨_, rfl, ?_⟩
 replace hS := hS.news hN; clear hN
 refine wl rfl (omove (v := .tuple #[.slice pY n cY, .slice pT PT.length cT]) rfl rfl (ev rfl rfl) ?_)
 refine wl rfl (oextract (vs := [.slice pY n cY, .slice pT PT.length cT]) (v := .slice pY n cY) rfl rfl (ev rfl rfl) rfl ?_)
 refine wl rfl (oextract (vs := [.slice pY n cY, .slice pT PT.length cT]) (v := .slice pT PT.length cT) rfl rfl (ev rfl rfl) rfl ?_)
 refine wl rfl (oassign (v := .slice pY n cY) rfl rfl (ev rfl rfl) ?_)
 refine wl rfl (oassign (v := .slice pT PT.length cT) rfl rfl (ev rfl rfl) ?_)
 refine wnil (thenN (wseq (wreg (wl rfl (oassign (v := .slice none 0 0) rfl rfl evc ?_)))))
 refine wnil (thenN (wseq (wseq (wreg (wl rfl (omove (v := .slice pm n cm) rfl rfl (ev rfl rfl) ?_))))))
 refine wl rfl (ocall rfl rfl Tryd.call36 rfl (wrcols (hm.at hS)) (args1 (ev rfl rfl)) ?_)
 rintro _ w2 ⟨_, _, rfl, ⟨rfl, rfl⟩, hN⟩
 refine ⟨_, rfl, ?_⟩
 replace hS := hS.news hN; clear hN
 refine wl rfl (omove (v := .int .i64 0) rfl rfl evc ?_)
 refine wnil (thenN (wblock ?_))
 obtain ⟨i1, i2, i3, i4, i5⟩ := redTo_inv hshM hp0 (colsM M)
 have hrf := redTo_rf hp hshM (colsM M) (Nat.le_refl _)
 rw [hRT] at i1 i2 i3 i4 i5 hrf
 have ii : ∀ i k, i < k → k < PT.length → nd PT i < nd PT k := hrf.incr
 have iw : ∀ i, i < PT.length → nd PT i < colsM M := hrf.low
 clear hrf
 simp only at i1 i2 i3 i4 i5
 rw [modM_len] at i1 i3
 have hQYl : QY.length = M.length := by rw [← nums_len]; exact i1
 replace hS := hS.nilLst 52 1
 refine wloop (σ := Nat) (fun c a9 w' => ∃ (fb : Nat → Value) (Qo : List Rw) (kn : Nat) (pO : Option Addr) (cO : Nat), a9 = act 68 (sets fb [(0, .slice pm n cm), (1, .int .u32 (p : Int)), (4, .slice none 0 0), (5, .slice pY n cY), (6, .slice pT PT.length cT), (7, .slice pO kn cO), (20, .int .i64 (((colsM M : Nat) : Int))), (21, .int .i64 (c : Int))]) ∧ Sep w [.lst 52 1 pO kn cO (mmE Qo), .lst 52 1 pY n cY (mmE QY), .lst 3 1 pT PT.length cT (intE PT)] w' ∧ (c ≤ colsM M) ∧ (nums Qo = kerM p (colsM M) (nums QY) PT c) ∧ (kn = (kerM p (colsM M) (nums QY) PT c).length)) (fun c => colsM M - c) (0) ⟨_, [], 0, none, 0, act_sets (l := [(0, .slice pm n cm), (1, .int .u32 (p : Int)), (4, .slice none 0 0), (5, .slice pY n cY), (6, .slice pT PT.length cT), (7, .slice none 0 0), (20, .int .i64 (((colsM M : Nat) : Int))), (21, .int .i64 0)]) ⟨rfl, rfl, rfl, rfl, rfl, rfl, rfl, rfl, trivial⟩, hS, Nat.zero_le _, rfl, rfl⟩ ?_
 clear hS; rintro c _ w3 ⟨fb, Qo, kn, pO, cO, rfl, hS, hc, hQ, hkn⟩
 refine wseq (wreg ?_)
 have hkl9 := kerM_le (p := p) (C := colsM M) (R := nums QY) (P := PT) c
 by_cases hlt : c < colsM M
 ·
  refine wl rfl (obin (u := .int .i64 (c : Int)) (v := .int .i64 (((colsM M : Nat) : Int))) (z := .bool true) rfl rfl (ev rfl rfl) (ev rfl rfl) (bin_lss (decide_eq_true (by omega))) ?_)
  refine wnil (thenN (wseq ?_))
  refine wT (ev rfl rfl) ?_
  refine wskip (thenN (wseq (wblock (wseq (wreg (wl rfl (omove (v := .int .i64 (c : Int)) rfl rfl (ev rfl rfl) ?_)))))))
  refine wl rfl (oassign (v := .int .i64 (c : Int)) rfl rfl (ev rfl rfl) ?_)
  refine wnil (thenN (wseq (wreg (wl rfl (omove (v := .slice pm n cm) rfl rfl (ev rfl rfl) ?_)))))
  refine wl rfl (ocall rfl rfl Tryd.call36 rfl (wrcols (hm.at hS)) (args1 (ev rfl rfl)) ?_)
  rintro _ w4 ⟨_, _, rfl, ⟨rfl, rfl⟩, hN⟩
  refine ⟨_, rfl, ?_⟩
  replace hS := hS.news hN; clear hN
  refine wl rfl (omakeL (zs := [.int .u32 0]) (k := colsM M) (m := colsM M) hS rfl rfl Tryd.underlying52 infouint32 rfl rfl (by decide) rfl (ev (v := .int .i64 (((colsM M : Nat) : Int))) rfl rfl) (ev (v := .int .i64 (((colsM M : Nat) : Int))) rfl rfl) (by omega) (by omega) (by omega) ?_)
  clear hS; intro g5 w6 hS
  refine wl rfl (oassign (v := .slice (some ⟨g5, 0, none⟩) (colsM M) (colsM M)) rfl rfl (ev rfl rfl) ?_)
  refine wnil (thenN (wseq (wreg (wl rfl (omove (v := .slice (some ⟨g5, 0, none⟩) (colsM M) (colsM M)) rfl rfl (ev rfl rfl) ?_)))))
  refine wl rfl (omove (v := .int .i64 (c : Int)) rfl rfl (ev rfl rfl) ?_)
  obtain hS := (show Sep w [.lst 27 1 (some ⟨g5, 0, none⟩) (colsM M) (colsM M) (u32E (List.replicate (colsM M) 0)), .lst 52 1 pO kn cO (mmE Qo), .lst 52 1 pY n cY (mmE QY), .lst 3 1 pT PT.length cT (intE PT)] w6 from by rw [u32E_rep]; exact hS).lstRow (lims_zeros _)
  refine wl rfl (oindex (p := (some ⟨g5, 0, none⟩)) (g := g5) (off := 0) (m := colsM M) (k := c) (j := c) rfl rfl Tryd.runUnderlying52 Tryd.sizeOf27 (ev rfl rfl) (rfl) (ev rfl rfl) (by omega) (by simp) ?_)
  refine wl rfl (ostoreRow (i := c) (u := 1) Tryd.sizeOf27 hS 0 rfl rfl (ev (v := .pointer (some ⟨g5, c, none⟩)) rfl rfl) (evc (v := .int .u32 ((1 : Nat) : Int))) rfl (rfl) ((by omega)) (by omega) ?_)
  clear hS; intro w7 hS
  refine wnil (thenN (wseq (wreg (wl rfl (oassign (v := .bool false) rfl rfl evc ?_)))))
  refine wnil (thenN (wseq (wseq (wreg (wl rfl (omove (v := .slice pT PT.length cT) rfl rfl (ev rfl rfl) ?_))))))
  refine wl rfl (olen rfl rfl rfl Tryd.runUnderlying35 (p := pT) (k := PT.length) (m := cT) (ev rfl rfl) ?_)
  refine wl rfl (omove (v := .int .i64 0) rfl rfl evc ?_)
  refine wnil (thenN (wblock ?_))
  rw [show (List.replicate (colsM M) 0).set c 1 = kerD p (colsM M) (nums QY) PT c 0 from rfl] at hS
  refine wloop (σ := Nat) (fun i a9 w' => ∃ (fb : Nat → Value) (isb : Bool), a9 = act 68 (sets fb [(0, .slice pm n cm), (1, .int .u32 (p : Int)), (4, .slice none 0 0), (5, .slice pY n cY), (6, .slice pT PT.length cT), (7, .slice pO kn cO), (8, .int .i64 (c : Int)), (9, .slice (some ⟨g5, 0, none⟩) (colsM M) (colsM M)), (10, .bool isb), (20, .int .i64 (((colsM M : Nat) : Int))), (21, .int .i64 (c : Int)), (30, .slice pT PT.length cT), (31, .int .i64 (PT.length : Int)), (32, .int .i64 (i : Int))]) ∧ Sep w [.rowm (some ⟨g5, 0, none⟩) (colsM M) (colsM M) (kerD p (colsM M) (nums QY) PT c i), .lst 52 1 pO kn cO (mmE Qo), .lst 52 1 pY n cY (mmE QY), .lst 3 1 pT PT.length cT (intE PT)] w' ∧ (i ≤ PT.length) ∧ (isb = true ↔ c ∈ PT.take i)) (fun i => PT.length - i) (0) ⟨_, false, act_sets (l := [(0, .slice pm n cm), (1, .int .u32 (p : Int)), (4, .slice none 0 0), (5, .slice pY n cY), (6, .slice pT PT.length cT), (7, .slice pO kn cO), (8, .int .i64 (c : Int)), (9, .slice (some ⟨g5, 0, none⟩) (colsM M) (colsM M)), (10, .bool false), (20, .int .i64 (((colsM M : Nat) : Int))), (21, .int .i64 (c : Int)), (30, .slice pT PT.length cT), (31, .int .i64 (PT.length : Int)), (32, .int .i64 0)]) ⟨rfl, rfl, rfl, rfl, rfl, rfl, rfl, rfl, rfl, rfl, rfl, rfl, rfl, rfl, trivial⟩, hS, Nat.zero_le _, by simp⟩ ?_
  clear hS; rintro i _ w8 ⟨fb, isb, rfl, hS, hi, hisb⟩
  refine wseq (wreg ?_)
  by_cases hli : i < PT.length
  ·
   refine wl rfl (obin (u := .int .i64 (i : Int)) (v := .int .i64 (PT.length : Int)) (z := .bool true) rfl rfl (ev rfl rfl) (ev rfl rfl) (bin_lss (decide_eq_true (by omega))) ?_)
   refine wnil (thenN (wseq ?_))
   refine wT (ev rfl rfl) ?_
   refine wskip (thenN (wseq (wblock (wseq (wreg (wl rfl (omove (v := .int .i64 (i : Int)) rfl rfl (ev rfl rfl) ?_)))))))
   by_cases hb1 : isb = true
   ·
    subst hb1
    obtain ⟨gT, hgT⟩ := hS.lstPtr 3 rfl (by omega)
    refine wl rfl (oindex (p := pT) (g := gT) (off := 0) (m := PT.length) (k := i) (j := i) rfl rfl Tryd.runUnderlying35 Tryd.sizeOf3 (ev rfl rfl) (hgT) (ev rfl rfl) (by omega) (by simp) ?_)
    refine wl rfl (oloadc (v := .int .i64 (((nd PT i : Nat) : Int))) oneI rfl rfl (ev (v := .pointer (some ⟨gT, i, none⟩)) rfl rfl) (hS.lstAt 3 rfl hgT i 0 (intE_get (by omega)) rfl (by decide) (by simp)) ?_)
    refine wl rfl (oassign (v := .int .i64 (i : Int)) rfl rfl (ev rfl rfl) ?_)
    refine wl rfl (oassign (v := .int .i64 (((nd PT i : Nat) : Int))) rfl rfl (ev rfl rfl) ?_)
    refine wnil (thenN (wseq (wreg (wl rfl (omove (v := .bool true) rfl rfl (ev rfl rfl) ?_)))))
    refine wl rfl (omove (v := .bool true) rfl rfl (ev rfl rfl) ?_)
    refine wlOff (e := 38) (d := 39) (b' := true) rfl rfl rfl rfl rfl rfl ?_
    refine wlOff (e := 38) (d := 40) (b' := true) rfl rfl rfl rfl rfl rfl ?_
    refine wlOff (e := 38) (d := 41) (b' := true) rfl rfl rfl rfl rfl rfl ?_
    refine wl rfl (opick (b := true) (v := .bool true) rfl rfl (ev rfl rfl) evc ?_)
    refine wl rfl (oassign (v := .bool true) rfl rfl (ev rfl rfl) ?_)
    refine wnil (thenN ?_)
    have hq := iw i (by omega)
    have hPi : PT[i]? = some (nd PT i) := by rw [nd_get (by omega)]; exact List.getElem?_eq_getElem (by omega)
    have hkl : (kerD p (colsM M) (nums QY) PT c i).length = colsM M := kerD_len _
    have hlv := nd_lt (k := nd PT i) (kerD_lt (C := colsM M) (c := c) (R := nums QY) (P := PT) hp1 i) hp0
    obtain ⟨gY, hgY⟩ := hS.lstPtr 2 rfl (by omega)
    obtain ⟨⟨pa, ca, xa⟩, hqa⟩ : ∃ q, (QY)[i]? = some q := ⟨_, List.getElem?_eq_getElem (by omega)⟩
    have hda : (nums (QY)).getD i [] = xa := getD_get (nums_get hqa)
    obtain ⟨hna, hlta⟩ := i2.get (nums_get hqa)
    simp only at hna hlta
    obtain ⟨ga, hga⟩ := hS.mPtr 2 rfl hqa (by show 0 < xa.length; omega)
    have hla := nd_lt (k := c) hlta hp0
    have hm9 := mod_lt32 (a := nd (kerD p (colsM M) (nums QY) PT c i) (nd PT i) + p - nd xa c) hp0 hp2
    refine wstage 16 [43, 44, 45, 46, 47, 48, 49, 50, 51, 52, 53, 54, 55, 56, 57, 58] [[], [], [], [], [2, 3], [4, 2, 3], [], [], [6, 7], [8, 6, 7], [], [9, 10, 6, 7, 8], [11, 6, 7, 8, 9, 10], [], [5, 12, 13, 2, 3, 4, 6, 7, 8, 9, 10, 11], [0, 1, 2, 3, 4, 5, 6, 7, 8, 9, 10, 11, 12, 13, 14]] [[], [], [], [], [], [], [], [], [], [], [], [], [], [], [], []] [] [] (fun i9 => ([fun _ => Is (.slice (some ⟨g5, 0, none⟩) (colsM M) (colsM M)), fun _ => Is (.int .i64 (((nd PT i : Nat) : Int))), fun _ => Is (.slice (some ⟨g5, 0, none⟩) (colsM M) (colsM M)), fun _ => Is (.int .i64 (((nd PT i : Nat) : Int))), fun _ => Is (.pointer (some ⟨g5, nd PT i, none⟩)), fun _ => Is (.int .u32 (((nd (kerD p (colsM M) (nums QY) PT c i) (nd PT i) : Nat) : Int))), fun _ => Is (.slice pY n cY), fun _ => Is (.int .i64 (i : Int)), fun _ => Is (.pointer (some ⟨gY, (0 + i * 1), none⟩)), fun _ => Is (.slice pa (colsM M) ca), fun _ => Is (.int .i64 (c : Int)), fun _ => Is (.pointer (some ⟨ga, c, none⟩)), fun _ => Is (.int .u32 (((nd xa c : Nat) : Int))), fun _ => Is (.int .u32 (p : Int)), fun _ => Is (.int .u32 (((((nd (kerD p (colsM M) (nums QY) PT c i) (nd PT i)) + p - (nd xa c)) % p : Nat) : Int))), fun _ => Is (.pointer (some ⟨g5, nd PT i, none⟩))] : List (List Value → Tell)).getD i9 (fun _ _ _ => False)) (heldNil) (fun d _ _ _ _ h => (by cases d <;> exact h)) (by kernel_rfl) (by kernel_rfl) (by kernel_rfl) hS ?_ ?_
    ·
     refine stepsCons rfl (fun Q f' w' ρ S ho hT hS hB => ?_) ?_
     ·exact .inl ⟨want_none rfl, omove (v := .slice (some ⟨g5, 0, none⟩) (colsM M) (colsM M)) rfl rfl (ev rfl (ho 9 rfl)) ⟨_, _, rfl, isI, New.same _⟩⟩
     refine stepsCons rfl (fun Q f' w' ρ S ho hT hS hB => ?_) ?_
     ·exact .inl ⟨want_none rfl, omove (v := .int .i64 (((nd PT i : Nat) : Int))) rfl rfl (ev rfl (ho 12 rfl)) ⟨_, _, rfl, isI, New.same _⟩⟩
     refine stepsCons rfl (fun Q f' w' ρ S ho hT hS hB => ?_) ?_
     ·exact .inl ⟨want_none rfl, omove (v := .slice (some ⟨g5, 0, none⟩) (colsM M) (colsM M)) rfl rfl (ev rfl (ho 9 rfl)) ⟨_, _, rfl, isI, New.same _⟩⟩
     refine stepsCons rfl (fun Q f' w' ρ S ho hT hS hB => ?_) ?_
     ·exact .inl ⟨want_none rfl, omove (v := .int .i64 (((nd PT i : Nat) : Int))) rfl rfl (ev rfl (ho 12 rfl)) ⟨_, _, rfl, isI, New.same _⟩⟩
     refine stepsCons rfl (fun Q f' w' ρ S ho hT hS hB => ?_) ?_
     ·obtain ⟨hv2, hr2⟩ := (hT 2 45 rfl rfl : (Is (.slice (some ⟨g5, 0, none⟩) (colsM M) (colsM M))) _ _)
      obtain ⟨hv3, hr3⟩ := (hT 3 46 rfl rfl : (Is (.int .i64 (((nd PT i : Nat) : Int)))) _ _)
      obtain hS := hS.flat2 hr2 hr3
      exact .inl ⟨want_none rfl, oindex (p := (some ⟨g5, 0, none⟩)) (g := g5) (off := 0) (m := colsM M) (k := (nd PT i)) (j := nd PT i) rfl rfl Tryd.runUnderlying52 Tryd.sizeOf27 (ev rfl hv2) (rfl) (ev rfl hv3) (by omega) (by simp) ⟨_, _, rfl, isI, New.same _⟩⟩
     refine stepsCons rfl (fun Q f' w' ρ S ho hT hS hB => ?_) ?_
     ·obtain ⟨hv4, hr4⟩ := (hT 4 47 rfl rfl : (Is (.pointer (some ⟨g5, nd PT i, none⟩))) _ _)
      obtain hS := hS.flat1 hr4
      exact .inl ⟨want_none rfl, oloadc (v := .int .u32 (((nd (kerD p (colsM M) (nums QY) PT c i) (nd PT i) : Nat) : Int))) one32 rfl rfl (ev (v := .pointer (some ⟨g5, nd PT i, none⟩)) rfl hv4) (((hS.rowmAt 0 rfl)).cellAt (show nd PT i < colsM M by omega)) ⟨_, _, rfl, isI, New.same _⟩⟩
     refine stepsCons rfl (fun Q f' w' ρ S ho hT hS hB => ?_) ?_
     ·exact .inl ⟨want_none rfl, omove (v := .slice pY n cY) rfl rfl (ev rfl (ho 5 rfl)) ⟨_, _, rfl, isI, New.same _⟩⟩
     refine stepsCons rfl (fun Q f' w' ρ S ho hT hS hB => ?_) ?_
     ·exact .inl ⟨want_none rfl, omove (v := .int .i64 (i : Int)) rfl rfl (ev rfl (ho 11 rfl)) ⟨_, _, rfl, isI, New.same _⟩⟩
     refine stepsCons rfl (fun Q f' w' ρ S ho hT hS hB => ?_) ?_
     ·obtain ⟨hv6, hr6⟩ := (hT 6 49 rfl rfl : (Is (.slice pY n cY)) _ _)
      obtain ⟨hv7, hr7⟩ := (hT 7 50 rfl rfl : (Is (.int .i64 (((i : Nat) : Int)))) _ _)
      obtain hS := hS.flat2 hr6 hr7
      exact .inl ⟨want_none rfl, oindex (p := pY) (g := gY) (off := 0) (m := n) (k := i) (j := (0 + i * 1)) rfl rfl Tryd.runUnderlying26 Tryd.sizeOf52 (ev rfl hv6) (hgY) (ev rfl hv7) (by omega) rfl ⟨_, _, rfl, isI, New.same _⟩⟩
     refine stepsCons rfl (fun Q f' w' ρ S ho hT hS hB => ?_) ?_
     ·obtain ⟨hv8, hr8⟩ := (hT 8 51 rfl rfl : (Is (.pointer (some ⟨gY, (0 + i * 1), none⟩))) _ _)
      obtain hS := hS.flat1 hr8
      exact .inl ⟨want_none rfl, oloadc (v := .slice pa (colsM M) ca) (show One Tryd.prog 52 from ⟨Tryd.isAgg52, Tryd.sizeOf52⟩) rfl rfl (ev (v := .pointer (some ⟨gY, (0 + i * 1), none⟩)) rfl hv8) (hS.mRow 2 rfl hqa hna hgY) ⟨_, _, rfl, isI, New.same _⟩⟩
     refine stepsCons rfl (fun Q f' w' ρ S ho hT hS hB => ?_) ?_
     ·exact .inl ⟨want_none rfl, omove (v := .int .i64 (c : Int)) rfl rfl (ev rfl (ho 8 rfl)) ⟨_, _, rfl, isI, New.same _⟩⟩
     refine stepsCons rfl (fun Q f' w' ρ S ho hT hS hB => ?_) ?_
     ·obtain ⟨hv9, hr9⟩ := (hT 9 52 rfl rfl : (Is (.slice pa (colsM M) ca)) _ _)
      obtain ⟨hv10, hr10⟩ := (hT 10 53 rfl rfl : (Is (.int .i64 (((c : Nat) : Int)))) _ _)
      obtain hS := hS.flat2 hr9 hr10
      exact .inl ⟨want_none rfl, oindex (p := pa) (g := ga) (off := 0) (m := colsM M) (k := c) (j := c) rfl rfl Tryd.runUnderlying52 Tryd.sizeOf27 (ev rfl hv9) (hga) (ev rfl hv10) (by omega) (by simp) ⟨_, _, rfl, isI, New.same _⟩⟩
     refine stepsCons rfl (fun Q f' w' ρ S ho hT hS hB => ?_) ?_
     ·obtain ⟨hv11, hr11⟩ := (hT 11 54 rfl rfl : (Is (.pointer (some ⟨ga, c, none⟩))) _ _)
      obtain hS := hS.flat1 hr11
      exact .inl ⟨want_none rfl, oloadc (v := .int .u32 (((nd xa c : Nat) : Int))) one32 rfl rfl (ev (v := .pointer (some ⟨ga, c, none⟩)) rfl hv11) (hS.mCell 2 rfl hqa hga (by omega)) ⟨_, _, rfl, isI, New.same _⟩⟩
     refine stepsCons rfl (fun Q f' w' ρ S ho hT hS hB => ?_) ?_
     ·exact .inl ⟨want_none rfl, omove (v := .int .u32 (p : Int)) rfl rfl (ev rfl (ho 1 rfl)) ⟨_, _, rfl, isI, New.same _⟩⟩
     refine stepsCons rfl (fun Q f' w' ρ S ho hT hS hB => ?_) ?_
     ·obtain ⟨hv5, hr5⟩ := (hT 5 48 rfl rfl : (Is (.int .u32 (((nd (kerD p (colsM M) (nums QY) PT c i) (nd PT i) : Nat) : Int)))) _ _)
      obtain ⟨hv12, hr12⟩ := (hT 12 55 rfl rfl : (Is (.int .u32 (((nd xa c : Nat) : Int)))) _ _)
      obtain ⟨hv13, hr13⟩ := (hT 13 56 rfl rfl : (Is (.int .u32 (((p : Nat) : Int)))) _ _)
      obtain hS := hS.flat3 hr5 hr12 hr13
      exact .inl ⟨want_none rfl, ocall rfl rfl Tryd.call51 rfl (wrsub (a := (nd (kerD p (colsM M) (nums QY) PT c i) (nd PT i))) (b := (nd xa c)) (p := p) hp0 hp2 (by omega) (by omega)) (args3 (ev rfl hv5) (ev rfl hv12) (ev rfl hv13)) callN⟩
     refine stepsCons rfl (fun Q f' w' ρ S ho hT hS hB => ?_) ?_
     ·obtain ⟨hv0, hr0⟩ := (hT 0 43 rfl rfl : (Is (.slice (some ⟨g5, 0, none⟩) (colsM M) (colsM M))) _ _)
      obtain ⟨hv1, hr1⟩ := (hT 1 44 rfl rfl : (Is (.int .i64 (((nd PT i : Nat) : Int)))) _ _)
      obtain hS := hS.flat2 hr0 hr1
      exact .inl ⟨want_none rfl, oindex (p := (some ⟨g5, 0, none⟩)) (g := g5) (off := 0) (m := colsM M) (k := (nd PT i)) (j := nd PT i) rfl rfl Tryd.runUnderlying52 Tryd.sizeOf27 (ev rfl hv0) (rfl) (ev rfl hv1) (by omega) (by simp) ⟨_, _, rfl, isI, New.same _⟩⟩
     exact stepsNil
    ·
     intro vs ρ w9 f' hf hT hS
     obtain ⟨hv0, hr0⟩ := (hT 0 (by decide) : (Is (.slice (some ⟨g5, 0, none⟩) (colsM M) (colsM M))) _ _)
     obtain ⟨hv1, hr1⟩ := (hT 1 (by decide) : (Is (.int .i64 (((nd PT i : Nat) : Int)))) _ _)
     obtain ⟨hv2, hr2⟩ := (hT 2 (by decide) : (Is (.slice (some ⟨g5, 0, none⟩) (colsM M) (colsM M))) _ _)
     obtain ⟨hv3, hr3⟩ := (hT 3 (by decide) : (Is (.int .i64 (((nd PT i : Nat) : Int)))) _ _)
     obtain ⟨hv4, hr4⟩ := (hT 4 (by decide) : (Is (.pointer (some ⟨g5, nd PT i, none⟩))) _ _)
     obtain ⟨hv5, hr5⟩ := (hT 5 (by decide) : (Is (.int .u32 (((nd (kerD p (colsM M) (nums QY) PT c i) (nd PT i) : Nat) : Int)))) _ _)
     obtain ⟨hv6, hr6⟩ := (hT 6 (by decide) : (Is (.slice pY n cY)) _ _)
     obtain ⟨hv7, hr7⟩ := (hT 7 (by decide) : (Is (.int .i64 (((i : Nat) : Int)))) _ _)
     obtain ⟨hv8, hr8⟩ := (hT 8 (by decide) : (Is (.pointer (some ⟨gY, (0 + i * 1), none⟩))) _ _)
     obtain ⟨hv9, hr9⟩ := (hT 9 (by decide) : (Is (.slice pa (colsM M) ca)) _ _)
     obtain ⟨hv10, hr10⟩ := (hT 10 (by decide) : (Is (.int .i64 (((c : Nat) : Int)))) _ _)
     obtain ⟨hv11, hr11⟩ := (hT 11 (by decide) : (Is (.pointer (some ⟨ga, c, none⟩))) _ _)
     obtain ⟨hv12, hr12⟩ := (hT 12 (by decide) : (Is (.int .u32 (((nd xa c : Nat) : Int)))) _ _)
     obtain ⟨hv13, hr13⟩ := (hT 13 (by decide) : (Is (.int .u32 (((p : Nat) : Int)))) _ _)
     obtain ⟨hv14, hr14⟩ := (hT 14 (by decide) : (Is (.int .u32 (((((nd (kerD p (colsM M) (nums QY) PT c i) (nd PT i)) + p - (nd xa c)) % p : Nat) : Int)))) _ _)
     obtain ⟨hv15, hr15⟩ := (hT 15 (by decide) : (Is (.pointer (some ⟨g5, nd PT i, none⟩))) _ _)
     simp only [pool, if_true, hr0, hr1, hr2, hr3, hr4, hr5, hr6, hr7, hr8, hr9, hr10, hr11, hr12, hr13, hr14, hr15, List.nil_append, List.cons_append, List.append_nil] at hS
     simp only [layf, hv0, hv1, hv2, hv3, hv4, hv5, hv6, hv7, hv8, hv9, hv10, hv11, hv12, hv13, hv14, hv15] at hf
     subst hf; clear hT hv0 hv1 hv2 hv3 hv4 hv5 hv6 hv7 hv8 hv9 hv10 hv11 hv12 hv13 hv14 hv15 hr0 hr1 hr2 hr3 hr4 hr5 hr6 hr7 hr8 hr9 hr10 hr11 hr12 hr13 hr14 hr15
     refine wlate 16 rfl (by kernel_rfl) (ostoreRow (i := nd PT i) (u := ((nd (kerD p (colsM M) (nums QY) PT c i) (nd PT i) + p - nd xa c) % p)) Tryd.sizeOf27 hS 0 rfl rfl (ev (v := .pointer (some ⟨g5, nd PT i, none⟩)) rfl rfl) ((ev (v := .int .u32 (((((nd (kerD p (colsM M) (nums QY) PT c i) (nd PT i)) + p - (nd xa c)) % p : Nat) : Int))) rfl rfl)) rfl (rfl) ((by omega)) (by omega) ?_)
     clear hS; intro w10 hS
     refine ⟨heldNil, ?_⟩
     refine wdone rfl ?_
     refine blkN (thenN (wreg (wl rfl (obin (u := .int .i64 (i : Int)) (v := .int .i64 1) (z := .int .i64 (((i + 1 : Nat) : Int))) rfl rfl (ev rfl rfl) evc (bin_add (wrap_i64 (by omega) (by omega))) ?_))))
     refine wl rfl (omove (v := .int .i64 (((i + 1 : Nat) : Int))) rfl rfl (ev rfl rfl) ?_)
     refine wnil (thenN ?_)
     rw [show (kerD p (colsM M) (nums QY) PT c i).set (nd PT i) ((nd (kerD p (colsM M) (nums QY) PT c i) (nd PT i) + p - nd xa c) % p) = kerD p (colsM M) (nums QY) PT c (i + 1) from by rw [kerD, hda]] at hS
     exact ⟨(i + 1), ⟨_, _, act_sets (l := [(0, .slice pm n cm), (1, .int .u32 (p : Int)), (4, .slice none 0 0), (5, .slice pY n cY), (6, .slice pT PT.length cT), (7, .slice pO kn cO), (8, .int .i64 (c : Int)), (9, .slice (some ⟨g5, 0, none⟩) (colsM M) (colsM M)), (10, .bool true), (20, .int .i64 (((colsM M : Nat) : Int))), (21, .int .i64 (c : Int)), (30, .slice pT PT.length cT), (31, .int .i64 (PT.length : Int)), (32, .int .i64 (((i + 1 : Nat) : Int)))]) ⟨rfl, rfl, rfl, rfl, rfl, rfl, rfl, rfl, rfl, rfl, rfl, rfl, rfl, rfl, trivial⟩, hS.pick [0, 1, 2, 3] (by decide) rfl, by omega, by rw [take_next hPi]; exact ⟨fun _ => List.mem_append_left _ (hisb.1 rfl), fun _ => rfl⟩⟩, by omega⟩
   ·
    obtain rfl : isb = false := by simpa using hb1
    obtain ⟨gT, hgT⟩ := hS.lstPtr 3 rfl (by omega)
    refine wl rfl (oindex (p := pT) (g := gT) (off := 0) (m := PT.length) (k := i) (j := i) rfl rfl Tryd.runUnderlying35 Tryd.sizeOf3 (ev rfl rfl) (hgT) (ev rfl rfl) (by omega) (by simp) ?_)
    refine wl rfl (oloadc (v := .int .i64 (((nd PT i : Nat) : Int))) oneI rfl rfl (ev (v := .pointer (some ⟨gT, i, none⟩)) rfl rfl) (hS.lstAt 3 rfl hgT i 0 (intE_get (by omega)) rfl (by decide) (by simp)) ?_)
    refine wl rfl (oassign (v := .int .i64 (i : Int)) rfl rfl (ev rfl rfl) ?_)
    refine wl rfl (oassign (v := .int .i64 (((nd PT i : Nat) : Int))) rfl rfl (ev rfl rfl) ?_)
    refine wnil (thenN (wseq (wreg (wl rfl (omove (v := .bool false) rfl rfl (ev rfl rfl) ?_)))))
    refine wl rfl (omove (v := .bool false) rfl rfl (ev rfl rfl) ?_)
    refine wlOn (e := 38) rfl rfl rfl rfl (omove (v := .int .i64 (((nd PT i : Nat) : Int))) rfl rfl (ev rfl rfl) ?_)
    refine wlOn (e := 38) rfl rfl rfl rfl (omove (v := .int .i64 (c : Int)) rfl rfl (ev rfl rfl) ?_)
    by_cases hkc : nd PT i = c
    ·
     refine wlOn (e := 38) rfl rfl rfl rfl (obin (u := .int .i64 (((nd PT i : Nat) : Int))) (v := .int .i64 (c : Int)) (z := .bool true) rfl rfl (ev rfl rfl) (ev rfl rfl) (bin_eql (eqT (by omega))) ?_)
     refine wl rfl (opick (b := false) (v := .bool true) rfl rfl (ev rfl rfl) (ev rfl rfl) ?_)
     refine wl rfl (oassign (v := .bool true) rfl rfl (ev rfl rfl) ?_)
     refine wnil (thenN ?_)
     have hq := iw i (by omega)
     have hPi : PT[i]? = some (nd PT i) := by rw [nd_get (by omega)]; exact List.getElem?_eq_getElem (by omega)
     have hkl : (kerD p (colsM M) (nums QY) PT c i).length = colsM M := kerD_len _
     have hlv := nd_lt (k := nd PT i) (kerD_lt (C := colsM M) (c := c) (R := nums QY) (P := PT) hp1 i) hp0
     obtain ⟨gY, hgY⟩ := hS.lstPtr 2 rfl (by omega)
     obtain ⟨⟨pa, ca, xa⟩, hqa⟩ : ∃ q, (QY)[i]? = some q := ⟨_, List.getElem?_eq_getElem (by omega)⟩
     have hda : (nums (QY)).getD i [] = xa := getD_get (nums_get hqa)
     obtain ⟨hna, hlta⟩ := i2.get (nums_get hqa)
     simp only at hna hlta
     obtain ⟨ga, hga⟩ := hS.mPtr 2 rfl hqa (by show 0 < xa.length; omega)
     have hla := nd_lt (k := c) hlta hp0
     have hm9 := mod_lt32 (a := nd (kerD p (colsM M) (nums QY) PT c i) (nd PT i) + p - nd xa c) hp0 hp2
     refine wstage 16 [43, 44, 45, 46, 47, 48, 49, 50, 51, 52, 53, 54, 55, 56, 57, 58] [[], [], [], [], [2, 3], [4, 2, 3], [], [], [6, 7], [8, 6, 7], [], [9, 10, 6, 7, 8], [11, 6, 7, 8, 9, 10], [], [5, 12, 13, 2, 3, 4, 6, 7, 8, 9, 10, 11], [0, 1, 2, 3, 4, 5, 6, 7, 8, 9, 10, 11, 12, 13, 14]] [[], [], [], [], [], [], [], [], [], [], [], [], [], [], [], []] [] [] (fun i9 => ([fun _ => Is (.slice (some ⟨g5, 0, none⟩) (colsM M) (colsM M)), fun _ => Is (.int .i64 (((nd PT i : Nat) : Int))), fun _ => Is (.slice (some ⟨g5, 0, none⟩) (colsM M) (colsM M)), fun _ => Is (.int .i64 (((nd PT i : Nat) : Int))), fun _ => Is (.pointer (some ⟨g5, nd PT i, none⟩)), fun _ => Is (.int .u32 (((nd (kerD p (colsM M) (nums QY) PT c i) (nd PT i) : Nat) : Int))), fun _ => Is (.slice pY n cY), fun _ => Is (.int .i64 (i : Int)), fun _ => Is (.pointer (some ⟨gY, (0 + i * 1), none⟩)), fun _ => Is (.slice pa (colsM M) ca), fun _ => Is (.int .i64 (c : Int)), fun _ => Is (.pointer (some ⟨ga, c, none⟩)), fun _ => Is (.int .u32 (((nd xa c : Nat) : Int))), fun _ => Is (.int .u32 (p : Int)), fun _ => Is (.int .u32 (((((nd (kerD p (colsM M) (nums QY) PT c i) (nd PT i)) + p - (nd xa c)) % p : Nat) : Int))), fun _ => Is (.pointer (some ⟨g5, nd PT i, none⟩))] : List (List Value → Tell)).getD i9 (fun _ _ _ => False)) (heldNil) (fun d _ _ _ _ h => (by cases d <;> exact h)) (by kernel_rfl) (by kernel_rfl) (by kernel_rfl) hS ?_ ?_
     ·
      refine stepsCons rfl (fun Q f' w' ρ S ho hT hS hB => ?_) ?_
      ·exact .inl ⟨want_none rfl, omove (v := .slice (some ⟨g5, 0, none⟩) (colsM M) (colsM M)) rfl rfl (ev rfl (ho 9 rfl)) ⟨_, _, rfl, isI, New.same _⟩⟩
      refine stepsCons rfl (fun Q f' w' ρ S ho hT hS hB => ?_) ?_
      ·exact .inl ⟨want_none rfl, omove (v := .int .i64 (((nd PT i : Nat) : Int))) rfl rfl (ev rfl (ho 12 rfl)) ⟨_, _, rfl, isI, New.same _⟩⟩
      refine stepsCons rfl (fun Q f' w' ρ S ho hT hS hB => ?_) ?_
      ·exact .inl ⟨want_none rfl, omove (v := .slice (some ⟨g5, 0, none⟩) (colsM M) (colsM M)) rfl rfl (ev rfl (ho 9 rfl)) ⟨_, _, rfl, isI, New.same _⟩⟩
      refine stepsCons rfl (fun Q f' w' ρ S ho hT hS hB => ?_) ?_
      ·exact .inl ⟨want_none rfl, omove (v := .int .i64 (((nd PT i : Nat) : Int))) rfl rfl (ev rfl (ho 12 rfl)) ⟨_, _, rfl, isI, New.same _⟩⟩
      refine stepsCons rfl (fun Q f' w' ρ S ho hT hS hB => ?_) ?_
      ·obtain ⟨hv2, hr2⟩ := (hT 2 45 rfl rfl : (Is (.slice (some ⟨g5, 0, none⟩) (colsM M) (colsM M))) _ _)
       obtain ⟨hv3, hr3⟩ := (hT 3 46 rfl rfl : (Is (.int .i64 (((nd PT i : Nat) : Int)))) _ _)
       obtain hS := hS.flat2 hr2 hr3
       exact .inl ⟨want_none rfl, oindex (p := (some ⟨g5, 0, none⟩)) (g := g5) (off := 0) (m := colsM M) (k := (nd PT i)) (j := nd PT i) rfl rfl Tryd.runUnderlying52 Tryd.sizeOf27 (ev rfl hv2) (rfl) (ev rfl hv3) (by omega) (by simp) ⟨_, _, rfl, isI, New.same _⟩⟩
      refine stepsCons rfl (fun Q f' w' ρ S ho hT hS hB => ?_) ?_
      ·obtain ⟨hv4, hr4⟩ := (hT 4 47 rfl rfl : (Is (.pointer (some ⟨g5, nd PT i, none⟩))) _ _)
       obtain hS := hS.flat1 hr4
       exact .inl ⟨want_none rfl, oloadc (v := .int .u32 (((nd (kerD p (colsM M) (nums QY) PT c i) (nd PT i) : Nat) : Int))) one32 rfl rfl (ev (v := .pointer (some ⟨g5, nd PT i, none⟩)) rfl hv4) (((hS.rowmAt 0 rfl)).cellAt (show nd PT i < colsM M by omega)) ⟨_, _, rfl, isI, New.same _⟩⟩
      refine stepsCons rfl (fun Q f' w' ρ S ho hT hS hB => ?_) ?_
      ·exact .inl ⟨want_none rfl, omove (v := .slice pY n cY) rfl rfl (ev rfl (ho 5 rfl)) ⟨_, _, rfl, isI, New.same _⟩⟩
      refine stepsCons rfl (fun Q f' w' ρ S ho hT hS hB => ?_) ?_
      ·exact .inl ⟨want_none rfl, omove (v := .int .i64 (i : Int)) rfl rfl (ev rfl (ho 11 rfl)) ⟨_, _, rfl, isI, New.same _⟩⟩
      refine stepsCons rfl (fun Q f' w' ρ S ho hT hS hB => ?_) ?_
      ·obtain ⟨hv6, hr6⟩ := (hT 6 49 rfl rfl : (Is (.slice pY n cY)) _ _)
       obtain ⟨hv7, hr7⟩ := (hT 7 50 rfl rfl : (Is (.int .i64 (((i : Nat) : Int)))) _ _)
       obtain hS := hS.flat2 hr6 hr7
       exact .inl ⟨want_none rfl, oindex (p := pY) (g := gY) (off := 0) (m := n) (k := i) (j := (0 + i * 1)) rfl rfl Tryd.runUnderlying26 Tryd.sizeOf52 (ev rfl hv6) (hgY) (ev rfl hv7) (by omega) rfl ⟨_, _, rfl, isI, New.same _⟩⟩
      refine stepsCons rfl (fun Q f' w' ρ S ho hT hS hB => ?_) ?_
      ·obtain ⟨hv8, hr8⟩ := (hT 8 51 rfl rfl : (Is (.pointer (some ⟨gY, (0 + i * 1), none⟩))) _ _)
       obtain hS := hS.flat1 hr8
       exact .inl ⟨want_none rfl, oloadc (v := .slice pa (colsM M) ca) (show One Tryd.prog 52 from ⟨Tryd.isAgg52, Tryd.sizeOf52⟩) rfl rfl (ev (v := .pointer (some ⟨gY, (0 + i * 1), none⟩)) rfl hv8) (hS.mRow 2 rfl hqa hna hgY) ⟨_, _, rfl, isI, New.same _⟩⟩
      refine stepsCons rfl (fun Q f' w' ρ S ho hT hS hB => ?_) ?_
      ·exact .inl ⟨want_none rfl, omove (v := .int .i64 (c : Int)) rfl rfl (ev rfl (ho 8 rfl)) ⟨_, _, rfl, isI, New.same _⟩⟩
      refine stepsCons rfl (fun Q f' w' ρ S ho hT hS hB => ?_) ?_
      ·obtain ⟨hv9, hr9⟩ := (hT 9 52 rfl rfl : (Is (.slice pa (colsM M) ca)) _ _)
       obtain ⟨hv10, hr10⟩ := (hT 10 53 rfl rfl : (Is (.int .i64 (((c : Nat) : Int)))) _ _)
       obtain hS := hS.flat2 hr9 hr10
       exact .inl ⟨want_none rfl, oindex (p := pa) (g := ga) (off := 0) (m := colsM M) (k := c) (j := c) rfl rfl Tryd.runUnderlying52 Tryd.sizeOf27 (ev rfl hv9) (hga) (ev rfl hv10) (by omega) (by simp) ⟨_, _, rfl, isI, New.same _⟩⟩
      refine stepsCons rfl (fun Q f' w' ρ S ho hT hS hB => ?_) ?_
      ·obtain ⟨hv11, hr11⟩ := (hT 11 54 rfl rfl : (Is (.pointer (some ⟨ga, c, none⟩))) _ _)
       obtain hS := hS.flat1 hr11
       exact .inl ⟨want_none rfl, oloadc (v := .int .u32 (((nd xa c : Nat) : Int))) one32 rfl rfl (ev (v := .pointer (some ⟨ga, c, none⟩)) rfl hv11) (hS.mCell 2 rfl hqa hga (by omega)) ⟨_, _, rfl, isI, New.same _⟩⟩
      refine stepsCons rfl (fun Q f' w' ρ S ho hT hS hB => ?_) ?_
      ·exact .inl ⟨want_none rfl, omove (v := .int .u32 (p : Int)) rfl rfl (ev rfl (ho 1 rfl)) ⟨_, _, rfl, isI, New.same _⟩⟩
      refine stepsCons rfl (fun Q f' w' ρ S ho hT hS hB => ?_) ?_
      ·obtain ⟨hv5, hr5⟩ := (hT 5 48 rfl rfl : (Is (.int .u32 (((nd (kerD p (colsM M) (nums QY) PT c i) (nd PT i) : Nat) : Int)))) _ _)
       obtain ⟨hv12, hr12⟩ := (hT 12 55 rfl rfl : (Is (.int .u32 (((nd xa c : Nat) : Int)))) _ _)
       obtain ⟨hv13, hr13⟩ := (hT 13 56 rfl rfl : (Is (.int .u32 (((p : Nat) : Int)))) _ _)
       obtain hS := hS.flat3 hr5 hr12 hr13
       exact .inl ⟨want_none rfl, ocall rfl rfl Tryd.call51 rfl (wrsub (a := (nd (kerD p (colsM M) (nums QY) PT c i) (nd PT i))) (b := (nd xa c)) (p := p) hp0 hp2 (by omega) (by omega)) (args3 (ev rfl hv5) (ev rfl hv12) (ev rfl hv13)) callN⟩
      refine stepsCons rfl (fun Q f' w' ρ S ho hT hS hB => ?_) ?_
      ·obtain ⟨hv0, hr0⟩ := (hT 0 43 rfl rfl : (Is (.slice (some ⟨g5, 0, none⟩) (colsM M) (colsM M))) _ _)
       obtain ⟨hv1, hr1⟩ := (hT 1 44 rfl rfl : (Is (.int .i64 (((nd PT i : Nat) : Int)))) _ _)
       obtain hS := hS.flat2 hr0 hr1
       exact .inl ⟨want_none rfl, oindex (p := (some ⟨g5, 0, none⟩)) (g := g5) (off := 0) (m := colsM M) (k := (nd PT i)) (j := nd PT i) rfl rfl Tryd.runUnderlying52 Tryd.sizeOf27 (ev rfl hv0) (rfl) (ev rfl hv1) (by omega) (by simp) ⟨_, _, rfl, isI, New.same _⟩⟩
      exact stepsNil
     ·
      intro vs ρ w9 f' hf hT hS
      obtain ⟨hv0, hr0⟩ := (hT 0 (by decide) : (Is (.slice (some ⟨g5, 0, none⟩) (colsM M) (colsM M))) _ _)
      obtain ⟨hv1, hr1⟩ := (hT 1 (by decide) : (Is (.int .i64 (((nd PT i : Nat) : Int)))) _ _)
      obtain ⟨hv2, hr2⟩ := (hT 2 (by decide) : (Is (.slice (some ⟨g5, 0, none⟩) (colsM M) (colsM M))) _ _)
      obtain ⟨hv3, hr3⟩ := (hT 3 (by decide) : (Is (.int .i64 (((nd PT i : Nat) : Int)))) _ _)
      obtain ⟨hv4, hr4⟩ := (hT 4 (by decide) : (Is (.pointer (some ⟨g5, nd PT i, none⟩))) _ _)
      obtain ⟨hv5, hr5⟩ := (hT 5 (by decide) : (Is (.int .u32 (((nd (kerD p (colsM M) (nums QY) PT c i) (nd PT i) : Nat) : Int)))) _ _)
      obtain ⟨hv6, hr6⟩ := (hT 6 (by decide) : (Is (.slice pY n cY)) _ _)
      obtain ⟨hv7, hr7⟩ := (hT 7 (by decide) : (Is (.int .i64 (((i : Nat) : Int)))) _ _)
      obtain ⟨hv8, hr8⟩ := (hT 8 (by decide) : (Is (.pointer (some ⟨gY, (0 + i * 1), none⟩))) _ _)
      obtain ⟨hv9, hr9⟩ := (hT 9 (by decide) : (Is (.slice pa (colsM M) ca)) _ _)
      obtain ⟨hv10, hr10⟩ := (hT 10 (by decide) : (Is (.int .i64 (((c : Nat) : Int)))) _ _)
      obtain ⟨hv11, hr11⟩ := (hT 11 (by decide) : (Is (.pointer (some ⟨ga, c, none⟩))) _ _)
      obtain ⟨hv12, hr12⟩ := (hT 12 (by decide) : (Is (.int .u32 (((nd xa c : Nat) : Int)))) _ _)
      obtain ⟨hv13, hr13⟩ := (hT 13 (by decide) : (Is (.int .u32 (((p : Nat) : Int)))) _ _)
      obtain ⟨hv14, hr14⟩ := (hT 14 (by decide) : (Is (.int .u32 (((((nd (kerD p (colsM M) (nums QY) PT c i) (nd PT i)) + p - (nd xa c)) % p : Nat) : Int)))) _ _)
      obtain ⟨hv15, hr15⟩ := (hT 15 (by decide) : (Is (.pointer (some ⟨g5, nd PT i, none⟩))) _ _)
      simp only [pool, if_true, hr0, hr1, hr2, hr3, hr4, hr5, hr6, hr7, hr8, hr9, hr10, hr11, hr12, hr13, hr14, hr15, List.nil_append, List.cons_append, List.append_nil] at hS
      simp only [layf, hv0, hv1, hv2, hv3, hv4, hv5, hv6, hv7, hv8, hv9, hv10, hv11, hv12, hv13, hv14, hv15] at hf
      subst hf; clear hT hv0 hv1 hv2 hv3 hv4 hv5 hv6 hv7 hv8 hv9 hv10 hv11 hv12 hv13 hv14 hv15 hr0 hr1 hr2 hr3 hr4 hr5 hr6 hr7 hr8 hr9 hr10 hr11 hr12 hr13 hr14 hr15
      refine wlate 16 rfl (by kernel_rfl) (ostoreRow (i := nd PT i) (u := ((nd (kerD p (colsM M) (nums QY) PT c i) (nd PT i) + p - nd xa c) % p)) Tryd.sizeOf27 hS 0 rfl rfl (ev (v := .pointer (some ⟨g5, nd PT i, none⟩)) rfl rfl) ((ev (v := .int .u32 (((((nd (kerD p (colsM M) (nums QY) PT c i) (nd PT i)) + p - (nd xa c)) % p : Nat) : Int))) rfl rfl)) rfl (rfl) ((by omega)) (by omega) ?_)
      clear hS; intro w10 hS
      refine ⟨heldNil, ?_⟩
      refine wdone rfl ?_
      refine blkN (thenN (wreg (wl rfl (obin (u := .int .i64 (i : Int)) (v := .int .i64 1) (z := .int .i64 (((i + 1 : Nat) : Int))) rfl rfl (ev rfl rfl) evc (bin_add (wrap_i64 (by omega) (by omega))) ?_))))
      refine wl rfl (omove (v := .int .i64 (((i + 1 : Nat) : Int))) rfl rfl (ev rfl rfl) ?_)
      refine wnil (thenN ?_)
      rw [show (kerD p (colsM M) (nums QY) PT c i).set (nd PT i) ((nd (kerD p (colsM M) (nums QY) PT c i) (nd PT i) + p - nd xa c) % p) = kerD p (colsM M) (nums QY) PT c (i + 1) from by rw [kerD, hda]] at hS
      exact ⟨(i + 1), ⟨_, _, act_sets (l := [(0, .slice pm n cm), (1, .int .u32 (p : Int)), (4, .slice none 0 0), (5, .slice pY n cY), (6, .slice pT PT.length cT), (7, .slice pO kn cO), (8, .int .i64 (c : Int)), (9, .slice (some ⟨g5, 0, none⟩) (colsM M) (colsM M)), (10, .bool true), (20, .int .i64 (((colsM M : Nat) : Int))), (21, .int .i64 (c : Int)), (30, .slice pT PT.length cT), (31, .int .i64 (PT.length : Int)), (32, .int .i64 (((i + 1 : Nat) : Int)))]) ⟨rfl, rfl, rfl, rfl, rfl, rfl, rfl, rfl, rfl, rfl, rfl, rfl, rfl, rfl, trivial⟩, hS.pick [0, 1, 2, 3] (by decide) rfl, by omega, by rw [take_next hPi]; exact ⟨fun _ => List.mem_append_right _ (by rw [hkc]; exact List.mem_singleton.2 rfl), fun _ => rfl⟩⟩, by omega⟩
    ·
     refine wlOn (e := 38) rfl rfl rfl rfl (obin (u := .int .i64 (((nd PT i : Nat) : Int))) (v := .int .i64 (c : Int)) (z := .bool false) rfl rfl (ev rfl rfl) (ev rfl rfl) (bin_eql (eqF (by omega))) ?_)
     refine wl rfl (opick (b := false) (v := .bool false) rfl rfl (ev rfl rfl) (ev rfl rfl) ?_)
     refine wl rfl (oassign (v := .bool false) rfl rfl (ev rfl rfl) ?_)
     refine wnil (thenN ?_)
     have hq := iw i (by omega)
     have hPi : PT[i]? = some (nd PT i) := by rw [nd_get (by omega)]; exact List.getElem?_eq_getElem (by omega)
     have hkl : (kerD p (colsM M) (nums QY) PT c i).length = colsM M := kerD_len _
     have hlv := nd_lt (k := nd PT i) (kerD_lt (C := colsM M) (c := c) (R := nums QY) (P := PT) hp1 i) hp0
     obtain ⟨gY, hgY⟩ := hS.lstPtr 2 rfl (by omega)
     obtain ⟨⟨pa, ca, xa⟩, hqa⟩ : ∃ q, (QY)[i]? = some q := ⟨_, List.getElem?_eq_getElem (by omega)⟩
     have hda : (nums (QY)).getD i [] = xa := getD_get (nums_get hqa)
     obtain ⟨hna, hlta⟩ := i2.get (nums_get hqa)
     simp only at hna hlta
     obtain ⟨ga, hga⟩ := hS.mPtr 2 rfl hqa (by show 0 < xa.length; omega)
     have hla := nd_lt (k := c) hlta hp0
     have hm9 := mod_lt32 (a := nd (kerD p (colsM M) (nums QY) PT c i) (nd PT i) + p - nd xa c) hp0 hp2
     refine wstage 16 [43, 44, 45, 46, 47, 48, 49, 50, 51, 52, 53, 54, 55, 56, 57, 58] [[], [], [], [], [2, 3], [4, 2, 3], [], [], [6, 7], [8, 6, 7], [], [9, 10, 6, 7, 8], [11, 6, 7, 8, 9, 10], [], [5, 12, 13, 2, 3, 4, 6, 7, 8, 9, 10, 11], [0, 1, 2, 3, 4, 5, 6, 7, 8, 9, 10, 11, 12, 13, 14]] [[], [], [], [], [], [], [], [], [], [], [], [], [], [], [], []] [] [] (fun i9 => ([fun _ => Is (.slice (some ⟨g5, 0, none⟩) (colsM M) (colsM M)), fun _ => Is (.int .i64 (((nd PT i : Nat) : Int))), fun _ => Is (.slice (some ⟨g5, 0, none⟩) (colsM M) (colsM M)), fun _ => Is (.int .i64 (((nd PT i : Nat) : Int))), fun _ => Is (.pointer (some ⟨g5, nd PT i, none⟩)), fun _ => Is (.int .u32 (((nd (kerD p (colsM M) (nums QY) PT c i) (nd PT i) : Nat) : Int))), fun _ => Is (.slice pY n cY), fun _ => Is (.int .i64 (i : Int)), fun _ => Is (.pointer (some ⟨gY, (0 + i * 1), none⟩)), fun _ => Is (.slice pa (colsM M) ca), fun _ => Is (.int .i64 (c : Int)), fun _ => Is (.pointer (some ⟨ga, c, none⟩)), fun _ => Is (.int .u32 (((nd xa c : Nat) : Int))), fun _ => Is (.int .u32 (p : Int)), fun _ => Is (.int .u32 (((((nd (kerD p (colsM M) (nums QY) PT c i) (nd PT i)) + p - (nd xa c)) % p : Nat) : Int))), fun _ => Is (.pointer (some ⟨g5, nd PT i, none⟩))] : List (List Value → Tell)).getD i9 (fun _ _ _ => False)) (heldNil) (fun d _ _ _ _ h => (by cases d <;> exact h)) (by kernel_rfl) (by kernel_rfl) (by kernel_rfl) hS ?_ ?_
     ·
      refine stepsCons rfl (fun Q f' w' ρ S ho hT hS hB => ?_) ?_
      ·exact .inl ⟨want_none rfl, omove (v := .slice (some ⟨g5, 0, none⟩) (colsM M) (colsM M)) rfl rfl (ev rfl (ho 9 rfl)) ⟨_, _, rfl, isI, New.same _⟩⟩
      refine stepsCons rfl (fun Q f' w' ρ S ho hT hS hB => ?_) ?_
      ·exact .inl ⟨want_none rfl, omove (v := .int .i64 (((nd PT i : Nat) : Int))) rfl rfl (ev rfl (ho 12 rfl)) ⟨_, _, rfl, isI, New.same _⟩⟩
      refine stepsCons rfl (fun Q f' w' ρ S ho hT hS hB => ?_) ?_
      ·exact .inl ⟨want_none rfl, omove (v := .slice (some ⟨g5, 0, none⟩) (colsM M) (colsM M)) rfl rfl (ev rfl (ho 9 rfl)) ⟨_, _, rfl, isI, New.same _⟩⟩
      refine stepsCons rfl (fun Q f' w' ρ S ho hT hS hB => ?_) ?_
      ·exact .inl ⟨want_none rfl, omove (v := .int .i64 (((nd PT i : Nat) : Int))) rfl rfl (ev rfl (ho 12 rfl)) ⟨_, _, rfl, isI, New.same _⟩⟩
      refine stepsCons rfl (fun Q f' w' ρ S ho hT hS hB => ?_) ?_
      ·obtain ⟨hv2, hr2⟩ := (hT 2 45 rfl rfl : (Is (.slice (some ⟨g5, 0, none⟩) (colsM M) (colsM M))) _ _)
       obtain ⟨hv3, hr3⟩ := (hT 3 46 rfl rfl : (Is (.int .i64 (((nd PT i : Nat) : Int)))) _ _)
       obtain hS := hS.flat2 hr2 hr3
       exact .inl ⟨want_none rfl, oindex (p := (some ⟨g5, 0, none⟩)) (g := g5) (off := 0) (m := colsM M) (k := (nd PT i)) (j := nd PT i) rfl rfl Tryd.runUnderlying52 Tryd.sizeOf27 (ev rfl hv2) (rfl) (ev rfl hv3) (by omega) (by simp) ⟨_, _, rfl, isI, New.same _⟩⟩
      refine stepsCons rfl (fun Q f' w' ρ S ho hT hS hB => ?_) ?_
      ·obtain ⟨hv4, hr4⟩ := (hT 4 47 rfl rfl : (Is (.pointer (some ⟨g5, nd PT i, none⟩))) _ _)
       obtain hS := hS.flat1 hr4
       exact .inl ⟨want_none rfl, oloadc (v := .int .u32 (((nd (kerD p (colsM M) (nums QY) PT c i) (nd PT i) : Nat) : Int))) one32 rfl rfl (ev (v := .pointer (some ⟨g5, nd PT i, none⟩)) rfl hv4) (((hS.rowmAt 0 rfl)).cellAt (show nd PT i < colsM M by omega)) ⟨_, _, rfl, isI, New.same _⟩⟩
      refine stepsCons rfl (fun Q f' w' ρ S ho hT hS hB => ?_) ?_
      ·exact .inl ⟨want_none rfl, omove (v := .slice pY n cY) rfl rfl (ev rfl (ho 5 rfl)) ⟨_, _, rfl, isI, New.same _⟩⟩
      refine stepsCons rfl (fun Q f' w' ρ S ho hT hS hB => ?_) ?_
      ·exact .inl ⟨want_none rfl, omove (v := .int .i64 (i : Int)) rfl rfl (ev rfl (ho 11 rfl)) ⟨_, _, rfl, isI, New.same _⟩⟩
      refine stepsCons rfl (fun Q f' w' ρ S ho hT hS hB => ?_) ?_
      ·obtain ⟨hv6, hr6⟩ := (hT 6 49 rfl rfl : (Is (.slice pY n cY)) _ _)
       obtain ⟨hv7, hr7⟩ := (hT 7 50 rfl rfl : (Is (.int .i64 (((i : Nat) : Int)))) _ _)
       obtain hS := hS.flat2 hr6 hr7
       exact .inl ⟨want_none rfl, oindex (p := pY) (g := gY) (off := 0) (m := n) (k := i) (j := (0 + i * 1)) rfl rfl Tryd.runUnderlying26 Tryd.sizeOf52 (ev rfl hv6) (hgY) (ev rfl hv7) (by omega) rfl ⟨_, _, rfl, isI, New.same _⟩⟩
      refine stepsCons rfl (fun Q f' w' ρ S ho hT hS hB => ?_) ?_
      ·obtain ⟨hv8, hr8⟩ := (hT 8 51 rfl rfl : (Is (.pointer (some ⟨gY, (0 + i * 1), none⟩))) _ _)
       obtain hS := hS.flat1 hr8
       exact .inl ⟨want_none rfl, oloadc (v := .slice pa (colsM M) ca) (show One Tryd.prog 52 from ⟨Tryd.isAgg52, Tryd.sizeOf52⟩) rfl rfl (ev (v := .pointer (some ⟨gY, (0 + i * 1), none⟩)) rfl hv8) (hS.mRow 2 rfl hqa hna hgY) ⟨_, _, rfl, isI, New.same _⟩⟩
      refine stepsCons rfl (fun Q f' w' ρ S ho hT hS hB => ?_) ?_
      ·exact .inl ⟨want_none rfl, omove (v := .int .i64 (c : Int)) rfl rfl (ev rfl (ho 8 rfl)) ⟨_, _, rfl, isI, New.same _⟩⟩
      refine stepsCons rfl (fun Q f' w' ρ S ho hT hS hB => ?_) ?_
      ·obtain ⟨hv9, hr9⟩ := (hT 9 52 rfl rfl : (Is (.slice pa (colsM M) ca)) _ _)
       obtain ⟨hv10, hr10⟩ := (hT 10 53 rfl rfl : (Is (.int .i64 (((c : Nat) : Int)))) _ _)
       obtain hS := hS.flat2 hr9 hr10
       exact .inl ⟨want_none rfl, oindex (p := pa) (g := ga) (off := 0) (m := colsM M) (k := c) (j := c) rfl rfl Tryd.runUnderlying52 Tryd.sizeOf27 (ev rfl hv9) (hga) (ev rfl hv10) (by omega) (by simp) ⟨_, _, rfl, isI, New.same _⟩⟩
      refine stepsCons rfl (fun Q f' w' ρ S ho hT hS hB => ?_) ?_
      ·obtain ⟨hv11, hr11⟩ := (hT 11 54 rfl rfl : (Is (.pointer (some ⟨ga, c, none⟩))) _ _)
       obtain hS := hS.flat1 hr11
       exact .inl ⟨want_none rfl, oloadc (v := .int .u32 (((nd xa c : Nat) : Int))) one32 rfl rfl (ev (v := .pointer (some ⟨ga, c, none⟩)) rfl hv11) (hS.mCell 2 rfl hqa hga (by omega)) ⟨_, _, rfl, isI, New.same _⟩⟩
      refine stepsCons rfl (fun Q f' w' ρ S ho hT hS hB => ?_) ?_
      ·exact .inl ⟨want_none rfl, omove (v := .int .u32 (p : Int)) rfl rfl (ev rfl (ho 1 rfl)) ⟨_, _, rfl, isI, New.same _⟩⟩
      refine stepsCons rfl (fun Q f' w' ρ S ho hT hS hB => ?_) ?_
      ·obtain ⟨hv5, hr5⟩ := (hT 5 48 rfl rfl : (Is (.int .u32 (((nd (kerD p (colsM M) (nums QY) PT c i) (nd PT i) : Nat) : Int)))) _ _)
       obtain ⟨hv12, hr12⟩ := (hT 12 55 rfl rfl : (Is (.int .u32 (((nd xa c : Nat) : Int)))) _ _)
       obtain ⟨hv13, hr13⟩ := (hT 13 56 rfl rfl : (Is (.int .u32 (((p : Nat) : Int)))) _ _)
       obtain hS := hS.flat3 hr5 hr12 hr13
       exact .inl ⟨want_none rfl, ocall rfl rfl Tryd.call51 rfl (wrsub (a := (nd (kerD p (colsM M) (nums QY) PT c i) (nd PT i))) (b := (nd xa c)) (p := p) hp0 hp2 (by omega) (by omega)) (args3 (ev rfl hv5) (ev rfl hv12) (ev rfl hv13)) callN⟩
      refine stepsCons rfl (fun Q f' w' ρ S ho hT hS hB => ?_) ?_
      ·obtain ⟨hv0, hr0⟩ := (hT 0 43 rfl rfl : (Is (.slice (some ⟨g5, 0, none⟩) (colsM M) (colsM M))) _ _)
       obtain ⟨hv1, hr1⟩ := (hT 1 44 rfl rfl : (Is (.int .i64 (((nd PT i : Nat) : Int)))) _ _)
       obtain hS := hS.flat2 hr0 hr1
       exact .inl ⟨want_none rfl, oindex (p := (some ⟨g5, 0, none⟩)) (g := g5) (off := 0) (m := colsM M) (k := (nd PT i)) (j := nd PT i) rfl rfl Tryd.runUnderlying52 Tryd.sizeOf27 (ev rfl hv0) (rfl) (ev rfl hv1) (by omega) (by simp) ⟨_, _, rfl, isI, New.same _⟩⟩
      exact stepsNil
     ·
      intro vs ρ w9 f' hf hT hS
      obtain ⟨hv0, hr0⟩ := (hT 0 (by decide) : (Is (.slice (some ⟨g5, 0, none⟩) (colsM M) (colsM M))) _ _)
      obtain ⟨hv1, hr1⟩ := (hT 1 (by decide) : (Is (.int .i64 (((nd PT i : Nat) : Int)))) _ _)
      obtain ⟨hv2, hr2⟩ := (hT 2 (by decide) : (Is (.slice (some ⟨g5, 0, none⟩) (colsM M) (colsM M))) _ _)
      obtain ⟨hv3, hr3⟩ := (hT 3 (by decide) : (Is (.int .i64 (((nd PT i : Nat) : Int)))) _ _)
      obtain ⟨hv4, hr4⟩ := (hT 4 (by decide) : (Is (.pointer (some ⟨g5, nd PT i, none⟩))) _ _)
      obtain ⟨hv5, hr5⟩ := (hT 5 (by decide) : (Is (.int .u32 (((nd (kerD p (colsM M) (nums QY) PT c i) (nd PT i) : Nat) : Int)))) _ _)
      obtain ⟨hv6, hr6⟩ := (hT 6 (by decide) : (Is (.slice pY n cY)) _ _)
      obtain ⟨hv7, hr7⟩ := (hT 7 (by decide) : (Is (.int .i64 (((i : Nat) : Int)))) _ _)
      obtain ⟨hv8, hr8⟩ := (hT 8 (by decide) : (Is (.pointer (some ⟨gY, (0 + i * 1), none⟩))) _ _)
      obtain ⟨hv9, hr9⟩ := (hT 9 (by decide) : (Is (.slice pa (colsM M) ca)) _ _)
      obtain ⟨hv10, hr10⟩ := (hT 10 (by decide) : (Is (.int .i64 (((c : Nat) : Int)))) _ _)
      obtain ⟨hv11, hr11⟩ := (hT 11 (by decide) : (Is (.pointer (some ⟨ga, c, none⟩))) _ _)
      obtain ⟨hv12, hr12⟩ := (hT 12 (by decide) : (Is (.int .u32 (((nd xa c : Nat) : Int)))) _ _)
      obtain ⟨hv13, hr13⟩ := (hT 13 (by decide) : (Is (.int .u32 (((p : Nat) : Int)))) _ _)
      obtain ⟨hv14, hr14⟩ := (hT 14 (by decide) : (Is (.int .u32 (((((nd (kerD p (colsM M) (nums QY) PT c i) (nd PT i)) + p - (nd xa c)) % p : Nat) : Int)))) _ _)
      obtain ⟨hv15, hr15⟩ := (hT 15 (by decide) : (Is (.pointer (some ⟨g5, nd PT i, none⟩))) _ _)
      simp only [pool, if_true, hr0, hr1, hr2, hr3, hr4, hr5, hr6, hr7, hr8, hr9, hr10, hr11, hr12, hr13, hr14, hr15, List.nil_append, List.cons_append, List.append_nil] at hS
      simp only [layf, hv0, hv1, hv2, hv3, hv4, hv5, hv6, hv7, hv8, hv9, hv10, hv11, hv12, hv13, hv14, hv15] at hf
      subst hf; clear hT hv0 hv1 hv2 hv3 hv4 hv5 hv6 hv7 hv8 hv9 hv10 hv11 hv12 hv13 hv14 hv15 hr0 hr1 hr2 hr3 hr4 hr5 hr6 hr7 hr8 hr9 hr10 hr11 hr12 hr13 hr14 hr15
      refine wlate 16 rfl (by kernel_rfl) (ostoreRow (i := nd PT i) (u := ((nd (kerD p (colsM M) (nums QY) PT c i) (nd PT i) + p - nd xa c) % p)) Tryd.sizeOf27 hS 0 rfl rfl (ev (v := .pointer (some ⟨g5, nd PT i, none⟩)) rfl rfl) ((ev (v := .int .u32 (((((nd (kerD p (colsM M) (nums QY) PT c i) (nd PT i)) + p - (nd xa c)) % p : Nat) : Int))) rfl rfl)) rfl (rfl) ((by omega)) (by omega) ?_)
      clear hS; intro w10 hS
      refine ⟨heldNil, ?_⟩
      refine wdone rfl ?_
      refine blkN (thenN (wreg (wl rfl (obin (u := .int .i64 (i : Int)) (v := .int .i64 1) (z := .int .i64 (((i + 1 : Nat) : Int))) rfl rfl (ev rfl rfl) evc (bin_add (wrap_i64 (by omega) (by omega))) ?_))))
      refine wl rfl (omove (v := .int .i64 (((i + 1 : Nat) : Int))) rfl rfl (ev rfl rfl) ?_)
      refine wnil (thenN ?_)
      rw [show (kerD p (colsM M) (nums QY) PT c i).set (nd PT i) ((nd (kerD p (colsM M) (nums QY) PT c i) (nd PT i) + p - nd xa c) % p) = kerD p (colsM M) (nums QY) PT c (i + 1) from by rw [kerD, hda]] at hS
      exact ⟨(i + 1), ⟨_, _, act_sets (l := [(0, .slice pm n cm), (1, .int .u32 (p : Int)), (4, .slice none 0 0), (5, .slice pY n cY), (6, .slice pT PT.length cT), (7, .slice pO kn cO), (8, .int .i64 (c : Int)), (9, .slice (some ⟨g5, 0, none⟩) (colsM M) (colsM M)), (10, .bool false), (20, .int .i64 (((colsM M : Nat) : Int))), (21, .int .i64 (c : Int)), (30, .slice pT PT.length cT), (31, .int .i64 (PT.length : Int)), (32, .int .i64 (((i + 1 : Nat) : Int)))]) ⟨rfl, rfl, rfl, rfl, rfl, rfl, rfl, rfl, rfl, rfl, rfl, rfl, rfl, rfl, trivial⟩, hS.pick [0, 1, 2, 3] (by decide) rfl, by omega, by rw [take_next hPi]; exact ⟨(fun h => by cases h), fun h => (List.mem_append.1 h).elim (fun h => hisb.2 h) (fun h => absurd (List.mem_singleton.1 h).symm hkc)⟩⟩, by omega⟩
  ·
   refine wl rfl (obin (u := .int .i64 (i : Int)) (v := .int .i64 (PT.length : Int)) (z := .bool false) rfl rfl (ev rfl rfl) (ev rfl rfl) (bin_lss (decide_eq_false (by omega))) ?_)
   refine wnil (thenN (wseq ?_))
   refine wF (ev rfl rfl) ?_
   refine wexit ?_
   refine thenE ?_
   refine thenE ?_
   refine blkE ?_
   refine thenN (wseq (wreg (wl rfl (omove (v := .bool isb) rfl rfl (ev rfl rfl) ?_))))
   refine wl rfl (onot (b := isb) rfl rfl (ev rfl rfl) ?_)
   refine wnil (thenN ?_)
   obtain rfl : i = PT.length := by omega
   by_cases hb1 : isb = true
   ·
    have hcP : c ∈ PT := by have := hisb.1 hb1; rwa [List.take_length] at this
    refine wF ((ev (v := .bool (!isb)) rfl rfl).trans (congrArg Value.bool (by rw [hb1]; rfl))) ?_
    refine wskip (blkN (thenN (wreg (wl rfl (obin (u := .int .i64 (c : Int)) (v := .int .i64 1) (z := .int .i64 (((c + 1 : Nat) : Int))) rfl rfl (ev rfl rfl) evc (bin_add (wrap_i64 (by omega) (by omega))) ?_)))))
    refine wl rfl (omove (v := .int .i64 (((c + 1 : Nat) : Int))) rfl rfl (ev rfl rfl) ?_)
    refine wnil (thenN ?_)
    exact ⟨(c + 1), ⟨_, _, _, _, _, act_sets (l := [(0, .slice pm n cm), (1, .int .u32 (p : Int)), (4, .slice none 0 0), (5, .slice pY n cY), (6, .slice pT PT.length cT), (7, .slice pO kn cO), (20, .int .i64 (((colsM M : Nat) : Int))), (21, .int .i64 (((c + 1 : Nat) : Int)))]) ⟨rfl, rfl, rfl, rfl, rfl, rfl, rfl, rfl, trivial⟩, hS.pick [1, 2, 3] (by decide) rfl, by omega, by rw [kerM, if_pos hcP]; exact hQ, by rw [kerM, if_pos hcP]; exact hkn⟩, by omega⟩
   ·
    have hcP : ¬ c ∈ PT := fun h => hb1 (hisb.2 (by rw [List.take_length]; exact h))
    rw [kerD_eq hlt (fun i hi e => hcP (by rw [← e, nd_get hi]; exact List.getElem_mem _)) ii iw _ (Nat.le_refl _)] at hS
    refine wT ((ev (v := .bool (!isb)) rfl rfl).trans (congrArg Value.bool (by simpa using hb1))) ?_
    refine wreg (wl rfl (omove (v := .slice pO kn cO) rfl rfl (ev rfl rfl) ?_))
    refine wl rfl (omove (v := .slice (some ⟨g5, 0, none⟩) (colsM M) (colsM M)) rfl rfl (ev rfl rfl) ?_)
    refine wl rfl (obslice (ps := #[(0, .slice (some ⟨g5, 0, none⟩) (colsM M) (colsM M))]) (z := .slice none 0 0) [.slice (some ⟨g5, 0, none⟩) (colsM M) (colsM M)] hS rfl rfl Tryd.runUnderlying26 Tryd.sizeOf52 Tryd.zeroValue52 (parts1 (ev (v := .slice (some ⟨g5, 0, none⟩) (colsM M) (colsM M)) rfl rfl)) rfl (by decide) (fill1_1s rfl rfl) ?_)
    clear hS; intro g9 w10 hS
    obtain hS := (show Sep w [.rowm (some ⟨g5, 0, none⟩) (colsM M) (colsM M) (kerTo p (colsM M) (nums QY) PT c PT.length), .lst 52 1 pO kn cO (mmE Qo), .blk g9 [.slice (some ⟨g5, 0, none⟩) (colsM M) (colsM M)] 52, .lst 52 1 pY n cY (mmE QY), .lst 3 1 pT PT.length cT (intE PT)] w10 from hS.pick [1, 2, 0, 3, 4] (by decide) rfl)
    refine wl rfl (oappendL (p := pO) (m := kn) (c := cO) (g2 := g9) (c2 := 1) (off := 0) [.slice (some ⟨g5, 0, none⟩) (colsM M) (colsM M)] [.rowm (some ⟨g5, 0, none⟩) (colsM M) (colsM M) (kerTo p (colsM M) (nums QY) PT c PT.length)] hS rfl rfl Tryd.underlying26 infoRow rfl (by decide) (ev (v := .slice pO kn cO) rfl rfl) (ev (v := .slice (some ⟨g9, 0, none⟩) 1 1) rfl rfl) (fun j v hj => by rw [Nat.zero_add]; exact (blk_cell (hS.blkAt 2 rfl) j).trans hj) rfl rfl rfl (by omega) (by omega) ?_)
    clear hS; intro p12 c13 w11 hS
    refine wl rfl (oassign (v := .slice p12 ((kn + 1)) c13) rfl rfl (ev rfl rfl) ?_)
    refine wnil (blkN (thenN (wreg (wl rfl (obin (u := .int .i64 (c : Int)) (v := .int .i64 1) (z := .int .i64 (((c + 1 : Nat) : Int))) rfl rfl (ev rfl rfl) evc (bin_add (wrap_i64 (by omega) (by omega))) ?_)))))
    refine wl rfl (omove (v := .int .i64 (((c + 1 : Nat) : Int))) rfl rfl (ev rfl rfl) ?_)
    refine wnil (thenN ?_)
    rw [mmE_snoc (xs := kerTo p (colsM M) (nums QY) PT c PT.length) (n := colsM M) (kerTo_len _)] at hS
    exact ⟨(c + 1), ⟨_, _, _, _, _, act_sets (l := [(0, .slice pm n cm), (1, .int .u32 (p : Int)), (4, .slice none 0 0), (5, .slice pY n cY), (6, .slice pT PT.length cT), (7, .slice p12 ((kn + 1)) c13), (20, .int .i64 (((colsM M : Nat) : Int))), (21, .int .i64 (((c + 1 : Nat) : Int)))]) ⟨rfl, rfl, rfl, rfl, rfl, rfl, rfl, rfl, trivial⟩, hS.pick [0, 2, 3] (by decide) rfl, by omega, by rw [nums_app, hQ, kerM, if_neg hcP], by rw [kerM, if_neg hcP, List.length_append, ← hkn]; rfl⟩, by omega⟩
 ·
  refine wl rfl (obin (u := .int .i64 (c : Int)) (v := .int .i64 (((colsM M : Nat) : Int))) (z := .bool false) rfl rfl (ev rfl rfl) (ev rfl rfl) (bin_lss (decide_eq_false (by omega))) ?_)
  refine wnil (thenN (wseq ?_))
  refine wF (ev rfl rfl) ?_
  refine wexit ?_
  refine thenE ?_
  refine thenE ?_
  refine blkE ?_
  refine thenN (wseq (wreg (wl rfl (omove (v := .slice pO kn cO) rfl rfl (ev rfl rfl) ?_))))
  refine wl rfl (oassign (v := .slice pO kn cO) rfl rfl (ev rfl rfl) ?_)
  refine wnil (thenN ?_)
  refine wleave ?_
  have hce : c = colsM M := by omega
  refine wret1 Tryd.results34 (tellT (v := .slice pO kn cO) rfl rfl) ?_
  have hK : kerP p M = kerM p (colsM M) (nums QY) PT c := by unfold kerP; rw [hRT, hce]
  exact ⟨_, _, rfl, ⟨pO, cO, Qo, by rw [hK]; exact hQ, by rw [hK, ← hkn], by rw [hK, ← hkn]⟩, hS.newR 0 rfl rfl⟩
end Go.Proofs.YtndilfigdbenoaaDoor
