/-
  Contracts and lemmas, joined in one text.
-/
import Derived.Test.YtndilfigdbenoaaDoorM3
set_option linter.unusedVariables false
set_option linter.unusedSimpArgs false
/-
  The document's small functions of matrices.
-/
set_option maxRecDepth 100000
set_option maxHeartbeats 16000000
namespace Go.Proofs.YtndilfigdbenoaaDoor
open Go.RowKit
def MMn (n : Nat) (M : List (List Nat)) : Tell := fun v r => ∃ (pp : Option Addr) (c : Nat) (Q : List Rw), nums Q = M ∧ v = .slice pp n c ∧ r = [.lst 52 1 pp n c (mmE Q)]
theorem Sl.blk1 {w : World} {g a : Nat} {t : TypeId} (h : w.heap[g]? = some (.cells [.int .u32 ((a : Nat) : Int)].toArray t)) (ha : a < 4294967296) : Sl w (some ⟨g, 0, none⟩) 1 1 [a] := by
  refine ⟨rfl, Nat.le_refl _, by simp [maxLen], (fun i hi => match i, hi with | 0, _ => ha), (fun h => by cases h), fun i hi => ⟨g, 0, rfl, ?_⟩⟩
  obtain rfl : i = 0 := by simp at hi; omega
  exact (blk_cell h 0).trans rfl
theorem modR_next {xr : List Nat} {k p : Nat} (h : k < xr.length) : (xr.take k).map (· % p) ++ [nd xr k % p] = (xr.take (k + 1)).map (· % p) := by
  rw [List.take_add_one, List.getElem?_eq_getElem h, List.map_append, nd_get h]; rfl
theorem wrmay {pm : Option Addr} {nm cm : Nat} {M : List (List Nat)} {w : World} (hm : MS w pm nm M) (hr : RectM M) :
  Calls Tryd.prog 57 #[.slice pm nm cm] w (Ret (Is (.bool true)) w) := by
 have hnm := hm.1
 have hnl := hm.2.1
 simp only [maxLen] at hnl
 have hS := Sep.init w
 refine went Tryd.func57 rfl (n := 19) rfl rfl ?_
 refine wseq (wreg (wl rfl (oassign (v := .bool false) rfl rfl evc ?_)))
 refine wnil (thenN (wseq (wseq (wreg (wl rfl (omove (v := .slice pm nm cm) rfl rfl (ev rfl rfl) ?_))))))
 refine wl rfl (olen rfl rfl rfl Tryd.runUnderlying26 (p := pm) (k := nm) (m := cm) (ev rfl rfl) ?_)
 refine wl rfl (omove (v := .int .i64 0) rfl rfl evc ?_)
 refine wnil (thenN (wblock ?_))
 refine wloop (σ := Nat) (fun i a9 w' => ∃ (fb : Nat → Value), a9 = act 19 (sets fb [(0, .slice pm nm cm), (5, .slice pm nm cm), (6, .int .i64 (nm : Int)), (7, .int .i64 (i : Int))]) ∧ Sep w [] w' ∧ (i ≤ nm)) (fun i => nm - i) (0) ⟨_, act_sets (l := [(0, .slice pm nm cm), (5, .slice pm nm cm), (6, .int .i64 (nm : Int)), (7, .int .i64 0)]) ⟨rfl, rfl, rfl, rfl, trivial⟩, hS, Nat.zero_le _⟩ ?_
 clear hS; rintro i _ w1 ⟨fb, rfl, hS, hi⟩
 refine wseq (wreg ?_)
 by_cases hlt : i < nm
 ·
  refine wl rfl (obin (u := .int .i64 (i : Int)) (v := .int .i64 (nm : Int)) (z := .bool true) rfl rfl (ev rfl rfl) (ev rfl rfl) (bin_lss (decide_eq_true (by omega))) ?_)
  refine wnil (thenN (wseq ?_))
  refine wT (ev rfl rfl) ?_
  refine wskip (thenN (wseq (wblock (wseq (wreg ?_)))))
  obtain ⟨xr, hxr⟩ : ∃ r, (M)[i]? = some r := ⟨_, List.getElem?_eq_getElem (by have := hm.1; omega)⟩
  obtain ⟨br, ofr, pr, cr, hpr, hcr, hsr⟩ := hm.2.2 i _ hxr
  obtain ⟨xz, hxz⟩ : ∃ r, (M)[0]? = some r := ⟨_, List.getElem?_eq_getElem (by have := hm.1; omega)⟩
  obtain ⟨bz, ofz, pz, cz, hpz, hcz, hsz⟩ := hm.2.2 0 _ hxz
  have hz := row0 hxz rfl
  have hrl := hr xr (List.mem_of_getElem? hxr)
  refine wl rfl (oindex (p := pm) (g := br) (off := ofr) (m := nm) (k := i) (j := (ofr + i * 1)) rfl rfl Tryd.runUnderlying26 Tryd.sizeOf52 (ev rfl rfl) (hpr) (ev rfl rfl) (by omega) rfl ?_)
  refine wl rfl (oloadc (v := .slice pr xr.length cr) (show One Tryd.prog 52 from ⟨Tryd.isAgg52, Tryd.sizeOf52⟩) rfl rfl (ev (v := .pointer (some ⟨br, (ofr + i * 1), none⟩)) rfl rfl) (hS.cellAt (hcr 0 _ rfl)) ?_)
  refine wl rfl (oassign (v := .slice pr xr.length cr) rfl rfl (ev rfl rfl) ?_)
  refine wnil (thenN (wseq (wreg (wl rfl (omove (v := .slice pr xr.length cr) rfl rfl (ev rfl rfl) ?_)))))
  refine wl rfl (olen rfl rfl rfl Tryd.runUnderlying52 (p := pr) (k := xr.length) (m := cr) (ev rfl rfl) ?_)
  refine wl rfl (omove (v := .slice pm nm cm) rfl rfl (ev rfl rfl) ?_)
  refine wl rfl (oindex (p := pm) (g := bz) (off := ofz) (m := nm) (k := 0) (j := (ofz + 0 * 1)) rfl rfl Tryd.runUnderlying26 Tryd.sizeOf52 (ev rfl rfl) (hpz) evc (by omega) rfl ?_)
  refine wl rfl (oloadc (v := .slice pz xz.length cz) (show One Tryd.prog 52 from ⟨Tryd.isAgg52, Tryd.sizeOf52⟩) rfl rfl (ev (v := .pointer (some ⟨bz, (ofz + 0 * 1), none⟩)) rfl rfl) (hS.cellAt (hcz 0 _ rfl)) ?_)
  refine wl rfl (olen rfl rfl rfl Tryd.runUnderlying52 (p := pz) (k := xz.length) (m := cz) (ev rfl rfl) ?_)
  refine wl rfl (obin (u := .int .i64 (xr.length : Int)) (v := .int .i64 (xz.length : Int)) (z := .bool false) rfl rfl (ev rfl rfl) (ev rfl rfl) (bin_neq (neF (by omega))) ?_)
  refine wnil (thenN ?_)
  refine wF (ev rfl rfl) ?_
  refine wskip (blkN (thenN (wreg (wl rfl (obin (u := .int .i64 (i : Int)) (v := .int .i64 1) (z := .int .i64 (((i + 1 : Nat) : Int))) rfl rfl (ev rfl rfl) evc (bin_add (wrap_i64 (by omega) (by omega))) ?_)))))
  refine wl rfl (omove (v := .int .i64 (((i + 1 : Nat) : Int))) rfl rfl (ev rfl rfl) ?_)
  refine wnil (thenN ?_)
  exact ⟨(i + 1), ⟨_, act_sets (l := [(0, .slice pm nm cm), (5, .slice pm nm cm), (6, .int .i64 (nm : Int)), (7, .int .i64 (((i + 1 : Nat) : Int)))]) ⟨rfl, rfl, rfl, rfl, trivial⟩, hS.pick [] (by decide) rfl, by omega⟩, by omega⟩
 ·
  refine wl rfl (obin (u := .int .i64 (i : Int)) (v := .int .i64 (nm : Int)) (z := .bool false) rfl rfl (ev rfl rfl) (ev rfl rfl) (bin_lss (decide_eq_false (by omega))) ?_)
  refine wnil (thenN (wseq ?_))
  refine wF (ev rfl rfl) ?_
  refine wexit ?_
  refine thenE ?_
  refine thenE ?_
  refine blkE ?_
  refine thenN (wseq (wreg (wl rfl (oassign (v := .bool true) rfl rfl evc ?_))))
  refine wnil (thenN ?_)
  refine wleave ?_
  refine wret1 Tryd.results57 (tellT (v := .bool true) rfl rfl) ?_
  exact ⟨_, _, rfl, isI, hS.new0⟩
theorem wrmayF {pm : Option Addr} {nm cm : Nat} {M : List (List Nat)} {w : World} (hm : MS w pm nm M) (hr : ¬ RectM M) :
  Calls Tryd.prog 57 #[.slice pm nm cm] w (Ret (Is (.bool false)) w) := by
 have hnm := hm.1
 have hnl := hm.2.1
 simp only [maxLen] at hnl
 have hS := Sep.init w
 refine went Tryd.func57 rfl (n := 19) rfl rfl ?_
 refine wseq (wreg (wl rfl (oassign (v := .bool false) rfl rfl evc ?_)))
 refine wnil (thenN (wseq (wseq (wreg (wl rfl (omove (v := .slice pm nm cm) rfl rfl (ev rfl rfl) ?_))))))
 refine wl rfl (olen rfl rfl rfl Tryd.runUnderlying26 (p := pm) (k := nm) (m := cm) (ev rfl rfl) ?_)
 refine wl rfl (omove (v := .int .i64 0) rfl rfl evc ?_)
 refine wnil (thenN (wblock ?_))
 refine wloop (σ := Nat) (fun i a9 w' => ∃ (fb : Nat → Value), a9 = act 19 (sets fb [(0, .slice pm nm cm), (5, .slice pm nm cm), (6, .int .i64 (nm : Int)), (7, .int .i64 (i : Int))]) ∧ Sep w [] w' ∧ (i ≤ nm) ∧ (∀ r ∈ M.take i, r.length = colsM M)) (fun i => nm - i) (0) ⟨_, act_sets (l := [(0, .slice pm nm cm), (5, .slice pm nm cm), (6, .int .i64 (nm : Int)), (7, .int .i64 0)]) ⟨rfl, rfl, rfl, rfl, trivial⟩, hS, Nat.zero_le _, by simp⟩ ?_
 clear hS; rintro i _ w1 ⟨fb, rfl, hS, hi, hrc⟩
 refine wseq (wreg ?_)
 by_cases hlt : i < nm
 ·
  refine wl rfl (obin (u := .int .i64 (i : Int)) (v := .int .i64 (nm : Int)) (z := .bool true) rfl rfl (ev rfl rfl) (ev rfl rfl) (bin_lss (decide_eq_true (by omega))) ?_)
  refine wnil (thenN (wseq ?_))
  refine wT (ev rfl rfl) ?_
  refine wskip (thenN (wseq (wblock (wseq (wreg ?_)))))
  obtain ⟨xr, hxr⟩ : ∃ r, (M)[i]? = some r := ⟨_, List.getElem?_eq_getElem (by have := hm.1; omega)⟩
  obtain ⟨br, ofr, pr, cr, hpr, hcr, hsr⟩ := hm.2.2 i _ hxr
  obtain ⟨xz, hxz⟩ : ∃ r, (M)[0]? = some r := ⟨_, List.getElem?_eq_getElem (by have := hm.1; omega)⟩
  obtain ⟨bz, ofz, pz, cz, hpz, hcz, hsz⟩ := hm.2.2 0 _ hxz
  have hz := row0 hxz rfl
  refine wl rfl (oindex (p := pm) (g := br) (off := ofr) (m := nm) (k := i) (j := (ofr + i * 1)) rfl rfl Tryd.runUnderlying26 Tryd.sizeOf52 (ev rfl rfl) (hpr) (ev rfl rfl) (by omega) rfl ?_)
  refine wl rfl (oloadc (v := .slice pr xr.length cr) (show One Tryd.prog 52 from ⟨Tryd.isAgg52, Tryd.sizeOf52⟩) rfl rfl (ev (v := .pointer (some ⟨br, (ofr + i * 1), none⟩)) rfl rfl) (hS.cellAt (hcr 0 _ rfl)) ?_)
  refine wl rfl (oassign (v := .slice pr xr.length cr) rfl rfl (ev rfl rfl) ?_)
  refine wnil (thenN (wseq (wreg (wl rfl (omove (v := .slice pr xr.length cr) rfl rfl (ev rfl rfl) ?_)))))
  refine wl rfl (olen rfl rfl rfl Tryd.runUnderlying52 (p := pr) (k := xr.length) (m := cr) (ev rfl rfl) ?_)
  refine wl rfl (omove (v := .slice pm nm cm) rfl rfl (ev rfl rfl) ?_)
  refine wl rfl (oindex (p := pm) (g := bz) (off := ofz) (m := nm) (k := 0) (j := (ofz + 0 * 1)) rfl rfl Tryd.runUnderlying26 Tryd.sizeOf52 (ev rfl rfl) (hpz) evc (by omega) rfl ?_)
  refine wl rfl (oloadc (v := .slice pz xz.length cz) (show One Tryd.prog 52 from ⟨Tryd.isAgg52, Tryd.sizeOf52⟩) rfl rfl (ev (v := .pointer (some ⟨bz, (ofz + 0 * 1), none⟩)) rfl rfl) (hS.cellAt (hcz 0 _ rfl)) ?_)
  refine wl rfl (olen rfl rfl rfl Tryd.runUnderlying52 (p := pz) (k := xz.length) (m := cz) (ev rfl rfl) ?_)
  by_cases hrl : xr.length = colsM M
  ·
   refine wl rfl (obin (u := .int .i64 (xr.length : Int)) (v := .int .i64 (xz.length : Int)) (z := .bool false) rfl rfl (ev rfl rfl) (ev rfl rfl) (bin_neq (neF (by omega))) ?_)
   refine wnil (thenN ?_)
   refine wF (ev rfl rfl) ?_
   refine wskip (blkN (thenN (wreg (wl rfl (obin (u := .int .i64 (i : Int)) (v := .int .i64 1) (z := .int .i64 (((i + 1 : Nat) : Int))) rfl rfl (ev rfl rfl) evc (bin_add (wrap_i64 (by omega) (by omega))) ?_)))))
   refine wl rfl (omove (v := .int .i64 (((i + 1 : Nat) : Int))) rfl rfl (ev rfl rfl) ?_)
   refine wnil (thenN ?_)
   exact ⟨(i + 1), ⟨_, act_sets (l := [(0, .slice pm nm cm), (5, .slice pm nm cm), (6, .int .i64 (nm : Int)), (7, .int .i64 (((i + 1 : Nat) : Int)))]) ⟨rfl, rfl, rfl, rfl, trivial⟩, hS.pick [] (by decide) rfl, by omega, by rw [take_next hxr]; intro u hu; exact (List.mem_append.1 hu).elim (hrc u) (fun h => by rw [List.mem_singleton.1 h]; omega)⟩, by omega⟩
  ·
   refine wl rfl (obin (u := .int .i64 (xr.length : Int)) (v := .int .i64 (xz.length : Int)) (z := .bool true) rfl rfl (ev rfl rfl) (ev rfl rfl) (bin_neq (neT (by omega))) ?_)
   refine wnil (thenN ?_)
   refine wT (ev rfl rfl) ?_
   refine wseq (wreg (wl rfl (oassign (v := .bool false) rfl rfl evc ?_)))
   refine wnil (thenN ?_)
   refine wleave ?_
   refine blkR ?_
   refine thenR ?_
   refine thenR ?_
   refine blkR ?_
   refine thenR ?_
   refine wret1 Tryd.results57 (tellT (v := .bool false) rfl rfl) ?_
   exact ⟨_, _, rfl, isI, hS.new0⟩
 ·
  refine wl rfl (obin (u := .int .i64 (i : Int)) (v := .int .i64 (nm : Int)) (z := .bool false) rfl rfl (ev rfl rfl) (ev rfl rfl) (bin_lss (decide_eq_false (by omega))) ?_)
  refine wnil (thenN (wseq ?_))
  refine wF (ev rfl rfl) ?_
  refine wexit ?_
  refine thenE ?_
  refine thenE ?_
  refine blkE ?_
  refine thenN (wseq (wreg (wl rfl (oassign (v := .bool true) rfl rfl evc ?_))))
  refine wnil (thenN ?_)
  refine wleave ?_
  exact absurd (fun r hr => hrc r (by rw [List.take_of_length_le (by omega)]; exact hr)) hr
theorem wrcols {pm : Option Addr} {nm cm : Nat} {M : List (List Nat)} {w : World} (hm : MS w pm nm M) :
  Calls Tryd.prog 36 #[.slice pm nm cm] w (Ret (Is (.int .i64 ((colsM M : Nat) : Int))) w) := by
 have hnm := hm.1
 have hnl := hm.2.1
 simp only [maxLen] at hnl
 have hS := Sep.init w
 refine went Tryd.func36 rfl (n := 10) rfl rfl ?_
 refine wseq (wreg (wl rfl (oassign (v := .int .i64 0) rfl rfl evc ?_)))
 refine wnil (thenN (wseq (wseq (wreg (wl rfl (omove (v := .slice pm nm cm) rfl rfl (ev rfl rfl) ?_))))))
 refine wl rfl (olen rfl rfl rfl Tryd.runUnderlying26 (p := pm) (k := nm) (m := cm) (ev rfl rfl) ?_)
 by_cases h0 : nm = 0
 ·
  refine wl rfl (obin (u := .int .i64 (nm : Int)) (v := .int .i64 0) (z := .bool true) rfl rfl (ev rfl rfl) evc (bin_eql (eqT (by omega))) ?_)
  refine wnil (thenN ?_)
  refine wT (ev rfl rfl) ?_
  refine wseq (wreg (wl rfl (oassign (v := .int .i64 0) rfl rfl evc ?_)))
  refine wnil (thenN ?_)
  refine wleave ?_
  refine thenR ?_
  refine wret1 Tryd.results36 (tellT (v := .int .i64 0) rfl rfl) ?_
  exact ⟨_, _, rfl, ⟨by rw [show colsM M = 0 by unfold colsM; rw [List.eq_nil_of_length_eq_zero (show M.length = 0 by omega)]; rfl]; rfl, rfl⟩, hS.new0⟩
 ·
  refine wl rfl (obin (u := .int .i64 (nm : Int)) (v := .int .i64 0) (z := .bool false) rfl rfl (ev rfl rfl) evc (bin_eql (eqF (by omega))) ?_)
  refine wnil (thenN ?_)
  refine wF (ev rfl rfl) ?_
  refine wskip (thenN (wseq (wreg (wl rfl (omove (v := .slice pm nm cm) rfl rfl (ev rfl rfl) ?_)))))
  obtain ⟨xz, hxz⟩ : ∃ r, (M)[0]? = some r := ⟨_, List.getElem?_eq_getElem (by have := hm.1; omega)⟩
  obtain ⟨bz, ofz, pz, cz, hpz, hcz, hsz⟩ := hm.2.2 0 _ hxz
  have hz := row0 hxz rfl
  refine wl rfl (oindex (p := pm) (g := bz) (off := ofz) (m := nm) (k := 0) (j := (ofz + 0 * 1)) rfl rfl Tryd.runUnderlying26 Tryd.sizeOf52 (ev rfl rfl) (hpz) evc (by omega) rfl ?_)
  refine wl rfl (oloadc (v := .slice pz xz.length cz) (show One Tryd.prog 52 from ⟨Tryd.isAgg52, Tryd.sizeOf52⟩) rfl rfl (ev (v := .pointer (some ⟨bz, (ofz + 0 * 1), none⟩)) rfl rfl) (hS.cellAt (hcz 0 _ rfl)) ?_)
  refine wl rfl (olen rfl rfl rfl Tryd.runUnderlying52 (p := pz) (k := xz.length) (m := cz) (ev rfl rfl) ?_)
  refine wl rfl (oassign (v := .int .i64 (xz.length : Int)) rfl rfl (ev rfl rfl) ?_)
  refine wnil (thenN ?_)
  refine wleave ?_
  refine wret1 Tryd.results36 (tellT (v := .int .i64 (xz.length : Int)) rfl rfl) ?_
  exact ⟨_, _, rfl, ⟨by rw [hz], rfl⟩, hS.new0⟩
theorem wrnorm {pm : Option Addr} {nm cm p : Nat} {M : List (List Nat)} {w : World} (hm : MS w pm nm M) (hp0 : 0 < p) (hp2 : p < 4294967296) (hb1 : nm ≤ 2097152) (hb2 : ∀ r ∈ M, r.length ≤ 2097152) :
  Calls Tryd.prog 49 #[.slice pm nm cm, .int .u32 ((p : Nat) : Int)] w (Ret (MMn nm (modM p M)) w) := by
 have hnm := hm.1
 have hnl := hm.2.1
 simp only [maxLen] at hnl
 have hS := Sep.init w
 refine went Tryd.func49 rfl (n := 36) rfl rfl ?_
 refine wseq (wreg (wl rfl (oassign (v := .slice none 0 0) rfl rfl evc ?_)))
 refine wnil (thenN (wseq (wreg (wl rfl (oassign (v := .slice none 0 0) rfl rfl evc ?_)))))
 refine wnil (thenN (wseq (wseq (wreg (wl rfl (omove (v := .slice pm nm cm) rfl rfl (ev rfl rfl) ?_))))))
 refine wl rfl (olen rfl rfl rfl Tryd.runUnderlying26 (p := pm) (k := nm) (m := cm) (ev rfl rfl) ?_)
 refine wl rfl (omove (v := .int .i64 0) rfl rfl evc ?_)
 refine wnil (thenN (wblock ?_))
 replace hS := hS.nilLst 52 1
 refine wloop (σ := Nat) (fun i a9 w' => ∃ (fb : Nat → Value) (Q : List Rw) (pX : Option Addr) (cX : Nat), a9 = act 36 (sets fb [(1, .int .u32 (p : Int)), (4, .slice none 0 0), (5, .slice pX i cX), (11, .slice pm nm cm), (12, .int .i64 (nm : Int)), (13, .int .i64 (i : Int))]) ∧ Sep w [.lst 52 1 pX i cX (mmE Q)] w' ∧ (i ≤ nm) ∧ (nums Q = modM p (M.take i))) (fun i => nm - i) (0) ⟨_, [], none, 0, act_sets (l := [(1, .int .u32 (p : Int)), (4, .slice none 0 0), (5, .slice none 0 0), (11, .slice pm nm cm), (12, .int .i64 (nm : Int)), (13, .int .i64 0)]) ⟨rfl, rfl, rfl, rfl, rfl, rfl, trivial⟩, hS, Nat.zero_le _, rfl⟩ ?_
 clear hS; rintro i _ w1 ⟨fb, Q, pX, cX, rfl, hS, hi, hQ⟩
 refine wseq (wreg ?_)
 by_cases hlt : i < nm
 ·
  refine wl rfl (obin (u := .int .i64 (i : Int)) (v := .int .i64 (nm : Int)) (z := .bool true) rfl rfl (ev rfl rfl) (ev rfl rfl) (bin_lss (decide_eq_true (by omega))) ?_)
  refine wnil (thenN (wseq ?_))
  refine wT (ev rfl rfl) ?_
  refine wskip (thenN (wseq (wblock (wseq (wreg ?_)))))
  obtain ⟨xr, hxr⟩ : ∃ r, (M)[i]? = some r := ⟨_, List.getElem?_eq_getElem (by have := hm.1; omega)⟩
  obtain ⟨br, ofr, pr, cr, hpr, hcr, hsr⟩ := hm.2.2 i _ hxr
  have hrb := hb2 xr (List.mem_of_getElem? hxr)
  refine wl rfl (oindex (p := pm) (g := br) (off := ofr) (m := nm) (k := i) (j := (ofr + i * 1)) rfl rfl Tryd.runUnderlying26 Tryd.sizeOf52 (ev rfl rfl) (hpr) (ev rfl rfl) (by omega) rfl ?_)
  refine wl rfl (oloadc (v := .slice pr xr.length cr) (show One Tryd.prog 52 from ⟨Tryd.isAgg52, Tryd.sizeOf52⟩) rfl rfl (ev (v := .pointer (some ⟨br, (ofr + i * 1), none⟩)) rfl rfl) (hS.cellAt (hcr 0 _ rfl)) ?_)
  refine wl rfl (oassign (v := .slice pr xr.length cr) rfl rfl (ev rfl rfl) ?_)
  refine wnil (thenN (wseq (wreg (wl rfl (oassign (v := .slice none 0 0) rfl rfl evc ?_)))))
  refine wnil (thenN (wseq (wseq (wreg (wl rfl (omove (v := .slice pr xr.length cr) rfl rfl (ev rfl rfl) ?_))))))
  refine wl rfl (olen rfl rfl rfl Tryd.runUnderlying52 (p := pr) (k := xr.length) (m := cr) (ev rfl rfl) ?_)
  refine wl rfl (omove (v := .int .i64 0) rfl rfl evc ?_)
  refine wnil (thenN (wblock ?_))
  replace hS := hS.nilRowm
  refine wloop (σ := Nat) (fun k a9 w' => ∃ (fb : Nat → Value) (pO : Option Addr) (cO : Nat), a9 = act 36 (sets fb [(1, .int .u32 (p : Int)), (4, .slice none 0 0), (5, .slice pX i cX), (8, .slice pO k cO), (11, .slice pm nm cm), (12, .int .i64 (nm : Int)), (13, .int .i64 (i : Int)), (17, .slice pr xr.length cr), (18, .int .i64 (xr.length : Int)), (19, .int .i64 (k : Int))]) ∧ Sep w [.rowm pO k cO ((xr.take k).map (· % p)), .lst 52 1 pX i cX (mmE Q)] w' ∧ (k ≤ xr.length)) (fun k => xr.length - k) (0) ⟨_, none, 0, act_sets (l := [(1, .int .u32 (p : Int)), (4, .slice none 0 0), (5, .slice pX i cX), (8, .slice none 0 0), (11, .slice pm nm cm), (12, .int .i64 (nm : Int)), (13, .int .i64 (i : Int)), (17, .slice pr xr.length cr), (18, .int .i64 (xr.length : Int)), (19, .int .i64 0)]) ⟨rfl, rfl, rfl, rfl, rfl, rfl, rfl, rfl, rfl, rfl, trivial⟩, hS, Nat.zero_le _⟩ ?_
  clear hS; rintro k _ w2 ⟨fb, pO, cO, rfl, hS, hk⟩
  refine wseq (wreg ?_)
  by_cases hlk : k < xr.length
  ·
   obtain ⟨bce, oce, hpce, hcce⟩ := hsr.el (show k < xr.length by omega)
   refine wl rfl (obin (u := .int .i64 (k : Int)) (v := .int .i64 (xr.length : Int)) (z := .bool true) rfl rfl (ev rfl rfl) (ev rfl rfl) (bin_lss (decide_eq_true (by omega))) ?_)
   refine wnil (thenN (wseq ?_))
   refine wT (ev rfl rfl) ?_
   refine wskip (thenN (wseq (wblock (wseq (wreg ?_)))))
   have hml := Nat.mod_lt (nd xr k) hp0
   refine wl rfl (oindex (p := pr) (g := bce) (off := oce) (m := xr.length) (k := k) (j := (oce + k * 1)) rfl rfl Tryd.runUnderlying52 Tryd.sizeOf27 (ev rfl rfl) (hpce) (ev rfl rfl) (by omega) rfl ?_)
   refine wl rfl (oloadc (v := .int .u32 (((nd xr k : Nat) : Int))) one32 rfl rfl (ev (v := .pointer (some ⟨bce, (oce + k * 1), none⟩)) rfl rfl) (hS.cellAt (hcce 0 _ rfl)) ?_)
   refine wl rfl (oassign (v := .int .u32 (((nd xr k : Nat) : Int))) rfl rfl (ev rfl rfl) ?_)
   refine wnil (thenN (wreg (wl rfl (omove (v := .slice pO k cO) rfl rfl (ev rfl rfl) ?_))))
   refine wl rfl (omove (v := .int .u32 (((nd xr k : Nat) : Int))) rfl rfl (ev rfl rfl) ?_)
   refine wl rfl (omove (v := .int .u32 (p : Int)) rfl rfl (ev rfl rfl) ?_)
   refine wl rfl (obin (u := .int .u32 (((nd xr k : Nat) : Int))) (v := .int .u32 (p : Int)) (z := .int .u32 (((nd xr k % p : Nat) : Int))) rfl rfl (ev rfl rfl) (ev rfl rfl) (bin_rem (by omega) rfl) ?_)
   refine wl rfl (obslice (ps := #[(0, .int .u32 (((nd xr k % p : Nat) : Int)))]) (z := .int .u32 0) [.int .u32 (((nd xr k % p : Nat) : Int))] hS rfl rfl Tryd.runUnderlying52 Tryd.sizeOf27 Tryd.zeroValue27 (parts1 (ev (v := .int .u32 (((nd xr k % p : Nat) : Int))) rfl rfl)) rfl (by decide) (fill1_1s rfl rfl) ?_)
   clear hS; intro g3 w4 hS
   obtain hS := (show Sep w [.rowm pO k cO ((xr.take k).map (· % p)), .blk g3 [.int .u32 (((nd xr k % p : Nat) : Int))] 27, .lst 52 1 pX i cX (mmE Q)] w4 from hS.pick [1, 0, 2] (by decide) rfl)
   refine wl rfl (oappendR (p := pO) (m := k) (c := cO) (xs := ((xr.take k).map (· % p))) (k := 1) (c2 := 1) (a := (some ⟨g3, 0, none⟩)) (ys := ([nd xr k % p])) hS rfl rfl Tryd.underlying52 infouint32 (ev (v := .slice pO k cO) rfl rfl) (ev (v := .slice (some ⟨g3, 0, none⟩) 1 1) rfl rfl) (Sl.blk1 (hS.blkAt 1 rfl) (by omega)) (by omega) (by omega) ?_)
   clear hS; intro p6 c7 w5 hS
   refine wl rfl (oassign (v := .slice p6 ((k + 1)) c7) rfl rfl (ev rfl rfl) ?_)
   refine wnil (blkN (thenN (wreg (wl rfl (obin (u := .int .i64 (k : Int)) (v := .int .i64 1) (z := .int .i64 (((k + 1 : Nat) : Int))) rfl rfl (ev rfl rfl) evc (bin_add (wrap_i64 (by omega) (by omega))) ?_)))))
   refine wl rfl (omove (v := .int .i64 (((k + 1 : Nat) : Int))) rfl rfl (ev rfl rfl) ?_)
   refine wnil (thenN ?_)
   rw [modR_next hlk] at hS
   exact ⟨(k + 1), ⟨_, _, _, act_sets (l := [(1, .int .u32 (p : Int)), (4, .slice none 0 0), (5, .slice pX i cX), (8, .slice p6 ((k + 1)) c7), (11, .slice pm nm cm), (12, .int .i64 (nm : Int)), (13, .int .i64 (i : Int)), (17, .slice pr xr.length cr), (18, .int .i64 (xr.length : Int)), (19, .int .i64 (((k + 1 : Nat) : Int)))]) ⟨rfl, rfl, rfl, rfl, rfl, rfl, rfl, rfl, rfl, rfl, trivial⟩, hS.pick [0, 2] (by decide) rfl, by omega⟩, by omega⟩
  ·
   refine wl rfl (obin (u := .int .i64 (k : Int)) (v := .int .i64 (xr.length : Int)) (z := .bool false) rfl rfl (ev rfl rfl) (ev rfl rfl) (bin_lss (decide_eq_false (by omega))) ?_)
   refine wnil (thenN (wseq ?_))
   refine wF (ev rfl rfl) ?_
   refine wexit ?_
   refine thenE ?_
   refine thenE ?_
   refine blkE ?_
   refine thenN (wreg (wl rfl (omove (v := .slice pX i cX) rfl rfl (ev rfl rfl) ?_)))
   refine wl rfl (omove (v := .slice pO k cO) rfl rfl (ev rfl rfl) ?_)
   refine wl rfl (obslice (ps := #[(0, .slice pO k cO)]) (z := .slice none 0 0) [.slice pO k cO] hS rfl rfl Tryd.runUnderlying26 Tryd.sizeOf52 Tryd.zeroValue52 (parts1 (ev (v := .slice pO k cO) rfl rfl)) rfl (by decide) (fill1_1s rfl rfl) ?_)
   clear hS; intro g3 w4 hS
   rw [List.take_of_length_le (by omega)] at hS
   obtain hS := (show Sep w [.rowm pO k cO (xr.map (· % p)), .lst 52 1 pX i cX (mmE Q), .blk g3 [.slice pO k cO] 52] w4 from hS.pick [1, 2, 0] (by decide) rfl)
   refine wl rfl (oappendL (p := pX) (m := i) (c := cX) (g2 := g3) (c2 := 1) (off := 0) [.slice pO k cO] [.rowm pO k cO (xr.map (· % p))] hS rfl rfl Tryd.underlying26 infoRow rfl (by decide) (ev (v := .slice pX i cX) rfl rfl) (ev (v := .slice (some ⟨g3, 0, none⟩) 1 1) rfl rfl) (fun j v hj => by rw [Nat.zero_add]; exact (blk_cell (hS.blkAt 2 rfl) j).trans hj) rfl rfl rfl (by omega) (by omega) ?_)
   clear hS; intro p6 c7 w5 hS
   refine wl rfl (oassign (v := .slice p6 ((i + 1)) c7) rfl rfl (ev rfl rfl) ?_)
   refine wnil (blkN (thenN (wreg (wl rfl (obin (u := .int .i64 (i : Int)) (v := .int .i64 1) (z := .int .i64 (((i + 1 : Nat) : Int))) rfl rfl (ev rfl rfl) evc (bin_add (wrap_i64 (by omega) (by omega))) ?_)))))
   refine wl rfl (omove (v := .int .i64 (((i + 1 : Nat) : Int))) rfl rfl (ev rfl rfl) ?_)
   refine wnil (thenN ?_)
   rw [mmE_snoc (xs := xr.map (· % p)) (n := k) (by rw [List.length_map]; omega)] at hS
   exact ⟨(i + 1), ⟨_, _, _, _, act_sets (l := [(1, .int .u32 (p : Int)), (4, .slice none 0 0), (5, .slice p6 ((i + 1)) c7), (11, .slice pm nm cm), (12, .int .i64 (nm : Int)), (13, .int .i64 (((i + 1 : Nat) : Int)))]) ⟨rfl, rfl, rfl, rfl, rfl, rfl, trivial⟩, hS.pick [0] (by decide) rfl, by omega, by rw [nums_app, hQ, take_next hxr]; simp [modM]⟩, by omega⟩
 ·
  refine wl rfl (obin (u := .int .i64 (i : Int)) (v := .int .i64 (nm : Int)) (z := .bool false) rfl rfl (ev rfl rfl) (ev rfl rfl) (bin_lss (decide_eq_false (by omega))) ?_)
  refine wnil (thenN (wseq ?_))
  refine wF (ev rfl rfl) ?_
  refine wexit ?_
  refine thenE ?_
  refine thenE ?_
  refine blkE ?_
  refine thenN (wseq (wreg (wl rfl (omove (v := .slice pX i cX) rfl rfl (ev rfl rfl) ?_))))
  refine wl rfl (oassign (v := .slice pX i cX) rfl rfl (ev rfl rfl) ?_)
  refine wnil (thenN ?_)
  refine wleave ?_
  have hin : i = nm := by omega
  refine wret1 Tryd.results49 (tellT (v := .slice pX i cX) rfl rfl) ?_
  exact ⟨_, _, rfl, ⟨pX, cX, Q, by rw [hQ, List.take_of_length_le (by omega)], by rw [hin], by rw [hin]⟩, hS.newR 0 rfl rfl⟩
end Go.Proofs.YtndilfigdbenoaaDoor
/-
  The document's Reduce.
-/
namespace Go.Proofs.YtndilfigdbenoaaDoor
open Go.RowKit
def RdR (p : Nat) (M : List (List Nat)) (n : Nat) : Tell := fun v r => ∃ (px : Option Addr) (cx : Nat) (pv : Option Addr) (cv : Nat) (P : List Nat) (Q : List Rw), redTo p (modM p M) (colsM M) = (nums Q, P) ∧ v = .tuple #[.slice px n cx, .slice pv P.length cv] ∧ r = [.lst 52 1 px n cx (mmE Q), .lst 3 1 pv P.length cv (intE P)]
theorem wrsub {a b p : Nat} {w : World} (hp0 : 0 < p) (hp2 : p < 4294967296) (ha : a < p) (hb : b < p) : Calls Tryd.prog 51 #[.int .u32 (a : Int), .int .u32 (b : Int), .int .u32 (p : Int)] w (Ret (Is (.int .u32 (((a + p - b) % p : Nat) : Int))) w) := by
  have h := wssub (w := w) hp0 hp2 (show a < 4294967296 by omega) (show b < 4294967296 by omega)
  rwa [Nat.mod_eq_of_lt ha, Nat.mod_eq_of_lt hb] at h
theorem Shp.cols {p C : Nat} {M : List (List Nat)} (h : Shp p C M) (h0 : M.length = 0 → C = 0) : colsM M = C := by
  by_cases e : M.length = 0
  · rw [h0 e]; unfold colsM; rw [List.eq_nil_of_length_eq_zero e]; rfl
  · unfold colsM; exact (h.at (by omega)).1
theorem colsM_nil {M : List (List Nat)} (h : M.length = 0) : colsM M = 0 := by unfold colsM; rw [List.eq_nil_of_length_eq_zero h]; rfl
theorem set_same {Q : List Rw} {i : Nat} {q : Rw} (h : Q[i]? = some q) : Q.set i q = Q := by
  apply List.ext_getElem?
  intro j
  by_cases e : j = i
  · subst e; rw [qset_self h, h]
  · rw [List.getElem?_set_ne (fun h => e h.symm)]
theorem wrreduce {pm : Option Addr} {n cm p : Nat} {M : List (List Nat)} {w : World} (hm : MS w pm n M) (hp1 : 1 < p) (hp2 : p < 4294967296) (hr : RectM M) (hn : n ≤ 2097152) (hrb : ∀ r ∈ M, r.length ≤ 2097152) :
  Calls Tryd.prog 33 #[.slice pm n cm, .int .u32 ((p : Nat) : Int)] w (Ret (RdR p M n) w) := by
 have hnm := hm.1
 have hp0 : 0 < p := by omega
 obtain ⟨C, hC⟩ : ∃ C, colsM M = C := ⟨_, rfl⟩
 obtain ⟨N, hN⟩ : ∃ N, modM p M = N := ⟨_, rfl⟩
 have hMl : N.length = n := by rw [← hN, modM_len]; exact hnm
 have hsh : Shp p C N := by rw [← hN, ← hC]; exact hr.shp hp0
 have hC0 : n = 0 → C = 0 := fun h => by rw [← hC]; exact colsM_nil (by omega)
 have hCb : C ≤ 2097152 := by
  by_cases e : n = 0
  ·rw [hC0 e]; exact Nat.zero_le _
  ·have h1 := hrb _ (List.mem_of_getElem? (get_getD (M := M) (i := 0) (by omega)))
   rw [← hC]; exact h1
 have hS := Sep.init w
 refine went Tryd.func33 rfl (n := 151) rfl rfl ?_
 refine wseq (wreg (wl rfl (oassign (v := .slice none 0 0) rfl rfl evc ?_)))
 refine wl rfl (oassign (v := .slice none 0 0) rfl rfl evc ?_)
 refine wnil (thenN (wseq (wreg (wl rfl (omove (v := .slice pm n cm) rfl rfl (ev rfl rfl) ?_)))))
 refine wl rfl (omove (v := .int .u32 (p : Int)) rfl rfl (ev rfl rfl) ?_)
 replace hS := hS.nilLst 3 1
 refine wl rfl (ocall rfl rfl Tryd.call49 rfl (wrnorm (hm.at hS) hp0 hp2 (by omega) hrb) (args2 (ev rfl rfl) (ev rfl rfl)) ?_)
 rintro _ w1 ⟨_, _, rfl, ⟨pX, cX, QX, hQX, rfl, rfl⟩, hN⟩
 refine ⟨_, rfl, ?_⟩
 replace hS := hS.news hN; clear hN
 refine wl rfl (oassign (v := .slice pX n cX) rfl rfl (ev rfl rfl) ?_)
 refine wnil (thenN (wseq (wreg (wl rfl (oassign (v := .slice none 0 0) rfl rfl evc ?_)))))
 refine wnil (thenN (wseq (wseq (wreg (wl rfl (oassign (v := .int .i64 0) rfl rfl evc ?_))))))
 refine wnil (thenN (wblock ?_))
 refine wloop (σ := Nat) (fun c a9 w' => ∃ (fb : Nat → Value) (Q1 : List Rw) (P : List Nat) (pl : Nat) (pP : Option Addr) (cP : Nat), a9 = act 151 (sets fb [(0, .slice pX n cX), (1, .int .u32 (p : Int)), (4, .slice none 0 0), (5, .slice none 0 0), (6, .slice pP pl cP), (7, .int .i64 (c : Int))]) ∧ Sep w [.lst 52 1 pX n cX (mmE Q1), .lst 3 1 pP pl cP (intE P)] w' ∧ (c ≤ C) ∧ (redTo p N c = (nums Q1, P)) ∧ (P.length = pl)) (fun c => C - c) (0) ⟨_, QX, [], 0, none, 0, act_sets (l := [(0, .slice pX n cX), (1, .int .u32 (p : Int)), (4, .slice none 0 0), (5, .slice none 0 0), (6, .slice none 0 0), (7, .int .i64 0)]) ⟨rfl, rfl, rfl, rfl, rfl, rfl, trivial⟩, hS, Nat.zero_le _, by rw [hQX, hN]; rfl, rfl⟩ ?_
 clear hS; rintro c _ w2 ⟨fb, Q1, P, pl, pP, cP, rfl, hS, hc, hR, hpl⟩
 refine wseq (wseq (wreg (wl rfl (omove (v := .int .i64 (c : Int)) rfl rfl (ev rfl rfl) ?_))))
 refine wl rfl (omove (v := .slice pX n cX) rfl rfl (ev rfl rfl) ?_)
 obtain ⟨i1, i2, i3, i4, i5⟩ := redTo_inv hsh hp0 c
 rw [hR] at i1 i2 i3 i4 i5
 simp only at i1 i2 i3 i4 i5
 rw [hpl, hMl] at i3
 rw [hpl] at i4
 have hQ1n : Q1.length = n := by rw [nums_lenE rfl, i1]; exact hMl
 have hN1 : (nums Q1).length = n := i1.trans hMl
 have hco : colsM (nums Q1) = C := i2.cols (fun h => hC0 (by omega))
 by_cases hlt : c < C
 ·
  refine wl rfl (ocall rfl rfl Tryd.call36 rfl ((show Calls _ _ _ _ (Ret (Is (.int .i64 (C : Int))) _) from by rw [← hco]; exact wrcols (hS.ms 0 rfl (by simp only [maxLen]; omega)))) (args1 (ev rfl rfl)) ?_)
  rintro _ w3 ⟨_, _, rfl, ⟨rfl, rfl⟩, hN⟩
  refine ⟨_, rfl, ?_⟩
  replace hS := hS.news hN; clear hN
  refine wl rfl (obin (u := .int .i64 (c : Int)) (v := .int .i64 (C : Int)) (z := .bool true) rfl rfl (ev rfl rfl) (ev rfl rfl) (bin_lss (decide_eq_true (by omega))) ?_)
  refine wnil (thenN ?_)
  refine wT (ev rfl rfl) ?_
  refine wskip (thenN (wseq (wblock (wseq (wreg (wl rfl (omove (v := .slice pP pl cP) rfl rfl (ev rfl rfl) ?_)))))))
  refine wl rfl (olen rfl rfl rfl Tryd.runUnderlying35 (p := pP) (k := pl) (m := cP) (ev rfl rfl) ?_)
  refine wl rfl (oassign (v := .int .i64 (pl : Int)) rfl rfl (ev rfl rfl) ?_)
  refine wnil (thenN (wseq (wreg (wl rfl (omove (v := .int .i64 (pl : Int)) rfl rfl (ev rfl rfl) ?_)))))
  refine wl rfl (oassign (v := .int .i64 (pl : Int)) rfl rfl (ev rfl rfl) ?_)
  refine wnil (thenN (wseq (wblock ?_)))
  refine wloop (σ := Nat) (fun r a9 w' => ∃ (fb : Nat → Value), a9 = act 151 (sets fb [(0, .slice pX n cX), (1, .int .u32 (p : Int)), (4, .slice none 0 0), (5, .slice none 0 0), (6, .slice pP pl cP), (7, .int .i64 (c : Int)), (8, .int .i64 (pl : Int)), (9, .int .i64 (r : Int))]) ∧ Sep w [.lst 52 1 pX n cX (mmE Q1), .lst 3 1 pP pl cP (intE P)] w' ∧ (pl ≤ r) ∧ (r ≤ n) ∧ (∀ l, pl ≤ l → l < r → nd ((nums Q1).getD l []) c = 0)) (fun r => n - r) (pl) ⟨_, act_sets (l := [(0, .slice pX n cX), (1, .int .u32 (p : Int)), (4, .slice none 0 0), (5, .slice none 0 0), (6, .slice pP pl cP), (7, .int .i64 (c : Int)), (8, .int .i64 (pl : Int)), (9, .int .i64 (pl : Int))]) ⟨rfl, rfl, rfl, rfl, rfl, rfl, rfl, rfl, trivial⟩, hS, Nat.le_refl _, by omega, fun l h1 h2 => by omega⟩ ?_
  clear hS; rintro r _ w4 ⟨fb, rfl, hS, hr1, hr2, hz⟩
  refine wseq (wseq (wreg (wl rfl (omove (v := .int .i64 (r : Int)) rfl rfl (ev rfl rfl) ?_))))
  refine wl rfl (omove (v := .slice pX n cX) rfl rfl (ev rfl rfl) ?_)
  refine wl rfl (olen rfl rfl rfl Tryd.runUnderlying26 (p := pX) (k := n) (m := cX) (ev rfl rfl) ?_)
  by_cases hrn : r < n
  ·
   obtain ⟨gm, hgm⟩ := hS.lstPtr 0 rfl (by omega)
   refine wl rfl (obin (u := .int .i64 (r : Int)) (v := .int .i64 (n : Int)) (z := .bool true) rfl rfl (ev rfl rfl) (ev rfl rfl) (bin_lss (decide_eq_true (by omega))) ?_)
   refine wl rfl (omove (v := .bool true) rfl rfl (ev rfl rfl) ?_)
   refine wlOn (e := 31) rfl rfl rfl rfl (omove (v := .slice pX n cX) rfl rfl (ev rfl rfl) ?_)
   refine wlOn (e := 31) rfl rfl rfl rfl (omove (v := .int .i64 (r : Int)) rfl rfl (ev rfl rfl) ?_)
   obtain ⟨⟨pv, cv, xv⟩, hqv⟩ : ∃ q, (Q1)[r]? = some q := ⟨_, List.getElem?_eq_getElem (by omega)⟩
   have hdv : (nums (Q1)).getD r [] = xv := getD_get (nums_get hqv)
   obtain ⟨hnv, hltv⟩ := i2.get (nums_get hqv)
   simp only at hnv hltv
   obtain ⟨gv, hgv⟩ := hS.mPtr 0 rfl hqv (by show 0 < xv.length; omega)
   refine wlOn (e := 31) rfl rfl rfl rfl (oindex (p := pX) (g := gm) (off := 0) (m := n) (k := r) (j := (0 + r * 1)) rfl rfl Tryd.runUnderlying26 Tryd.sizeOf52 (ev rfl rfl) (hgm) (ev rfl rfl) (by omega) rfl ?_)
   refine wlOn (e := 31) rfl rfl rfl rfl (oloadc (v := .slice pv C cv) (show One Tryd.prog 52 from ⟨Tryd.isAgg52, Tryd.sizeOf52⟩) rfl rfl (ev (v := .pointer (some ⟨gm, (0 + r * 1), none⟩)) rfl rfl) (hS.mRow 0 rfl hqv hnv hgm) ?_)
   refine wlOn (e := 31) rfl rfl rfl rfl (omove (v := .int .i64 (c : Int)) rfl rfl (ev rfl rfl) ?_)
   refine wlOn (e := 31) rfl rfl rfl rfl (oindex (p := pv) (g := gv) (off := 0) (m := C) (k := c) (j := c) rfl rfl Tryd.runUnderlying52 Tryd.sizeOf27 (ev rfl rfl) (hgv) (ev rfl rfl) (by omega) (by simp) ?_)
   refine wlOn (e := 31) rfl rfl rfl rfl (oloadc (v := .int .u32 (((nd xv c : Nat) : Int))) one32 rfl rfl (ev (v := .pointer (some ⟨gv, c, none⟩)) rfl rfl) (hS.mCell 0 rfl hqv hgv (by omega)) ?_)
   by_cases hne : nd xv c = 0
   ·
    refine wlOn (e := 31) rfl rfl rfl rfl (obin (u := .int .u32 (((nd xv c : Nat) : Int))) (v := .int .u32 0) (z := .bool true) rfl rfl (ev rfl rfl) evc (bin_eql (eqT (by omega))) ?_)
    refine wl rfl (opick (b := true) (v := .bool true) rfl rfl (ev rfl rfl) (ev rfl rfl) ?_)
    refine wnil (thenN ?_)
    refine wT (ev rfl rfl) ?_
    refine wskip (thenN (wblock (wreg (wl rfl (omove (v := .int .i64 (r : Int)) rfl rfl (ev rfl rfl) ?_)))))
    refine wl rfl (obin (u := .int .i64 (r : Int)) (v := .int .i64 1) (z := .int .i64 (((r + 1 : Nat) : Int))) rfl rfl (ev rfl rfl) evc (bin_add (wrap_i64 (by omega) (by omega))) ?_)
    refine wl rfl (oassign (v := .int .i64 (((r + 1 : Nat) : Int))) rfl rfl (ev rfl rfl) ?_)
    refine wnil (blkN (thenN ?_))
    exact ⟨(r + 1), ⟨_, act_sets (l := [(0, .slice pX n cX), (1, .int .u32 (p : Int)), (4, .slice none 0 0), (5, .slice none 0 0), (6, .slice pP pl cP), (7, .int .i64 (c : Int)), (8, .int .i64 (pl : Int)), (9, .int .i64 (((r + 1 : Nat) : Int)))]) ⟨rfl, rfl, rfl, rfl, rfl, rfl, rfl, rfl, trivial⟩, hS.pick [0, 1] (by decide) rfl, by omega, by omega, fun l h1 h2 => (Nat.lt_or_eq_of_le (Nat.lt_succ_iff.1 h2)).elim (hz l h1) (fun e => by rw [e, hdv]; exact hne)⟩, by omega⟩
   ·
    refine wlOn (e := 31) rfl rfl rfl rfl (obin (u := .int .u32 (((nd xv c : Nat) : Int))) (v := .int .u32 0) (z := .bool false) rfl rfl (ev rfl rfl) evc (bin_eql (eqF (by omega))) ?_)
    refine wl rfl (opick (b := true) (v := .bool false) rfl rfl (ev rfl rfl) (ev rfl rfl) ?_)
    refine wnil (thenN ?_)
    refine wF (ev rfl rfl) ?_
    refine wexit ?_
    refine thenE ?_
    refine thenE ?_
    refine blkE ?_
    refine thenN (wseq (wseq (wreg (wl rfl (omove (v := .int .i64 (r : Int)) rfl rfl (ev rfl rfl) ?_)))))
    refine wl rfl (omove (v := .slice pX n cX) rfl rfl (ev rfl rfl) ?_)
    refine wl rfl (olen rfl rfl rfl Tryd.runUnderlying26 (p := pX) (k := n) (m := cX) (ev rfl rfl) ?_)
    have hf : firstNZ (nums Q1) c (n - pl) pl = some r := firstNZ_some hr1 (by omega) hz (by rw [hdv]; exact hne)
    obtain ⟨f1, f2, f3, f4⟩ := firstNZ_is hf
    refine wl rfl (obin (u := .int .i64 (r : Int)) (v := .int .i64 (n : Int)) (z := .bool false) rfl rfl (ev rfl rfl) (ev rfl rfl) (bin_eql (eqF (by omega))) ?_)
    refine wnil (thenN ?_)
    refine wF (ev rfl rfl) ?_
    refine wskip (thenN ?_)
    refine wjoin (I := fun a9 w' => ∃ (fb : Nat → Value) (Q2 : List Rw), a9 = act 151 (sets fb [(0, .slice pX n cX), (1, .int .u32 (p : Int)), (4, .slice none 0 0), (5, .slice none 0 0), (6, .slice pP pl cP), (7, .int .i64 (c : Int)), (8, .int .i64 (pl : Int))]) ∧ Sep w [.lst 52 1 pX n cX (mmE Q2), .lst 3 1 pP pl cP (intE P)] w' ∧ (nums Q2 = swapM (nums Q1) pl r)) ?_ ?_
    ·
     by_cases hrp : r = pl
     ·
      obtain ⟨⟨pu, cu, xu⟩, hqu⟩ : ∃ q, (Q1)[pl]? = some q := ⟨_, List.getElem?_eq_getElem (by omega)⟩
      have hdu : (nums (Q1)).getD pl [] = xu := getD_get (nums_get hqu)
      obtain ⟨hnu, hltu⟩ := i2.get (nums_get hqu)
      simp only at hnu hltu
      obtain ⟨gu, hgu⟩ := hS.mPtr 0 rfl hqu (by show 0 < xu.length; omega)
      have hqu2 : Q1[r]? = some ⟨pu, cu, xu⟩ := by rw [hrp]; exact hqu
      refine wstage 13 [47, 48, 49, 50, 51, 52, 53, 54, 55, 56, 57, 58, 59] [[], [], [], [], [], [], [4, 5], [6, 4, 5], [], [], [8, 9], [10, 8, 9], [0, 1, 4, 5, 6, 7, 8, 9, 10, 11]] [[], [], [], [], [], [], [], [], [], [], [], [], []] [2, 3] [] (fun i9 => ([fun _ => Is (.slice pX n cX), fun _ => Is (.int .i64 (r : Int)), fun _ => Is (.slice pX n cX), fun _ => Is (.int .i64 (pl : Int)), fun _ => Is (.slice pX n cX), fun _ => Is (.int .i64 (pl : Int)), fun _ => Is (.pointer (some ⟨gm, (0 + pl * 1), none⟩)), fun _ => Is (.slice pu C cu), fun _ => Is (.slice pX n cX), fun _ => Is (.int .i64 (r : Int)), fun _ => Is (.pointer (some ⟨gm, (0 + r * 1), none⟩)), fun _ => Is (.slice pu C cu), fun _ => Is (.pointer (some ⟨gm, (0 + r * 1), none⟩))] : List (List Value → Tell)).getD i9 (fun _ _ _ => False)) (heldNil) (fun d _ _ _ _ h => (by cases d <;> exact h)) (by kernel_rfl) (by kernel_rfl) (by kernel_rfl) hS ?_ ?_
      ·
       refine stepsCons rfl (fun Q f' w' ρ S ho hT hS hB => ?_) ?_
       ·exact .inl ⟨want_none rfl, omove (v := .slice pX n cX) rfl rfl (ev rfl (ho 0 rfl)) ⟨_, _, rfl, isI, New.same _⟩⟩
       refine stepsCons rfl (fun Q f' w' ρ S ho hT hS hB => ?_) ?_
       ·exact .inl ⟨want_none rfl, omove (v := .int .i64 (r : Int)) rfl rfl (ev rfl (ho 9 rfl)) ⟨_, _, rfl, isI, New.same _⟩⟩
       refine stepsPure rfl ?_ ?_
       ·intro f' ρ ho hT
        exact ⟨_, .inl ⟨want_none rfl, fun w hw => ymove (v := .slice pX n cX) rfl (ev (v := .slice pX n cX) rfl (ho 0 rfl)) w⟩, isI⟩
       refine stepsPure rfl ?_ ?_
       ·intro f' ρ ho hT
        exact ⟨_, .inl ⟨want_none rfl, fun w hw => ymove (v := .int .i64 (pl : Int)) rfl (ev (v := .int .i64 (pl : Int)) rfl (ho 8 rfl)) w⟩, isI⟩
       refine stepsCons rfl (fun Q f' w' ρ S ho hT hS hB => ?_) ?_
       ·exact .inl ⟨want_none rfl, omove (v := .slice pX n cX) rfl rfl (ev rfl (ho 0 rfl)) ⟨_, _, rfl, isI, New.same _⟩⟩
       refine stepsCons rfl (fun Q f' w' ρ S ho hT hS hB => ?_) ?_
       ·exact .inl ⟨want_none rfl, omove (v := .int .i64 (pl : Int)) rfl rfl (ev rfl (ho 8 rfl)) ⟨_, _, rfl, isI, New.same _⟩⟩
       refine stepsCons rfl (fun Q f' w' ρ S ho hT hS hB => ?_) ?_
       ·obtain ⟨hv4, hr4⟩ := (hT 4 51 rfl rfl : (Is (.slice pX n cX)) _ _)
        obtain ⟨hv5, hr5⟩ := (hT 5 52 rfl rfl : (Is (.int .i64 (((pl : Nat) : Int)))) _ _)
        obtain hS := hS.flat2 hr4 hr5
        exact .inl ⟨want_none rfl, oindex (p := pX) (g := gm) (off := 0) (m := n) (k := pl) (j := (0 + pl * 1)) rfl rfl Tryd.runUnderlying26 Tryd.sizeOf52 (ev rfl hv4) (hgm) (ev rfl hv5) (by omega) rfl ⟨_, _, rfl, isI, New.same _⟩⟩
       refine stepsCons rfl (fun Q f' w' ρ S ho hT hS hB => ?_) ?_
       ·obtain ⟨hv6, hr6⟩ := (hT 6 53 rfl rfl : (Is (.pointer (some ⟨gm, (0 + pl * 1), none⟩))) _ _)
        obtain hS := hS.flat1 hr6
        exact .inl ⟨want_none rfl, oloadc (v := .slice pu C cu) (show One Tryd.prog 52 from ⟨Tryd.isAgg52, Tryd.sizeOf52⟩) rfl rfl (ev (v := .pointer (some ⟨gm, (0 + pl * 1), none⟩)) rfl hv6) (hS.mRow 0 rfl hqu hnu hgm) ⟨_, _, rfl, isI, New.same _⟩⟩
       refine stepsCons rfl (fun Q f' w' ρ S ho hT hS hB => ?_) ?_
       ·exact .inl ⟨want_none rfl, omove (v := .slice pX n cX) rfl rfl (ev rfl (ho 0 rfl)) ⟨_, _, rfl, isI, New.same _⟩⟩
       refine stepsCons rfl (fun Q f' w' ρ S ho hT hS hB => ?_) ?_
       ·exact .inl ⟨want_none rfl, omove (v := .int .i64 (r : Int)) rfl rfl (ev rfl (ho 9 rfl)) ⟨_, _, rfl, isI, New.same _⟩⟩
       refine stepsCons rfl (fun Q f' w' ρ S ho hT hS hB => ?_) ?_
       ·obtain ⟨hv8, hr8⟩ := (hT 8 55 rfl rfl : (Is (.slice pX n cX)) _ _)
        obtain ⟨hv9, hr9⟩ := (hT 9 56 rfl rfl : (Is (.int .i64 (((r : Nat) : Int)))) _ _)
        obtain hS := hS.flat2 hr8 hr9
        exact .inl ⟨want_none rfl, oindex (p := pX) (g := gm) (off := 0) (m := n) (k := r) (j := (0 + r * 1)) rfl rfl Tryd.runUnderlying26 Tryd.sizeOf52 (ev rfl hv8) (hgm) (ev rfl hv9) (by omega) rfl ⟨_, _, rfl, isI, New.same _⟩⟩
       refine stepsCons rfl (fun Q f' w' ρ S ho hT hS hB => ?_) ?_
       ·obtain ⟨hv10, hr10⟩ := (hT 10 57 rfl rfl : (Is (.pointer (some ⟨gm, (0 + r * 1), none⟩))) _ _)
        obtain hS := hS.flat1 hr10
        exact .inl ⟨want_none rfl, oloadc (v := .slice pu C cu) (show One Tryd.prog 52 from ⟨Tryd.isAgg52, Tryd.sizeOf52⟩) rfl rfl (ev (v := .pointer (some ⟨gm, (0 + r * 1), none⟩)) rfl hv10) (hS.mRow 0 rfl hqu2 hnu hgm) ⟨_, _, rfl, isI, New.same _⟩⟩
       refine stepsCons rfl (fun Q f' w' ρ S ho hT hS hB => ?_) ?_
       ·obtain ⟨hv0, hr0⟩ := (hT 0 47 rfl rfl : (Is (.slice pX n cX)) _ _)
        obtain ⟨hv1, hr1⟩ := (hT 1 48 rfl rfl : (Is (.int .i64 (((r : Nat) : Int)))) _ _)
        obtain hS := hS.flat2 hr0 hr1
        exact .inl ⟨want_none rfl, oindex (p := pX) (g := gm) (off := 0) (m := n) (k := r) (j := (0 + r * 1)) rfl rfl Tryd.runUnderlying26 Tryd.sizeOf52 (ev rfl hv0) (hgm) (ev rfl hv1) (by omega) rfl ⟨_, _, rfl, isI, New.same _⟩⟩
       exact stepsNil
      ·
       intro vs ρ w5 f' hf hT hS
       obtain ⟨hv0, hr0⟩ := (hT 0 (by decide) : (Is (.slice pX n cX)) _ _)
       obtain ⟨hv1, hr1⟩ := (hT 1 (by decide) : (Is (.int .i64 (((r : Nat) : Int)))) _ _)
       obtain ⟨hv2, hr2⟩ := (hT 2 (by decide) : (Is (.slice pX n cX)) _ _)
       obtain ⟨hv3, hr3⟩ := (hT 3 (by decide) : (Is (.int .i64 (((pl : Nat) : Int)))) _ _)
       obtain ⟨hv4, hr4⟩ := (hT 4 (by decide) : (Is (.slice pX n cX)) _ _)
       obtain ⟨hv5, hr5⟩ := (hT 5 (by decide) : (Is (.int .i64 (((pl : Nat) : Int)))) _ _)
       obtain ⟨hv6, hr6⟩ := (hT 6 (by decide) : (Is (.pointer (some ⟨gm, (0 + pl * 1), none⟩))) _ _)
       obtain ⟨hv7, hr7⟩ := (hT 7 (by decide) : (Is (.slice pu C cu)) _ _)
       obtain ⟨hv8, hr8⟩ := (hT 8 (by decide) : (Is (.slice pX n cX)) _ _)
       obtain ⟨hv9, hr9⟩ := (hT 9 (by decide) : (Is (.int .i64 (((r : Nat) : Int)))) _ _)
       obtain ⟨hv10, hr10⟩ := (hT 10 (by decide) : (Is (.pointer (some ⟨gm, (0 + r * 1), none⟩))) _ _)
       obtain ⟨hv11, hr11⟩ := (hT 11 (by decide) : (Is (.slice pu C cu)) _ _)
       obtain ⟨hv12, hr12⟩ := (hT 12 (by decide) : (Is (.pointer (some ⟨gm, (0 + r * 1), none⟩))) _ _)
       simp only [pool, if_true, hr0, hr1, hr2, hr3, hr4, hr5, hr6, hr7, hr8, hr9, hr10, hr11, hr12, List.nil_append, List.cons_append, List.append_nil] at hS
       simp only [layf, hv0, hv1, hv2, hv3, hv4, hv5, hv6, hv7, hv8, hv9, hv10, hv11, hv12] at hf
       subst hf; clear hT hv0 hv1 hv2 hv3 hv4 hv5 hv6 hv7 hv8 hv9 hv10 hv11 hv12 hr0 hr1 hr2 hr3 hr4 hr5 hr6 hr7 hr8 hr9 hr10 hr11 hr12
       obtain hS := hS.take1 hqu hnu
       refine wlate 13 rfl (by kernel_rfl) (ostoreL (i := r) (g := gm) [.slice pu C cu] [.rowm pu C cu xu] Tryd.sizeOf52 hS rfl rfl (ev (v := .pointer (some ⟨gm, (0 + r * 1), none⟩)) rfl rfl) (ev (v := .slice pu C cu) rfl rfl) (rfl) rfl rfl rfl hgm (by omega) rfl ?_)
       clear hS; intro w6 hS
       refine ⟨heldNil, ?_⟩
       refine wlate 14 rfl (by kernel_rfl) (oindex (p := pX) (g := gm) (off := 0) (m := n) (k := pl) (j := (0 + pl * 1)) rfl rfl Tryd.runUnderlying26 Tryd.sizeOf52 (ev rfl rfl) (hgm) (ev rfl rfl) (by omega) rfl ?_)
       refine ⟨heldNil, ?_⟩
       rw [hrp, set_mm hnu, set_same hqu] at hS
       obtain hS := hS.take1 hqu hnu
       refine wlate 15 rfl (by kernel_rfl) (ostoreL (i := pl) (g := gm) [.slice pu C cu] [.rowm pu C cu xu] Tryd.sizeOf52 hS rfl rfl (ev (v := .pointer (some ⟨gm, (0 + pl * 1), none⟩)) rfl rfl) (ev (v := .slice pu C cu) rfl rfl) (rfl) rfl rfl rfl hgm (by omega) rfl ?_)
       clear hS; intro w7 hS
       refine ⟨heldNil, ?_⟩
       refine wdone rfl ?_
       refine thenN ?_
       rw [set_mm hnu, set_same hqu] at hS
       exact ⟨_, _, act_sets (l := [(0, .slice pX n cX), (1, .int .u32 (p : Int)), (4, .slice none 0 0), (5, .slice none 0 0), (6, .slice pP pl cP), (7, .int .i64 (c : Int)), (8, .int .i64 (pl : Int))]) ⟨rfl, rfl, rfl, rfl, rfl, rfl, rfl, trivial⟩, hS.pick [0, 1] (by decide) rfl, by rw [hrp, swapM_self (by omega)]⟩
     ·
      obtain ⟨⟨pu, cu, xu⟩, hqu⟩ : ∃ q, (Q1)[pl]? = some q := ⟨_, List.getElem?_eq_getElem (by omega)⟩
      have hdu : (nums (Q1)).getD pl [] = xu := getD_get (nums_get hqu)
      obtain ⟨hnu, hltu⟩ := i2.get (nums_get hqu)
      simp only at hnu hltu
      obtain ⟨gu, hgu⟩ := hS.mPtr 0 rfl hqu (by show 0 < xu.length; omega)
      obtain ⟨⟨pj, cj, xj⟩, hqj⟩ : ∃ q, (Q1)[r]? = some q := ⟨_, List.getElem?_eq_getElem (by omega)⟩
      have hdj : (nums (Q1)).getD r [] = xj := getD_get (nums_get hqj)
      obtain ⟨hnj, hltj⟩ := i2.get (nums_get hqj)
      simp only at hnj hltj
      obtain ⟨gj, hgj⟩ := hS.mPtr 0 rfl hqj (by show 0 < xj.length; omega)
      refine wstage 13 [47, 48, 49, 50, 51, 52, 53, 54, 55, 56, 57, 58, 59] [[], [], [], [], [], [], [4, 5], [6, 4, 5], [], [], [8, 9], [10, 8, 9], [0, 1, 4, 5, 6, 7, 8, 9, 10, 11]] [[], [], [], [], [], [], [], [], [], [], [], [], []] [2, 3] [] (fun i9 => ([fun _ => Is (.slice pX n cX), fun _ => Is (.int .i64 (r : Int)), fun _ => Is (.slice pX n cX), fun _ => Is (.int .i64 (pl : Int)), fun _ => Is (.slice pX n cX), fun _ => Is (.int .i64 (pl : Int)), fun _ => Is (.pointer (some ⟨gm, (0 + pl * 1), none⟩)), fun _ => Is (.slice pu C cu), fun _ => Is (.slice pX n cX), fun _ => Is (.int .i64 (r : Int)), fun _ => Is (.pointer (some ⟨gm, (0 + r * 1), none⟩)), fun _ => Is (.slice pj C cj), fun _ => Is (.pointer (some ⟨gm, (0 + r * 1), none⟩))] : List (List Value → Tell)).getD i9 (fun _ _ _ => False)) (heldNil) (fun d _ _ _ _ h => (by cases d <;> exact h)) (by kernel_rfl) (by kernel_rfl) (by kernel_rfl) hS ?_ ?_
      ·
       refine stepsCons rfl (fun Q f' w' ρ S ho hT hS hB => ?_) ?_
       ·exact .inl ⟨want_none rfl, omove (v := .slice pX n cX) rfl rfl (ev rfl (ho 0 rfl)) ⟨_, _, rfl, isI, New.same _⟩⟩
       refine stepsCons rfl (fun Q f' w' ρ S ho hT hS hB => ?_) ?_
       ·exact .inl ⟨want_none rfl, omove (v := .int .i64 (r : Int)) rfl rfl (ev rfl (ho 9 rfl)) ⟨_, _, rfl, isI, New.same _⟩⟩
       refine stepsPure rfl ?_ ?_
       ·intro f' ρ ho hT
        exact ⟨_, .inl ⟨want_none rfl, fun w hw => ymove (v := .slice pX n cX) rfl (ev (v := .slice pX n cX) rfl (ho 0 rfl)) w⟩, isI⟩
       refine stepsPure rfl ?_ ?_
       ·intro f' ρ ho hT
        exact ⟨_, .inl ⟨want_none rfl, fun w hw => ymove (v := .int .i64 (pl : Int)) rfl (ev (v := .int .i64 (pl : Int)) rfl (ho 8 rfl)) w⟩, isI⟩
       refine stepsCons rfl (fun Q f' w' ρ S ho hT hS hB => ?_) ?_
       ·exact .inl ⟨want_none rfl, omove (v := .slice pX n cX) rfl rfl (ev rfl (ho 0 rfl)) ⟨_, _, rfl, isI, New.same _⟩⟩
       refine stepsCons rfl (fun Q f' w' ρ S ho hT hS hB => ?_) ?_
       ·exact .inl ⟨want_none rfl, omove (v := .int .i64 (pl : Int)) rfl rfl (ev rfl (ho 8 rfl)) ⟨_, _, rfl, isI, New.same _⟩⟩
       refine stepsCons rfl (fun Q f' w' ρ S ho hT hS hB => ?_) ?_
       ·obtain ⟨hv4, hr4⟩ := (hT 4 51 rfl rfl : (Is (.slice pX n cX)) _ _)
        obtain ⟨hv5, hr5⟩ := (hT 5 52 rfl rfl : (Is (.int .i64 (((pl : Nat) : Int)))) _ _)
        obtain hS := hS.flat2 hr4 hr5
        exact .inl ⟨want_none rfl, oindex (p := pX) (g := gm) (off := 0) (m := n) (k := pl) (j := (0 + pl * 1)) rfl rfl Tryd.runUnderlying26 Tryd.sizeOf52 (ev rfl hv4) (hgm) (ev rfl hv5) (by omega) rfl ⟨_, _, rfl, isI, New.same _⟩⟩
       refine stepsCons rfl (fun Q f' w' ρ S ho hT hS hB => ?_) ?_
       ·obtain ⟨hv6, hr6⟩ := (hT 6 53 rfl rfl : (Is (.pointer (some ⟨gm, (0 + pl * 1), none⟩))) _ _)
        obtain hS := hS.flat1 hr6
        exact .inl ⟨want_none rfl, oloadc (v := .slice pu C cu) (show One Tryd.prog 52 from ⟨Tryd.isAgg52, Tryd.sizeOf52⟩) rfl rfl (ev (v := .pointer (some ⟨gm, (0 + pl * 1), none⟩)) rfl hv6) (hS.mRow 0 rfl hqu hnu hgm) ⟨_, _, rfl, isI, New.same _⟩⟩
       refine stepsCons rfl (fun Q f' w' ρ S ho hT hS hB => ?_) ?_
       ·exact .inl ⟨want_none rfl, omove (v := .slice pX n cX) rfl rfl (ev rfl (ho 0 rfl)) ⟨_, _, rfl, isI, New.same _⟩⟩
       refine stepsCons rfl (fun Q f' w' ρ S ho hT hS hB => ?_) ?_
       ·exact .inl ⟨want_none rfl, omove (v := .int .i64 (r : Int)) rfl rfl (ev rfl (ho 9 rfl)) ⟨_, _, rfl, isI, New.same _⟩⟩
       refine stepsCons rfl (fun Q f' w' ρ S ho hT hS hB => ?_) ?_
       ·obtain ⟨hv8, hr8⟩ := (hT 8 55 rfl rfl : (Is (.slice pX n cX)) _ _)
        obtain ⟨hv9, hr9⟩ := (hT 9 56 rfl rfl : (Is (.int .i64 (((r : Nat) : Int)))) _ _)
        obtain hS := hS.flat2 hr8 hr9
        exact .inl ⟨want_none rfl, oindex (p := pX) (g := gm) (off := 0) (m := n) (k := r) (j := (0 + r * 1)) rfl rfl Tryd.runUnderlying26 Tryd.sizeOf52 (ev rfl hv8) (hgm) (ev rfl hv9) (by omega) rfl ⟨_, _, rfl, isI, New.same _⟩⟩
       refine stepsCons rfl (fun Q f' w' ρ S ho hT hS hB => ?_) ?_
       ·obtain ⟨hv10, hr10⟩ := (hT 10 57 rfl rfl : (Is (.pointer (some ⟨gm, (0 + r * 1), none⟩))) _ _)
        obtain hS := hS.flat1 hr10
        exact .inl ⟨want_none rfl, oloadc (v := .slice pj C cj) (show One Tryd.prog 52 from ⟨Tryd.isAgg52, Tryd.sizeOf52⟩) rfl rfl (ev (v := .pointer (some ⟨gm, (0 + r * 1), none⟩)) rfl hv10) (hS.mRow 0 rfl hqj hnj hgm) ⟨_, _, rfl, isI, New.same _⟩⟩
       refine stepsCons rfl (fun Q f' w' ρ S ho hT hS hB => ?_) ?_
       ·obtain ⟨hv0, hr0⟩ := (hT 0 47 rfl rfl : (Is (.slice pX n cX)) _ _)
        obtain ⟨hv1, hr1⟩ := (hT 1 48 rfl rfl : (Is (.int .i64 (((r : Nat) : Int)))) _ _)
        obtain hS := hS.flat2 hr0 hr1
        exact .inl ⟨want_none rfl, oindex (p := pX) (g := gm) (off := 0) (m := n) (k := r) (j := (0 + r * 1)) rfl rfl Tryd.runUnderlying26 Tryd.sizeOf52 (ev rfl hv0) (hgm) (ev rfl hv1) (by omega) rfl ⟨_, _, rfl, isI, New.same _⟩⟩
       exact stepsNil
      ·
       intro vs ρ w5 f' hf hT hS
       obtain ⟨hv0, hr0⟩ := (hT 0 (by decide) : (Is (.slice pX n cX)) _ _)
       obtain ⟨hv1, hr1⟩ := (hT 1 (by decide) : (Is (.int .i64 (((r : Nat) : Int)))) _ _)
       obtain ⟨hv2, hr2⟩ := (hT 2 (by decide) : (Is (.slice pX n cX)) _ _)
       obtain ⟨hv3, hr3⟩ := (hT 3 (by decide) : (Is (.int .i64 (((pl : Nat) : Int)))) _ _)
       obtain ⟨hv4, hr4⟩ := (hT 4 (by decide) : (Is (.slice pX n cX)) _ _)
       obtain ⟨hv5, hr5⟩ := (hT 5 (by decide) : (Is (.int .i64 (((pl : Nat) : Int)))) _ _)
       obtain ⟨hv6, hr6⟩ := (hT 6 (by decide) : (Is (.pointer (some ⟨gm, (0 + pl * 1), none⟩))) _ _)
       obtain ⟨hv7, hr7⟩ := (hT 7 (by decide) : (Is (.slice pu C cu)) _ _)
       obtain ⟨hv8, hr8⟩ := (hT 8 (by decide) : (Is (.slice pX n cX)) _ _)
       obtain ⟨hv9, hr9⟩ := (hT 9 (by decide) : (Is (.int .i64 (((r : Nat) : Int)))) _ _)
       obtain ⟨hv10, hr10⟩ := (hT 10 (by decide) : (Is (.pointer (some ⟨gm, (0 + r * 1), none⟩))) _ _)
       obtain ⟨hv11, hr11⟩ := (hT 11 (by decide) : (Is (.slice pj C cj)) _ _)
       obtain ⟨hv12, hr12⟩ := (hT 12 (by decide) : (Is (.pointer (some ⟨gm, (0 + r * 1), none⟩))) _ _)
       simp only [pool, if_true, hr0, hr1, hr2, hr3, hr4, hr5, hr6, hr7, hr8, hr9, hr10, hr11, hr12, List.nil_append, List.cons_append, List.append_nil] at hS
       simp only [layf, hv0, hv1, hv2, hv3, hv4, hv5, hv6, hv7, hv8, hv9, hv10, hv11, hv12] at hf
       subst hf; clear hT hv0 hv1 hv2 hv3 hv4 hv5 hv6 hv7 hv8 hv9 hv10 hv11 hv12 hr0 hr1 hr2 hr3 hr4 hr5 hr6 hr7 hr8 hr9 hr10 hr11 hr12
       obtain hS := hS.take2 hqj hqu (by omega) hnj hnu
       obtain hS := (show Sep w [.rowm pu C cu xu, .lst 52 1 pX n cX (((mmE Q1).set r ⟨[.slice pj C cj], []⟩).set pl ⟨[.slice pu C cu], []⟩), .rowm pj C cj xj, .lst 3 1 pP pl cP (intE P)] w5 from hS.pick [1, 2, 0, 3] (by decide) rfl)
       refine wlate 13 rfl (by kernel_rfl) (ostoreL (i := r) (g := gm) [.slice pu C cu] [.rowm pu C cu xu] Tryd.sizeOf52 hS rfl rfl (ev (v := .pointer (some ⟨gm, (0 + r * 1), none⟩)) rfl rfl) (ev (v := .slice pu C cu) rfl rfl) (rfl) rfl rfl rfl hgm (by omega) rfl ?_)
       clear hS; intro w6 hS
       refine ⟨heldNil, ?_⟩
       refine wlate 14 rfl (by kernel_rfl) (oindex (p := pX) (g := gm) (off := 0) (m := n) (k := pl) (j := (0 + pl * 1)) rfl rfl Tryd.runUnderlying26 Tryd.sizeOf52 (ev rfl rfl) (hgm) (ev rfl rfl) (by omega) rfl ?_)
       refine ⟨heldNil, ?_⟩
       obtain hS := (show Sep w [.rowm pj C cj xj, .lst 52 1 pX n cX ((((mmE Q1).set r ⟨[.slice pj C cj], []⟩).set pl ⟨[.slice pu C cu], []⟩).set r ⟨[.slice pu C cu], [.rowm pu C cu xu]⟩), .lst 3 1 pP pl cP (intE P)] w6 from hS.pick [1, 0, 2] (by decide) rfl)
       refine wlate 15 rfl (by kernel_rfl) (ostoreL (i := pl) (g := gm) [.slice pj C cj] [.rowm pj C cj xj] Tryd.sizeOf52 hS rfl rfl (ev (v := .pointer (some ⟨gm, (0 + pl * 1), none⟩)) rfl rfl) (ev (v := .slice pj C cj) rfl rfl) (rfl) rfl rfl rfl hgm (by omega) rfl ?_)
       clear hS; intro w7 hS
       refine ⟨heldNil, ?_⟩
       refine wdone rfl ?_
       refine thenN ?_
       rw [swap_mm (by omega) hnj hnu] at hS
       exact ⟨_, _, act_sets (l := [(0, .slice pX n cX), (1, .int .u32 (p : Int)), (4, .slice none 0 0), (5, .slice none 0 0), (6, .slice pP pl cP), (7, .int .i64 (c : Int)), (8, .int .i64 (pl : Int))]) ⟨rfl, rfl, rfl, rfl, rfl, rfl, rfl, trivial⟩, hS.pick [0, 1] (by decide) rfl, by rw [nums_set, nums_set]; unfold swapM; rw [hdu, hdj, List.set_comm _ _ (by omega)]⟩
    clear hS; rintro _ w5 ⟨fb, Q2, rfl, hS, hQ2⟩
    refine wseq (wreg (wl rfl (omove (v := .slice pX n cX) rfl rfl (ev rfl rfl) ?_)))
    refine wl rfl (omove (v := .int .i64 (pl : Int)) rfl rfl (ev rfl rfl) ?_)
    have hQ2n : Q2.length = n := by rw [nums_lenE hQ2, swapM_len]; exact hN1
    have s2 : Shp p C (nums Q2) := by rw [hQ2]; exact swapM_shp i2 (by omega) (by omega)
    obtain ⟨gm, hgm⟩ := hS.lstPtr 0 rfl (by omega)
    obtain ⟨⟨ps, cs, xs⟩, hqs⟩ : ∃ q, (Q2)[pl]? = some q := ⟨_, List.getElem?_eq_getElem (by omega)⟩
    have hds : (nums (Q2)).getD pl [] = xs := getD_get (nums_get hqs)
    obtain ⟨hns, hlts⟩ := s2.get (nums_get hqs)
    simp only at hns hlts
    obtain ⟨gs, hgs⟩ := hS.mPtr 0 rfl hqs (by show 0 < xs.length; omega)
    have hxc := nd_lt hlts hp0 (k := c)
    obtain ⟨iv, hiv⟩ : ∃ iv, Hid (pinv p (nd xs c) = iv) := ⟨_, rfl⟩
    have hivp : iv < p := by rw [← hiv.out]; exact Nat.mod_lt _ hp0
    refine wl rfl (oindex (p := pX) (g := gm) (off := 0) (m := n) (k := pl) (j := (0 + pl * 1)) rfl rfl Tryd.runUnderlying26 Tryd.sizeOf52 (ev rfl rfl) (hgm) (ev rfl rfl) (by omega) rfl ?_)
    refine wl rfl (oloadc (v := .slice ps C cs) (show One Tryd.prog 52 from ⟨Tryd.isAgg52, Tryd.sizeOf52⟩) rfl rfl (ev (v := .pointer (some ⟨gm, (0 + pl * 1), none⟩)) rfl rfl) (hS.mRow 0 rfl hqs hns hgm) ?_)
    refine wl rfl (omove (v := .int .i64 (c : Int)) rfl rfl (ev rfl rfl) ?_)
    refine wl rfl (oindex (p := ps) (g := gs) (off := 0) (m := C) (k := c) (j := c) rfl rfl Tryd.runUnderlying52 Tryd.sizeOf27 (ev rfl rfl) (hgs) (ev rfl rfl) (by omega) (by simp) ?_)
    refine wl rfl (oloadc (v := .int .u32 (((nd xs c : Nat) : Int))) one32 rfl rfl (ev (v := .pointer (some ⟨gs, c, none⟩)) rfl rfl) (hS.mCell 0 rfl hqs hgs (by omega)) ?_)
    refine wl rfl (omove (v := .int .u32 (p : Int)) rfl rfl (ev rfl rfl) ?_)
    refine wl rfl (ocall rfl rfl Tryd.call53 rfl ((show Calls _ _ _ _ (Ret (Is (.int .u32 (iv : Int))) _) from by rw [← hiv.out]; exact wsinv (by omega) hp2 (by omega))) (args2 (ev rfl rfl) (ev rfl rfl)) ?_)
    rintro _ w6 ⟨_, _, rfl, ⟨rfl, rfl⟩, hN⟩
    refine ⟨_, rfl, ?_⟩
    replace hS := hS.news hN; clear hN
    refine wl rfl (oassign (v := .int .u32 (iv : Int)) rfl rfl (ev rfl rfl) ?_)
    refine wnil (thenN (wseq (wseq (wreg (wl rfl (omove (v := .slice pX n cX) rfl rfl (ev rfl rfl) ?_))))))
    refine wl rfl (omove (v := .int .i64 (pl : Int)) rfl rfl (ev rfl rfl) ?_)
    refine wl rfl (oindex (p := pX) (g := gm) (off := 0) (m := n) (k := pl) (j := (0 + pl * 1)) rfl rfl Tryd.runUnderlying26 Tryd.sizeOf52 (ev rfl rfl) (hgm) (ev rfl rfl) (by omega) rfl ?_)
    refine wl rfl (oloadc (v := .slice ps C cs) (show One Tryd.prog 52 from ⟨Tryd.isAgg52, Tryd.sizeOf52⟩) rfl rfl (ev (v := .pointer (some ⟨gm, (0 + pl * 1), none⟩)) rfl rfl) (hS.mRow 0 rfl hqs hns hgm) ?_)
    refine wl rfl (olen rfl rfl rfl Tryd.runUnderlying52 (p := ps) (k := C) (m := cs) (ev rfl rfl) ?_)
    refine wl rfl (omove (v := .int .i64 0) rfl rfl evc ?_)
    refine wnil (thenN (wblock ?_))
    rw [← qmix0 (new := scalR p iv xs) hqs] at hS
    refine wloop (σ := Nat) (fun k a9 w' => ∃ (fb : Nat → Value), a9 = act 151 (sets fb [(0, .slice pX n cX), (1, .int .u32 (p : Int)), (4, .slice none 0 0), (5, .slice none 0 0), (6, .slice pP pl cP), (7, .int .i64 (c : Int)), (8, .int .i64 (pl : Int)), (10, .int .u32 (iv : Int)), (74, .int .i64 (C : Int)), (75, .int .i64 (k : Int))]) ∧ Sep w [.lst 52 1 pX n cX (mmE (Q2.set pl ⟨ps, cs, mixR (scalR p iv xs) xs k⟩)), .lst 3 1 pP pl cP (intE P)] w' ∧ (k ≤ C)) (fun k => C - k) (0) ⟨_, act_sets (l := [(0, .slice pX n cX), (1, .int .u32 (p : Int)), (4, .slice none 0 0), (5, .slice none 0 0), (6, .slice pP pl cP), (7, .int .i64 (c : Int)), (8, .int .i64 (pl : Int)), (10, .int .u32 (iv : Int)), (74, .int .i64 (C : Int)), (75, .int .i64 0)]) ⟨rfl, rfl, rfl, rfl, rfl, rfl, rfl, rfl, rfl, rfl, trivial⟩, hS, Nat.zero_le _⟩ ?_
    clear hS; rintro k _ w7 ⟨fb, rfl, hS, hk⟩
    refine wseq (wreg ?_)
    by_cases hlk : k < C
    ·
     have hmx : (mixR (scalR p iv xs) xs k).length = C := by rw [mixR_len (scalR_len ..) (by omega)]; exact hns
     have hmk : nd (mixR (scalR p iv xs) xs k) k = nd xs k := by rw [mixR_nd (scalR_len ..) (by omega), if_neg (Nat.lt_irrefl _)]
     have hxk := nd_lt hlts hp0 (k := k)
     refine wl rfl (obin (u := .int .i64 (k : Int)) (v := .int .i64 (C : Int)) (z := .bool true) rfl rfl (ev rfl rfl) (ev rfl rfl) (bin_lss (decide_eq_true (by omega))) ?_)
     refine wnil (thenN (wseq ?_))
     refine wT (ev rfl rfl) ?_
     refine wskip (thenN (wseq (wblock (wseq (wreg (wl rfl (omove (v := .int .i64 (k : Int)) rfl rfl (ev rfl rfl) ?_)))))))
     refine wl rfl (oassign (v := .int .i64 (k : Int)) rfl rfl (ev rfl rfl) ?_)
     refine wnil (thenN ?_)
     refine wstage 16 [78, 79, 80, 81, 82, 83, 84, 85, 86, 87, 88, 89, 90, 91, 92, 93] [[], [], [0, 1], [2, 0, 1], [], [], [], [5, 6], [7, 5, 6], [], [8, 9, 5, 6, 7], [10, 5, 6, 7, 8, 9], [], [], [11, 12, 13, 5, 6, 7, 8, 9, 10], [3, 4, 0, 1, 2, 5, 6, 7, 8, 9, 10, 11, 12, 13, 14]] [[], [], [], [], [], [], [], [], [], [], [], [], [], [], [], []] [] [] (fun i9 => ([fun _ => Is (.slice pX n cX), fun _ => Is (.int .i64 (pl : Int)), fun _ => Is (.pointer (some ⟨gm, (0 + pl * 1), none⟩)), fun _ => Is (.slice ps C cs), fun _ => Is (.int .i64 (k : Int)), fun _ => Is (.slice pX n cX), fun _ => Is (.int .i64 (pl : Int)), fun _ => Is (.pointer (some ⟨gm, (0 + pl * 1), none⟩)), fun _ => Is (.slice ps C cs), fun _ => Is (.int .i64 (k : Int)), fun _ => Is (.pointer (some ⟨gs, k, none⟩)), fun _ => Is (.int .u32 (((nd (mixR (scalR p iv xs) xs k) k : Nat) : Int))), fun _ => Is (.int .u32 (iv : Int)), fun _ => Is (.int .u32 (p : Int)), fun _ => Is (.int .u32 ((((nd (mixR (scalR p iv xs) xs k) k) * iv % p : Nat) : Int))), fun _ => Is (.pointer (some ⟨gs, k, none⟩))] : List (List Value → Tell)).getD i9 (fun _ _ _ => False)) (heldNil) (fun d _ _ _ _ h => (by cases d <;> exact h)) (by kernel_rfl) (by kernel_rfl) (by kernel_rfl) hS ?_ ?_
     ·
      refine stepsCons rfl (fun Q f' w' ρ S ho hT hS hB => ?_) ?_
      ·exact .inl ⟨want_none rfl, omove (v := .slice pX n cX) rfl rfl (ev rfl (ho 0 rfl)) ⟨_, _, rfl, isI, New.same _⟩⟩
      refine stepsCons rfl (fun Q f' w' ρ S ho hT hS hB => ?_) ?_
      ·exact .inl ⟨want_none rfl, omove (v := .int .i64 (pl : Int)) rfl rfl (ev rfl (ho 8 rfl)) ⟨_, _, rfl, isI, New.same _⟩⟩
      refine stepsCons rfl (fun Q f' w' ρ S ho hT hS hB => ?_) ?_
      ·obtain ⟨hv0, hr0⟩ := (hT 0 78 rfl rfl : (Is (.slice pX n cX)) _ _)
       obtain ⟨hv1, hr1⟩ := (hT 1 79 rfl rfl : (Is (.int .i64 (((pl : Nat) : Int)))) _ _)
       obtain hS := hS.flat2 hr0 hr1
       exact .inl ⟨want_none rfl, oindex (p := pX) (g := gm) (off := 0) (m := n) (k := pl) (j := (0 + pl * 1)) rfl rfl Tryd.runUnderlying26 Tryd.sizeOf52 (ev rfl hv0) (hgm) (ev rfl hv1) (by omega) rfl ⟨_, _, rfl, isI, New.same _⟩⟩
      refine stepsCons rfl (fun Q f' w' ρ S ho hT hS hB => ?_) ?_
      ·obtain ⟨hv2, hr2⟩ := (hT 2 80 rfl rfl : (Is (.pointer (some ⟨gm, (0 + pl * 1), none⟩))) _ _)
       obtain hS := hS.flat1 hr2
       exact .inl ⟨want_none rfl, oloadc (v := .slice ps C cs) (show One Tryd.prog 52 from ⟨Tryd.isAgg52, Tryd.sizeOf52⟩) rfl rfl (ev (v := .pointer (some ⟨gm, (0 + pl * 1), none⟩)) rfl hv2) (hS.mRow 0 rfl (qset_self hqs) hmx hgm) ⟨_, _, rfl, isI, New.same _⟩⟩
      refine stepsCons rfl (fun Q f' w' ρ S ho hT hS hB => ?_) ?_
      ·exact .inl ⟨want_none rfl, omove (v := .int .i64 (k : Int)) rfl rfl (ev rfl (ho 11 rfl)) ⟨_, _, rfl, isI, New.same _⟩⟩
      refine stepsCons rfl (fun Q f' w' ρ S ho hT hS hB => ?_) ?_
      ·exact .inl ⟨want_none rfl, omove (v := .slice pX n cX) rfl rfl (ev rfl (ho 0 rfl)) ⟨_, _, rfl, isI, New.same _⟩⟩
      refine stepsCons rfl (fun Q f' w' ρ S ho hT hS hB => ?_) ?_
      ·exact .inl ⟨want_none rfl, omove (v := .int .i64 (pl : Int)) rfl rfl (ev rfl (ho 8 rfl)) ⟨_, _, rfl, isI, New.same _⟩⟩
      refine stepsCons rfl (fun Q f' w' ρ S ho hT hS hB => ?_) ?_
      ·obtain ⟨hv5, hr5⟩ := (hT 5 83 rfl rfl : (Is (.slice pX n cX)) _ _)
       obtain ⟨hv6, hr6⟩ := (hT 6 84 rfl rfl : (Is (.int .i64 (((pl : Nat) : Int)))) _ _)
       obtain hS := hS.flat2 hr5 hr6
       exact .inl ⟨want_none rfl, oindex (p := pX) (g := gm) (off := 0) (m := n) (k := pl) (j := (0 + pl * 1)) rfl rfl Tryd.runUnderlying26 Tryd.sizeOf52 (ev rfl hv5) (hgm) (ev rfl hv6) (by omega) rfl ⟨_, _, rfl, isI, New.same _⟩⟩
      refine stepsCons rfl (fun Q f' w' ρ S ho hT hS hB => ?_) ?_
      ·obtain ⟨hv7, hr7⟩ := (hT 7 85 rfl rfl : (Is (.pointer (some ⟨gm, (0 + pl * 1), none⟩))) _ _)
       obtain hS := hS.flat1 hr7
       exact .inl ⟨want_none rfl, oloadc (v := .slice ps C cs) (show One Tryd.prog 52 from ⟨Tryd.isAgg52, Tryd.sizeOf52⟩) rfl rfl (ev (v := .pointer (some ⟨gm, (0 + pl * 1), none⟩)) rfl hv7) (hS.mRow 0 rfl (qset_self hqs) hmx hgm) ⟨_, _, rfl, isI, New.same _⟩⟩
      refine stepsCons rfl (fun Q f' w' ρ S ho hT hS hB => ?_) ?_
      ·exact .inl ⟨want_none rfl, omove (v := .int .i64 (k : Int)) rfl rfl (ev rfl (ho 11 rfl)) ⟨_, _, rfl, isI, New.same _⟩⟩
      refine stepsCons rfl (fun Q f' w' ρ S ho hT hS hB => ?_) ?_
      ·obtain ⟨hv8, hr8⟩ := (hT 8 86 rfl rfl : (Is (.slice ps C cs)) _ _)
       obtain ⟨hv9, hr9⟩ := (hT 9 87 rfl rfl : (Is (.int .i64 (((k : Nat) : Int)))) _ _)
       obtain hS := hS.flat2 hr8 hr9
       exact .inl ⟨want_none rfl, oindex (p := ps) (g := gs) (off := 0) (m := C) (k := k) (j := k) rfl rfl Tryd.runUnderlying52 Tryd.sizeOf27 (ev rfl hv8) (hgs) (ev rfl hv9) (by omega) (by simp) ⟨_, _, rfl, isI, New.same _⟩⟩
      refine stepsCons rfl (fun Q f' w' ρ S ho hT hS hB => ?_) ?_
      ·obtain ⟨hv10, hr10⟩ := (hT 10 88 rfl rfl : (Is (.pointer (some ⟨gs, k, none⟩))) _ _)
       obtain hS := hS.flat1 hr10
       exact .inl ⟨want_none rfl, oloadc (v := .int .u32 (((nd (mixR (scalR p iv xs) xs k) k : Nat) : Int))) one32 rfl rfl (ev (v := .pointer (some ⟨gs, k, none⟩)) rfl hv10) (hS.mCell 0 rfl (qset_self hqs) hgs (by omega)) ⟨_, _, rfl, isI, New.same _⟩⟩
      refine stepsCons rfl (fun Q f' w' ρ S ho hT hS hB => ?_) ?_
      ·exact .inl ⟨want_none rfl, omove (v := .int .u32 (iv : Int)) rfl rfl (ev rfl (ho 10 rfl)) ⟨_, _, rfl, isI, New.same _⟩⟩
      refine stepsCons rfl (fun Q f' w' ρ S ho hT hS hB => ?_) ?_
      ·exact .inl ⟨want_none rfl, omove (v := .int .u32 (p : Int)) rfl rfl (ev rfl (ho 1 rfl)) ⟨_, _, rfl, isI, New.same _⟩⟩
      refine stepsCons rfl (fun Q f' w' ρ S ho hT hS hB => ?_) ?_
      ·obtain ⟨hv11, hr11⟩ := (hT 11 89 rfl rfl : (Is (.int .u32 (((nd (mixR (scalR p iv xs) xs k) k : Nat) : Int)))) _ _)
       obtain ⟨hv12, hr12⟩ := (hT 12 90 rfl rfl : (Is (.int .u32 (((iv : Nat) : Int)))) _ _)
       obtain ⟨hv13, hr13⟩ := (hT 13 91 rfl rfl : (Is (.int .u32 (((p : Nat) : Int)))) _ _)
       obtain hS := hS.flat3 hr11 hr12 hr13
       exact .inl ⟨want_none rfl, ocall rfl rfl Tryd.call52 rfl (wsmul (a := (nd (mixR (scalR p iv xs) xs k) k)) (b := iv) (n := p) (by omega) (by omega) hp0 hp2) (args3 (ev rfl hv11) (ev rfl hv12) (ev rfl hv13)) callN⟩
      refine stepsCons rfl (fun Q f' w' ρ S ho hT hS hB => ?_) ?_
      ·obtain ⟨hv3, hr3⟩ := (hT 3 81 rfl rfl : (Is (.slice ps C cs)) _ _)
       obtain ⟨hv4, hr4⟩ := (hT 4 82 rfl rfl : (Is (.int .i64 (((k : Nat) : Int)))) _ _)
       obtain hS := hS.flat2 hr3 hr4
       exact .inl ⟨want_none rfl, oindex (p := ps) (g := gs) (off := 0) (m := C) (k := k) (j := k) rfl rfl Tryd.runUnderlying52 Tryd.sizeOf27 (ev rfl hv3) (hgs) (ev rfl hv4) (by omega) (by simp) ⟨_, _, rfl, isI, New.same _⟩⟩
      exact stepsNil
     ·
      intro vs ρ w8 f' hf hT hS
      obtain ⟨hv0, hr0⟩ := (hT 0 (by decide) : (Is (.slice pX n cX)) _ _)
      obtain ⟨hv1, hr1⟩ := (hT 1 (by decide) : (Is (.int .i64 (((pl : Nat) : Int)))) _ _)
      obtain ⟨hv2, hr2⟩ := (hT 2 (by decide) : (Is (.pointer (some ⟨gm, (0 + pl * 1), none⟩))) _ _)
      obtain ⟨hv3, hr3⟩ := (hT 3 (by decide) : (Is (.slice ps C cs)) _ _)
      obtain ⟨hv4, hr4⟩ := (hT 4 (by decide) : (Is (.int .i64 (((k : Nat) : Int)))) _ _)
      obtain ⟨hv5, hr5⟩ := (hT 5 (by decide) : (Is (.slice pX n cX)) _ _)
      obtain ⟨hv6, hr6⟩ := (hT 6 (by decide) : (Is (.int .i64 (((pl : Nat) : Int)))) _ _)
      obtain ⟨hv7, hr7⟩ := (hT 7 (by decide) : (Is (.pointer (some ⟨gm, (0 + pl * 1), none⟩))) _ _)
      obtain ⟨hv8, hr8⟩ := (hT 8 (by decide) : (Is (.slice ps C cs)) _ _)
      obtain ⟨hv9, hr9⟩ := (hT 9 (by decide) : (Is (.int .i64 (((k : Nat) : Int)))) _ _)
      obtain ⟨hv10, hr10⟩ := (hT 10 (by decide) : (Is (.pointer (some ⟨gs, k, none⟩))) _ _)
      obtain ⟨hv11, hr11⟩ := (hT 11 (by decide) : (Is (.int .u32 (((nd (mixR (scalR p iv xs) xs k) k : Nat) : Int)))) _ _)
      obtain ⟨hv12, hr12⟩ := (hT 12 (by decide) : (Is (.int .u32 (((iv : Nat) : Int)))) _ _)
      obtain ⟨hv13, hr13⟩ := (hT 13 (by decide) : (Is (.int .u32 (((p : Nat) : Int)))) _ _)
      obtain ⟨hv14, hr14⟩ := (hT 14 (by decide) : (Is (.int .u32 ((((nd (mixR (scalR p iv xs) xs k) k) * iv % p : Nat) : Int)))) _ _)
      obtain ⟨hv15, hr15⟩ := (hT 15 (by decide) : (Is (.pointer (some ⟨gs, k, none⟩))) _ _)
      simp only [pool, if_true, hr0, hr1, hr2, hr3, hr4, hr5, hr6, hr7, hr8, hr9, hr10, hr11, hr12, hr13, hr14, hr15, List.nil_append, List.cons_append, List.append_nil] at hS
      simp only [layf, hv0, hv1, hv2, hv3, hv4, hv5, hv6, hv7, hv8, hv9, hv10, hv11, hv12, hv13, hv14, hv15] at hf
      subst hf; clear hT hv0 hv1 hv2 hv3 hv4 hv5 hv6 hv7 hv8 hv9 hv10 hv11 hv12 hv13 hv14 hv15 hr0 hr1 hr2 hr3 hr4 hr5 hr6 hr7 hr8 hr9 hr10 hr11 hr12 hr13 hr14 hr15
      refine wlate 16 rfl (by kernel_rfl) (ostoreM (i := pl) (g := gs) (k := k) (u := ((nd (mixR (scalR p iv xs) xs k) k) * iv % p)) Tryd.sizeOf27 hS rfl rfl (ev (v := .pointer (some ⟨gs, k, none⟩)) rfl rfl) (ev (v := .int .u32 ((((nd (mixR (scalR p iv xs) xs k) k) * iv % p : Nat) : Int))) rfl rfl) (qset_self hqs) hgs (show k < List.length (mixR (scalR p iv xs) xs k) by omega) (by have := Nat.mod_lt (nd (mixR (scalR p iv xs) xs k) k * iv) hp0; omega) ?_)
      clear hS; intro w9 hS
      refine ⟨heldNil, ?_⟩
      refine wdone rfl ?_
      refine blkN (thenN (wreg (wl rfl (obin (u := .int .i64 (k : Int)) (v := .int .i64 1) (z := .int .i64 (((k + 1 : Nat) : Int))) rfl rfl (ev rfl rfl) evc (bin_add (wrap_i64 (by omega) (by omega))) ?_))))
      refine wl rfl (omove (v := .int .i64 (((k + 1 : Nat) : Int))) rfl rfl (ev rfl rfl) ?_)
      refine wnil (thenN ?_)
      rw [qmix_next (scalR_len ..) (by omega) (by rw [scalR_nd, hmk])] at hS
      exact ⟨(k + 1), ⟨_, act_sets (l := [(0, .slice pX n cX), (1, .int .u32 (p : Int)), (4, .slice none 0 0), (5, .slice none 0 0), (6, .slice pP pl cP), (7, .int .i64 (c : Int)), (8, .int .i64 (pl : Int)), (10, .int .u32 (iv : Int)), (74, .int .i64 (C : Int)), (75, .int .i64 (((k + 1 : Nat) : Int)))]) ⟨rfl, rfl, rfl, rfl, rfl, rfl, rfl, rfl, rfl, rfl, trivial⟩, hS.pick [0, 1] (by decide) rfl, by omega⟩, by omega⟩
    ·
     refine wl rfl (obin (u := .int .i64 (k : Int)) (v := .int .i64 (C : Int)) (z := .bool false) rfl rfl (ev rfl rfl) (ev rfl rfl) (bin_lss (decide_eq_false (by omega))) ?_)
     refine wnil (thenN (wseq ?_))
     refine wF (ev rfl rfl) ?_
     refine wexit ?_
     refine thenE ?_
     refine thenE ?_
     refine blkE ?_
     refine thenN (wseq (wseq (wreg (wl rfl (omove (v := .slice pX n cX) rfl rfl (ev rfl rfl) ?_)))))
     refine wl rfl (olen rfl rfl rfl Tryd.runUnderlying26 (p := pX) (k := n) (m := cX) (ev rfl rfl) ?_)
     refine wl rfl (omove (v := .int .i64 0) rfl rfl evc ?_)
     refine wnil (thenN (wblock ?_))
     rw [mixR_full (scalR_len ..) (by omega)] at hS
     obtain ⟨Q3, hQ3⟩ : ∃ Q, Q2.set pl ⟨ps, cs, scalR p iv xs⟩ = Q := ⟨_, rfl⟩
     rw [hQ3] at hS
     have hQ3n : nums Q3 = normM p pl c (nums Q2) := by rw [← hQ3, nums_set]; unfold normM; rw [hds, hiv.out]
     have s3 : Shp p C (nums Q3) := by rw [hQ3n]; exact normM_shp s2 hp0 (by rw [nums_len]; omega)
     have hN3 : (nums Q3).length = n := by rw [hQ3n, normM_len, nums_len]; exact hQ2n
     refine wloop (σ := Nat) (fun i a9 w' => ∃ (fb : Nat → Value) (Qi : List Rw), a9 = act 151 (sets fb [(0, .slice pX n cX), (1, .int .u32 (p : Int)), (4, .slice none 0 0), (5, .slice none 0 0), (6, .slice pP pl cP), (7, .int .i64 (c : Int)), (8, .int .i64 (pl : Int)), (96, .int .i64 (n : Int)), (97, .int .i64 (i : Int))]) ∧ Sep w [.lst 52 1 pX n cX (mmE Qi), .lst 3 1 pP pl cP (intE P)] w' ∧ (i ≤ n) ∧ (nums Qi = elimM p pl c (nums Q3) i)) (fun i => n - i) (0) ⟨_, Q3, act_sets (l := [(0, .slice pX n cX), (1, .int .u32 (p : Int)), (4, .slice none 0 0), (5, .slice none 0 0), (6, .slice pP pl cP), (7, .int .i64 (c : Int)), (8, .int .i64 (pl : Int)), (96, .int .i64 (n : Int)), (97, .int .i64 0)]) ⟨rfl, rfl, rfl, rfl, rfl, rfl, rfl, rfl, rfl, trivial⟩, hS, Nat.zero_le _, rfl⟩ ?_
     clear hS; rintro i _ w8 ⟨fb, Qi, rfl, hS, hi, hQi⟩
     refine wseq (wreg ?_)
     by_cases hli : i < n
     ·
      have si : Shp p C (nums Qi) := by rw [hQi]; exact elimM_shp s3 hp0 (by omega) i (by omega)
      have hQin : Qi.length = n := by rw [nums_lenE hQi, elimM_len]; exact hN3
      refine wl rfl (obin (u := .int .i64 (i : Int)) (v := .int .i64 (n : Int)) (z := .bool true) rfl rfl (ev rfl rfl) (ev rfl rfl) (bin_lss (decide_eq_true (by omega))) ?_)
      refine wnil (thenN (wseq ?_))
      refine wT (ev rfl rfl) ?_
      refine wskip (thenN (wseq (wblock (wseq (wreg (wl rfl (omove (v := .int .i64 (i : Int)) rfl rfl (ev rfl rfl) ?_)))))))
      refine wl rfl (oassign (v := .int .i64 (i : Int)) rfl rfl (ev rfl rfl) ?_)
      refine wnil (thenN (wseq (wseq (wreg (wl rfl (omove (v := .int .i64 (i : Int)) rfl rfl (ev rfl rfl) ?_))))))
      refine wl rfl (omove (v := .int .i64 (pl : Int)) rfl rfl (ev rfl rfl) ?_)
      obtain ⟨⟨pa, ca, xa⟩, hqa⟩ : ∃ q, (Qi)[i]? = some q := ⟨_, List.getElem?_eq_getElem (by omega)⟩
      have hda : (nums (Qi)).getD i [] = xa := getD_get (nums_get hqa)
      obtain ⟨hna, hlta⟩ := si.get (nums_get hqa)
      simp only at hna hlta
      obtain ⟨ga, hga⟩ := hS.mPtr 0 rfl hqa (by show 0 < xa.length; omega)
      obtain ⟨⟨pb, cb, xb⟩, hqb⟩ : ∃ q, (Qi)[pl]? = some q := ⟨_, List.getElem?_eq_getElem (by omega)⟩
      have hdb : (nums (Qi)).getD pl [] = xb := getD_get (nums_get hqb)
      obtain ⟨hnb, hltb⟩ := si.get (nums_get hqb)
      simp only at hnb hltb
      obtain ⟨gb, hgb⟩ := hS.mPtr 0 rfl hqb (by show 0 < xb.length; omega)
      have hxc9 := nd_lt hlta hp0 (k := c)
      by_cases hir : i = pl
      ·
       refine wl rfl (obin (u := .int .i64 (i : Int)) (v := .int .i64 (pl : Int)) (z := .bool true) rfl rfl (ev rfl rfl) (ev rfl rfl) (bin_eql (eqT (by omega))) ?_)
       refine wnil (thenN ?_)
       refine wT (ev rfl rfl) ?_
       refine wexit ?_
       refine thenE ?_
       refine blkE ?_
       refine thenN (wreg (wl rfl (obin (u := .int .i64 (i : Int)) (v := .int .i64 1) (z := .int .i64 (((i + 1 : Nat) : Int))) rfl rfl (ev rfl rfl) evc (bin_add (wrap_i64 (by omega) (by omega))) ?_)))
       refine wl rfl (omove (v := .int .i64 (((i + 1 : Nat) : Int))) rfl rfl (ev rfl rfl) ?_)
       refine wnil (thenN ?_)
       exact ⟨(i + 1), ⟨_, _, act_sets (l := [(0, .slice pX n cX), (1, .int .u32 (p : Int)), (4, .slice none 0 0), (5, .slice none 0 0), (6, .slice pP pl cP), (7, .int .i64 (c : Int)), (8, .int .i64 (pl : Int)), (96, .int .i64 (n : Int)), (97, .int .i64 (((i + 1 : Nat) : Int)))]) ⟨rfl, rfl, rfl, rfl, rfl, rfl, rfl, rfl, rfl, trivial⟩, hS.pick [0, 1] (by decide) rfl, by omega, by rw [elimM_skip s3 hp0 (by omega) (by omega) (.inl hir)]; exact hQi⟩, by omega⟩
      ·
       refine wl rfl (obin (u := .int .i64 (i : Int)) (v := .int .i64 (pl : Int)) (z := .bool false) rfl rfl (ev rfl rfl) (ev rfl rfl) (bin_eql (eqF (by omega))) ?_)
       refine wnil (thenN ?_)
       refine wF (ev rfl rfl) ?_
       refine wskip (thenN (wseq (wreg (wl rfl (omove (v := .slice pX n cX) rfl rfl (ev rfl rfl) ?_)))))
       refine wl rfl (omove (v := .int .i64 (i : Int)) rfl rfl (ev rfl rfl) ?_)
       refine wl rfl (oindex (p := pX) (g := gm) (off := 0) (m := n) (k := i) (j := (0 + i * 1)) rfl rfl Tryd.runUnderlying26 Tryd.sizeOf52 (ev rfl rfl) (hgm) (ev rfl rfl) (by omega) rfl ?_)
       refine wl rfl (oloadc (v := .slice pa C ca) (show One Tryd.prog 52 from ⟨Tryd.isAgg52, Tryd.sizeOf52⟩) rfl rfl (ev (v := .pointer (some ⟨gm, (0 + i * 1), none⟩)) rfl rfl) (hS.mRow 0 rfl hqa hna hgm) ?_)
       refine wl rfl (omove (v := .int .i64 (c : Int)) rfl rfl (ev rfl rfl) ?_)
       refine wl rfl (oindex (p := pa) (g := ga) (off := 0) (m := C) (k := c) (j := c) rfl rfl Tryd.runUnderlying52 Tryd.sizeOf27 (ev rfl rfl) (hga) (ev rfl rfl) (by omega) (by simp) ?_)
       refine wl rfl (oloadc (v := .int .u32 (((nd xa c : Nat) : Int))) one32 rfl rfl (ev (v := .pointer (some ⟨ga, c, none⟩)) rfl rfl) (hS.mCell 0 rfl hqa hga (by omega)) ?_)
       refine wl rfl (oassign (v := .int .u32 (((nd xa c : Nat) : Int))) rfl rfl (ev rfl rfl) ?_)
       refine wnil (thenN (wseq (wreg (wl rfl (omove (v := .slice pX n cX) rfl rfl (ev rfl rfl) ?_)))))
       refine wl rfl (omove (v := .int .i64 (i : Int)) rfl rfl (ev rfl rfl) ?_)
       refine wl rfl (oindex (p := pX) (g := gm) (off := 0) (m := n) (k := i) (j := (0 + i * 1)) rfl rfl Tryd.runUnderlying26 Tryd.sizeOf52 (ev rfl rfl) (hgm) (ev rfl rfl) (by omega) rfl ?_)
       refine wl rfl (oloadc (v := .slice pa C ca) (show One Tryd.prog 52 from ⟨Tryd.isAgg52, Tryd.sizeOf52⟩) rfl rfl (ev (v := .pointer (some ⟨gm, (0 + i * 1), none⟩)) rfl rfl) (hS.mRow 0 rfl hqa hna hgm) ?_)
       refine wl rfl (olen rfl rfl rfl Tryd.runUnderlying52 (p := pa) (k := C) (m := ca) (ev rfl rfl) ?_)
       refine wl rfl (omove (v := .int .i64 0) rfl rfl evc ?_)
       refine wnil (thenN (wblock ?_))
       rw [← qmix0 (new := lessR p (nd xa c) xa xb) hqa] at hS
       refine wloop (σ := Nat) (fun k a9 w' => ∃ (fb : Nat → Value), a9 = act 151 (sets fb [(0, .slice pX n cX), (1, .int .u32 (p : Int)), (4, .slice none 0 0), (5, .slice none 0 0), (6, .slice pP pl cP), (7, .int .i64 (c : Int)), (8, .int .i64 (pl : Int)), (12, .int .i64 (i : Int)), (13, .int .u32 (((nd xa c : Nat) : Int))), (96, .int .i64 (n : Int)), (97, .int .i64 (i : Int)), (114, .int .i64 (C : Int)), (115, .int .i64 (k : Int))]) ∧ Sep w [.lst 52 1 pX n cX (mmE (Qi.set i ⟨pa, ca, mixR (lessR p (nd xa c) xa xb) xa k⟩)), .lst 3 1 pP pl cP (intE P)] w' ∧ (k ≤ C)) (fun k => C - k) (0) ⟨_, act_sets (l := [(0, .slice pX n cX), (1, .int .u32 (p : Int)), (4, .slice none 0 0), (5, .slice none 0 0), (6, .slice pP pl cP), (7, .int .i64 (c : Int)), (8, .int .i64 (pl : Int)), (12, .int .i64 (i : Int)), (13, .int .u32 (((nd xa c : Nat) : Int))), (96, .int .i64 (n : Int)), (97, .int .i64 (i : Int)), (114, .int .i64 (C : Int)), (115, .int .i64 0)]) ⟨rfl, rfl, rfl, rfl, rfl, rfl, rfl, rfl, rfl, rfl, rfl, rfl, rfl, trivial⟩, hS, Nat.zero_le _⟩ ?_
       clear hS; rintro k _ w9 ⟨fb, rfl, hS, hk⟩
       refine wseq (wreg ?_)
       by_cases hlk : k < C
       ·
        have hmx : (mixR (lessR p (nd xa c) xa xb) xa k).length = C := by rw [mixR_len (lessR_len (by omega)) (by omega)]; exact hna
        have hmk : nd (mixR (lessR p (nd xa c) xa xb) xa k) k = nd xa k := by rw [mixR_nd (lessR_len (by omega)) (by omega), if_neg (Nat.lt_irrefl _)]
        have hxk := nd_lt hlta hp0 (k := k)
        have hyk := nd_lt hltb hp0 (k := k)
        have hml := Nat.mod_lt (nd xa c * nd xb k) hp0
        refine wl rfl (obin (u := .int .i64 (k : Int)) (v := .int .i64 (C : Int)) (z := .bool true) rfl rfl (ev rfl rfl) (ev rfl rfl) (bin_lss (decide_eq_true (by omega))) ?_)
        refine wnil (thenN (wseq ?_))
        refine wT (ev rfl rfl) ?_
        refine wskip (thenN (wseq (wblock (wseq (wreg (wl rfl (omove (v := .int .i64 (k : Int)) rfl rfl (ev rfl rfl) ?_)))))))
        refine wl rfl (oassign (v := .int .i64 (k : Int)) rfl rfl (ev rfl rfl) ?_)
        refine wnil (thenN ?_)
        refine wstage 25 [118, 119, 120, 121, 122, 123, 124, 125, 126, 127, 128, 129, 130, 131, 132, 133, 134, 135, 136, 137, 138, 139, 140, 141, 142] [[], [], [0, 1], [2, 0, 1], [], [], [], [5, 6], [7, 5, 6], [], [8, 9, 5, 6, 7], [10, 5, 6, 7, 8, 9], [], [], [], [13, 14], [15, 13, 14], [], [16, 17, 13, 14, 15], [18, 13, 14, 15, 16, 17], [], [12, 19, 20, 13, 14, 15, 16, 17, 18], [], [11, 21, 22, 5, 6, 7, 8, 9, 10, 12, 13, 14, 15, 16, 17, 18, 19, 20], [3, 4, 0, 1, 2, 5, 6, 7, 8, 9, 10, 11, 12, 13, 14, 15, 16, 17, 18, 19, 20, 21, 22, 23]] [[], [], [], [], [], [], [], [], [], [], [], [], [], [], [], [], [], [], [], [], [], [], [], [], []] [] [] (fun i9 => ([fun _ => Is (.slice pX n cX), fun _ => Is (.int .i64 (i : Int)), fun _ => Is (.pointer (some ⟨gm, (0 + i * 1), none⟩)), fun _ => Is (.slice pa C ca), fun _ => Is (.int .i64 (k : Int)), fun _ => Is (.slice pX n cX), fun _ => Is (.int .i64 (i : Int)), fun _ => Is (.pointer (some ⟨gm, (0 + i * 1), none⟩)), fun _ => Is (.slice pa C ca), fun _ => Is (.int .i64 (k : Int)), fun _ => Is (.pointer (some ⟨ga, k, none⟩)), fun _ => Is (.int .u32 (((nd (mixR (lessR p (nd xa c) xa xb) xa k) k : Nat) : Int))), fun _ => Is (.int .u32 (((nd xa c : Nat) : Int))), fun _ => Is (.slice pX n cX), fun _ => Is (.int .i64 (pl : Int)), fun _ => Is (.pointer (some ⟨gm, (0 + pl * 1), none⟩)), fun _ => Is (.slice pb C cb), fun _ => Is (.int .i64 (k : Int)), fun _ => Is (.pointer (some ⟨gb, k, none⟩)), fun _ => Is (.int .u32 (((nd xb k : Nat) : Int))), fun _ => Is (.int .u32 (p : Int)), fun _ => Is (.int .u32 ((((nd xa c) * (nd xb k) % p : Nat) : Int))), fun _ => Is (.int .u32 (p : Int)), fun _ => Is (.int .u32 (((((nd (mixR (lessR p (nd xa c) xa xb) xa k) k) + p - ((nd xa c) * (nd xb k) % p)) % p : Nat) : Int))), fun _ => Is (.pointer (some ⟨ga, k, none⟩))] : List (List Value → Tell)).getD i9 (fun _ _ _ => False)) (heldNil) (fun d _ _ _ _ h => (by cases d <;> exact h)) (by kernel_rfl) (by kernel_rfl) (by kernel_rfl) hS ?_ ?_
        ·
         refine stepsCons rfl (fun Q f' w' ρ S ho hT hS hB => ?_) ?_
         ·exact .inl ⟨want_none rfl, omove (v := .slice pX n cX) rfl rfl (ev rfl (ho 0 rfl)) ⟨_, _, rfl, isI, New.same _⟩⟩
         refine stepsCons rfl (fun Q f' w' ρ S ho hT hS hB => ?_) ?_
         ·exact .inl ⟨want_none rfl, omove (v := .int .i64 (i : Int)) rfl rfl (ev rfl (ho 12 rfl)) ⟨_, _, rfl, isI, New.same _⟩⟩
         refine stepsCons rfl (fun Q f' w' ρ S ho hT hS hB => ?_) ?_
         ·obtain ⟨hv0, hr0⟩ := (hT 0 118 rfl rfl : (Is (.slice pX n cX)) _ _)
          obtain ⟨hv1, hr1⟩ := (hT 1 119 rfl rfl : (Is (.int .i64 (((i : Nat) : Int)))) _ _)
          obtain hS := hS.flat2 hr0 hr1
          exact .inl ⟨want_none rfl, oindex (p := pX) (g := gm) (off := 0) (m := n) (k := i) (j := (0 + i * 1)) rfl rfl Tryd.runUnderlying26 Tryd.sizeOf52 (ev rfl hv0) (hgm) (ev rfl hv1) (by omega) rfl ⟨_, _, rfl, isI, New.same _⟩⟩
         refine stepsCons rfl (fun Q f' w' ρ S ho hT hS hB => ?_) ?_
         ·obtain ⟨hv2, hr2⟩ := (hT 2 120 rfl rfl : (Is (.pointer (some ⟨gm, (0 + i * 1), none⟩))) _ _)
          obtain hS := hS.flat1 hr2
          exact .inl ⟨want_none rfl, oloadc (v := .slice pa C ca) (show One Tryd.prog 52 from ⟨Tryd.isAgg52, Tryd.sizeOf52⟩) rfl rfl (ev (v := .pointer (some ⟨gm, (0 + i * 1), none⟩)) rfl hv2) (hS.mRow 0 rfl (qset_self hqa) hmx hgm) ⟨_, _, rfl, isI, New.same _⟩⟩
         refine stepsCons rfl (fun Q f' w' ρ S ho hT hS hB => ?_) ?_
         ·exact .inl ⟨want_none rfl, omove (v := .int .i64 (k : Int)) rfl rfl (ev rfl (ho 14 rfl)) ⟨_, _, rfl, isI, New.same _⟩⟩
         refine stepsCons rfl (fun Q f' w' ρ S ho hT hS hB => ?_) ?_
         ·exact .inl ⟨want_none rfl, omove (v := .slice pX n cX) rfl rfl (ev rfl (ho 0 rfl)) ⟨_, _, rfl, isI, New.same _⟩⟩
         refine stepsCons rfl (fun Q f' w' ρ S ho hT hS hB => ?_) ?_
         ·exact .inl ⟨want_none rfl, omove (v := .int .i64 (i : Int)) rfl rfl (ev rfl (ho 12 rfl)) ⟨_, _, rfl, isI, New.same _⟩⟩
         refine stepsCons rfl (fun Q f' w' ρ S ho hT hS hB => ?_) ?_
         ·obtain ⟨hv5, hr5⟩ := (hT 5 123 rfl rfl : (Is (.slice pX n cX)) _ _)
          obtain ⟨hv6, hr6⟩ := (hT 6 124 rfl rfl : (Is (.int .i64 (((i : Nat) : Int)))) _ _)
          obtain hS := hS.flat2 hr5 hr6
          exact .inl ⟨want_none rfl, oindex (p := pX) (g := gm) (off := 0) (m := n) (k := i) (j := (0 + i * 1)) rfl rfl Tryd.runUnderlying26 Tryd.sizeOf52 (ev rfl hv5) (hgm) (ev rfl hv6) (by omega) rfl ⟨_, _, rfl, isI, New.same _⟩⟩
         refine stepsCons rfl (fun Q f' w' ρ S ho hT hS hB => ?_) ?_
         ·obtain ⟨hv7, hr7⟩ := (hT 7 125 rfl rfl : (Is (.pointer (some ⟨gm, (0 + i * 1), none⟩))) _ _)
          obtain hS := hS.flat1 hr7
          exact .inl ⟨want_none rfl, oloadc (v := .slice pa C ca) (show One Tryd.prog 52 from ⟨Tryd.isAgg52, Tryd.sizeOf52⟩) rfl rfl (ev (v := .pointer (some ⟨gm, (0 + i * 1), none⟩)) rfl hv7) (hS.mRow 0 rfl (qset_self hqa) hmx hgm) ⟨_, _, rfl, isI, New.same _⟩⟩
         refine stepsCons rfl (fun Q f' w' ρ S ho hT hS hB => ?_) ?_
         ·exact .inl ⟨want_none rfl, omove (v := .int .i64 (k : Int)) rfl rfl (ev rfl (ho 14 rfl)) ⟨_, _, rfl, isI, New.same _⟩⟩
         refine stepsCons rfl (fun Q f' w' ρ S ho hT hS hB => ?_) ?_
         ·obtain ⟨hv8, hr8⟩ := (hT 8 126 rfl rfl : (Is (.slice pa C ca)) _ _)
          obtain ⟨hv9, hr9⟩ := (hT 9 127 rfl rfl : (Is (.int .i64 (((k : Nat) : Int)))) _ _)
          obtain hS := hS.flat2 hr8 hr9
          exact .inl ⟨want_none rfl, oindex (p := pa) (g := ga) (off := 0) (m := C) (k := k) (j := k) rfl rfl Tryd.runUnderlying52 Tryd.sizeOf27 (ev rfl hv8) (hga) (ev rfl hv9) (by omega) (by simp) ⟨_, _, rfl, isI, New.same _⟩⟩
         refine stepsCons rfl (fun Q f' w' ρ S ho hT hS hB => ?_) ?_
         ·obtain ⟨hv10, hr10⟩ := (hT 10 128 rfl rfl : (Is (.pointer (some ⟨ga, k, none⟩))) _ _)
          obtain hS := hS.flat1 hr10
          exact .inl ⟨want_none rfl, oloadc (v := .int .u32 (((nd (mixR (lessR p (nd xa c) xa xb) xa k) k : Nat) : Int))) one32 rfl rfl (ev (v := .pointer (some ⟨ga, k, none⟩)) rfl hv10) (hS.mCell 0 rfl (qset_self hqa) hga (by omega)) ⟨_, _, rfl, isI, New.same _⟩⟩
         refine stepsCons rfl (fun Q f' w' ρ S ho hT hS hB => ?_) ?_
         ·exact .inl ⟨want_none rfl, omove (v := .int .u32 (((nd xa c : Nat) : Int))) rfl rfl (ev rfl (ho 13 rfl)) ⟨_, _, rfl, isI, New.same _⟩⟩
         refine stepsCons rfl (fun Q f' w' ρ S ho hT hS hB => ?_) ?_
         ·exact .inl ⟨want_none rfl, omove (v := .slice pX n cX) rfl rfl (ev rfl (ho 0 rfl)) ⟨_, _, rfl, isI, New.same _⟩⟩
         refine stepsCons rfl (fun Q f' w' ρ S ho hT hS hB => ?_) ?_
         ·exact .inl ⟨want_none rfl, omove (v := .int .i64 (pl : Int)) rfl rfl (ev rfl (ho 8 rfl)) ⟨_, _, rfl, isI, New.same _⟩⟩
         refine stepsCons rfl (fun Q f' w' ρ S ho hT hS hB => ?_) ?_
         ·obtain ⟨hv13, hr13⟩ := (hT 13 131 rfl rfl : (Is (.slice pX n cX)) _ _)
          obtain ⟨hv14, hr14⟩ := (hT 14 132 rfl rfl : (Is (.int .i64 (((pl : Nat) : Int)))) _ _)
          obtain hS := hS.flat2 hr13 hr14
          exact .inl ⟨want_none rfl, oindex (p := pX) (g := gm) (off := 0) (m := n) (k := pl) (j := (0 + pl * 1)) rfl rfl Tryd.runUnderlying26 Tryd.sizeOf52 (ev rfl hv13) (hgm) (ev rfl hv14) (by omega) rfl ⟨_, _, rfl, isI, New.same _⟩⟩
         refine stepsCons rfl (fun Q f' w' ρ S ho hT hS hB => ?_) ?_
         ·obtain ⟨hv15, hr15⟩ := (hT 15 133 rfl rfl : (Is (.pointer (some ⟨gm, (0 + pl * 1), none⟩))) _ _)
          obtain hS := hS.flat1 hr15
          exact .inl ⟨want_none rfl, oloadc (v := .slice pb C cb) (show One Tryd.prog 52 from ⟨Tryd.isAgg52, Tryd.sizeOf52⟩) rfl rfl (ev (v := .pointer (some ⟨gm, (0 + pl * 1), none⟩)) rfl hv15) (hS.mRow 0 rfl ((List.getElem?_set_ne hir).trans hqb) hnb hgm) ⟨_, _, rfl, isI, New.same _⟩⟩
         refine stepsCons rfl (fun Q f' w' ρ S ho hT hS hB => ?_) ?_
         ·exact .inl ⟨want_none rfl, omove (v := .int .i64 (k : Int)) rfl rfl (ev rfl (ho 14 rfl)) ⟨_, _, rfl, isI, New.same _⟩⟩
         refine stepsCons rfl (fun Q f' w' ρ S ho hT hS hB => ?_) ?_
         ·obtain ⟨hv16, hr16⟩ := (hT 16 134 rfl rfl : (Is (.slice pb C cb)) _ _)
          obtain ⟨hv17, hr17⟩ := (hT 17 135 rfl rfl : (Is (.int .i64 (((k : Nat) : Int)))) _ _)
          obtain hS := hS.flat2 hr16 hr17
          exact .inl ⟨want_none rfl, oindex (p := pb) (g := gb) (off := 0) (m := C) (k := k) (j := k) rfl rfl Tryd.runUnderlying52 Tryd.sizeOf27 (ev rfl hv16) (hgb) (ev rfl hv17) (by omega) (by simp) ⟨_, _, rfl, isI, New.same _⟩⟩
         refine stepsCons rfl (fun Q f' w' ρ S ho hT hS hB => ?_) ?_
         ·obtain ⟨hv18, hr18⟩ := (hT 18 136 rfl rfl : (Is (.pointer (some ⟨gb, k, none⟩))) _ _)
          obtain hS := hS.flat1 hr18
          exact .inl ⟨want_none rfl, oloadc (v := .int .u32 (((nd xb k : Nat) : Int))) one32 rfl rfl (ev (v := .pointer (some ⟨gb, k, none⟩)) rfl hv18) (hS.mCell 0 rfl ((List.getElem?_set_ne hir).trans hqb) hgb (by omega)) ⟨_, _, rfl, isI, New.same _⟩⟩
         refine stepsCons rfl (fun Q f' w' ρ S ho hT hS hB => ?_) ?_
         ·exact .inl ⟨want_none rfl, omove (v := .int .u32 (p : Int)) rfl rfl (ev rfl (ho 1 rfl)) ⟨_, _, rfl, isI, New.same _⟩⟩
         refine stepsCons rfl (fun Q f' w' ρ S ho hT hS hB => ?_) ?_
         ·obtain ⟨hv12, hr12⟩ := (hT 12 130 rfl rfl : (Is (.int .u32 (((nd xa c : Nat) : Int)))) _ _)
          obtain ⟨hv19, hr19⟩ := (hT 19 137 rfl rfl : (Is (.int .u32 (((nd xb k : Nat) : Int)))) _ _)
          obtain ⟨hv20, hr20⟩ := (hT 20 138 rfl rfl : (Is (.int .u32 (((p : Nat) : Int)))) _ _)
          obtain hS := hS.flat3 hr12 hr19 hr20
          exact .inl ⟨want_none rfl, ocall rfl rfl Tryd.call52 rfl (wsmul (a := (nd xa c)) (b := (nd xb k)) (n := p) (by omega) (by omega) hp0 hp2) (args3 (ev rfl hv12) (ev rfl hv19) (ev rfl hv20)) callN⟩
         refine stepsCons rfl (fun Q f' w' ρ S ho hT hS hB => ?_) ?_
         ·exact .inl ⟨want_none rfl, omove (v := .int .u32 (p : Int)) rfl rfl (ev rfl (ho 1 rfl)) ⟨_, _, rfl, isI, New.same _⟩⟩
         refine stepsCons rfl (fun Q f' w' ρ S ho hT hS hB => ?_) ?_
         ·obtain ⟨hv11, hr11⟩ := (hT 11 129 rfl rfl : (Is (.int .u32 (((nd (mixR (lessR p (nd xa c) xa xb) xa k) k : Nat) : Int)))) _ _)
          obtain ⟨hv21, hr21⟩ := (hT 21 139 rfl rfl : (Is (.int .u32 ((((nd xa c) * (nd xb k) % p : Nat) : Int)))) _ _)
          obtain ⟨hv22, hr22⟩ := (hT 22 140 rfl rfl : (Is (.int .u32 (((p : Nat) : Int)))) _ _)
          obtain hS := hS.flat3 hr11 hr21 hr22
          exact .inl ⟨want_none rfl, ocall rfl rfl Tryd.call51 rfl (wrsub (a := (nd (mixR (lessR p (nd xa c) xa xb) xa k) k)) (b := ((nd xa c) * (nd xb k) % p)) (p := p) hp0 hp2 (by omega) (by omega)) (args3 (ev rfl hv11) (ev rfl hv21) (ev rfl hv22)) callN⟩
         refine stepsCons rfl (fun Q f' w' ρ S ho hT hS hB => ?_) ?_
         ·obtain ⟨hv3, hr3⟩ := (hT 3 121 rfl rfl : (Is (.slice pa C ca)) _ _)
          obtain ⟨hv4, hr4⟩ := (hT 4 122 rfl rfl : (Is (.int .i64 (((k : Nat) : Int)))) _ _)
          obtain hS := hS.flat2 hr3 hr4
          exact .inl ⟨want_none rfl, oindex (p := pa) (g := ga) (off := 0) (m := C) (k := k) (j := k) rfl rfl Tryd.runUnderlying52 Tryd.sizeOf27 (ev rfl hv3) (hga) (ev rfl hv4) (by omega) (by simp) ⟨_, _, rfl, isI, New.same _⟩⟩
         exact stepsNil
        ·
         intro vs ρ w10 f' hf hT hS
         obtain ⟨hv0, hr0⟩ := (hT 0 (by decide) : (Is (.slice pX n cX)) _ _)
         obtain ⟨hv1, hr1⟩ := (hT 1 (by decide) : (Is (.int .i64 (((i : Nat) : Int)))) _ _)
         obtain ⟨hv2, hr2⟩ := (hT 2 (by decide) : (Is (.pointer (some ⟨gm, (0 + i * 1), none⟩))) _ _)
         obtain ⟨hv3, hr3⟩ := (hT 3 (by decide) : (Is (.slice pa C ca)) _ _)
         obtain ⟨hv4, hr4⟩ := (hT 4 (by decide) : (Is (.int .i64 (((k : Nat) : Int)))) _ _)
         obtain ⟨hv5, hr5⟩ := (hT 5 (by decide) : (Is (.slice pX n cX)) _ _)
         obtain ⟨hv6, hr6⟩ := (hT 6 (by decide) : (Is (.int .i64 (((i : Nat) : Int)))) _ _)
         obtain ⟨hv7, hr7⟩ := (hT 7 (by decide) : (Is (.pointer (some ⟨gm, (0 + i * 1), none⟩))) _ _)
         obtain ⟨hv8, hr8⟩ := (hT 8 (by decide) : (Is (.slice pa C ca)) _ _)
         obtain ⟨hv9, hr9⟩ := (hT 9 (by decide) : (Is (.int .i64 (((k : Nat) : Int)))) _ _)
         obtain ⟨hv10, hr10⟩ := (hT 10 (by decide) : (Is (.pointer (some ⟨ga, k, none⟩))) _ _)
         obtain ⟨hv11, hr11⟩ := (hT 11 (by decide) : (Is (.int .u32 (((nd (mixR (lessR p (nd xa c) xa xb) xa k) k : Nat) : Int)))) _ _)
         obtain ⟨hv12, hr12⟩ := (hT 12 (by decide) : (Is (.int .u32 (((nd xa c : Nat) : Int)))) _ _)
         obtain ⟨hv13, hr13⟩ := (hT 13 (by decide) : (Is (.slice pX n cX)) _ _)
         obtain ⟨hv14, hr14⟩ := (hT 14 (by decide) : (Is (.int .i64 (((pl : Nat) : Int)))) _ _)
         obtain ⟨hv15, hr15⟩ := (hT 15 (by decide) : (Is (.pointer (some ⟨gm, (0 + pl * 1), none⟩))) _ _)
         obtain ⟨hv16, hr16⟩ := (hT 16 (by decide) : (Is (.slice pb C cb)) _ _)
         obtain ⟨hv17, hr17⟩ := (hT 17 (by decide) : (Is (.int .i64 (((k : Nat) : Int)))) _ _)
         obtain ⟨hv18, hr18⟩ := (hT 18 (by decide) : (Is (.pointer (some ⟨gb, k, none⟩))) _ _)
         obtain ⟨hv19, hr19⟩ := (hT 19 (by decide) : (Is (.int .u32 (((nd xb k : Nat) : Int)))) _ _)
         obtain ⟨hv20, hr20⟩ := (hT 20 (by decide) : (Is (.int .u32 (((p : Nat) : Int)))) _ _)
         obtain ⟨hv21, hr21⟩ := (hT 21 (by decide) : (Is (.int .u32 ((((nd xa c) * (nd xb k) % p : Nat) : Int)))) _ _)
         obtain ⟨hv22, hr22⟩ := (hT 22 (by decide) : (Is (.int .u32 (((p : Nat) : Int)))) _ _)
         obtain ⟨hv23, hr23⟩ := (hT 23 (by decide) : (Is (.int .u32 (((((nd (mixR (lessR p (nd xa c) xa xb) xa k) k) + p - ((nd xa c) * (nd xb k) % p)) % p : Nat) : Int)))) _ _)
         obtain ⟨hv24, hr24⟩ := (hT 24 (by decide) : (Is (.pointer (some ⟨ga, k, none⟩))) _ _)
         simp only [pool, if_true, hr0, hr1, hr2, hr3, hr4, hr5, hr6, hr7, hr8, hr9, hr10, hr11, hr12, hr13, hr14, hr15, hr16, hr17, hr18, hr19, hr20, hr21, hr22, hr23, hr24, List.nil_append, List.cons_append, List.append_nil] at hS
         simp only [layf, hv0, hv1, hv2, hv3, hv4, hv5, hv6, hv7, hv8, hv9, hv10, hv11, hv12, hv13, hv14, hv15, hv16, hv17, hv18, hv19, hv20, hv21, hv22, hv23, hv24] at hf
         subst hf; clear hT hv0 hv1 hv2 hv3 hv4 hv5 hv6 hv7 hv8 hv9 hv10 hv11 hv12 hv13 hv14 hv15 hv16 hv17 hv18 hv19 hv20 hv21 hv22 hv23 hv24 hr0 hr1 hr2 hr3 hr4 hr5 hr6 hr7 hr8 hr9 hr10 hr11 hr12 hr13 hr14 hr15 hr16 hr17 hr18 hr19 hr20 hr21 hr22 hr23 hr24
         refine wlate 25 rfl (by kernel_rfl) (ostoreM (i := i) (g := ga) (k := k) (u := (((nd (mixR (lessR p (nd xa c) xa xb) xa k) k) + p - ((nd xa c) * (nd xb k) % p)) % p)) Tryd.sizeOf27 hS rfl rfl (ev (v := .pointer (some ⟨ga, k, none⟩)) rfl rfl) (ev (v := .int .u32 (((((nd (mixR (lessR p (nd xa c) xa xb) xa k) k) + p - ((nd xa c) * (nd xb k) % p)) % p : Nat) : Int))) rfl rfl) (qset_self hqa) hga (show k < List.length (mixR (lessR p (nd xa c) xa xb) xa k) by omega) (by have := Nat.mod_lt (nd (mixR (lessR p (nd xa c) xa xb) xa k) k + p - nd xa c * nd xb k % p) hp0; omega) ?_)
         clear hS; intro w11 hS
         refine ⟨heldNil, ?_⟩
         refine wdone rfl ?_
         refine blkN (thenN (wreg (wl rfl (obin (u := .int .i64 (k : Int)) (v := .int .i64 1) (z := .int .i64 (((k + 1 : Nat) : Int))) rfl rfl (ev rfl rfl) evc (bin_add (wrap_i64 (by omega) (by omega))) ?_))))
         refine wl rfl (omove (v := .int .i64 (((k + 1 : Nat) : Int))) rfl rfl (ev rfl rfl) ?_)
         refine wnil (thenN ?_)
         rw [qmix_next (lessR_len (by omega)) (by omega) (by rw [lessR_nd (by omega) (by omega), hmk])] at hS
         exact ⟨(k + 1), ⟨_, act_sets (l := [(0, .slice pX n cX), (1, .int .u32 (p : Int)), (4, .slice none 0 0), (5, .slice none 0 0), (6, .slice pP pl cP), (7, .int .i64 (c : Int)), (8, .int .i64 (pl : Int)), (12, .int .i64 (i : Int)), (13, .int .u32 (((nd xa c : Nat) : Int))), (96, .int .i64 (n : Int)), (97, .int .i64 (i : Int)), (114, .int .i64 (C : Int)), (115, .int .i64 (((k + 1 : Nat) : Int)))]) ⟨rfl, rfl, rfl, rfl, rfl, rfl, rfl, rfl, rfl, rfl, rfl, rfl, rfl, trivial⟩, hS.pick [0, 1] (by decide) rfl, by omega⟩, by omega⟩
       ·
        refine wl rfl (obin (u := .int .i64 (k : Int)) (v := .int .i64 (C : Int)) (z := .bool false) rfl rfl (ev rfl rfl) (ev rfl rfl) (bin_lss (decide_eq_false (by omega))) ?_)
        refine wnil (thenN (wseq ?_))
        refine wF (ev rfl rfl) ?_
        refine wexit ?_
        refine thenE ?_
        refine thenE ?_
        refine blkE ?_
        refine blkN (thenN (wreg ?_))
        rw [mixR_full (lessR_len (by omega)) (by omega)] at hS
        refine wl rfl (obin (u := .int .i64 (i : Int)) (v := .int .i64 1) (z := .int .i64 (((i + 1 : Nat) : Int))) rfl rfl (ev rfl rfl) evc (bin_add (wrap_i64 (by omega) (by omega))) ?_)
        refine wl rfl (omove (v := .int .i64 (((i + 1 : Nat) : Int))) rfl rfl (ev rfl rfl) ?_)
        refine wnil (thenN ?_)
        exact ⟨(i + 1), ⟨_, _, act_sets (l := [(0, .slice pX n cX), (1, .int .u32 (p : Int)), (4, .slice none 0 0), (5, .slice none 0 0), (6, .slice pP pl cP), (7, .int .i64 (c : Int)), (8, .int .i64 (pl : Int)), (96, .int .i64 (n : Int)), (97, .int .i64 (((i + 1 : Nat) : Int)))]) ⟨rfl, rfl, rfl, rfl, rfl, rfl, rfl, rfl, rfl, trivial⟩, hS.pick [0, 1] (by decide) rfl, by omega, by rw [nums_set, elimM_next hir, ← hQi, hda, hdb]⟩, by omega⟩
     ·
      refine wl rfl (obin (u := .int .i64 (i : Int)) (v := .int .i64 (n : Int)) (z := .bool false) rfl rfl (ev rfl rfl) (ev rfl rfl) (bin_lss (decide_eq_false (by omega))) ?_)
      refine wnil (thenN (wseq ?_))
      refine wF (ev rfl rfl) ?_
      refine wexit ?_
      refine thenE ?_
      refine thenE ?_
      refine blkE ?_
      refine thenN (wreg (wl rfl (omove (v := .slice pP pl cP) rfl rfl (ev rfl rfl) ?_)))
      refine wl rfl (omove (v := .int .i64 (c : Int)) rfl rfl (ev rfl rfl) ?_)
      refine wl rfl (obslice (ps := #[(0, .int .i64 (c : Int))]) (z := .int .i64 0) [.int .i64 (c : Int)] hS rfl rfl Tryd.runUnderlying35 Tryd.sizeOf3 Tryd.zeroValue3 (parts1 (ev (v := .int .i64 (c : Int)) rfl rfl)) rfl (by decide) (fill1_1s rfl rfl) ?_)
      clear hS; intro g9 w10 hS
      obtain hS := (show Sep w [.lst 3 1 pP pl cP (intE P), .blk g9 [.int .i64 (((c : Nat) : Int))] 3, .lst 52 1 pX n cX (mmE Qi)] w10 from hS.pick [2, 0, 1] (by decide) rfl)
      refine wl rfl (oappendL (p := pP) (m := pl) (c := cP) (g2 := g9) (c2 := 1) (off := 0) [.int .i64 (c : Int)] [] hS rfl rfl Tryd.underlying35 infoint rfl (by decide) (ev (v := .slice pP pl cP) rfl rfl) (ev (v := .slice (some ⟨g9, 0, none⟩) 1 1) rfl rfl) (fun j v hj => by rw [Nat.zero_add]; exact (blk_cell (hS.blkAt 1 rfl) j).trans hj) rfl rfl rfl (by omega) (by omega) ?_)
      clear hS; intro p12 c13 w11 hS
      refine wl rfl (oassign (v := .slice p12 ((pl + 1)) c13) rfl rfl (ev rfl rfl) ?_)
      refine wnil (blkN (thenN (wreg (wl rfl (omove (v := .int .i64 (c : Int)) rfl rfl (ev rfl rfl) ?_)))))
      refine wl rfl (obin (u := .int .i64 (c : Int)) (v := .int .i64 1) (z := .int .i64 (((c + 1 : Nat) : Int))) rfl rfl (ev rfl rfl) evc (bin_add (wrap_i64 (by omega) (by omega))) ?_)
      refine wl rfl (oassign (v := .int .i64 (((c + 1 : Nat) : Int))) rfl rfl (ev rfl rfl) ?_)
      refine wnil (thenN ?_)
      rw [intE_app] at hS
      exact ⟨(c + 1), ⟨_, _, _, _, _, _, act_sets (l := [(0, .slice pX n cX), (1, .int .u32 (p : Int)), (4, .slice none 0 0), (5, .slice none 0 0), (6, .slice p12 ((pl + 1)) c13), (7, .int .i64 (((c + 1 : Nat) : Int)))]) ⟨rfl, rfl, rfl, rfl, rfl, rfl, trivial⟩, hS.pick [2, 0] (by decide) rfl, by omega, by have e : i = n := (by omega); rw [redTo_S hR, redStep_some (by simp only; rw [hN1, hpl]; exact hf), hpl]; simp only; rw [hN1, ← e, hQi, hQ3n, hQ2], by rw [List.length_append, hpl]; rfl⟩, by omega⟩
  ·
   have hf9 : firstNZ (nums Q1) c (n - pl) pl = none := firstNZ_none (fun l h1 h2 => hz l h1 (by omega))
   have hz0 := redStep_none (p := p) (c := c) (s := (nums Q1, P)) (by simp only; rw [hN1, hpl]; exact hf9)
   refine wl rfl (obin (u := .int .i64 (r : Int)) (v := .int .i64 (n : Int)) (z := .bool false) rfl rfl (ev rfl rfl) (ev rfl rfl) (bin_lss (decide_eq_false (by omega))) ?_)
   refine wl rfl (omove (v := .bool false) rfl rfl (ev rfl rfl) ?_)
   refine wlOff (e := 31) (d := 32) (b' := false) rfl rfl rfl rfl rfl rfl ?_
   refine wlOff (e := 31) (d := 33) (b' := false) rfl rfl rfl rfl rfl rfl ?_
   refine wlOff (e := 31) (d := 34) (b' := false) rfl rfl rfl rfl rfl rfl ?_
   refine wlOff (e := 31) (d := 35) (b' := false) rfl rfl rfl rfl rfl rfl ?_
   refine wlOff (e := 31) (d := 36) (b' := false) rfl rfl rfl rfl rfl rfl ?_
   refine wlOff (e := 31) (d := 37) (b' := false) rfl rfl rfl rfl rfl rfl ?_
   refine wlOff (e := 31) (d := 38) (b' := false) rfl rfl rfl rfl rfl rfl ?_
   refine wlOff (e := 31) (d := 39) (b' := false) rfl rfl rfl rfl rfl rfl ?_
   refine wl rfl (opick (b := false) (v := .bool false) rfl rfl (ev rfl rfl) evc ?_)
   refine wnil (thenN ?_)
   refine wF (ev rfl rfl) ?_
   refine wexit ?_
   refine thenE ?_
   refine thenE ?_
   refine blkE ?_
   refine thenN (wseq (wseq (wreg (wl rfl (omove (v := .int .i64 (r : Int)) rfl rfl (ev rfl rfl) ?_)))))
   refine wl rfl (omove (v := .slice pX n cX) rfl rfl (ev rfl rfl) ?_)
   refine wl rfl (olen rfl rfl rfl Tryd.runUnderlying26 (p := pX) (k := n) (m := cX) (ev rfl rfl) ?_)
   refine wl rfl (obin (u := .int .i64 (r : Int)) (v := .int .i64 (n : Int)) (z := .bool true) rfl rfl (ev rfl rfl) (ev rfl rfl) (bin_eql (eqT (by omega))) ?_)
   refine wnil (thenN ?_)
   refine wT (ev rfl rfl) ?_
   refine wexit ?_
   refine thenE ?_
   refine blkE ?_
   refine thenN (wreg (wl rfl (omove (v := .int .i64 (c : Int)) rfl rfl (ev rfl rfl) ?_)))
   refine wl rfl (obin (u := .int .i64 (c : Int)) (v := .int .i64 1) (z := .int .i64 (((c + 1 : Nat) : Int))) rfl rfl (ev rfl rfl) evc (bin_add (wrap_i64 (by omega) (by omega))) ?_)
   refine wl rfl (oassign (v := .int .i64 (((c + 1 : Nat) : Int))) rfl rfl (ev rfl rfl) ?_)
   refine wnil (thenN ?_)
   exact ⟨(c + 1), ⟨_, _, _, _, _, _, act_sets (l := [(0, .slice pX n cX), (1, .int .u32 (p : Int)), (4, .slice none 0 0), (5, .slice none 0 0), (6, .slice pP pl cP), (7, .int .i64 (((c + 1 : Nat) : Int)))]) ⟨rfl, rfl, rfl, rfl, rfl, rfl, trivial⟩, hS.pick [0, 1] (by decide) rfl, by omega, by rw [redTo_S hR, hz0], hpl⟩, by omega⟩
 ·
  refine wl rfl (ocall rfl rfl Tryd.call36 rfl ((show Calls _ _ _ _ (Ret (Is (.int .i64 (C : Int))) _) from by rw [← hco]; exact wrcols (hS.ms 0 rfl (by simp only [maxLen]; omega)))) (args1 (ev rfl rfl)) ?_)
  rintro _ w3 ⟨_, _, rfl, ⟨rfl, rfl⟩, hN⟩
  refine ⟨_, rfl, ?_⟩
  replace hS := hS.news hN; clear hN
  refine wl rfl (obin (u := .int .i64 (c : Int)) (v := .int .i64 (C : Int)) (z := .bool false) rfl rfl (ev rfl rfl) (ev rfl rfl) (bin_lss (decide_eq_false (by omega))) ?_)
  refine wnil (thenN ?_)
  refine wF (ev rfl rfl) ?_
  refine wexit ?_
  refine thenE ?_
  refine thenE ?_
  refine blkE ?_
  refine thenN (wseq (wreg (wl rfl (omove (v := .slice pX n cX) rfl rfl (ev rfl rfl) ?_))))
  refine wl rfl (omove (v := .slice pP pl cP) rfl rfl (ev rfl rfl) ?_)
  refine wl rfl (oassign (v := .slice pX n cX) rfl rfl (ev rfl rfl) ?_)
  refine wl rfl (oassign (v := .slice pP pl cP) rfl rfl (ev rfl rfl) ?_)
  refine wnil (thenN ?_)
  refine wleave ?_
  have hce : c = C := by omega
  have hfin : redTo p (modM p M) (colsM M) = (nums Q1, P) := by rw [hN, hC, ← hce]; exact hR
  refine wret2 Tryd.results33 (tellT (v := .slice pX n cX) rfl rfl) (tellT (v := .slice pP pl cP) rfl rfl) ?_
  exact ⟨_, _, rfl, ⟨pX, cX, pP, cP, P, Q1, hfin, by rw [hpl], by rw [hpl]⟩, Sep.new (hS.pick [0, 1] (by decide) rfl) rfl⟩
end Go.Proofs.YtndilfigdbenoaaDoor
