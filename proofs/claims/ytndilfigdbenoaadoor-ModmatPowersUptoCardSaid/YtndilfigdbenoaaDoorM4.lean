/-
  Contracts and lemmas, joined in one text.
-/
import Derived.Test.YtndilfigdbenoaaDoorM3
set_option linter.unusedVariables false
set_option linter.unusedSimpArgs false
/-
  The document's small functions of matrices.
-/
set_option maxRecDepth 100000
set_option maxHeartbeats 16000000
namespace Go.Proofs.YtndilfigdbenoaaDoor
open Go.RowKit
def MMn (n : Nat) (M : List (List Nat)) : Tell := fun v r => ∃ (pp : Option Addr) (c : Nat) (Q : List Rw), nums Q = M ∧ v = .slice pp n c ∧ r = [.lst 52 1 pp n c (mmE Q)]
theorem Sl.blk1 {w : World} {g a : Nat} {t : TypeId} (h : w.heap[g]? = some (.cells [.int .u32 ((a : Nat) : Int)].toArray t)) (ha : a < 4294967296) : Sl w (some ⟨g, 0, none⟩) 1 1 [a] := by
  refine ⟨rfl, Nat.le_refl _, by simp [maxLen], (fun i hi => match i, hi with | 0, _ => ha), (fun h => by cases h), fun i hi => ⟨g, 0, rfl, ?_⟩⟩
  obtain rfl : i = 0 := by simp at hi; omega
  exact (blk_cell h 0).trans rfl
theorem modR_next {xr : List Nat} {k p : Nat} (h : k < xr.length) : (xr.take k).map (· % p) ++ [nd xr k % p] = (xr.take (k + 1)).map (· % p) := by
  rw [List.take_add_one, List.getElem?_eq_getElem h, List.map_append, nd_get h]; rfl
theorem idrow {n i : Nat} (h : i < n) : (List.replicate n 0).set i 1 = rowF n (fun k => if i = k then 1 else 0) := by
 apply List.ext_getElem
 ·rw [List.length_set, List.length_replicate, rowF_len]
 ·intro k h1 h2
  rw [List.getElem_set]
  simp only [rowF, List.getElem_map, List.getElem_range, List.getElem_replicate]
theorem wrmay {pm : Option Addr} {nm cm : Nat} {M : List (List Nat)} {w : World} (hm : MS w pm nm M) (hr : RectM M) :
  Calls Tryd.prog 57 #[.slice pm nm cm] w (Ret (Is (.bool true)) w) := by
 have hnm := hm.1
 have hnl := hm.2.1
 simp only [maxLen] at hnl
 have hS := Sep.init w
 refine went Tryd.func57 rfl (n := 19) rfl rfl ?_
 refine wseq (wreg (wl rfl (oassign (v := .bool false) rfl rfl evc ?_)))
 refine wnil (thenN (wseq (wseq (wreg (wl rfl (omove (v := .slice pm nm cm) rfl rfl (ev rfl rfl) ?_))))))
 refine wl rfl (olen rfl rfl rfl Tryd.runUnderlying26 (p := pm) (k := nm) (m := cm) (ev rfl rfl) ?_)
 refine wl rfl (omove (v := .int .i64 0) rfl rfl evc ?_)
 refine wnil (thenN (wblock ?_))
 refine wloop (σ := Nat) (fun i a9 w' => ∃ (fb : Nat → Value), a9 = act 19 (sets fb [(0, .slice pm nm cm), (5, .slice pm nm cm), (6, .int .i64 (nm : Int)), (7, .int .i64 (i : Int))]) ∧ Sep w [] w' ∧ (i ≤ nm)) (fun i => nm - i) (0) ⟨_, act_sets (l := [(0, .slice pm nm cm), (5, .slice pm nm cm), (6, .int .i64 (nm : Int)), (7, .int .i64 0)]) ⟨rfl, rfl, rfl, rfl, trivial⟩, hS, Nat.zero_le _⟩ ?_
 clear hS; rintro i _ w1 ⟨fb, rfl, hS, hi⟩
 refine wseq (wreg ?_)
 by_cases hlt : i < nm
 ·
  refine wl rfl (obin (u := .int .i64 (i : Int)) (v := .int .i64 (nm : Int)) (z := .bool true) rfl rfl (ev rfl rfl) (ev rfl rfl) (bin_lss (decide_eq_true (by omega))) ?_)
  refine wnil (thenN (wseq ?_))
  refine wT (ev rfl rfl) ?_
  refine wskip (thenN (wseq (wblock (wseq (wreg ?_)))))
  obtain ⟨xr, hxr⟩ : ∃ r, (M)[i]? = some r := ⟨_, List.getElem?_eq_getElem (by have := hm.1; omega)⟩
  obtain ⟨br, ofr, pr, cr, hpr, hcr, hsr⟩ := hm.2.2 i _ hxr
  obtain ⟨xz, hxz⟩ : ∃ r, (M)[0]? = some r := ⟨_, List.getElem?_eq_getElem (by have := hm.1; omega)⟩
  obtain ⟨bz, ofz, pz, cz, hpz, hcz, hsz⟩ := hm.2.2 0 _ hxz
  have hz := row0 hxz rfl
  have hrl := hr xr (List.mem_of_getElem? hxr)
  refine wl rfl (oindex (p := pm) (g := br) (off := ofr) (m := nm) (k := i) (j := (ofr + i * 1)) rfl rfl Tryd.runUnderlying26 Tryd.sizeOf52 (ev rfl rfl) (hpr) (ev rfl rfl) (by omega) rfl ?_)
  refine wl rfl (oloadc (v := .slice pr xr.length cr) (show One Tryd.prog 52 from ⟨Tryd.isAgg52, Tryd.sizeOf52⟩) rfl rfl (ev (v := .pointer (some ⟨br, (ofr + i * 1), none⟩)) rfl rfl) (hS.cellAt (hcr 0 _ rfl)) ?_)
  refine wl rfl (oassign (v := .slice pr xr.length cr) rfl rfl (ev rfl rfl) ?_)
  refine wnil (thenN (wseq (wreg (wl rfl (omove (v := .slice pr xr.length cr) rfl rfl (ev rfl rfl) ?_)))))
  refine wl rfl (olen rfl rfl rfl Tryd.runUnderlying52 (p := pr) (k := xr.length) (m := cr) (ev rfl rfl) ?_)
  refine wl rfl (omove (v := .slice pm nm cm) rfl rfl (ev rfl rfl) ?_)
  refine wl rfl (oindex (p := pm) (g := bz) (off := ofz) (m := nm) (k := 0) (j := (ofz + 0 * 1)) rfl rfl Tryd.runUnderlying26 Tryd.sizeOf52 (ev rfl rfl) (hpz) evc (by omega) rfl ?_)
  refine wl rfl (oloadc (v := .slice pz xz.length cz) (show One Tryd.prog 52 from ⟨Tryd.isAgg52, Tryd.sizeOf52⟩) rfl rfl (ev (v := .pointer (some ⟨bz, (ofz + 0 * 1), none⟩)) rfl rfl) (hS.cellAt (hcz 0 _ rfl)) ?_)
  refine wl rfl (olen rfl rfl rfl Tryd.runUnderlying52 (p := pz) (k := xz.length) (m := cz) (ev rfl rfl) ?_)
  refine wl rfl (obin (u := .int .i64 (xr.length : Int)) (v := .int .i64 (xz.length : Int)) (z := .bool false) rfl rfl (ev rfl rfl) (ev rfl rfl) (bin_neq (neF (by omega))) ?_)
  refine wnil (thenN ?_)
  refine wF (ev rfl rfl) ?_
  refine wskip (blkN (thenN (wreg (wl rfl (obin (u := .int .i64 (i : Int)) (v := .int .i64 1) (z := .int .i64 (((i + 1 : Nat) : Int))) rfl rfl (ev rfl rfl) evc (bin_add (wrap_i64 (by omega) (by omega))) ?_)))))
  refine wl rfl (omove (v := .int .i64 (((i + 1 : Nat) : Int))) rfl rfl (ev rfl rfl) ?_)
  refine wnil (thenN ?_)
  exact ⟨(i + 1), ⟨_, act_sets (l := [(0, .slice pm nm cm), (5, .slice pm nm cm), (6, .int .i64 (nm : Int)), (7, .int .i64 (((i + 1 : Nat) : Int)))]) ⟨rfl, rfl, rfl, rfl, trivial⟩, hS.pick [] (by decide) rfl, by omega⟩, by omega⟩
 ·
  refine wl rfl (obin (u := .int .i64 (i : Int)) (v := .int .i64 (nm : Int)) (z := .bool false) rfl rfl (ev rfl rfl) (ev rfl rfl) (bin_lss (decide_eq_false (by omega))) ?_)
  refine wnil (thenN (wseq ?_))
  refine wF (ev rfl rfl) ?_
  refine wexit ?_
  refine thenE ?_
  refine thenE ?_
  refine blkE ?_
  refine thenN (wseq (wreg (wl rfl (oassign (v := .bool true) rfl rfl evc ?_))))
  refine wnil (thenN ?_)
  refine wleave ?_
  refine wret1 Tryd.results57 (tellT (v := .bool true) rfl rfl) ?_
  exact ⟨_, _, rfl, isI, hS.new0⟩
theorem wrmayF {pm : Option Addr} {nm cm : Nat} {M : List (List Nat)} {w : World} (hm : MS w pm nm M) (hr : ¬ RectM M) :
  Calls Tryd.prog 57 #[.slice pm nm cm] w (Ret (Is (.bool false)) w) := by
 have hnm := hm.1
 have hnl := hm.2.1
 simp only [maxLen] at hnl
 have hS := Sep.init w
 refine went Tryd.func57 rfl (n := 19) rfl rfl ?_
 refine wseq (wreg (wl rfl (oassign (v := .bool false) rfl rfl evc ?_)))
 refine wnil (thenN (wseq (wseq (wreg (wl rfl (omove (v := .slice pm nm cm) rfl rfl (ev rfl rfl) ?_))))))
 refine wl rfl (olen rfl rfl rfl Tryd.runUnderlying26 (p := pm) (k := nm) (m := cm) (ev rfl rfl) ?_)
 refine wl rfl (omove (v := .int .i64 0) rfl rfl evc ?_)
 refine wnil (thenN (wblock ?_))
 refine wloop (σ := Nat) (fun i a9 w' => ∃ (fb : Nat → Value), a9 = act 19 (sets fb [(0, .slice pm nm cm), (5, .slice pm nm cm), (6, .int .i64 (nm : Int)), (7, .int .i64 (i : Int))]) ∧ Sep w [] w' ∧ (i ≤ nm) ∧ (∀ r ∈ M.take i, r.length = colsM M)) (fun i => nm - i) (0) ⟨_, act_sets (l := [(0, .slice pm nm cm), (5, .slice pm nm cm), (6, .int .i64 (nm : Int)), (7, .int .i64 0)]) ⟨rfl, rfl, rfl, rfl, trivial⟩, hS, Nat.zero_le _, by simp⟩ ?_
 clear hS; rintro i _ w1 ⟨fb, rfl, hS, hi, hrc⟩
 refine wseq (wreg ?_)
 by_cases hlt : i < nm
 ·
  refine wl rfl (obin (u := .int .i64 (i : Int)) (v := .int .i64 (nm : Int)) (z := .bool true) rfl rfl (ev rfl rfl) (ev rfl rfl) (bin_lss (decide_eq_true (by omega))) ?_)
  refine wnil (thenN (wseq ?_))
  refine wT (ev rfl rfl) ?_
  refine wskip (thenN (wseq (wblock (wseq (wreg ?_)))))
  obtain ⟨xr, hxr⟩ : ∃ r, (M)[i]? = some r := ⟨_, List.getElem?_eq_getElem (by have := hm.1; omega)⟩
  obtain ⟨br, ofr, pr, cr, hpr, hcr, hsr⟩ := hm.2.2 i _ hxr
  obtain ⟨xz, hxz⟩ : ∃ r, (M)[0]? = some r := ⟨_, List.getElem?_eq_getElem (by have := hm.1; omega)⟩
  obtain ⟨bz, ofz, pz, cz, hpz, hcz, hsz⟩ := hm.2.2 0 _ hxz
  have hz := row0 hxz rfl
  refine wl rfl (oindex (p := pm) (g := br) (off := ofr) (m := nm) (k := i) (j := (ofr + i * 1)) rfl rfl Tryd.runUnderlying26 Tryd.sizeOf52 (ev rfl rfl) (hpr) (ev rfl rfl) (by omega) rfl ?_)
  refine wl rfl (oloadc (v := .slice pr xr.length cr) (show One Tryd.prog 52 from ⟨Tryd.isAgg52, Tryd.sizeOf52⟩) rfl rfl (ev (v := .pointer (some ⟨br, (ofr + i * 1), none⟩)) rfl rfl) (hS.cellAt (hcr 0 _ rfl)) ?_)
  refine wl rfl (oassign (v := .slice pr xr.length cr) rfl rfl (ev rfl rfl) ?_)
  refine wnil (thenN (wseq (wreg (wl rfl (omove (v := .slice pr xr.length cr) rfl rfl (ev rfl rfl) ?_)))))
  refine wl rfl (olen rfl rfl rfl Tryd.runUnderlying52 (p := pr) (k := xr.length) (m := cr) (ev rfl rfl) ?_)
  refine wl rfl (omove (v := .slice pm nm cm) rfl rfl (ev rfl rfl) ?_)
  refine wl rfl (oindex (p := pm) (g := bz) (off := ofz) (m := nm) (k := 0) (j := (ofz + 0 * 1)) rfl rfl Tryd.runUnderlying26 Tryd.sizeOf52 (ev rfl rfl) (hpz) evc (by omega) rfl ?_)
  refine wl rfl (oloadc (v := .slice pz xz.length cz) (show One Tryd.prog 52 from ⟨Tryd.isAgg52, Tryd.sizeOf52⟩) rfl rfl (ev (v := .pointer (some ⟨bz, (ofz + 0 * 1), none⟩)) rfl rfl) (hS.cellAt (hcz 0 _ rfl)) ?_)
  refine wl rfl (olen rfl rfl rfl Tryd.runUnderlying52 (p := pz) (k := xz.length) (m := cz) (ev rfl rfl) ?_)
  by_cases hrl : xr.length = colsM M
  ·
   refine wl rfl (obin (u := .int .i64 (xr.length : Int)) (v := .int .i64 (xz.length : Int)) (z := .bool false) rfl rfl (ev rfl rfl) (ev rfl rfl) (bin_neq (neF (by omega))) ?_)
   refine wnil (thenN ?_)
   refine wF (ev rfl rfl) ?_
   refine wskip (blkN (thenN (wreg (wl rfl (obin (u := .int .i64 (i : Int)) (v := .int .i64 1) (z := .int .i64 (((i + 1 : Nat) : Int))) rfl rfl (ev rfl rfl) evc (bin_add (wrap_i64 (by omega) (by omega))) ?_)))))
   refine wl rfl (omove (v := .int .i64 (((i + 1 : Nat) : Int))) rfl rfl (ev rfl rfl) ?_)
   refine wnil (thenN ?_)
   exact ⟨(i + 1), ⟨_, act_sets (l := [(0, .slice pm nm cm), (5, .slice pm nm cm), (6, .int .i64 (nm : Int)), (7, .int .i64 (((i + 1 : Nat) : Int)))]) ⟨rfl, rfl, rfl, rfl, trivial⟩, hS.pick [] (by decide) rfl, by omega, by rw [take_next hxr]; intro u hu; exact (List.mem_append.1 hu).elim (hrc u) (fun h => by rw [List.mem_singleton.1 h]; omega)⟩, by omega⟩
  ·
   refine wl rfl (obin (u := .int .i64 (xr.length : Int)) (v := .int .i64 (xz.length : Int)) (z := .bool true) rfl rfl (ev rfl rfl) (ev rfl rfl) (bin_neq (neT (by omega))) ?_)
   refine wnil (thenN ?_)
   refine wT (ev rfl rfl) ?_
   refine wseq (wreg (wl rfl (oassign (v := .bool false) rfl rfl evc ?_)))
   refine wnil (thenN ?_)
   refine wleave ?_
   refine blkR ?_
   refine thenR ?_
   refine thenR ?_
   refine blkR ?_
   refine thenR ?_
   refine wret1 Tryd.results57 (tellT (v := .bool false) rfl rfl) ?_
   exact ⟨_, _, rfl, isI, hS.new0⟩
 ·
  refine wl rfl (obin (u := .int .i64 (i : Int)) (v := .int .i64 (nm : Int)) (z := .bool false) rfl rfl (ev rfl rfl) (ev rfl rfl) (bin_lss (decide_eq_false (by omega))) ?_)
  refine wnil (thenN (wseq ?_))
  refine wF (ev rfl rfl) ?_
  refine wexit ?_
  refine thenE ?_
  refine thenE ?_
  refine blkE ?_
  refine thenN (wseq (wreg (wl rfl (oassign (v := .bool true) rfl rfl evc ?_))))
  refine wnil (thenN ?_)
  refine wleave ?_
  exact absurd (fun r hr => hrc r (by rw [List.take_of_length_le (by omega)]; exact hr)) hr
theorem wrcols {pm : Option Addr} {nm cm : Nat} {M : List (List Nat)} {w : World} (hm : MS w pm nm M) :
  Calls Tryd.prog 36 #[.slice pm nm cm] w (Ret (Is (.int .i64 ((colsM M : Nat) : Int))) w) := by
 have hnm := hm.1
 have hnl := hm.2.1
 simp only [maxLen] at hnl
 have hS := Sep.init w
 refine went Tryd.func36 rfl (n := 10) rfl rfl ?_
 refine wseq (wreg (wl rfl (oassign (v := .int .i64 0) rfl rfl evc ?_)))
 refine wnil (thenN (wseq (wseq (wreg (wl rfl (omove (v := .slice pm nm cm) rfl rfl (ev rfl rfl) ?_))))))
 refine wl rfl (olen rfl rfl rfl Tryd.runUnderlying26 (p := pm) (k := nm) (m := cm) (ev rfl rfl) ?_)
 by_cases h0 : nm = 0
 ·
  refine wl rfl (obin (u := .int .i64 (nm : Int)) (v := .int .i64 0) (z := .bool true) rfl rfl (ev rfl rfl) evc (bin_eql (eqT (by omega))) ?_)
  refine wnil (thenN ?_)
  refine wT (ev rfl rfl) ?_
  refine wseq (wreg (wl rfl (oassign (v := .int .i64 0) rfl rfl evc ?_)))
  refine wnil (thenN ?_)
  refine wleave ?_
  refine thenR ?_
  refine wret1 Tryd.results36 (tellT (v := .int .i64 0) rfl rfl) ?_
  exact ⟨_, _, rfl, ⟨by rw [show colsM M = 0 by unfold colsM; rw [List.eq_nil_of_length_eq_zero (show M.length = 0 by omega)]; rfl]; rfl, rfl⟩, hS.new0⟩
 ·
  refine wl rfl (obin (u := .int .i64 (nm : Int)) (v := .int .i64 0) (z := .bool false) rfl rfl (ev rfl rfl) evc (bin_eql (eqF (by omega))) ?_)
  refine wnil (thenN ?_)
  refine wF (ev rfl rfl) ?_
  refine wskip (thenN (wseq (wreg (wl rfl (omove (v := .slice pm nm cm) rfl rfl (ev rfl rfl) ?_)))))
  obtain ⟨xz, hxz⟩ : ∃ r, (M)[0]? = some r := ⟨_, List.getElem?_eq_getElem (by have := hm.1; omega)⟩
  obtain ⟨bz, ofz, pz, cz, hpz, hcz, hsz⟩ := hm.2.2 0 _ hxz
  have hz := row0 hxz rfl
  refine wl rfl (oindex (p := pm) (g := bz) (off := ofz) (m := nm) (k := 0) (j := (ofz + 0 * 1)) rfl rfl Tryd.runUnderlying26 Tryd.sizeOf52 (ev rfl rfl) (hpz) evc (by omega) rfl ?_)
  refine wl rfl (oloadc (v := .slice pz xz.length cz) (show One Tryd.prog 52 from ⟨Tryd.isAgg52, Tryd.sizeOf52⟩) rfl rfl (ev (v := .pointer (some ⟨bz, (ofz + 0 * 1), none⟩)) rfl rfl) (hS.cellAt (hcz 0 _ rfl)) ?_)
  refine wl rfl (olen rfl rfl rfl Tryd.runUnderlying52 (p := pz) (k := xz.length) (m := cz) (ev rfl rfl) ?_)
  refine wl rfl (oassign (v := .int .i64 (xz.length : Int)) rfl rfl (ev rfl rfl) ?_)
  refine wnil (thenN ?_)
  refine wleave ?_
  refine wret1 Tryd.results36 (tellT (v := .int .i64 (xz.length : Int)) rfl rfl) ?_
  exact ⟨_, _, rfl, ⟨by rw [hz], rfl⟩, hS.new0⟩
theorem wrsquare {pm : Option Addr} {nm cm : Nat} {M : List (List Nat)} {w : World} (hm : MS w pm nm M) (h0 : M.length ≠ 0) (hq : M.length = colsM M) :
  Calls Tryd.prog 44 #[.slice pm nm cm] w (Ret (Is (.bool true)) w) := by
 have hnm := hm.1
 have hnl := hm.2.1
 simp only [maxLen] at hnl
 have hS := Sep.init w
 refine went Tryd.func44 rfl (n := 15) rfl rfl ?_
 refine wseq (wreg (wl rfl (oassign (v := .bool false) rfl rfl evc ?_)))
 refine wnil (thenN (wseq (wreg (wl rfl (omove (v := .slice pm nm cm) rfl rfl (ev rfl rfl) ?_)))))
 refine wl rfl (olen rfl rfl rfl Tryd.runUnderlying26 (p := pm) (k := nm) (m := cm) (ev rfl rfl) ?_)
 refine wl rfl (obin (u := .int .i64 (nm : Int)) (v := .int .i64 0) (z := .bool true) rfl rfl (ev rfl rfl) evc (bin_gtr (decide_eq_true (by omega))) ?_)
 refine wl rfl (omove (v := .bool true) rfl rfl (ev rfl rfl) ?_)
 refine wlOn (e := 6) rfl rfl rfl rfl (omove (v := .slice pm nm cm) rfl rfl (ev rfl rfl) ?_)
 obtain ⟨xz, hxz⟩ : ∃ r, (M)[0]? = some r := ⟨_, List.getElem?_eq_getElem (by have := hm.1; omega)⟩
 obtain ⟨bz, ofz, pz, cz, hpz, hcz, hsz⟩ := hm.2.2 0 _ hxz
 have hz := row0 hxz rfl
 refine wlOn (e := 6) rfl rfl rfl rfl (oindex (p := pm) (g := bz) (off := ofz) (m := nm) (k := 0) (j := (ofz + 0 * 1)) rfl rfl Tryd.runUnderlying26 Tryd.sizeOf52 (ev rfl rfl) (hpz) evc (by omega) rfl ?_)
 refine wlOn (e := 6) rfl rfl rfl rfl (oloadc (v := .slice pz xz.length cz) (show One Tryd.prog 52 from ⟨Tryd.isAgg52, Tryd.sizeOf52⟩) rfl rfl (ev (v := .pointer (some ⟨bz, (ofz + 0 * 1), none⟩)) rfl rfl) (hS.cellAt (hcz 0 _ rfl)) ?_)
 refine wlOn (e := 6) rfl rfl rfl rfl (olen rfl rfl rfl Tryd.runUnderlying52 (p := pz) (k := xz.length) (m := cz) (ev rfl rfl) ?_)
 refine wlOn (e := 6) rfl rfl rfl rfl (omove (v := .slice pm nm cm) rfl rfl (ev rfl rfl) ?_)
 refine wlOn (e := 6) rfl rfl rfl rfl (olen rfl rfl rfl Tryd.runUnderlying26 (p := pm) (k := nm) (m := cm) (ev rfl rfl) ?_)
 refine wlOn (e := 6) rfl rfl rfl rfl (obin (u := .int .i64 (xz.length : Int)) (v := .int .i64 (nm : Int)) (z := .bool true) rfl rfl (ev rfl rfl) (ev rfl rfl) (bin_eql (eqT (by omega))) ?_)
 refine wl rfl (opick (b := true) (v := .bool true) rfl rfl (ev rfl rfl) (ev rfl rfl) ?_)
 refine wl rfl (oassign (v := .bool true) rfl rfl (ev rfl rfl) ?_)
 refine wnil (thenN ?_)
 refine wleave ?_
 refine wret1 Tryd.results44 (tellT (v := .bool true) rfl rfl) ?_
 exact ⟨_, _, rfl, isI, hS.new0⟩
theorem wrsquareF {pm : Option Addr} {nm cm : Nat} {M : List (List Nat)} {w : World} (hm : MS w pm nm M) (hq : ¬ (M.length ≠ 0 ∧ M.length = colsM M)) :
  Calls Tryd.prog 44 #[.slice pm nm cm] w (Ret (Is (.bool false)) w) := by
 have hnm := hm.1
 have hnl := hm.2.1
 simp only [maxLen] at hnl
 have hS := Sep.init w
 refine went Tryd.func44 rfl (n := 15) rfl rfl ?_
 refine wseq (wreg (wl rfl (oassign (v := .bool false) rfl rfl evc ?_)))
 refine wnil (thenN (wseq (wreg (wl rfl (omove (v := .slice pm nm cm) rfl rfl (ev rfl rfl) ?_)))))
 refine wl rfl (olen rfl rfl rfl Tryd.runUnderlying26 (p := pm) (k := nm) (m := cm) (ev rfl rfl) ?_)
 by_cases h0 : nm = 0
 ·
  refine wl rfl (obin (u := .int .i64 (nm : Int)) (v := .int .i64 0) (z := .bool false) rfl rfl (ev rfl rfl) evc (bin_gtr (decide_eq_false (by omega))) ?_)
  refine wl rfl (omove (v := .bool false) rfl rfl (ev rfl rfl) ?_)
  refine wlOff (e := 6) (d := 7) (b' := false) rfl rfl rfl rfl rfl rfl ?_
  refine wlOff (e := 6) (d := 8) (b' := false) rfl rfl rfl rfl rfl rfl ?_
  refine wlOff (e := 6) (d := 9) (b' := false) rfl rfl rfl rfl rfl rfl ?_
  refine wlOff (e := 6) (d := 10) (b' := false) rfl rfl rfl rfl rfl rfl ?_
  refine wlOff (e := 6) (d := 11) (b' := false) rfl rfl rfl rfl rfl rfl ?_
  refine wlOff (e := 6) (d := 12) (b' := false) rfl rfl rfl rfl rfl rfl ?_
  refine wlOff (e := 6) (d := 13) (b' := false) rfl rfl rfl rfl rfl rfl ?_
  refine wl rfl (opick (b := false) (v := .bool false) rfl rfl (ev rfl rfl) evc ?_)
  refine wl rfl (oassign (v := .bool false) rfl rfl (ev rfl rfl) ?_)
  refine wnil (thenN ?_)
  refine wleave ?_
  refine wret1 Tryd.results44 (tellT (v := .bool false) rfl rfl) ?_
  exact ⟨_, _, rfl, isI, hS.new0⟩
 ·
  refine wl rfl (obin (u := .int .i64 (nm : Int)) (v := .int .i64 0) (z := .bool true) rfl rfl (ev rfl rfl) evc (bin_gtr (decide_eq_true (by omega))) ?_)
  refine wl rfl (omove (v := .bool true) rfl rfl (ev rfl rfl) ?_)
  refine wlOn (e := 6) rfl rfl rfl rfl (omove (v := .slice pm nm cm) rfl rfl (ev rfl rfl) ?_)
  obtain ⟨xz, hxz⟩ : ∃ r, (M)[0]? = some r := ⟨_, List.getElem?_eq_getElem (by have := hm.1; omega)⟩
  obtain ⟨bz, ofz, pz, cz, hpz, hcz, hsz⟩ := hm.2.2 0 _ hxz
  have hz := row0 hxz rfl
  refine wlOn (e := 6) rfl rfl rfl rfl (oindex (p := pm) (g := bz) (off := ofz) (m := nm) (k := 0) (j := (ofz + 0 * 1)) rfl rfl Tryd.runUnderlying26 Tryd.sizeOf52 (ev rfl rfl) (hpz) evc (by omega) rfl ?_)
  refine wlOn (e := 6) rfl rfl rfl rfl (oloadc (v := .slice pz xz.length cz) (show One Tryd.prog 52 from ⟨Tryd.isAgg52, Tryd.sizeOf52⟩) rfl rfl (ev (v := .pointer (some ⟨bz, (ofz + 0 * 1), none⟩)) rfl rfl) (hS.cellAt (hcz 0 _ rfl)) ?_)
  refine wlOn (e := 6) rfl rfl rfl rfl (olen rfl rfl rfl Tryd.runUnderlying52 (p := pz) (k := xz.length) (m := cz) (ev rfl rfl) ?_)
  refine wlOn (e := 6) rfl rfl rfl rfl (omove (v := .slice pm nm cm) rfl rfl (ev rfl rfl) ?_)
  refine wlOn (e := 6) rfl rfl rfl rfl (olen rfl rfl rfl Tryd.runUnderlying26 (p := pm) (k := nm) (m := cm) (ev rfl rfl) ?_)
  refine wlOn (e := 6) rfl rfl rfl rfl (obin (u := .int .i64 (xz.length : Int)) (v := .int .i64 (nm : Int)) (z := .bool false) rfl rfl (ev rfl rfl) (ev rfl rfl) (bin_eql (eqF (by omega))) ?_)
  refine wl rfl (opick (b := true) (v := .bool false) rfl rfl (ev rfl rfl) (ev rfl rfl) ?_)
  refine wl rfl (oassign (v := .bool false) rfl rfl (ev rfl rfl) ?_)
  refine wnil (thenN ?_)
  refine wleave ?_
  refine wret1 Tryd.results44 (tellT (v := .bool false) rfl rfl) ?_
  exact ⟨_, _, rfl, isI, hS.new0⟩
theorem wrnorm {pm : Option Addr} {nm cm p : Nat} {M : List (List Nat)} {w : World} (hm : MS w pm nm M) (hp0 : 0 < p) (hp2 : p < 4294967296) (hb1 : nm ≤ 2097152) (hb2 : ∀ r ∈ M, r.length ≤ 2097152) :
  Calls Tryd.prog 49 #[.slice pm nm cm, .int .u32 ((p : Nat) : Int)] w (Ret (MMn nm (modM p M)) w) := by
 have hnm := hm.1
 have hnl := hm.2.1
 simp only [maxLen] at hnl
 have hS := Sep.init w
 refine went Tryd.func49 rfl (n := 36) rfl rfl ?_
 refine wseq (wreg (wl rfl (oassign (v := .slice none 0 0) rfl rfl evc ?_)))
 refine wnil (thenN (wseq (wreg (wl rfl (oassign (v := .slice none 0 0) rfl rfl evc ?_)))))
 refine wnil (thenN (wseq (wseq (wreg (wl rfl (omove (v := .slice pm nm cm) rfl rfl (ev rfl rfl) ?_))))))
 refine wl rfl (olen rfl rfl rfl Tryd.runUnderlying26 (p := pm) (k := nm) (m := cm) (ev rfl rfl) ?_)
 refine wl rfl (omove (v := .int .i64 0) rfl rfl evc ?_)
 refine wnil (thenN (wblock ?_))
 replace hS := hS.nilLst 52 1
 refine wloop (σ := Nat) (fun i a9 w' => ∃ (fb : Nat → Value) (Q : List Rw) (pX : Option Addr) (cX : Nat), a9 = act 36 (sets fb [(1, .int .u32 (p : Int)), (4, .slice none 0 0), (5, .slice pX i cX), (11, .slice pm nm cm), (12, .int .i64 (nm : Int)), (13, .int .i64 (i : Int))]) ∧ Sep w [.lst 52 1 pX i cX (mmE Q)] w' ∧ (i ≤ nm) ∧ (nums Q = modM p (M.take i))) (fun i => nm - i) (0) ⟨_, [], none, 0, act_sets (l := [(1, .int .u32 (p : Int)), (4, .slice none 0 0), (5, .slice none 0 0), (11, .slice pm nm cm), (12, .int .i64 (nm : Int)), (13, .int .i64 0)]) ⟨rfl, rfl, rfl, rfl, rfl, rfl, trivial⟩, hS, Nat.zero_le _, rfl⟩ ?_
 clear hS; rintro i _ w1 ⟨fb, Q, pX, cX, rfl, hS, hi, hQ⟩
 refine wseq (wreg ?_)
 by_cases hlt : i < nm
 ·
  refine wl rfl (obin (u := .int .i64 (i : Int)) (v := .int .i64 (nm : Int)) (z := .bool true) rfl rfl (ev rfl rfl) (ev rfl rfl) (bin_lss (decide_eq_true (by omega))) ?_)
  refine wnil (thenN (wseq ?_))
  refine wT (ev rfl rfl) ?_
  refine wskip (thenN (wseq (wblock (wseq (wreg ?_)))))
  obtain ⟨xr, hxr⟩ : ∃ r, (M)[i]? = some r := ⟨_, List.getElem?_eq_getElem (by have := hm.1; omega)⟩
  obtain ⟨br, ofr, pr, cr, hpr, hcr, hsr⟩ := hm.2.2 i _ hxr
  have hrb := hb2 xr (List.mem_of_getElem? hxr)
  refine wl rfl (oindex (p := pm) (g := br) (off := ofr) (m := nm) (k := i) (j := (ofr + i * 1)) rfl rfl Tryd.runUnderlying26 Tryd.sizeOf52 (ev rfl rfl) (hpr) (ev rfl rfl) (by omega) rfl ?_)
  refine wl rfl (oloadc (v := .slice pr xr.length cr) (show One Tryd.prog 52 from ⟨Tryd.isAgg52, Tryd.sizeOf52⟩) rfl rfl (ev (v := .pointer (some ⟨br, (ofr + i * 1), none⟩)) rfl rfl) (hS.cellAt (hcr 0 _ rfl)) ?_)
  refine wl rfl (oassign (v := .slice pr xr.length cr) rfl rfl (ev rfl rfl) ?_)
  refine wnil (thenN (wseq (wreg (wl rfl (oassign (v := .slice none 0 0) rfl rfl evc ?_)))))
  refine wnil (thenN (wseq (wseq (wreg (wl rfl (omove (v := .slice pr xr.length cr) rfl rfl (ev rfl rfl) ?_))))))
  refine wl rfl (olen rfl rfl rfl Tryd.runUnderlying52 (p := pr) (k := xr.length) (m := cr) (ev rfl rfl) ?_)
  refine wl rfl (omove (v := .int .i64 0) rfl rfl evc ?_)
  refine wnil (thenN (wblock ?_))
  replace hS := hS.nilRowm
  refine wloop (σ := Nat) (fun k a9 w' => ∃ (fb : Nat → Value) (pO : Option Addr) (cO : Nat), a9 = act 36 (sets fb [(1, .int .u32 (p : Int)), (4, .slice none 0 0), (5, .slice pX i cX), (8, .slice pO k cO), (11, .slice pm nm cm), (12, .int .i64 (nm : Int)), (13, .int .i64 (i : Int)), (17, .slice pr xr.length cr), (18, .int .i64 (xr.length : Int)), (19, .int .i64 (k : Int))]) ∧ Sep w [.rowm pO k cO ((xr.take k).map (· % p)), .lst 52 1 pX i cX (mmE Q)] w' ∧ (k ≤ xr.length)) (fun k => xr.length - k) (0) ⟨_, none, 0, act_sets (l := [(1, .int .u32 (p : Int)), (4, .slice none 0 0), (5, .slice pX i cX), (8, .slice none 0 0), (11, .slice pm nm cm), (12, .int .i64 (nm : Int)), (13, .int .i64 (i : Int)), (17, .slice pr xr.length cr), (18, .int .i64 (xr.length : Int)), (19, .int .i64 0)]) ⟨rfl, rfl, rfl, rfl, rfl, rfl, rfl, rfl, rfl, rfl, trivial⟩, hS, Nat.zero_le _⟩ ?_
  clear hS; rintro k _ w2 ⟨fb, pO, cO, rfl, hS, hk⟩
  refine wseq (wreg ?_)
  by_cases hlk : k < xr.length
  ·
   obtain ⟨bce, oce, hpce, hcce⟩ := hsr.el (show k < xr.length by omega)
   refine wl rfl (obin (u := .int .i64 (k : Int)) (v := .int .i64 (xr.length : Int)) (z := .bool true) rfl rfl (ev rfl rfl) (ev rfl rfl) (bin_lss (decide_eq_true (by omega))) ?_)
   refine wnil (thenN (wseq ?_))
   refine wT (ev rfl rfl) ?_
   refine wskip (thenN (wseq (wblock (wseq (wreg ?_)))))
   have hml := Nat.mod_lt (nd xr k) hp0
   refine wl rfl (oindex (p := pr) (g := bce) (off := oce) (m := xr.length) (k := k) (j := (oce + k * 1)) rfl rfl Tryd.runUnderlying52 Tryd.sizeOf27 (ev rfl rfl) (hpce) (ev rfl rfl) (by omega) rfl ?_)
   refine wl rfl (oloadc (v := .int .u32 (((nd xr k : Nat) : Int))) one32 rfl rfl (ev (v := .pointer (some ⟨bce, (oce + k * 1), none⟩)) rfl rfl) (hS.cellAt (hcce 0 _ rfl)) ?_)
   refine wl rfl (oassign (v := .int .u32 (((nd xr k : Nat) : Int))) rfl rfl (ev rfl rfl) ?_)
   refine wnil (thenN (wreg (wl rfl (omove (v := .slice pO k cO) rfl rfl (ev rfl rfl) ?_))))
   refine wl rfl (omove (v := .int .u32 (((nd xr k : Nat) : Int))) rfl rfl (ev rfl rfl) ?_)
   refine wl rfl (omove (v := .int .u32 (p : Int)) rfl rfl (ev rfl rfl) ?_)
   refine wl rfl (obin (u := .int .u32 (((nd xr k : Nat) : Int))) (v := .int .u32 (p : Int)) (z := .int .u32 (((nd xr k % p : Nat) : Int))) rfl rfl (ev rfl rfl) (ev rfl rfl) (bin_rem (by omega) rfl) ?_)
   refine wl rfl (obslice (ps := #[(0, .int .u32 (((nd xr k % p : Nat) : Int)))]) (z := .int .u32 0) [.int .u32 (((nd xr k % p : Nat) : Int))] hS rfl rfl Tryd.runUnderlying52 Tryd.sizeOf27 Tryd.zeroValue27 (parts1 (ev (v := .int .u32 (((nd xr k % p : Nat) : Int))) rfl rfl)) rfl (by decide) (fill1_1s rfl rfl) ?_)
   clear hS; intro g3 w4 hS
   obtain hS := (show Sep w [.rowm pO k cO ((xr.take k).map (· % p)), .blk g3 [.int .u32 (((nd xr k % p : Nat) : Int))] 27, .lst 52 1 pX i cX (mmE Q)] w4 from hS.pick [1, 0, 2] (by decide) rfl)
   refine wl rfl (oappendR (p := pO) (m := k) (c := cO) (xs := ((xr.take k).map (· % p))) (k := 1) (c2 := 1) (a := (some ⟨g3, 0, none⟩)) (ys := ([nd xr k % p])) hS rfl rfl Tryd.underlying52 infouint32 (ev (v := .slice pO k cO) rfl rfl) (ev (v := .slice (some ⟨g3, 0, none⟩) 1 1) rfl rfl) (Sl.blk1 (hS.blkAt 1 rfl) (by omega)) (by omega) (by omega) ?_)
   clear hS; intro p6 c7 w5 hS
   refine wl rfl (oassign (v := .slice p6 ((k + 1)) c7) rfl rfl (ev rfl rfl) ?_)
   refine wnil (blkN (thenN (wreg (wl rfl (obin (u := .int .i64 (k : Int)) (v := .int .i64 1) (z := .int .i64 (((k + 1 : Nat) : Int))) rfl rfl (ev rfl rfl) evc (bin_add (wrap_i64 (by omega) (by omega))) ?_)))))
   refine wl rfl (omove (v := .int .i64 (((k + 1 : Nat) : Int))) rfl rfl (ev rfl rfl) ?_)
   refine wnil (thenN ?_)
   rw [modR_next hlk] at hS
   exact ⟨(k + 1), ⟨_, _, _, act_sets (l := [(1, .int .u32 (p : Int)), (4, .slice none 0 0), (5, .slice pX i cX), (8, .slice p6 ((k + 1)) c7), (11, .slice pm nm cm), (12, .int .i64 (nm : Int)), (13, .int .i64 (i : Int)), (17, .slice pr xr.length cr), (18, .int .i64 (xr.length : Int)), (19, .int .i64 (((k + 1 : Nat) : Int)))]) ⟨rfl, rfl, rfl, rfl, rfl, rfl, rfl, rfl, rfl, rfl, trivial⟩, hS.pick [0, 2] (by decide) rfl, by omega⟩, by omega⟩
  ·
   refine wl rfl (obin (u := .int .i64 (k : Int)) (v := .int .i64 (xr.length : Int)) (z := .bool false) rfl rfl (ev rfl rfl) (ev rfl rfl) (bin_lss (decide_eq_false (by omega))) ?_)
   refine wnil (thenN (wseq ?_))
   refine wF (ev rfl rfl) ?_
   refine wexit ?_
   refine thenE ?_
   refine thenE ?_
   refine blkE ?_
   refine thenN (wreg (wl rfl (omove (v := .slice pX i cX) rfl rfl (ev rfl rfl) ?_)))
   refine wl rfl (omove (v := .slice pO k cO) rfl rfl (ev rfl rfl) ?_)
   refine wl rfl (obslice (ps := #[(0, .slice pO k cO)]) (z := .slice none 0 0) [.slice pO k cO] hS rfl rfl Tryd.runUnderlying26 Tryd.sizeOf52 Tryd.zeroValue52 (parts1 (ev (v := .slice pO k cO) rfl rfl)) rfl (by decide) (fill1_1s rfl rfl) ?_)
   clear hS; intro g3 w4 hS
   rw [List.take_of_length_le (by omega)] at hS
   obtain hS := (show Sep w [.rowm pO k cO (xr.map (· % p)), .lst 52 1 pX i cX (mmE Q), .blk g3 [.slice pO k cO] 52] w4 from hS.pick [1, 2, 0] (by decide) rfl)
   refine wl rfl (oappendL (p := pX) (m := i) (c := cX) (g2 := g3) (c2 := 1) (off := 0) [.slice pO k cO] [.rowm pO k cO (xr.map (· % p))] hS rfl rfl Tryd.underlying26 infoRow rfl (by decide) (ev (v := .slice pX i cX) rfl rfl) (ev (v := .slice (some ⟨g3, 0, none⟩) 1 1) rfl rfl) (fun j v hj => by rw [Nat.zero_add]; exact (blk_cell (hS.blkAt 2 rfl) j).trans hj) rfl rfl rfl (by omega) (by omega) ?_)
   clear hS; intro p6 c7 w5 hS
   refine wl rfl (oassign (v := .slice p6 ((i + 1)) c7) rfl rfl (ev rfl rfl) ?_)
   refine wnil (blkN (thenN (wreg (wl rfl (obin (u := .int .i64 (i : Int)) (v := .int .i64 1) (z := .int .i64 (((i + 1 : Nat) : Int))) rfl rfl (ev rfl rfl) evc (bin_add (wrap_i64 (by omega) (by omega))) ?_)))))
   refine wl rfl (omove (v := .int .i64 (((i + 1 : Nat) : Int))) rfl rfl (ev rfl rfl) ?_)
   refine wnil (thenN ?_)
   rw [mmE_snoc (xs := xr.map (· % p)) (n := k) (by rw [List.length_map]; omega)] at hS
   exact ⟨(i + 1), ⟨_, _, _, _, act_sets (l := [(1, .int .u32 (p : Int)), (4, .slice none 0 0), (5, .slice p6 ((i + 1)) c7), (11, .slice pm nm cm), (12, .int .i64 (nm : Int)), (13, .int .i64 (((i + 1 : Nat) : Int)))]) ⟨rfl, rfl, rfl, rfl, rfl, rfl, trivial⟩, hS.pick [0] (by decide) rfl, by omega, by rw [nums_app, hQ, take_next hxr]; simp [modM]⟩, by omega⟩
 ·
  refine wl rfl (obin (u := .int .i64 (i : Int)) (v := .int .i64 (nm : Int)) (z := .bool false) rfl rfl (ev rfl rfl) (ev rfl rfl) (bin_lss (decide_eq_false (by omega))) ?_)
  refine wnil (thenN (wseq ?_))
  refine wF (ev rfl rfl) ?_
  refine wexit ?_
  refine thenE ?_
  refine thenE ?_
  refine blkE ?_
  refine thenN (wseq (wreg (wl rfl (omove (v := .slice pX i cX) rfl rfl (ev rfl rfl) ?_))))
  refine wl rfl (oassign (v := .slice pX i cX) rfl rfl (ev rfl rfl) ?_)
  refine wnil (thenN ?_)
  refine wleave ?_
  have hin : i = nm := by omega
  refine wret1 Tryd.results49 (tellT (v := .slice pX i cX) rfl rfl) ?_
  exact ⟨_, _, rfl, ⟨pX, cX, Q, by rw [hQ, List.take_of_length_le (by omega)], by rw [hin], by rw [hin]⟩, hS.newR 0 rfl rfl⟩
theorem wrident {n : Nat} {w : World} (hn : n ≤ 2097152) :
  Calls Tryd.prog 24 #[.int .i64 ((n : Nat) : Int)] w (Ret (MMn n (idM n)) w) := by
 have hS := Sep.init w
 refine went Tryd.func24 rfl (n := 21) rfl rfl ?_
 refine wseq (wreg (wl rfl (oassign (v := .slice none 0 0) rfl rfl evc ?_)))
 refine wnil (thenN (wseq (wreg (wl rfl (oassign (v := .slice none 0 0) rfl rfl evc ?_)))))
 refine wnil (thenN (wseq (wseq (wreg (wl rfl (omove (v := .int .i64 (n : Int)) rfl rfl (ev rfl rfl) ?_))))))
 refine wl rfl (omove (v := .int .i64 0) rfl rfl evc ?_)
 refine wnil (thenN (wblock ?_))
 replace hS := hS.nilLst 52 1
 refine wloop (σ := Nat) (fun i a9 w' => ∃ (fb : Nat → Value) (Q : List Rw) (pX : Option Addr) (cX : Nat), a9 = act 21 (sets fb [(0, .int .i64 (n : Int)), (2, .slice none 0 0), (3, .slice pX i cX), (6, .int .i64 (n : Int)), (7, .int .i64 (i : Int))]) ∧ Sep w [.lst 52 1 pX i cX (mmE Q)] w' ∧ (i ≤ n) ∧ (nums Q = mkM i n (fun i k => if i = k then 1 else 0))) (fun i => n - i) (0) ⟨_, [], none, 0, act_sets (l := [(0, .int .i64 (n : Int)), (2, .slice none 0 0), (3, .slice none 0 0), (6, .int .i64 (n : Int)), (7, .int .i64 0)]) ⟨rfl, rfl, rfl, rfl, rfl, trivial⟩, hS, Nat.zero_le _, rfl⟩ ?_
 clear hS; rintro i _ w1 ⟨fb, Q, pX, cX, rfl, hS, hi, hQ⟩
 refine wseq (wreg ?_)
 by_cases hlt : i < n
 ·
  refine wl rfl (obin (u := .int .i64 (i : Int)) (v := .int .i64 (n : Int)) (z := .bool true) rfl rfl (ev rfl rfl) (ev rfl rfl) (bin_lss (decide_eq_true (by omega))) ?_)
  refine wnil (thenN (wseq ?_))
  refine wT (ev rfl rfl) ?_
  refine wskip (thenN (wseq (wblock (wseq (wreg (wl rfl (omove (v := .int .i64 (i : Int)) rfl rfl (ev rfl rfl) ?_)))))))
  refine wl rfl (oassign (v := .int .i64 (i : Int)) rfl rfl (ev rfl rfl) ?_)
  refine wnil (thenN (wseq (wreg (wl rfl (omove (v := .int .i64 (n : Int)) rfl rfl (ev rfl rfl) ?_)))))
  refine wl rfl (omakeL (zs := [.int .u32 0]) (k := n) (m := n) hS rfl rfl Tryd.underlying52 infouint32 rfl rfl (by decide) rfl (ev (v := .int .i64 (n : Int)) rfl rfl) (ev (v := .int .i64 (n : Int)) rfl rfl) (by omega) (by omega) (by omega) ?_)
  clear hS; intro g2 w3 hS
  refine wl rfl (oassign (v := .slice (some ⟨g2, 0, none⟩) n n) rfl rfl (ev rfl rfl) ?_)
  refine wnil (thenN (wseq (wreg (wl rfl (omove (v := .slice (some ⟨g2, 0, none⟩) n n) rfl rfl (ev rfl rfl) ?_)))))
  refine wl rfl (omove (v := .int .i64 (i : Int)) rfl rfl (ev rfl rfl) ?_)
  obtain hS := (show Sep w [.lst 27 1 (some ⟨g2, 0, none⟩) n n (u32E (List.replicate n 0)), .lst 52 1 pX i cX (mmE Q)] w3 from by rw [u32E_rep]; exact hS).lstRow (lims_zeros _)
  refine wl rfl (oindex (p := (some ⟨g2, 0, none⟩)) (g := g2) (off := 0) (m := n) (k := i) (j := i) rfl rfl Tryd.runUnderlying52 Tryd.sizeOf27 (ev rfl rfl) (rfl) (ev rfl rfl) (by omega) (by simp) ?_)
  refine wl rfl (ostoreRow (i := i) (u := 1) Tryd.sizeOf27 hS 0 rfl rfl (ev (v := .pointer (some ⟨g2, i, none⟩)) rfl rfl) (evc (v := .int .u32 ((1 : Nat) : Int))) rfl (rfl) ((by omega)) (by omega) ?_)
  clear hS; intro w4 hS
  refine wnil (thenN (wreg (wl rfl (omove (v := .slice pX i cX) rfl rfl (ev rfl rfl) ?_))))
  refine wl rfl (omove (v := .slice (some ⟨g2, 0, none⟩) n n) rfl rfl (ev rfl rfl) ?_)
  refine wl rfl (obslice (ps := #[(0, .slice (some ⟨g2, 0, none⟩) n n)]) (z := .slice none 0 0) [.slice (some ⟨g2, 0, none⟩) n n] hS rfl rfl Tryd.runUnderlying26 Tryd.sizeOf52 Tryd.zeroValue52 (parts1 (ev (v := .slice (some ⟨g2, 0, none⟩) n n) rfl rfl)) rfl (by decide) (fill1_1s rfl rfl) ?_)
  clear hS; intro g5 w6 hS
  rw [idrow hlt] at hS
  obtain hS := (show Sep w [.rowm (some ⟨g2, 0, none⟩) n n (rowF n (fun k => if i = k then 1 else 0)), .lst 52 1 pX i cX (mmE Q), .blk g5 [.slice (some ⟨g2, 0, none⟩) n n] 52] w6 from hS.pick [1, 2, 0] (by decide) rfl)
  refine wl rfl (oappendL (p := pX) (m := i) (c := cX) (g2 := g5) (c2 := 1) (off := 0) [.slice (some ⟨g2, 0, none⟩) n n] [.rowm (some ⟨g2, 0, none⟩) n n (rowF n (fun k => if i = k then 1 else 0))] hS rfl rfl Tryd.underlying26 infoRow rfl (by decide) (ev (v := .slice pX i cX) rfl rfl) (ev (v := .slice (some ⟨g5, 0, none⟩) 1 1) rfl rfl) (fun j v hj => by rw [Nat.zero_add]; exact (blk_cell (hS.blkAt 2 rfl) j).trans hj) rfl rfl rfl (by omega) (by omega) ?_)
  clear hS; intro p8 c9 w7 hS
  refine wl rfl (oassign (v := .slice p8 ((i + 1)) c9) rfl rfl (ev rfl rfl) ?_)
  refine wnil (blkN (thenN (wreg (wl rfl (obin (u := .int .i64 (i : Int)) (v := .int .i64 1) (z := .int .i64 (((i + 1 : Nat) : Int))) rfl rfl (ev rfl rfl) evc (bin_add (wrap_i64 (by omega) (by omega))) ?_)))))
  refine wl rfl (omove (v := .int .i64 (((i + 1 : Nat) : Int))) rfl rfl (ev rfl rfl) ?_)
  refine wnil (thenN ?_)
  rw [mmE_snoc (xs := rowF n (fun k => if i = k then 1 else 0)) (n := n) (rowF_len _ _)] at hS
  exact ⟨(i + 1), ⟨_, _, _, _, act_sets (l := [(0, .int .i64 (n : Int)), (2, .slice none 0 0), (3, .slice p8 ((i + 1)) c9), (6, .int .i64 (n : Int)), (7, .int .i64 (((i + 1 : Nat) : Int)))]) ⟨rfl, rfl, rfl, rfl, rfl, trivial⟩, hS.pick [0] (by decide) rfl, by omega, by rw [nums_app, hQ, mkM_S]⟩, by omega⟩
 ·
  refine wl rfl (obin (u := .int .i64 (i : Int)) (v := .int .i64 (n : Int)) (z := .bool false) rfl rfl (ev rfl rfl) (ev rfl rfl) (bin_lss (decide_eq_false (by omega))) ?_)
  refine wnil (thenN (wseq ?_))
  refine wF (ev rfl rfl) ?_
  refine wexit ?_
  refine thenE ?_
  refine thenE ?_
  refine blkE ?_
  refine thenN (wseq (wreg (wl rfl (omove (v := .slice pX i cX) rfl rfl (ev rfl rfl) ?_))))
  refine wl rfl (oassign (v := .slice pX i cX) rfl rfl (ev rfl rfl) ?_)
  refine wnil (thenN ?_)
  refine wleave ?_
  have hin : i = n := by omega
  refine wret1 Tryd.results24 (tellT (v := .slice pX i cX) rfl rfl) ?_
  exact ⟨_, _, rfl, ⟨pX, cX, Q, by rw [hQ, hin]; rfl, by rw [hin], by rw [hin]⟩, hS.newR 0 rfl rfl⟩
end Go.Proofs.YtndilfigdbenoaaDoor
/-
  The document's Reduce.
-/
namespace Go.Proofs.YtndilfigdbenoaaDoor
open Go.RowKit
def RdR (p : Nat) (M : List (List Nat)) (n : Nat) : Tell := fun v r => ∃ (px : Option Addr) (cx : Nat) (pv : Option Addr) (cv : Nat) (P : List Nat) (Q : List Rw), redTo p (modM p M) (colsM M) = (nums Q, P) ∧ v = .tuple #[.slice px n cx, .slice pv P.length cv] ∧ r = [.lst 52 1 px n cx (mmE Q), .lst 3 1 pv P.length cv (intE P)]
theorem wrsub {a b p : Nat} {w : World} (hp0 : 0 < p) (hp2 : p < 4294967296) (ha : a < p) (hb : b < p) : Calls Tryd.prog 51 #[.int .u32 (a : Int), .int .u32 (b : Int), .int .u32 (p : Int)] w (Ret (Is (.int .u32 (((a + p - b) % p : Nat) : Int))) w) := by
  have h := wssub (w := w) hp0 hp2 (show a < 4294967296 by omega) (show b < 4294967296 by omega)
  rwa [Nat.mod_eq_of_lt ha, Nat.mod_eq_of_lt hb] at h
theorem Shp.cols {p C : Nat} {M : List (List Nat)} (h : Shp p C M) (h0 : M.length = 0 → C = 0) : colsM M = C := by
  by_cases e : M.length = 0
  · rw [h0 e]; unfold colsM; rw [List.eq_nil_of_length_eq_zero e]; rfl
  · unfold colsM; exact (h.at (by omega)).1
end Go.Proofs.YtndilfigdbenoaaDoor
