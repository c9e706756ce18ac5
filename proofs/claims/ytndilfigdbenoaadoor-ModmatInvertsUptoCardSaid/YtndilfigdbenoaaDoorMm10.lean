
/-
  The document's Inverse.
-/
import Derived.Test.YtndilfigdbenoaaDoorMm9
set_option linter.unusedVariables false
set_option linter.unusedSimpArgs false
set_option maxRecDepth 100000
set_option maxHeartbeats 16000000
namespace Go.Proofs.YtndilfigdbenoaaDoor
open Go.RowKit
def augL (M N : List (List Nat)) (i : Nat) : List (List Nat) := (List.range i).map fun k => M.getD k [] ++ N.getD k []
theorem augL_S (M N : List (List Nat)) (i : Nat) : augL M N (i + 1) = augL M N i ++ [M.getD i [] ++ N.getD i []] := by simp [augL, List.range_succ]
theorem augL_len (M N : List (List Nat)) (i : Nat) : (augL M N i).length = i := by simp [augL]
theorem augL_get {M N : List (List Nat)} {i k : Nat} (h : k < i) : (augL M N i).getD k [] = M.getD k [] ++ N.getD k [] := by simp [augL, List.getD, h]
theorem modM_get {p : Nat} {M : List (List Nat)} {i : Nat} (h : i < M.length) : (modM p M).getD i [] = (M.getD i []).map (· % p) := by simp [modM, List.getD, h]
theorem idM_get {n i : Nat} (h : i < n) : (idM n).getD i [] = rowF n (fun k => if i = k then 1 else 0) := by simp [idM, mkM, List.getD, h]
theorem idM_len (n : Nat) : (idM n).length = n := mkM_len ..
theorem augL_mod {p : Nat} {M : List (List Nat)} (hp : 1 < p) (hq : M.length = colsM M) : modM p (augL M (idM M.length) M.length) = augM p M := by
  refine ext_getD (by rw [modM_len, augL_len, augM_len]) fun i hi => ?_
  rw [modM_len, augL_len] at hi
  rw [modM_get (by rw [augL_len]; exact hi), augL_get hi]
  unfold augM besM
  rw [besTo_done (by rw [modM_len]; exact hi) (by rw [modM_len]; exact hi), modM_get hi, List.map_append, ← hq]
  congr 1
  rw [idM_get hi]
  unfold rowF
  rw [List.map_map]
  apply List.map_congr_left
  intro k _
  show (if i = k then 1 else 0) % p = _
  split
  · exact Nat.mod_eq_of_lt hp
  · exact Nat.zero_mod p
theorem augL_rows {M : List (List Nat)} (hr : RectM M) (hq : M.length = colsM M) : ∀ r ∈ augL M (idM M.length) M.length, r.length = M.length + M.length := fun r hr' => by
  obtain ⟨i, hi, rfl⟩ := mem_getD hr'
  rw [augL_len] at hi
  rw [augL_get hi, List.length_append, idM_get hi, rowF_len]
  have h1 := hr _ (List.mem_of_getElem? (get_getD hi))
  rw [h1, hq]
theorem augL_cols {M : List (List Nat)} (hr : RectM M) (h0 : M.length ≠ 0) (hq : M.length = colsM M) : colsM (augL M (idM M.length) M.length) = M.length + M.length := augL_rows hr hq _ (List.mem_of_getElem? (get_getD (by rw [augL_len]; omega)))
def shA (d : Nat) : Addr → Addr | ⟨b, o, x⟩ => ⟨b, o + d * 1, x⟩
def dropE (d : Nat) (Q : List Rw) : List El := Q.map fun q => ⟨[.slice (q.p.map (shA d)) (q.xs.length - d) (q.c - d)], []⟩
theorem dropE_snoc {Q : List Rw} {d i g C c : Nat} {p : Option Addr} {xs : List Nat} (hq : Q[i]? = some ⟨p, c, xs⟩) (hp : p = some ⟨g, 0, none⟩) (hn : xs.length = C) : dropE d (Q.take i) ++ [⟨[.slice (some ⟨g, 0 + d * 1, none⟩) (C - d) (c - d)], []⟩] = dropE d (Q.take (i + 1)) := by
  subst hp; subst hn
  rw [take_next hq]
  simp [dropE, shA]
theorem Sep.msD {w0 w : World} {R : List Res} (hS : Sep w0 R w) (k l : Nat) {po px : Option Addr} {n co cx d : Nat} {Q : List Rw} (hk : R[k]? = some (.lst 52 1 po n co (dropE d Q))) (hl : R[l]? = some (.lst 52 1 px n cx (mmE Q))) (hn : n ≤ maxLen) (hd : ∀ r ∈ nums Q, d ≤ r.length ∧ 0 < r.length) : MS w po n ((nums Q).map (·.drop d)) := by
 refine ⟨by rw [List.length_map, nums_len, ← mmE_len]; exact hS.lstLen l hl, hn, fun i row hr => ?_⟩
 rw [List.getElem?_map] at hr
 obtain ⟨xs, hxs, rfl⟩ := Option.map_eq_some_iff.1 hr
 obtain ⟨q, hq, rfl⟩ : ∃ q, Q[i]? = some q ∧ q.xs = xs := by
  unfold nums at hxs
  rw [List.getElem?_map] at hxs
  exact Option.map_eq_some_iff.1 hxs
 obtain ⟨h1, h2⟩ := hd _ (List.mem_of_getElem? hxs)
 obtain ⟨pp, cc, ys⟩ := q
 obtain ⟨g, hg⟩ := hS.mPtr l hl hq h2
 subst hg
 obtain ⟨g2, e1, e2, _⟩ := hS.lstCell k hk (i := i) (el := ⟨[.slice (some ⟨g, 0 + d * 1, none⟩) (ys.length - d) (cc - d)], []⟩) (by unfold dropE; rw [List.getElem?_map, hq]; rfl) (by decide)
 refine ⟨g2, 0, _, cc - d, e1, fun j v hj => e2 j v (by rw [List.length_drop] at hj; exact hj), ?_⟩
 have := Sl.dropR (hS.mFr l hl hq).sl rfl rfl h1
 rw [List.length_drop]
 exact this
theorem intE_get {P : List Nat} {i : Nat} (h : i < P.length) : (intE P)[i]? = some ⟨[.int .i64 ((nd P i : Nat) : Int)], []⟩ := by
  unfold intE
  rw [List.getElem?_map, List.getElem?_eq_getElem h, nd_get h]; rfl
def InvR (n : Nat) (N : List (List Nat)) : Tell := fun v r => ∃ (po : Option Addr) (co : Nat) (px : Option Addr) (cx : Nat) (Q : List Rw), (nums Q).map (·.drop n) = N ∧ (∀ r ∈ nums Q, n ≤ r.length ∧ 0 < r.length) ∧ v = .tuple #[.slice po n co, .bool true] ∧ r = [.lst 52 1 po n co (dropE n Q), .lst 52 1 px n cx (mmE Q)]
theorem redTo_pre {p C : Nat} {M : List (List Nat)} (h : Shp p C M) (hp : 0 < p) (c : Nat) : ∀ k, (redTo p M c).2 <+: (redTo p M (c + k)).2 ∧ ∀ x ∈ (redTo p M (c + k)).2.drop (redTo p M c).2.length, c ≤ x
 | 0 => ⟨List.prefix_refl _, fun x hx => by rw [Nat.add_zero, List.drop_length] at hx; cases hx⟩
 | k + 1 => by
  obtain ⟨h1, h2⟩ := redTo_pre h hp c k
  show (redTo p M c).2 <+: (redStep p (c + k) (redTo p M (c + k))).2 ∧ _
  cases hf : firstNZ (redTo p M (c + k)).1 (c + k) ((redTo p M (c + k)).1.length - (redTo p M (c + k)).2.length) (redTo p M (c + k)).2.length with
  | none =>
   have e := redStep_none (p := p) hf
   rw [show redTo p M (c + (k + 1)) = redStep p (c + k) (redTo p M (c + k)) from rfl, e]
   exact ⟨h1, h2⟩
  | some i =>
   have e := redStep_some (p := p) hf
   rw [show redTo p M (c + (k + 1)) = redStep p (c + k) (redTo p M (c + k)) from rfl, e]
   refine ⟨h1.trans (List.prefix_append ..), fun x hx => ?_⟩
   simp only at hx
   rw [List.drop_append_of_le_length h1.length_le] at hx
   rcases List.mem_append.1 hx with h3 | h3
   ·exact h2 x h3
   ·rw [List.mem_singleton.1 h3]; omega
theorem redTo_incr {p : Nat} {M : List (List Nat)} : ∀ c i, i < (redTo p M c).2.length → i ≤ nd (redTo p M c).2 i ∧ nd (redTo p M c).2 i + (redTo p M c).2.length ≤ c + i
 | 0, i, h => by cases h
 | c + 1, i, h => by
  have hr : redTo p M (c + 1) = redStep p c (redTo p M c) := rfl
  cases hf : firstNZ (redTo p M c).1 c ((redTo p M c).1.length - (redTo p M c).2.length) (redTo p M c).2.length with
  | none =>
   rw [hr, redStep_none hf] at h ⊢
   have := redTo_incr (p := p) (M := M) c i h
   omega
  | some j =>
   rw [hr, redStep_some hf] at h ⊢
   simp only [List.length_append, List.length_cons, List.length_nil] at h ⊢
   rw [nd_append]
   by_cases hi : i < (redTo p M c).2.length
   ·have := redTo_incr (p := p) (M := M) c i hi
    rw [if_pos hi]; omega
   ·have e : i = (redTo p M c).2.length := by omega
    have hle : (redTo p M c).2.length ≤ c := by
     by_cases h0 : (redTo p M c).2.length = 0
     ·omega
     ·have := redTo_incr (p := p) (M := M) c 0 (by omega)
      omega
    rw [if_neg hi, e, Nat.sub_self]
    show _ ≤ c ∧ c + _ ≤ _
    omega
theorem piv_ok {p C n k : Nat} {M : List (List Nat)} (h : Shp p C M) (hp : 0 < p) (hl : M.length = n) (hn : ¬ (redTo p M n).2.length < n) : redTo p M (n + k) = redTo p M n ∧ (redTo p M n).2.length = n ∧ ∀ i, i < n → nd (redTo p M n).2 i = i := by
  obtain ⟨h1, _, h3, _, _⟩ := redTo_inv h hp n
  have hlen : (redTo p M n).2.length = n := by omega
  refine ⟨redTo_full (by omega) k, hlen, fun i hi => ?_⟩
  have := redTo_incr (p := p) (M := M) n i (by omega)
  omega
theorem piv_bad {p C n k : Nat} {M : List (List Nat)} (h : Shp p C M) (hp : 0 < p) (hn : (redTo p M n).2.length < n) (ha : ∀ i, i < n → i < (redTo p M (n + k)).2.length ∧ nd (redTo p M (n + k)).2 i = i) : False := by
 obtain ⟨_, h2⟩ := redTo_pre h hp n k
 obtain ⟨a1, a2⟩ := ha _ hn
 have h3 := h2 (nd (redTo p M (n + k)).2 (redTo p M n).2.length) (by
  rw [nd_get a1, List.mem_iff_getElem?]
  exact ⟨0, by rw [List.getElem?_drop, Nat.add_zero, List.getElem?_eq_getElem a1]⟩)
 omega
theorem wrinverseF {pm : Option Addr} {n cm p : Nat} {M : List (List Nat)} {w : World} (hm : MS w pm n M) (hp1 : 1 < p) (hp2 : p < 4294967296) (hs : SmallM M) (hr : RectM M) (h0 : M.length ≠ 0) (hq : M.length = colsM M) (hns : (redTo p (augM p M) (colsM M)).2.length < colsM M) :
  Calls Tryd.prog 16 #[.slice pm n cm, .int .u32 ((p : Nat) : Int)] w (Ret (Is (.tuple #[.slice none 0 0, .bool false])) w) := by
 obtain rfl := hm.1
 have hp0 : 0 < p := by omega
 have hn := hs.1
 have hA : Shp p (M.length + M.length) (augM p M) := by have h9 := augM_shp (p := p) hp1 hr hq; rwa [← hq] at h9
 rw [← hq] at hns
 have hS := Sep.init w
 refine went Tryd.func16 rfl (n := 68) rfl rfl ?_
 refine wseq (wreg (wl rfl (oassign (v := .slice none 0 0) rfl rfl evc ?_)))
 refine wl rfl (oassign (v := .bool false) rfl rfl evc ?_)
 refine wnil (thenN (wseq (wreg (wl rfl (oassign (v := .slice none 0 0) rfl rfl evc ?_)))))
 refine wnil (thenN (wseq (wseq (wreg (wl rfl (omove (v := .slice pm M.length cm) rfl rfl (ev rfl rfl) ?_))))))
 refine wl rfl (olen rfl rfl rfl Tryd.runUnderlying26 (p := pm) (k := M.length) (m := cm) (ev rfl rfl) ?_)
 refine wl rfl (omove (v := .int .i64 0) rfl rfl evc ?_)
 refine wnil (thenN (wblock ?_))
 replace hS := hS.nilLst 52 1
 refine wloop (σ := Nat) (fun i a9 w' => ∃ (fb : Nat → Value) (Q : List Rw) (pX : Option Addr) (cX : Nat), a9 = act 68 (sets fb [(0, .slice pm M.length cm), (1, .int .u32 (p : Int)), (4, .slice none 0 0), (5, .bool false), (6, .slice pX i cX), (13, .slice pm M.length cm), (14, .int .i64 (M.length : Int)), (15, .int .i64 (i : Int))]) ∧ Sep w [.lst 52 1 pX i cX (mmE Q)] w' ∧ (i ≤ M.length) ∧ (nums Q = augL M (idM M.length) i)) (fun i => M.length - i) (0) ⟨_, [], none, 0, act_sets (l := [(0, .slice pm M.length cm), (1, .int .u32 (p : Int)), (4, .slice none 0 0), (5, .bool false), (6, .slice none 0 0), (13, .slice pm M.length cm), (14, .int .i64 (M.length : Int)), (15, .int .i64 0)]) ⟨rfl, rfl, rfl, rfl, rfl, rfl, rfl, rfl, trivial⟩, hS, Nat.zero_le _, rfl⟩ ?_
 clear hS; rintro i _ w1 ⟨fb, Q, pX, cX, rfl, hS, hi, hQ⟩
 refine wseq (wreg ?_)
 by_cases hlt : i < M.length
 ·
  refine wl rfl (obin (u := .int .i64 (i : Int)) (v := .int .i64 (M.length : Int)) (z := .bool true) rfl rfl (ev rfl rfl) (ev rfl rfl) (bin_lss (decide_eq_true (by omega))) ?_)
  refine wnil (thenN (wseq ?_))
  refine wT (ev rfl rfl) ?_
  refine wskip (thenN (wseq (wblock (wseq (wreg (wl rfl (omove (v := .int .i64 (i : Int)) rfl rfl (ev rfl rfl) ?_)))))))
  obtain ⟨xr, hxr⟩ : ∃ r, (M)[i]? = some r := ⟨_, List.getElem?_eq_getElem (by have := hm.1; omega)⟩
  obtain ⟨br, ofr, pr, cr, hpr, hcr, hsr⟩ := hm.2.2 i _ hxr
  have hxl : xr.length = M.length := (hr xr (List.mem_of_getElem? hxr)).trans hq.symm
  obtain ⟨bq, oq, hpq, _⟩ := hsr.cell 0 (by omega)
  subst hpq
  refine wl rfl (oindex (p := pm) (g := br) (off := ofr) (m := M.length) (k := i) (j := (ofr + i * 1)) rfl rfl Tryd.runUnderlying26 Tryd.sizeOf52 (ev rfl rfl) (hpr) (ev rfl rfl) (by omega) rfl ?_)
  refine wl rfl (oloadc (v := .slice ((some ⟨bq, oq, none⟩)) xr.length cr) (show One Tryd.prog 52 from ⟨Tryd.isAgg52, Tryd.sizeOf52⟩) rfl rfl (ev (v := .pointer (some ⟨br, (ofr + i * 1), none⟩)) rfl rfl) (hS.cellAt (hcr 0 _ rfl)) ?_)
  refine wl rfl (oassign (v := .int .i64 (i : Int)) rfl rfl (ev rfl rfl) ?_)
  refine wl rfl (oassign (v := .slice ((some ⟨bq, oq, none⟩)) xr.length cr) rfl rfl (ev rfl rfl) ?_)
  refine wnil (thenN (wreg (wl rfl (omove (v := .slice pX i cX) rfl rfl (ev rfl rfl) ?_))))
  refine wl rfl (obslice0 hS rfl rfl Tryd.runUnderlying52 Tryd.sizeOf27 ?_)
  clear hS; intro g2 w3 hS
  refine wl rfl (omove (v := .slice ((some ⟨bq, oq, none⟩)) xr.length cr) rfl rfl (ev rfl rfl) ?_)
  refine wl rfl (oappend0 (g := g2) (m := xr.length) (c2 := cr) (xr.map fun x : Nat => Value.int .u32 (x : Int)) hS rfl rfl Tryd.underlying52 infouint32 rfl (by decide) (ev (v := .slice (some ⟨g2, 0, none⟩) 0 0) rfl rfl) (ev (v := .slice ((some ⟨bq, oq, none⟩)) xr.length cr) rfl rfl) (by rw [List.length_map, hsr.len, Nat.mul_one]) ((hsr.below hS.below (Nat.le_refl _)).news) (fun u hu => by obtain ⟨x, _, rfl⟩ := List.mem_map.1 hu; rfl) (by omega) (by omega) ?_)
  clear hS; intro p5 c6 w4 hS
  replace hS := hS.ownRow hsr.len hsr.lims
  refine wl rfl (omove (v := .slice pm M.length cm) rfl rfl (ev rfl rfl) ?_)
  refine wl rfl (olen rfl rfl rfl Tryd.runUnderlying26 (p := pm) (k := M.length) (m := cm) (ev rfl rfl) ?_)
  refine wl rfl (ocall rfl rfl Tryd.call24 rfl (wrident (by omega)) (args1 (ev rfl rfl)) ?_)
  rintro _ w7 ⟨_, _, rfl, ⟨pI, cI, QI, hQI, rfl, rfl⟩, hN⟩
  refine ⟨_, rfl, ?_⟩
  replace hS := hS.news hN; clear hN
  refine wl rfl (omove (v := .int .i64 (i : Int)) rfl rfl (ev rfl rfl) ?_)
  have hIl : QI.length = M.length := by rw [nums_lenE hQI]; exact idM_len _
  have hIs : Shp 2 M.length (nums QI) := by rw [hQI]; exact idM_shp (by decide)
  obtain ⟨gI, hgI⟩ := hS.lstPtr 0 rfl (by omega)
  obtain ⟨⟨pb, cb, xb⟩, hqb⟩ : ∃ q, (QI)[i]? = some q := ⟨_, List.getElem?_eq_getElem (by omega)⟩
  have hdb : (nums (QI)).getD i [] = xb := getD_get (nums_get hqb)
  obtain ⟨hnb, hltb⟩ := hIs.get (nums_get hqb)
  simp only at hnb hltb
  refine wl rfl (oindex (p := pI) (g := gI) (off := 0) (m := M.length) (k := i) (j := (0 + i * 1)) rfl rfl Tryd.runUnderlying26 Tryd.sizeOf52 (ev rfl rfl) (hgI) (ev rfl rfl) (by omega) rfl ?_)
  refine wl rfl (oloadc (v := .slice pb M.length cb) (show One Tryd.prog 52 from ⟨Tryd.isAgg52, Tryd.sizeOf52⟩) rfl rfl (ev (v := .pointer (some ⟨gI, (0 + i * 1), none⟩)) rfl rfl) (hS.mRow 0 rfl hqb hnb hgI) ?_)
  obtain hS := (show Sep w [.rowm p5 xr.length c6 xr, .lst 52 1 pI M.length cI (mmE QI), .lst 52 1 pX i cX (mmE Q)] w7 from hS.pick [1, 0, 2] (by decide) rfl)
  refine wl rfl (oappendR (p := p5) (m := xr.length) (c := c6) (xs := xr) (k := M.length) (c2 := cb) (a := pb) (ys := xb) hS rfl rfl Tryd.underlying52 infouint32 (ev (v := .slice p5 xr.length c6) rfl rfl) (ev (v := .slice pb M.length cb) rfl rfl) ((show Sl _ pb M.length cb xb from hnb ▸ (hS.mFr 1 rfl hqb).sl)) (by omega) (by omega) ?_)
  clear hS; intro p9 c10 w8 hS
  refine wl rfl (obslice (ps := #[(0, .slice p9 ((xr.length + M.length)) c10)]) (z := .slice none 0 0) [.slice p9 ((xr.length + M.length)) c10] hS rfl rfl Tryd.runUnderlying26 Tryd.sizeOf52 Tryd.zeroValue52 (parts1 (ev (v := .slice p9 ((xr.length + M.length)) c10) rfl rfl)) rfl (by decide) (fill1_1s rfl rfl) ?_)
  clear hS; intro g11 w12 hS
  obtain hS := (show Sep w [.rowm p9 ((xr.length + M.length)) c10 (xr ++ xb), .lst 52 1 pX i cX (mmE Q), .blk g11 [.slice p9 ((xr.length + M.length)) c10] 52, .lst 52 1 pI M.length cI (mmE QI)] w12 from hS.pick [1, 3, 0, 2] (by decide) rfl)
  refine wl rfl (oappendL (p := pX) (m := i) (c := cX) (g2 := g11) (c2 := 1) (off := 0) [.slice p9 ((xr.length + M.length)) c10] [.rowm p9 ((xr.length + M.length)) c10 (xr ++ xb)] hS rfl rfl Tryd.underlying26 infoRow rfl (by decide) (ev (v := .slice pX i cX) rfl rfl) (ev (v := .slice (some ⟨g11, 0, none⟩) 1 1) rfl rfl) (fun j v hj => by rw [Nat.zero_add]; exact (blk_cell (hS.blkAt 2 rfl) j).trans hj) rfl rfl rfl (by omega) (by omega) ?_)
  clear hS; intro p14 c15 w13 hS
  refine wl rfl (oassign (v := .slice p14 ((i + 1)) c15) rfl rfl (ev rfl rfl) ?_)
  refine wnil (blkN (thenN (wreg (wl rfl (obin (u := .int .i64 (i : Int)) (v := .int .i64 1) (z := .int .i64 (((i + 1 : Nat) : Int))) rfl rfl (ev rfl rfl) evc (bin_add (wrap_i64 (by omega) (by omega))) ?_)))))
  refine wl rfl (omove (v := .int .i64 (((i + 1 : Nat) : Int))) rfl rfl (ev rfl rfl) ?_)
  refine wnil (thenN ?_)
  rw [mmE_snoc (xs := xr ++ xb) (n := xr.length + M.length) (by rw [List.length_append, hnb])] at hS
  exact ⟨(i + 1), ⟨_, _, _, _, act_sets (l := [(0, .slice pm M.length cm), (1, .int .u32 (p : Int)), (4, .slice none 0 0), (5, .bool false), (6, .slice p14 ((i + 1)) c15), (13, .slice pm M.length cm), (14, .int .i64 (M.length : Int)), (15, .int .i64 (((i + 1 : Nat) : Int)))]) ⟨rfl, rfl, rfl, rfl, rfl, rfl, rfl, rfl, trivial⟩, hS.pick [0] (by decide) rfl, by omega, by rw [nums_app, hQ, augL_S, getD_get hxr, ← hdb, hQI]⟩, by omega⟩
 ·
  refine wl rfl (obin (u := .int .i64 (i : Int)) (v := .int .i64 (M.length : Int)) (z := .bool false) rfl rfl (ev rfl rfl) (ev rfl rfl) (bin_lss (decide_eq_false (by omega))) ?_)
  refine wnil (thenN (wseq ?_))
  refine wF (ev rfl rfl) ?_
  refine wexit ?_
  refine thenE ?_
  refine thenE ?_
  refine blkE ?_
  refine thenN (wseq (wreg (wl rfl (omove (v := .slice pX i cX) rfl rfl (ev rfl rfl) ?_))))
  refine wl rfl (omove (v := .int .u32 (p : Int)) rfl rfl (ev rfl rfl) ?_)
  replace hS := hS.nilLst 52 1
  obtain rfl : i = M.length := by omega
  have hQn : nums Q = augL M (idM M.length) M.length := hQ
  refine wl rfl (ocall rfl rfl Tryd.call33 rfl (wrreduce (hS.ms 1 rfl (by simp only [maxLen]; omega)) hp1 hp2 (fun r h => by rw [hQn] at h ⊢; rw [augL_cols hr h0 hq]; exact augL_rows hr hq r h) (by omega) (fun r h => by rw [hQn] at h; rw [augL_rows hr hq r h]; omega)) (args2 (ev rfl rfl) (ev rfl rfl)) ?_)
  rintro _ w2 ⟨_, _, rfl, ⟨pY, cY, pT, cT, PT, QY, hRT, rfl, rfl⟩, hN⟩
  refine ⟨_, rfl, ?_⟩
  replace hS := hS.news hN; clear hN
  refine wl rfl (omove (v := .tuple #[.slice pY M.length cY, .slice pT PT.length cT]) rfl rfl (ev rfl rfl) ?_)
  refine wl rfl (oextract (vs := [.slice pY M.length cY, .slice pT PT.length cT]) (v := .slice pY M.length cY) rfl rfl (ev rfl rfl) rfl ?_)
  refine wl rfl (oextract (vs := [.slice pY M.length cY, .slice pT PT.length cT]) (v := .slice pT PT.length cT) rfl rfl (ev rfl rfl) rfl ?_)
  refine wl rfl (oassign (v := .slice pY M.length cY) rfl rfl (ev rfl rfl) ?_)
  refine wl rfl (oassign (v := .slice pT PT.length cT) rfl rfl (ev rfl rfl) ?_)
  refine wnil (thenN (wseq (wreg (wl rfl (oassign (v := .slice none 0 0) rfl rfl evc ?_)))))
  refine wnil (thenN (wseq (wseq (wreg (wl rfl (omove (v := .slice pY M.length cY) rfl rfl (ev rfl rfl) ?_))))))
  refine wl rfl (olen rfl rfl rfl Tryd.runUnderlying26 (p := pY) (k := M.length) (m := cY) (ev rfl rfl) ?_)
  refine wl rfl (omove (v := .int .i64 0) rfl rfl evc ?_)
  refine wnil (thenN (wblock ?_))
  rw [hQn, augL_mod hp1 hq, augL_cols hr h0 hq] at hRT
  have hbad := piv_bad (k := M.length) hA hp0 hns
  rw [hRT] at hbad
  obtain ⟨y1, y2, _⟩ := redTo_inv hA hp0 (M.length + M.length)
  rw [hRT] at y1 y2
  simp only at y1 y2
  rw [augM_len] at y1
  have hYl : QY.length = M.length := by rw [nums_lenE rfl]; exact y1
  refine wloop (σ := Nat) (fun i a9 w' => ∃ (fb : Nat → Value) (pO : Option Addr) (cO : Nat), a9 = act 68 (sets fb [(0, .slice pm M.length cm), (9, .slice pT PT.length cT), (10, .slice pO i cO), (40, .slice pY M.length cY), (41, .int .i64 (M.length : Int)), (42, .int .i64 (i : Int))]) ∧ Sep w [.lst 52 1 pY M.length cY (mmE QY), .lst 3 1 pT PT.length cT (intE PT), .lst 52 1 pO i cO (dropE M.length (QY.take i)), .lst 52 1 pX M.length cX (mmE Q)] w' ∧ (i ≤ M.length) ∧ (∀ l, l < i → l < PT.length ∧ nd PT l = l)) (fun i => M.length - i) (0) ⟨_, none, 0, act_sets (l := [(0, .slice pm M.length cm), (9, .slice pT PT.length cT), (10, .slice none 0 0), (40, .slice pY M.length cY), (41, .int .i64 (M.length : Int)), (42, .int .i64 0)]) ⟨rfl, rfl, rfl, rfl, rfl, rfl, trivial⟩, hS, Nat.zero_le _, fun l hl => by omega⟩ ?_
  clear hS; rintro i _ w3 ⟨fb, pO, cO, rfl, hS, hi, hall⟩
  refine wseq (wreg ?_)
  by_cases hlt2 : i < M.length
  ·
   refine wl rfl (obin (u := .int .i64 (i : Int)) (v := .int .i64 (M.length : Int)) (z := .bool true) rfl rfl (ev rfl rfl) (ev rfl rfl) (bin_lss (decide_eq_true (by omega))) ?_)
   refine wnil (thenN (wseq ?_))
   refine wT (ev rfl rfl) ?_
   refine wskip (thenN (wseq (wblock (wseq (wreg (wl rfl (omove (v := .int .i64 (i : Int)) rfl rfl (ev rfl rfl) ?_)))))))
   obtain ⟨gY, hgY⟩ := hS.lstPtr 0 rfl (by omega)
   obtain ⟨⟨pa, ca, xa⟩, hqa⟩ : ∃ q, (QY)[i]? = some q := ⟨_, List.getElem?_eq_getElem (by omega)⟩
   have hda : (nums (QY)).getD i [] = xa := getD_get (nums_get hqa)
   obtain ⟨hna, hlta⟩ := y2.get (nums_get hqa)
   simp only at hna hlta
   obtain ⟨ga, hga⟩ := hS.mPtr 0 rfl hqa (by show 0 < xa.length; omega)
   refine wl rfl (oindex (p := pY) (g := gY) (off := 0) (m := M.length) (k := i) (j := (0 + i * 1)) rfl rfl Tryd.runUnderlying26 Tryd.sizeOf52 (ev rfl rfl) (hgY) (ev rfl rfl) (by omega) rfl ?_)
   refine wl rfl (oloadc (v := .slice pa ((M.length + M.length)) ca) (show One Tryd.prog 52 from ⟨Tryd.isAgg52, Tryd.sizeOf52⟩) rfl rfl (ev (v := .pointer (some ⟨gY, (0 + i * 1), none⟩)) rfl rfl) (hS.mRow 0 rfl hqa hna hgY) ?_)
   refine wl rfl (oassign (v := .int .i64 (i : Int)) rfl rfl (ev rfl rfl) ?_)
   refine wl rfl (oassign (v := .slice pa ((M.length + M.length)) ca) rfl rfl (ev rfl rfl) ?_)
   refine wnil (thenN (wseq (wseq (wreg (wl rfl (omove (v := .int .i64 (i : Int)) rfl rfl (ev rfl rfl) ?_))))))
   refine wl rfl (omove (v := .slice pT PT.length cT) rfl rfl (ev rfl rfl) ?_)
   refine wl rfl (olen rfl rfl rfl Tryd.runUnderlying35 (p := pT) (k := PT.length) (m := cT) (ev rfl rfl) ?_)
   by_cases hok : i < PT.length ∧ nd PT i = i
   ·
    refine wl rfl (obin (u := .int .i64 (i : Int)) (v := .int .i64 (PT.length : Int)) (z := .bool false) rfl rfl (ev rfl rfl) (ev rfl rfl) (bin_geq (decide_eq_false (by omega))) ?_)
    refine wl rfl (omove (v := .bool false) rfl rfl (ev rfl rfl) ?_)
    refine wlOn (e := 51) rfl rfl rfl rfl (omove (v := .slice pT PT.length cT) rfl rfl (ev rfl rfl) ?_)
    refine wlOn (e := 51) rfl rfl rfl rfl (omove (v := .int .i64 (i : Int)) rfl rfl (ev rfl rfl) ?_)
    obtain ⟨gT, hgT⟩ := hS.lstPtr 1 rfl (by omega)
    refine wlOn (e := 51) rfl rfl rfl rfl (oindex (p := pT) (g := gT) (off := 0) (m := PT.length) (k := i) (j := i) rfl rfl Tryd.runUnderlying35 Tryd.sizeOf3 (ev rfl rfl) (hgT) (ev rfl rfl) (by omega) (by simp) ?_)
    refine wlOn (e := 51) rfl rfl rfl rfl (oloadc (v := .int .i64 (((nd PT i : Nat) : Int))) oneI rfl rfl (ev (v := .pointer (some ⟨gT, i, none⟩)) rfl rfl) (hS.lstAt 1 rfl hgT i 0 (intE_get (by omega)) rfl (by decide) (by simp)) ?_)
    refine wlOn (e := 51) rfl rfl rfl rfl (omove (v := .int .i64 (i : Int)) rfl rfl (ev rfl rfl) ?_)
    refine wlOn (e := 51) rfl rfl rfl rfl (obin (u := .int .i64 (((nd PT i : Nat) : Int))) (v := .int .i64 (i : Int)) (z := .bool false) rfl rfl (ev rfl rfl) (ev rfl rfl) (bin_neq (neF (by omega))) ?_)
    refine wl rfl (opick (b := false) (v := .bool false) rfl rfl (ev rfl rfl) (ev rfl rfl) ?_)
    refine wnil (thenN ?_)
    refine wF (ev rfl rfl) ?_
    refine wskip (thenN (wreg (wl rfl (omove (v := .slice pO i cO) rfl rfl (ev rfl rfl) ?_))))
    refine wl rfl (omove (v := .slice pa ((M.length + M.length)) ca) rfl rfl (ev rfl rfl) ?_)
    refine wl rfl (omove (v := .slice pm M.length cm) rfl rfl (ev rfl rfl) ?_)
    refine wl rfl (olen rfl rfl rfl Tryd.runUnderlying26 (p := pm) (k := M.length) (m := cm) (ev rfl rfl) ?_)
    refine wl rfl (osliceL (g := ga) (off := 0) (l := M.length) (m := ((M.length + M.length))) (c := ca) rfl rfl Tryd.underlying52 Tryd.sizeOf27 (ev (v := .slice pa ((M.length + M.length)) ca) rfl rfl) hga (ev (v := .int .i64 (M.length : Int)) rfl rfl) (by omega) (by have h9 := (hS.mFr 0 rfl hqa).sl.le; have := hna; omega) ?_)
    refine wl rfl (obslice (ps := #[(0, .slice (some ⟨ga, 0 + M.length * 1, none⟩) (((M.length + M.length) - M.length)) ((ca - M.length)))]) (z := .slice none 0 0) [.slice (some ⟨ga, 0 + M.length * 1, none⟩) (((M.length + M.length) - M.length)) ((ca - M.length))] hS rfl rfl Tryd.runUnderlying26 Tryd.sizeOf52 Tryd.zeroValue52 (parts1 (ev (v := .slice (some ⟨ga, 0 + M.length * 1, none⟩) (((M.length + M.length) - M.length)) ((ca - M.length))) rfl rfl)) rfl (by decide) (fill1_1s rfl rfl) ?_)
    clear hS; intro g4 w5 hS
    obtain hS := (show Sep w [.lst 52 1 pO i cO (dropE M.length (QY.take i)), .blk g4 [.slice (some ⟨ga, 0 + M.length * 1, none⟩) (((M.length + M.length) - M.length)) ((ca - M.length))] 52, .lst 52 1 pY M.length cY (mmE QY), .lst 3 1 pT PT.length cT (intE PT), .lst 52 1 pX M.length cX (mmE Q)] w5 from hS.pick [3, 0, 1, 2, 4] (by decide) rfl)
    refine wl rfl (oappendL (p := pO) (m := i) (c := cO) (g2 := g4) (c2 := 1) (off := 0) [.slice (some ⟨ga, 0 + M.length * 1, none⟩) (((M.length + M.length) - M.length)) ((ca - M.length))] [] hS rfl rfl Tryd.underlying26 infoRow rfl (by decide) (ev (v := .slice pO i cO) rfl rfl) (ev (v := .slice (some ⟨g4, 0, none⟩) 1 1) rfl rfl) (fun j v hj => by rw [Nat.zero_add]; exact (blk_cell (hS.blkAt 1 rfl) j).trans hj) rfl rfl rfl (by omega) (by omega) ?_)
    clear hS; intro p7 c8 w6 hS
    refine wl rfl (oassign (v := .slice p7 ((i + 1)) c8) rfl rfl (ev rfl rfl) ?_)
    refine wnil (blkN (thenN (wreg (wl rfl (obin (u := .int .i64 (i : Int)) (v := .int .i64 1) (z := .int .i64 (((i + 1 : Nat) : Int))) rfl rfl (ev rfl rfl) evc (bin_add (wrap_i64 (by omega) (by omega))) ?_)))))
    refine wl rfl (omove (v := .int .i64 (((i + 1 : Nat) : Int))) rfl rfl (ev rfl rfl) ?_)
    refine wnil (thenN ?_)
    rw [dropE_snoc hqa hga hna] at hS
    exact ⟨(i + 1), ⟨_, _, _, act_sets (l := [(0, .slice pm M.length cm), (9, .slice pT PT.length cT), (10, .slice p7 ((i + 1)) c8), (40, .slice pY M.length cY), (41, .int .i64 (M.length : Int)), (42, .int .i64 (((i + 1 : Nat) : Int)))]) ⟨rfl, rfl, rfl, rfl, rfl, rfl, trivial⟩, hS.pick [2, 3, 0, 4] (by decide) rfl, by omega, fun l hl => (Nat.lt_or_eq_of_le (Nat.lt_succ_iff.1 hl)).elim (hall l) (fun e => by rw [e]; exact hok)⟩, by omega⟩
   ·
    by_cases hpt : i < PT.length
    ·
     refine wl rfl (obin (u := .int .i64 (i : Int)) (v := .int .i64 (PT.length : Int)) (z := .bool false) rfl rfl (ev rfl rfl) (ev rfl rfl) (bin_geq (decide_eq_false (by omega))) ?_)
     refine wl rfl (omove (v := .bool false) rfl rfl (ev rfl rfl) ?_)
     refine wlOn (e := 51) rfl rfl rfl rfl (omove (v := .slice pT PT.length cT) rfl rfl (ev rfl rfl) ?_)
     refine wlOn (e := 51) rfl rfl rfl rfl (omove (v := .int .i64 (i : Int)) rfl rfl (ev rfl rfl) ?_)
     obtain ⟨gT, hgT⟩ := hS.lstPtr 1 rfl (by omega)
     refine wlOn (e := 51) rfl rfl rfl rfl (oindex (p := pT) (g := gT) (off := 0) (m := PT.length) (k := i) (j := i) rfl rfl Tryd.runUnderlying35 Tryd.sizeOf3 (ev rfl rfl) (hgT) (ev rfl rfl) (by omega) (by simp) ?_)
     refine wlOn (e := 51) rfl rfl rfl rfl (oloadc (v := .int .i64 (((nd PT i : Nat) : Int))) oneI rfl rfl (ev (v := .pointer (some ⟨gT, i, none⟩)) rfl rfl) (hS.lstAt 1 rfl hgT i 0 (intE_get (by omega)) rfl (by decide) (by simp)) ?_)
     refine wlOn (e := 51) rfl rfl rfl rfl (omove (v := .int .i64 (i : Int)) rfl rfl (ev rfl rfl) ?_)
     refine wlOn (e := 51) rfl rfl rfl rfl (obin (u := .int .i64 (((nd PT i : Nat) : Int))) (v := .int .i64 (i : Int)) (z := .bool true) rfl rfl (ev rfl rfl) (ev rfl rfl) (bin_neq (neT (by omega))) ?_)
     refine wl rfl (opick (b := false) (v := .bool true) rfl rfl (ev rfl rfl) (ev rfl rfl) ?_)
     refine wnil (thenN ?_)
     refine wT (ev rfl rfl) ?_
     refine wseq (wreg (wl rfl (oassign (v := .slice none 0 0) rfl rfl evc ?_)))
     refine wl rfl (oassign (v := .bool false) rfl rfl evc ?_)
     refine wnil (thenN ?_)
     refine wleave ?_
     refine thenR ?_
     refine blkR ?_
     refine thenR ?_
     refine thenR ?_
     refine blkR ?_
     refine thenR ?_
     refine wret2 Tryd.results16 (tellT (v := .slice none 0 0) rfl rfl) (tellT (v := .bool false) rfl rfl) ?_
     exact ⟨_, _, rfl, isI, hS.new0⟩
    ·
     refine wl rfl (obin (u := .int .i64 (i : Int)) (v := .int .i64 (PT.length : Int)) (z := .bool true) rfl rfl (ev rfl rfl) (ev rfl rfl) (bin_geq (decide_eq_true (by omega))) ?_)
     refine wl rfl (omove (v := .bool true) rfl rfl (ev rfl rfl) ?_)
     refine wlOff (e := 51) (d := 52) (b' := true) rfl rfl rfl rfl rfl rfl ?_
     refine wlOff (e := 51) (d := 53) (b' := true) rfl rfl rfl rfl rfl rfl ?_
     refine wlOff (e := 51) (d := 54) (b' := true) rfl rfl rfl rfl rfl rfl ?_
     refine wlOff (e := 51) (d := 55) (b' := true) rfl rfl rfl rfl rfl rfl ?_
     refine wlOff (e := 51) (d := 56) (b' := true) rfl rfl rfl rfl rfl rfl ?_
     refine wlOff (e := 51) (d := 57) (b' := true) rfl rfl rfl rfl rfl rfl ?_
     refine wl rfl (opick (b := true) (v := .bool true) rfl rfl (ev rfl rfl) evc ?_)
     refine wnil (thenN ?_)
     refine wT (ev rfl rfl) ?_
     refine wseq (wreg (wl rfl (oassign (v := .slice none 0 0) rfl rfl evc ?_)))
     refine wl rfl (oassign (v := .bool false) rfl rfl evc ?_)
     refine wnil (thenN ?_)
     refine wleave ?_
     refine thenR ?_
     refine blkR ?_
     refine thenR ?_
     refine thenR ?_
     refine blkR ?_
     refine thenR ?_
     refine wret2 Tryd.results16 (tellT (v := .slice none 0 0) rfl rfl) (tellT (v := .bool false) rfl rfl) ?_
     exact ⟨_, _, rfl, isI, hS.new0⟩
  ·
   refine wl rfl (obin (u := .int .i64 (i : Int)) (v := .int .i64 (M.length : Int)) (z := .bool false) rfl rfl (ev rfl rfl) (ev rfl rfl) (bin_lss (decide_eq_false (by omega))) ?_)
   refine wnil (thenN (wseq ?_))
   refine wF (ev rfl rfl) ?_
   refine wexit ?_
   refine thenE ?_
   refine thenE ?_
   refine blkE ?_
   refine thenN (wseq (wreg (wl rfl (omove (v := .slice pO i cO) rfl rfl (ev rfl rfl) ?_))))
   refine wl rfl (oassign (v := .slice pO i cO) rfl rfl (ev rfl rfl) ?_)
   refine wl rfl (oassign (v := .bool true) rfl rfl evc ?_)
   refine wnil (thenN ?_)
   refine wleave ?_
   exact (hbad (fun l hl => hall l (by omega))).elim
theorem wrinverse {pm : Option Addr} {n cm p : Nat} {M : List (List Nat)} {w : World} (hm : MS w pm n M) (hp1 : 1 < p) (hp2 : p < 4294967296) (hs : SmallM M) (hr : RectM M) (h0 : M.length ≠ 0) (hq : M.length = colsM M) (hns : ¬ (redTo p (augM p M) (colsM M)).2.length < colsM M) :
  Calls Tryd.prog 16 #[.slice pm n cm, .int .u32 ((p : Nat) : Int)] w (Ret (InvR n ((redTo p (augM p M) (colsM M)).1.map (·.drop (colsM M)))) w) := by
 obtain rfl := hm.1
 have hp0 : 0 < p := by omega
 have hn := hs.1
 have hA : Shp p (M.length + M.length) (augM p M) := by have h9 := augM_shp (p := p) hp1 hr hq; rwa [← hq] at h9
 rw [← hq] at hns
 rw [← hq]
 have hS := Sep.init w
 refine went Tryd.func16 rfl (n := 68) rfl rfl ?_
 refine wseq (wreg (wl rfl (oassign (v := .slice none 0 0) rfl rfl evc ?_)))
 refine wl rfl (oassign (v := .bool false) rfl rfl evc ?_)
 refine wnil (thenN (wseq (wreg (wl rfl (oassign (v := .slice none 0 0) rfl rfl evc ?_)))))
 refine wnil (thenN (wseq (wseq (wreg (wl rfl (omove (v := .slice pm M.length cm) rfl rfl (ev rfl rfl) ?_))))))
 refine wl rfl (olen rfl rfl rfl Tryd.runUnderlying26 (p := pm) (k := M.length) (m := cm) (ev rfl rfl) ?_)
 refine wl rfl (omove (v := .int .i64 0) rfl rfl evc ?_)
 refine wnil (thenN (wblock ?_))
 replace hS := hS.nilLst 52 1
 refine wloop (σ := Nat) (fun i a9 w' => ∃ (fb : Nat → Value) (Q : List Rw) (pX : Option Addr) (cX : Nat), a9 = act 68 (sets fb [(0, .slice pm M.length cm), (1, .int .u32 (p : Int)), (4, .slice none 0 0), (5, .bool false), (6, .slice pX i cX), (13, .slice pm M.length cm), (14, .int .i64 (M.length : Int)), (15, .int .i64 (i : Int))]) ∧ Sep w [.lst 52 1 pX i cX (mmE Q)] w' ∧ (i ≤ M.length) ∧ (nums Q = augL M (idM M.length) i)) (fun i => M.length - i) (0) ⟨_, [], none, 0, act_sets (l := [(0, .slice pm M.length cm), (1, .int .u32 (p : Int)), (4, .slice none 0 0), (5, .bool false), (6, .slice none 0 0), (13, .slice pm M.length cm), (14, .int .i64 (M.length : Int)), (15, .int .i64 0)]) ⟨rfl, rfl, rfl, rfl, rfl, rfl, rfl, rfl, trivial⟩, hS, Nat.zero_le _, rfl⟩ ?_
 clear hS; rintro i _ w1 ⟨fb, Q, pX, cX, rfl, hS, hi, hQ⟩
 refine wseq (wreg ?_)
 by_cases hlt : i < M.length
 ·
  refine wl rfl (obin (u := .int .i64 (i : Int)) (v := .int .i64 (M.length : Int)) (z := .bool true) rfl rfl (ev rfl rfl) (ev rfl rfl) (bin_lss (decide_eq_true (by omega))) ?_)
  refine wnil (thenN (wseq ?_))
  refine wT (ev rfl rfl) ?_
  refine wskip (thenN (wseq (wblock (wseq (wreg (wl rfl (omove (v := .int .i64 (i : Int)) rfl rfl (ev rfl rfl) ?_)))))))
  obtain ⟨xr, hxr⟩ : ∃ r, (M)[i]? = some r := ⟨_, List.getElem?_eq_getElem (by have := hm.1; omega)⟩
  obtain ⟨br, ofr, pr, cr, hpr, hcr, hsr⟩ := hm.2.2 i _ hxr
  have hxl : xr.length = M.length := (hr xr (List.mem_of_getElem? hxr)).trans hq.symm
  obtain ⟨bq, oq, hpq, _⟩ := hsr.cell 0 (by omega)
  subst hpq
  refine wl rfl (oindex (p := pm) (g := br) (off := ofr) (m := M.length) (k := i) (j := (ofr + i * 1)) rfl rfl Tryd.runUnderlying26 Tryd.sizeOf52 (ev rfl rfl) (hpr) (ev rfl rfl) (by omega) rfl ?_)
  refine wl rfl (oloadc (v := .slice ((some ⟨bq, oq, none⟩)) xr.length cr) (show One Tryd.prog 52 from ⟨Tryd.isAgg52, Tryd.sizeOf52⟩) rfl rfl (ev (v := .pointer (some ⟨br, (ofr + i * 1), none⟩)) rfl rfl) (hS.cellAt (hcr 0 _ rfl)) ?_)
  refine wl rfl (oassign (v := .int .i64 (i : Int)) rfl rfl (ev rfl rfl) ?_)
  refine wl rfl (oassign (v := .slice ((some ⟨bq, oq, none⟩)) xr.length cr) rfl rfl (ev rfl rfl) ?_)
  refine wnil (thenN (wreg (wl rfl (omove (v := .slice pX i cX) rfl rfl (ev rfl rfl) ?_))))
  refine wl rfl (obslice0 hS rfl rfl Tryd.runUnderlying52 Tryd.sizeOf27 ?_)
  clear hS; intro g2 w3 hS
  refine wl rfl (omove (v := .slice ((some ⟨bq, oq, none⟩)) xr.length cr) rfl rfl (ev rfl rfl) ?_)
  refine wl rfl (oappend0 (g := g2) (m := xr.length) (c2 := cr) (xr.map fun x : Nat => Value.int .u32 (x : Int)) hS rfl rfl Tryd.underlying52 infouint32 rfl (by decide) (ev (v := .slice (some ⟨g2, 0, none⟩) 0 0) rfl rfl) (ev (v := .slice ((some ⟨bq, oq, none⟩)) xr.length cr) rfl rfl) (by rw [List.length_map, hsr.len, Nat.mul_one]) ((hsr.below hS.below (Nat.le_refl _)).news) (fun u hu => by obtain ⟨x, _, rfl⟩ := List.mem_map.1 hu; rfl) (by omega) (by omega) ?_)
  clear hS; intro p5 c6 w4 hS
  replace hS := hS.ownRow hsr.len hsr.lims
  refine wl rfl (omove (v := .slice pm M.length cm) rfl rfl (ev rfl rfl) ?_)
  refine wl rfl (olen rfl rfl rfl Tryd.runUnderlying26 (p := pm) (k := M.length) (m := cm) (ev rfl rfl) ?_)
  refine wl rfl (ocall rfl rfl Tryd.call24 rfl (wrident (by omega)) (args1 (ev rfl rfl)) ?_)
  rintro _ w7 ⟨_, _, rfl, ⟨pI, cI, QI, hQI, rfl, rfl⟩, hN⟩
  refine ⟨_, rfl, ?_⟩
  replace hS := hS.news hN; clear hN
  refine wl rfl (omove (v := .int .i64 (i : Int)) rfl rfl (ev rfl rfl) ?_)
  have hIl : QI.length = M.length := by rw [nums_lenE hQI]; exact idM_len _
  have hIs : Shp 2 M.length (nums QI) := by rw [hQI]; exact idM_shp (by decide)
  obtain ⟨gI, hgI⟩ := hS.lstPtr 0 rfl (by omega)
  obtain ⟨⟨pb, cb, xb⟩, hqb⟩ : ∃ q, (QI)[i]? = some q := ⟨_, List.getElem?_eq_getElem (by omega)⟩
  have hdb : (nums (QI)).getD i [] = xb := getD_get (nums_get hqb)
  obtain ⟨hnb, hltb⟩ := hIs.get (nums_get hqb)
  simp only at hnb hltb
  refine wl rfl (oindex (p := pI) (g := gI) (off := 0) (m := M.length) (k := i) (j := (0 + i * 1)) rfl rfl Tryd.runUnderlying26 Tryd.sizeOf52 (ev rfl rfl) (hgI) (ev rfl rfl) (by omega) rfl ?_)
  refine wl rfl (oloadc (v := .slice pb M.length cb) (show One Tryd.prog 52 from ⟨Tryd.isAgg52, Tryd.sizeOf52⟩) rfl rfl (ev (v := .pointer (some ⟨gI, (0 + i * 1), none⟩)) rfl rfl) (hS.mRow 0 rfl hqb hnb hgI) ?_)
  obtain hS := (show Sep w [.rowm p5 xr.length c6 xr, .lst 52 1 pI M.length cI (mmE QI), .lst 52 1 pX i cX (mmE Q)] w7 from hS.pick [1, 0, 2] (by decide) rfl)
  refine wl rfl (oappendR (p := p5) (m := xr.length) (c := c6) (xs := xr) (k := M.length) (c2 := cb) (a := pb) (ys := xb) hS rfl rfl Tryd.underlying52 infouint32 (ev (v := .slice p5 xr.length c6) rfl rfl) (ev (v := .slice pb M.length cb) rfl rfl) ((show Sl _ pb M.length cb xb from hnb ▸ (hS.mFr 1 rfl hqb).sl)) (by omega) (by omega) ?_)
  clear hS; intro p9 c10 w8 hS
  refine wl rfl (obslice (ps := #[(0, .slice p9 ((xr.length + M.length)) c10)]) (z := .slice none 0 0) [.slice p9 ((xr.length + M.length)) c10] hS rfl rfl Tryd.runUnderlying26 Tryd.sizeOf52 Tryd.zeroValue52 (parts1 (ev (v := .slice p9 ((xr.length + M.length)) c10) rfl rfl)) rfl (by decide) (fill1_1s rfl rfl) ?_)
  clear hS; intro g11 w12 hS
  obtain hS := (show Sep w [.rowm p9 ((xr.length + M.length)) c10 (xr ++ xb), .lst 52 1 pX i cX (mmE Q), .blk g11 [.slice p9 ((xr.length + M.length)) c10] 52, .lst 52 1 pI M.length cI (mmE QI)] w12 from hS.pick [1, 3, 0, 2] (by decide) rfl)
  refine wl rfl (oappendL (p := pX) (m := i) (c := cX) (g2 := g11) (c2 := 1) (off := 0) [.slice p9 ((xr.length + M.length)) c10] [.rowm p9 ((xr.length + M.length)) c10 (xr ++ xb)] hS rfl rfl Tryd.underlying26 infoRow rfl (by decide) (ev (v := .slice pX i cX) rfl rfl) (ev (v := .slice (some ⟨g11, 0, none⟩) 1 1) rfl rfl) (fun j v hj => by rw [Nat.zero_add]; exact (blk_cell (hS.blkAt 2 rfl) j).trans hj) rfl rfl rfl (by omega) (by omega) ?_)
  clear hS; intro p14 c15 w13 hS
  refine wl rfl (oassign (v := .slice p14 ((i + 1)) c15) rfl rfl (ev rfl rfl) ?_)
  refine wnil (blkN (thenN (wreg (wl rfl (obin (u := .int .i64 (i : Int)) (v := .int .i64 1) (z := .int .i64 (((i + 1 : Nat) : Int))) rfl rfl (ev rfl rfl) evc (bin_add (wrap_i64 (by omega) (by omega))) ?_)))))
  refine wl rfl (omove (v := .int .i64 (((i + 1 : Nat) : Int))) rfl rfl (ev rfl rfl) ?_)
  refine wnil (thenN ?_)
  rw [mmE_snoc (xs := xr ++ xb) (n := xr.length + M.length) (by rw [List.length_append, hnb])] at hS
  exact ⟨(i + 1), ⟨_, _, _, _, act_sets (l := [(0, .slice pm M.length cm), (1, .int .u32 (p : Int)), (4, .slice none 0 0), (5, .bool false), (6, .slice p14 ((i + 1)) c15), (13, .slice pm M.length cm), (14, .int .i64 (M.length : Int)), (15, .int .i64 (((i + 1 : Nat) : Int)))]) ⟨rfl, rfl, rfl, rfl, rfl, rfl, rfl, rfl, trivial⟩, hS.pick [0] (by decide) rfl, by omega, by rw [nums_app, hQ, augL_S, getD_get hxr, ← hdb, hQI]⟩, by omega⟩
 ·
  refine wl rfl (obin (u := .int .i64 (i : Int)) (v := .int .i64 (M.length : Int)) (z := .bool false) rfl rfl (ev rfl rfl) (ev rfl rfl) (bin_lss (decide_eq_false (by omega))) ?_)
  refine wnil (thenN (wseq ?_))
  refine wF (ev rfl rfl) ?_
  refine wexit ?_
  refine thenE ?_
  refine thenE ?_
  refine blkE ?_
  refine thenN (wseq (wreg (wl rfl (omove (v := .slice pX i cX) rfl rfl (ev rfl rfl) ?_))))
  refine wl rfl (omove (v := .int .u32 (p : Int)) rfl rfl (ev rfl rfl) ?_)
  replace hS := hS.nilLst 52 1
  obtain rfl : i = M.length := by omega
  have hQn : nums Q = augL M (idM M.length) M.length := hQ
  refine wl rfl (ocall rfl rfl Tryd.call33 rfl (wrreduce (hS.ms 1 rfl (by simp only [maxLen]; omega)) hp1 hp2 (fun r h => by rw [hQn] at h ⊢; rw [augL_cols hr h0 hq]; exact augL_rows hr hq r h) (by omega) (fun r h => by rw [hQn] at h; rw [augL_rows hr hq r h]; omega)) (args2 (ev rfl rfl) (ev rfl rfl)) ?_)
  rintro _ w2 ⟨_, _, rfl, ⟨pY, cY, pT, cT, PT, QY, hRT, rfl, rfl⟩, hN⟩
  refine ⟨_, rfl, ?_⟩
  replace hS := hS.news hN; clear hN
  refine wl rfl (omove (v := .tuple #[.slice pY M.length cY, .slice pT PT.length cT]) rfl rfl (ev rfl rfl) ?_)
  refine wl rfl (oextract (vs := [.slice pY M.length cY, .slice pT PT.length cT]) (v := .slice pY M.length cY) rfl rfl (ev rfl rfl) rfl ?_)
  refine wl rfl (oextract (vs := [.slice pY M.length cY, .slice pT PT.length cT]) (v := .slice pT PT.length cT) rfl rfl (ev rfl rfl) rfl ?_)
  refine wl rfl (oassign (v := .slice pY M.length cY) rfl rfl (ev rfl rfl) ?_)
  refine wl rfl (oassign (v := .slice pT PT.length cT) rfl rfl (ev rfl rfl) ?_)
  refine wnil (thenN (wseq (wreg (wl rfl (oassign (v := .slice none 0 0) rfl rfl evc ?_)))))
  refine wnil (thenN (wseq (wseq (wreg (wl rfl (omove (v := .slice pY M.length cY) rfl rfl (ev rfl rfl) ?_))))))
  refine wl rfl (olen rfl rfl rfl Tryd.runUnderlying26 (p := pY) (k := M.length) (m := cY) (ev rfl rfl) ?_)
  refine wl rfl (omove (v := .int .i64 0) rfl rfl evc ?_)
  refine wnil (thenN (wblock ?_))
  rw [hQn, augL_mod hp1 hq, augL_cols hr h0 hq] at hRT
  obtain ⟨e1, e2, e3⟩ := piv_ok (k := M.length) hA hp0 (augM_len ..) hns
  have hR2 : redTo p (augM p M) M.length = (nums QY, PT) := by rw [← e1]; exact hRT
  rw [hR2] at e2 e3
  simp only at e2 e3
  obtain ⟨y1, y2, _⟩ := redTo_inv hA hp0 M.length
  rw [hR2] at y1 y2
  simp only at y1 y2
  rw [augM_len] at y1
  have hYl : QY.length = M.length := by rw [nums_lenE rfl]; exact y1
  refine wloop (σ := Nat) (fun i a9 w' => ∃ (fb : Nat → Value) (pO : Option Addr) (cO : Nat), a9 = act 68 (sets fb [(0, .slice pm M.length cm), (9, .slice pT PT.length cT), (10, .slice pO i cO), (40, .slice pY M.length cY), (41, .int .i64 (M.length : Int)), (42, .int .i64 (i : Int))]) ∧ Sep w [.lst 52 1 pY M.length cY (mmE QY), .lst 3 1 pT PT.length cT (intE PT), .lst 52 1 pO i cO (dropE M.length (QY.take i)), .lst 52 1 pX M.length cX (mmE Q)] w' ∧ (i ≤ M.length)) (fun i => M.length - i) (0) ⟨_, none, 0, act_sets (l := [(0, .slice pm M.length cm), (9, .slice pT PT.length cT), (10, .slice none 0 0), (40, .slice pY M.length cY), (41, .int .i64 (M.length : Int)), (42, .int .i64 0)]) ⟨rfl, rfl, rfl, rfl, rfl, rfl, trivial⟩, hS, Nat.zero_le _⟩ ?_
  clear hS; rintro i _ w3 ⟨fb, pO, cO, rfl, hS, hi⟩
  refine wseq (wreg ?_)
  by_cases hlt2 : i < M.length
  ·
   refine wl rfl (obin (u := .int .i64 (i : Int)) (v := .int .i64 (M.length : Int)) (z := .bool true) rfl rfl (ev rfl rfl) (ev rfl rfl) (bin_lss (decide_eq_true (by omega))) ?_)
   refine wnil (thenN (wseq ?_))
   refine wT (ev rfl rfl) ?_
   refine wskip (thenN (wseq (wblock (wseq (wreg (wl rfl (omove (v := .int .i64 (i : Int)) rfl rfl (ev rfl rfl) ?_)))))))
   have e4 := e3 i hlt2
   obtain ⟨gY, hgY⟩ := hS.lstPtr 0 rfl (by omega)
   obtain ⟨⟨pa, ca, xa⟩, hqa⟩ : ∃ q, (QY)[i]? = some q := ⟨_, List.getElem?_eq_getElem (by omega)⟩
   have hda : (nums (QY)).getD i [] = xa := getD_get (nums_get hqa)
   obtain ⟨hna, hlta⟩ := y2.get (nums_get hqa)
   simp only at hna hlta
   obtain ⟨ga, hga⟩ := hS.mPtr 0 rfl hqa (by show 0 < xa.length; omega)
   refine wl rfl (oindex (p := pY) (g := gY) (off := 0) (m := M.length) (k := i) (j := (0 + i * 1)) rfl rfl Tryd.runUnderlying26 Tryd.sizeOf52 (ev rfl rfl) (hgY) (ev rfl rfl) (by omega) rfl ?_)
   refine wl rfl (oloadc (v := .slice pa ((M.length + M.length)) ca) (show One Tryd.prog 52 from ⟨Tryd.isAgg52, Tryd.sizeOf52⟩) rfl rfl (ev (v := .pointer (some ⟨gY, (0 + i * 1), none⟩)) rfl rfl) (hS.mRow 0 rfl hqa hna hgY) ?_)
   refine wl rfl (oassign (v := .int .i64 (i : Int)) rfl rfl (ev rfl rfl) ?_)
   refine wl rfl (oassign (v := .slice pa ((M.length + M.length)) ca) rfl rfl (ev rfl rfl) ?_)
   refine wnil (thenN (wseq (wseq (wreg (wl rfl (omove (v := .int .i64 (i : Int)) rfl rfl (ev rfl rfl) ?_))))))
   refine wl rfl (omove (v := .slice pT PT.length cT) rfl rfl (ev rfl rfl) ?_)
   refine wl rfl (olen rfl rfl rfl Tryd.runUnderlying35 (p := pT) (k := PT.length) (m := cT) (ev rfl rfl) ?_)
   refine wl rfl (obin (u := .int .i64 (i : Int)) (v := .int .i64 (PT.length : Int)) (z := .bool false) rfl rfl (ev rfl rfl) (ev rfl rfl) (bin_geq (decide_eq_false (by omega))) ?_)
   refine wl rfl (omove (v := .bool false) rfl rfl (ev rfl rfl) ?_)
   refine wlOn (e := 51) rfl rfl rfl rfl (omove (v := .slice pT PT.length cT) rfl rfl (ev rfl rfl) ?_)
   refine wlOn (e := 51) rfl rfl rfl rfl (omove (v := .int .i64 (i : Int)) rfl rfl (ev rfl rfl) ?_)
   obtain ⟨gT, hgT⟩ := hS.lstPtr 1 rfl (by omega)
   refine wlOn (e := 51) rfl rfl rfl rfl (oindex (p := pT) (g := gT) (off := 0) (m := PT.length) (k := i) (j := i) rfl rfl Tryd.runUnderlying35 Tryd.sizeOf3 (ev rfl rfl) (hgT) (ev rfl rfl) (by omega) (by simp) ?_)
   refine wlOn (e := 51) rfl rfl rfl rfl (oloadc (v := .int .i64 (((nd PT i : Nat) : Int))) oneI rfl rfl (ev (v := .pointer (some ⟨gT, i, none⟩)) rfl rfl) (hS.lstAt 1 rfl hgT i 0 (intE_get (by omega)) rfl (by decide) (by simp)) ?_)
   refine wlOn (e := 51) rfl rfl rfl rfl (omove (v := .int .i64 (i : Int)) rfl rfl (ev rfl rfl) ?_)
   refine wlOn (e := 51) rfl rfl rfl rfl (obin (u := .int .i64 (((nd PT i : Nat) : Int))) (v := .int .i64 (i : Int)) (z := .bool false) rfl rfl (ev rfl rfl) (ev rfl rfl) (bin_neq (neF (by omega))) ?_)
   refine wl rfl (opick (b := false) (v := .bool false) rfl rfl (ev rfl rfl) (ev rfl rfl) ?_)
   refine wnil (thenN ?_)
   refine wF (ev rfl rfl) ?_
   refine wskip (thenN (wreg (wl rfl (omove (v := .slice pO i cO) rfl rfl (ev rfl rfl) ?_))))
   refine wl rfl (omove (v := .slice pa ((M.length + M.length)) ca) rfl rfl (ev rfl rfl) ?_)
   refine wl rfl (omove (v := .slice pm M.length cm) rfl rfl (ev rfl rfl) ?_)
   refine wl rfl (olen rfl rfl rfl Tryd.runUnderlying26 (p := pm) (k := M.length) (m := cm) (ev rfl rfl) ?_)
   refine wl rfl (osliceL (g := ga) (off := 0) (l := M.length) (m := ((M.length + M.length))) (c := ca) rfl rfl Tryd.underlying52 Tryd.sizeOf27 (ev (v := .slice pa ((M.length + M.length)) ca) rfl rfl) hga (ev (v := .int .i64 (M.length : Int)) rfl rfl) (by omega) (by have h9 := (hS.mFr 0 rfl hqa).sl.le; have := hna; omega) ?_)
   refine wl rfl (obslice (ps := #[(0, .slice (some ⟨ga, 0 + M.length * 1, none⟩) (((M.length + M.length) - M.length)) ((ca - M.length)))]) (z := .slice none 0 0) [.slice (some ⟨ga, 0 + M.length * 1, none⟩) (((M.length + M.length) - M.length)) ((ca - M.length))] hS rfl rfl Tryd.runUnderlying26 Tryd.sizeOf52 Tryd.zeroValue52 (parts1 (ev (v := .slice (some ⟨ga, 0 + M.length * 1, none⟩) (((M.length + M.length) - M.length)) ((ca - M.length))) rfl rfl)) rfl (by decide) (fill1_1s rfl rfl) ?_)
   clear hS; intro g4 w5 hS
   obtain hS := (show Sep w [.lst 52 1 pO i cO (dropE M.length (QY.take i)), .blk g4 [.slice (some ⟨ga, 0 + M.length * 1, none⟩) (((M.length + M.length) - M.length)) ((ca - M.length))] 52, .lst 52 1 pY M.length cY (mmE QY), .lst 3 1 pT PT.length cT (intE PT), .lst 52 1 pX M.length cX (mmE Q)] w5 from hS.pick [3, 0, 1, 2, 4] (by decide) rfl)
   refine wl rfl (oappendL (p := pO) (m := i) (c := cO) (g2 := g4) (c2 := 1) (off := 0) [.slice (some ⟨ga, 0 + M.length * 1, none⟩) (((M.length + M.length) - M.length)) ((ca - M.length))] [] hS rfl rfl Tryd.underlying26 infoRow rfl (by decide) (ev (v := .slice pO i cO) rfl rfl) (ev (v := .slice (some ⟨g4, 0, none⟩) 1 1) rfl rfl) (fun j v hj => by rw [Nat.zero_add]; exact (blk_cell (hS.blkAt 1 rfl) j).trans hj) rfl rfl rfl (by omega) (by omega) ?_)
   clear hS; intro p7 c8 w6 hS
   refine wl rfl (oassign (v := .slice p7 ((i + 1)) c8) rfl rfl (ev rfl rfl) ?_)
   refine wnil (blkN (thenN (wreg (wl rfl (obin (u := .int .i64 (i : Int)) (v := .int .i64 1) (z := .int .i64 (((i + 1 : Nat) : Int))) rfl rfl (ev rfl rfl) evc (bin_add (wrap_i64 (by omega) (by omega))) ?_)))))
   refine wl rfl (omove (v := .int .i64 (((i + 1 : Nat) : Int))) rfl rfl (ev rfl rfl) ?_)
   refine wnil (thenN ?_)
   rw [dropE_snoc hqa hga hna] at hS
   exact ⟨(i + 1), ⟨_, _, _, act_sets (l := [(0, .slice pm M.length cm), (9, .slice pT PT.length cT), (10, .slice p7 ((i + 1)) c8), (40, .slice pY M.length cY), (41, .int .i64 (M.length : Int)), (42, .int .i64 (((i + 1 : Nat) : Int)))]) ⟨rfl, rfl, rfl, rfl, rfl, rfl, trivial⟩, hS.pick [2, 3, 0, 4] (by decide) rfl, by omega⟩, by omega⟩
  ·
   refine wl rfl (obin (u := .int .i64 (i : Int)) (v := .int .i64 (M.length : Int)) (z := .bool false) rfl rfl (ev rfl rfl) (ev rfl rfl) (bin_lss (decide_eq_false (by omega))) ?_)
   refine wnil (thenN (wseq ?_))
   refine wF (ev rfl rfl) ?_
   refine wexit ?_
   refine thenE ?_
   refine thenE ?_
   refine blkE ?_
   refine thenN (wseq (wreg (wl rfl (omove (v := .slice pO i cO) rfl rfl (ev rfl rfl) ?_))))
   refine wl rfl (oassign (v := .slice pO i cO) rfl rfl (ev rfl rfl) ?_)
   refine wl rfl (oassign (v := .bool true) rfl rfl evc ?_)
   refine wnil (thenN ?_)
   refine wleave ?_
   have hin2 : i = M.length := by omega
   refine wret2 Tryd.results16 (tellT (v := .slice pO i cO) rfl rfl) (tellT (v := .bool true) rfl rfl) ?_
   subst hin2
   rw [List.take_of_length_le (l := QY) (by omega)] at hS
   exact ⟨_, _, rfl, ⟨pO, cO, pY, cY, QY, by rw [hR2], fun r h => by rw [(y2 r h).1]; omega, rfl, rfl⟩, Sep.new (hS.pick [2, 0] (by decide) rfl) rfl⟩
end Go.Proofs.YtndilfigdbenoaaDoor
