/-
  Contracts and lemmas, joined in one text.
-/
import Derived.Test.YtndilfigdbenoaaDoorM8
set_option linter.unusedVariables false
set_option linter.unusedSimpArgs false
/-
  The document's Kernel.
-/
set_option maxRecDepth 100000
set_option maxHeartbeats 16000000
namespace Go.Proofs.YtndilfigdbenoaaDoor
open Go.RowKit
def kerD (p C : Nat) (R : List (List Nat)) (P : List Nat) (c : Nat) : Nat → List Nat
  | 0 => (List.replicate C 0).set c 1
  | i + 1 => (kerD p C R P c i).set (nd P i) ((nd (kerD p C R P c i) (nd P i) + p - nd (R.getD i []) c) % p)
end Go.Proofs.YtndilfigdbenoaaDoor
/-
  The document's Transpose, Mul, Pow; modmat's Pow, Trace; the law's number.
-/
namespace Go.Proofs.YtndilfigdbenoaaDoor
open Go.RowKit
theorem bin_andE {P : Program} {w : World} {t : TypeId} {x y : Operand} {a b c : Nat} (ha : a < 18446744073709551616) (hb : b < 18446744073709551616) (h : a &&& b = c) : (do eqGuard .and t x y (.int .u64 (a : Int)) (.int .u64 (b : Int)); binOp .and t (.int .u64 (a : Int)) (.int .u64 (b : Int)) : Sem Value).run P w = .ok (.int .u64 (c : Int)) w := by
  have e3 : (BitVec.ofNat 64 a &&& BitVec.ofNat 64 b).toNat = c := by rw [BitVec.toNat_and, BitVec.toNat_ofNat, BitVec.toNat_ofNat, Nat.mod_eq_of_lt (by omega), Nat.mod_eq_of_lt (by omega), h]
  have hc : c < 18446744073709551616 := by rw [← h]; exact Nat.lt_of_le_of_lt Nat.and_le_left ha
  have e4 : IntKind.u64.wrap (c : Int) = c := wrap_u64 (by omega) (by omega)
  simp [eqGuard, binOp, Op.intBits, IntKind.bits]
  exact (congrArg (fun z : Nat => IntKind.u64.wrap (z : Int)) e3).trans e4
theorem rowF_S (f : Nat → Nat) (k : Nat) : rowF k f ++ [f k] = rowF (k + 1) f := by simp [rowF, List.range_succ]
theorem trM_at {C k : Nat} {A : List (List Nat)} (h : k < C) : (trM C A).getD k [] = rowF A.length (fun i => nd (A.getD i []) k) := by
  unfold trM mkM
  simp [List.getD, h]
theorem dotp_congr {p : Nat} {F G : Nat → Nat} : ∀ {n : Nat}, (∀ k, k < n → F k = G k) → dotp p F n = dotp p G n
  | 0, _ => rfl
  | n + 1, h => by rw [dotp, dotp, dotp_congr (fun k hk => h k (by omega)), h n (by omega)]
def powG (p n : Nat) (O X : List (List Nat)) (e : Nat) : List (List Nat) :=
  if h : e = 0 then O else powG p n (if e % 2 = 1 then mulM p O X n n else O) (mulM p X X n n) (e / 2)
termination_by e
decreasing_by omega
theorem powG_0 {p n : Nat} {O X : List (List Nat)} : powG p n O X 0 = O := by rw [powG]; rfl
theorem powG_odd {p n e : Nat} {O X : List (List Nat)} (h : e % 2 = 1) : powG p n O X e = powG p n (mulM p O X n n) (mulM p X X n n) (e / 2) := by rw [powG, dif_neg (by omega), if_pos h]
theorem powG_even {p n e : Nat} {O X : List (List Nat)} (h0 : e ≠ 0) (h : ¬ e % 2 = 1) : powG p n O X e = powG p n O (mulM p X X n n) (e / 2) := by rw [powG, dif_neg h0, if_neg h]
theorem mulM_len2 (p : Nat) (A B : List (List Nat)) (C D : Nat) : (mulM p A B C D).length = A.length := mkM_len ..
def Sq (p n : Nat) (M : List (List Nat)) : Prop := Shp p n M ∧ M.length = n
theorem Sq.mul {p n : Nat} {A B : List (List Nat)} (hp : 0 < p) (h : Sq p n A) : Sq p n (mulM p A B n n) := ⟨mulM_shp hp, by rw [mulM_len2]; exact h.2⟩
theorem Sq.one {p n : Nat} (hp : 1 < p) : Sq p n (idM n) := ⟨idM_shp hp, idM_len n⟩
theorem Sq.cols {p n : Nat} {M : List (List Nat)} (h : Sq p n M) : colsM M = n := h.1.cols (fun e => by rw [← h.2]; exact e)
def trTo (p : Nat) (M : List (List Nat)) : Nat → Nat
  | 0 => 0
  | i + 1 => (trTo p M i + nd (M.getD i []) i % p) % p
theorem wrtransp {pm : Option Addr} {n cm p : Nat} {M : List (List Nat)} {w : World} (hm : MS w pm n M) (hp0 : 0 < p) (hp2 : p < 4294967296) (hr : RectM M) (hs : SmallM M) :
  Calls Tryd.prog 68 #[.slice pm n cm, .int .u32 ((p : Nat) : Int)] w (Ret (MMn (colsM M) (trM (colsM M) (modM p M))) w) := by
 have hnm := hm.1
 have hsl := hs.1
 have hcb := hs.cols
 have hS := Sep.init w
 refine went Tryd.func68 rfl (n := 38) rfl rfl ?_
 refine wseq (wreg (wl rfl (oassign (v := .slice none 0 0) rfl rfl evc ?_)))
 refine wnil (thenN (wseq (wreg (wl rfl (oassign (v := .slice none 0 0) rfl rfl evc ?_)))))
 refine wnil (thenN (wseq (wseq (wreg (wl rfl (omove (v := .slice pm n cm) rfl rfl (ev rfl rfl) ?_))))))
 replace hS := hS.nilLst 52 1
 refine wl rfl (ocall rfl rfl Tryd.call36 rfl (wrcols (hm.at hS)) (args1 (ev rfl rfl)) ?_)
 rintro _ w1 ⟨_, _, rfl, ⟨rfl, rfl⟩, hN⟩
 refine ⟨_, rfl, ?_⟩
 replace hS := hS.news hN; clear hN
 refine wl rfl (omove (v := .int .i64 0) rfl rfl evc ?_)
 refine wnil (thenN (wblock ?_))
 refine wloop (σ := Nat) (fun c a9 w' => ∃ (fb : Nat → Value) (Q : List Rw) (pX : Option Addr) (cX : Nat), a9 = act 38 (sets fb [(0, .slice pm n cm), (1, .int .u32 (p : Int)), (4, .slice none 0 0), (5, .slice pX c cX), (10, .int .i64 (((colsM M : Nat) : Int))), (11, .int .i64 (c : Int))]) ∧ Sep w [.lst 52 1 pX c cX (mmE Q)] w' ∧ (c ≤ colsM M) ∧ (nums Q = mkM c n (fun i k => nd ((modM p M).getD k []) i))) (fun c => colsM M - c) (0) ⟨_, [], none, 0, act_sets (l := [(0, .slice pm n cm), (1, .int .u32 (p : Int)), (4, .slice none 0 0), (5, .slice none 0 0), (10, .int .i64 (((colsM M : Nat) : Int))), (11, .int .i64 0)]) ⟨rfl, rfl, rfl, rfl, rfl, rfl, trivial⟩, hS, Nat.zero_le _, rfl⟩ ?_
 clear hS; rintro c _ w2 ⟨fb, Q, pX, cX, rfl, hS, hc, hQ⟩
 refine wseq (wreg ?_)
 by_cases hlt : c < colsM M
 ·
  refine wl rfl (obin (u := .int .i64 (c : Int)) (v := .int .i64 (((colsM M : Nat) : Int))) (z := .bool true) rfl rfl (ev rfl rfl) (ev rfl rfl) (bin_lss (decide_eq_true (by omega))) ?_)
  refine wnil (thenN (wseq ?_))
  refine wT (ev rfl rfl) ?_
  refine wskip (thenN (wseq (wblock (wseq (wreg (wl rfl (omove (v := .int .i64 (c : Int)) rfl rfl (ev rfl rfl) ?_)))))))
  refine wl rfl (oassign (v := .int .i64 (c : Int)) rfl rfl (ev rfl rfl) ?_)
  refine wnil (thenN (wseq (wreg (wl rfl (oassign (v := .slice none 0 0) rfl rfl evc ?_)))))
  refine wnil (thenN (wseq (wseq (wreg (wl rfl (omove (v := .slice pm n cm) rfl rfl (ev rfl rfl) ?_))))))
  refine wl rfl (olen rfl rfl rfl Tryd.runUnderlying26 (p := pm) (k := n) (m := cm) (ev rfl rfl) ?_)
  refine wl rfl (omove (v := .int .i64 0) rfl rfl evc ?_)
  refine wnil (thenN (wblock ?_))
  replace hS := hS.nilRowm
  refine wloop (σ := Nat) (fun i a9 w' => ∃ (fb : Nat → Value) (pO : Option Addr) (cO : Nat), a9 = act 38 (sets fb [(0, .slice pm n cm), (1, .int .u32 (p : Int)), (4, .slice none 0 0), (5, .slice pX c cX), (6, .int .i64 (c : Int)), (7, .slice pO i cO), (10, .int .i64 (((colsM M : Nat) : Int))), (11, .int .i64 (c : Int)), (15, .int .i64 (n : Int)), (16, .int .i64 (i : Int))]) ∧ Sep w [.rowm pO i cO (rowF i (fun l => nd ((modM p M).getD l []) c)), .lst 52 1 pX c cX (mmE Q)] w' ∧ (i ≤ n)) (fun i => n - i) (0) ⟨_, none, 0, act_sets (l := [(0, .slice pm n cm), (1, .int .u32 (p : Int)), (4, .slice none 0 0), (5, .slice pX c cX), (6, .int .i64 (c : Int)), (7, .slice none 0 0), (10, .int .i64 (((colsM M : Nat) : Int))), (11, .int .i64 (c : Int)), (15, .int .i64 (n : Int)), (16, .int .i64 0)]) ⟨rfl, rfl, rfl, rfl, rfl, rfl, rfl, rfl, rfl, rfl, trivial⟩, hS, Nat.zero_le _⟩ ?_
  clear hS; rintro i _ w3 ⟨fb, pO, cO, rfl, hS, hi⟩
  refine wseq (wreg ?_)
  by_cases hli : i < n
  ·
   refine wl rfl (obin (u := .int .i64 (i : Int)) (v := .int .i64 (n : Int)) (z := .bool true) rfl rfl (ev rfl rfl) (ev rfl rfl) (bin_lss (decide_eq_true (by omega))) ?_)
   refine wnil (thenN (wseq ?_))
   refine wT (ev rfl rfl) ?_
   refine wskip (thenN (wseq (wblock (wseq (wreg (wl rfl (omove (v := .int .i64 (i : Int)) rfl rfl (ev rfl rfl) ?_)))))))
   refine wl rfl (oassign (v := .int .i64 (i : Int)) rfl rfl (ev rfl rfl) ?_)
   refine wnil (thenN (wreg (wl rfl (omove (v := .slice pO i cO) rfl rfl (ev rfl rfl) ?_))))
   refine wl rfl (omove (v := .slice pm n cm) rfl rfl (ev rfl rfl) ?_)
   refine wl rfl (omove (v := .int .i64 (i : Int)) rfl rfl (ev rfl rfl) ?_)
   obtain ⟨xr, hxr⟩ : ∃ r, (M)[i]? = some r := ⟨_, List.getElem?_eq_getElem (by have := hm.1; omega)⟩
   obtain ⟨br, ofr, pr, cr, hpr, hcr, hsr⟩ := hm.2.2 i _ hxr
   have hrl := hr xr (List.mem_of_getElem? hxr)
   obtain ⟨bce, oce, hpce, hcce⟩ := hsr.el (show c < xr.length by omega)
   have hml := Nat.mod_lt (nd xr c) hp0
   refine wl rfl (oindex (p := pm) (g := br) (off := ofr) (m := n) (k := i) (j := (ofr + i * 1)) rfl rfl Tryd.runUnderlying26 Tryd.sizeOf52 (ev rfl rfl) (hpr) (ev rfl rfl) (by omega) rfl ?_)
   refine wl rfl (oloadc (v := .slice pr xr.length cr) (show One Tryd.prog 52 from ⟨Tryd.isAgg52, Tryd.sizeOf52⟩) rfl rfl (ev (v := .pointer (some ⟨br, (ofr + i * 1), none⟩)) rfl rfl) (hS.cellAt (hcr 0 _ rfl)) ?_)
   refine wl rfl (omove (v := .int .i64 (c : Int)) rfl rfl (ev rfl rfl) ?_)
   refine wl rfl (oindex (p := pr) (g := bce) (off := oce) (m := xr.length) (k := c) (j := (oce + c * 1)) rfl rfl Tryd.runUnderlying52 Tryd.sizeOf27 (ev rfl rfl) (hpce) (ev rfl rfl) (by omega) rfl ?_)
   refine wl rfl (oloadc (v := .int .u32 (((nd xr c : Nat) : Int))) one32 rfl rfl (ev (v := .pointer (some ⟨bce, (oce + c * 1), none⟩)) rfl rfl) (hS.cellAt (hcce 0 _ rfl)) ?_)
   refine wl rfl (omove (v := .int .u32 (p : Int)) rfl rfl (ev rfl rfl) ?_)
   refine wl rfl (obin (u := .int .u32 (((nd xr c : Nat) : Int))) (v := .int .u32 (p : Int)) (z := .int .u32 (((nd xr c % p : Nat) : Int))) rfl rfl (ev rfl rfl) (ev rfl rfl) (bin_rem (by omega) rfl) ?_)
   refine wl rfl (obslice (ps := #[(0, .int .u32 (((nd xr c % p : Nat) : Int)))]) (z := .int .u32 0) [.int .u32 (((nd xr c % p : Nat) : Int))] hS rfl rfl Tryd.runUnderlying52 Tryd.sizeOf27 Tryd.zeroValue27 (parts1 (ev (v := .int .u32 (((nd xr c % p : Nat) : Int))) rfl rfl)) rfl (by decide) (fill1_1s rfl rfl) ?_)
   clear hS; intro g4 w5 hS
   obtain hS := (show Sep w [.rowm pO i cO (rowF i (fun l => nd ((modM p M).getD l []) c)), .blk g4 [.int .u32 (((nd xr c % p : Nat) : Int))] 27, .lst 52 1 pX c cX (mmE Q)] w5 from hS.pick [1, 0, 2] (by decide) rfl)
   refine wl rfl (oappendR (p := pO) (m := i) (c := cO) (xs := (rowF i (fun l => nd ((modM p M).getD l []) c))) (k := 1) (c2 := 1) (a := (some ⟨g4, 0, none⟩)) (ys := ([nd xr c % p])) hS rfl rfl Tryd.underlying52 infouint32 (ev (v := .slice pO i cO) rfl rfl) (ev (v := .slice (some ⟨g4, 0, none⟩) 1 1) rfl rfl) (Sl.blk1 (hS.blkAt 1 rfl) (by omega)) (by omega) (by omega) ?_)
   clear hS; intro p7 c8 w6 hS
   refine wl rfl (oassign (v := .slice p7 ((i + 1)) c8) rfl rfl (ev rfl rfl) ?_)
   refine wnil (blkN (thenN (wreg (wl rfl (obin (u := .int .i64 (i : Int)) (v := .int .i64 1) (z := .int .i64 (((i + 1 : Nat) : Int))) rfl rfl (ev rfl rfl) evc (bin_add (wrap_i64 (by omega) (by omega))) ?_)))))
   refine wl rfl (omove (v := .int .i64 (((i + 1 : Nat) : Int))) rfl rfl (ev rfl rfl) ?_)
   refine wnil (thenN ?_)
   rw [show nd xr c % p = (fun l => nd ((modM p M).getD l []) c) i from by show _ = nd ((modM p M).getD i []) c; rw [nd_modM, getD_get hxr], rowF_S] at hS
   exact ⟨(i + 1), ⟨_, _, _, act_sets (l := [(0, .slice pm n cm), (1, .int .u32 (p : Int)), (4, .slice none 0 0), (5, .slice pX c cX), (6, .int .i64 (c : Int)), (7, .slice p7 ((i + 1)) c8), (10, .int .i64 (((colsM M : Nat) : Int))), (11, .int .i64 (c : Int)), (15, .int .i64 (n : Int)), (16, .int .i64 (((i + 1 : Nat) : Int)))]) ⟨rfl, rfl, rfl, rfl, rfl, rfl, rfl, rfl, rfl, rfl, trivial⟩, hS.pick [0, 2] (by decide) rfl, by omega⟩, by omega⟩
  ·
   refine wl rfl (obin (u := .int .i64 (i : Int)) (v := .int .i64 (n : Int)) (z := .bool false) rfl rfl (ev rfl rfl) (ev rfl rfl) (bin_lss (decide_eq_false (by omega))) ?_)
   refine wnil (thenN (wseq ?_))
   refine wF (ev rfl rfl) ?_
   refine wexit ?_
   refine thenE ?_
   refine thenE ?_
   refine blkE ?_
   refine thenN (wreg (wl rfl (omove (v := .slice pX c cX) rfl rfl (ev rfl rfl) ?_)))
   refine wl rfl (omove (v := .slice pO i cO) rfl rfl (ev rfl rfl) ?_)
   refine wl rfl (obslice (ps := #[(0, .slice pO i cO)]) (z := .slice none 0 0) [.slice pO i cO] hS rfl rfl Tryd.runUnderlying26 Tryd.sizeOf52 Tryd.zeroValue52 (parts1 (ev (v := .slice pO i cO) rfl rfl)) rfl (by decide) (fill1_1s rfl rfl) ?_)
   clear hS; intro g4 w5 hS
   obtain rfl : n = i := by omega
   obtain hS := (show Sep w [.rowm pO n cO (rowF n (fun l => nd ((modM p M).getD l []) c)), .lst 52 1 pX c cX (mmE Q), .blk g4 [.slice pO n cO] 52] w5 from hS.pick [1, 2, 0] (by decide) rfl)
   refine wl rfl (oappendL (p := pX) (m := c) (c := cX) (g2 := g4) (c2 := 1) (off := 0) [.slice pO n cO] [.rowm pO n cO (rowF n (fun l => nd ((modM p M).getD l []) c))] hS rfl rfl Tryd.underlying26 infoRow rfl (by decide) (ev (v := .slice pX c cX) rfl rfl) (ev (v := .slice (some ⟨g4, 0, none⟩) 1 1) rfl rfl) (fun j v hj => by rw [Nat.zero_add]; exact (blk_cell (hS.blkAt 2 rfl) j).trans hj) rfl rfl rfl (by omega) (by omega) ?_)
   clear hS; intro p7 c8 w6 hS
   refine wl rfl (oassign (v := .slice p7 ((c + 1)) c8) rfl rfl (ev rfl rfl) ?_)
   refine wnil (blkN (thenN (wreg (wl rfl (obin (u := .int .i64 (c : Int)) (v := .int .i64 1) (z := .int .i64 (((c + 1 : Nat) : Int))) rfl rfl (ev rfl rfl) evc (bin_add (wrap_i64 (by omega) (by omega))) ?_)))))
   refine wl rfl (omove (v := .int .i64 (((c + 1 : Nat) : Int))) rfl rfl (ev rfl rfl) ?_)
   refine wnil (thenN ?_)
   rw [mmE_snoc (xs := rowF n (fun l => nd ((modM p M).getD l []) c)) (n := n) (rowF_len _ _)] at hS
   exact ⟨(c + 1), ⟨_, _, _, _, act_sets (l := [(0, .slice pm n cm), (1, .int .u32 (p : Int)), (4, .slice none 0 0), (5, .slice p7 ((c + 1)) c8), (10, .int .i64 (((colsM M : Nat) : Int))), (11, .int .i64 (((c + 1 : Nat) : Int)))]) ⟨rfl, rfl, rfl, rfl, rfl, rfl, trivial⟩, hS.pick [0] (by decide) rfl, by omega, by rw [nums_app, hQ, mkM_S]⟩, by omega⟩
 ·
  refine wl rfl (obin (u := .int .i64 (c : Int)) (v := .int .i64 (((colsM M : Nat) : Int))) (z := .bool false) rfl rfl (ev rfl rfl) (ev rfl rfl) (bin_lss (decide_eq_false (by omega))) ?_)
  refine wnil (thenN (wseq ?_))
  refine wF (ev rfl rfl) ?_
  refine wexit ?_
  refine thenE ?_
  refine thenE ?_
  refine blkE ?_
  refine thenN (wseq (wreg (wl rfl (omove (v := .slice pX c cX) rfl rfl (ev rfl rfl) ?_))))
  refine wl rfl (oassign (v := .slice pX c cX) rfl rfl (ev rfl rfl) ?_)
  refine wnil (thenN ?_)
  refine wleave ?_
  have hce : c = colsM M := by omega
  refine wret1 Tryd.results68 (tellT (v := .slice pX c cX) rfl rfl) ?_
  exact ⟨_, _, rfl, ⟨pX, cX, Q, by rw [hQ, hce]; unfold trM; rw [modM_len, hnm], by rw [hce], by rw [hce]⟩, hS.newR 0 rfl rfl⟩
theorem wrmul {pa pb : Option Addr} {na ca nb cb p : Nat} {A B : List (List Nat)} {w : World} (hA : MS w pa na A) (hB : MS w pb nb B) (hp0 : 0 < p) (hp2 : p < 4294967296) (hAl : ∀ r ∈ A, r.length = nb) (hn : na ≤ 2097152) (hr : RectM B) (hs : SmallM B) :
  Calls Tryd.prog 50 #[.slice pa na ca, .slice pb nb cb, .int .u32 ((p : Nat) : Int)] w (Ret (MMn na (mulM p A (modM p B) nb (colsM B))) w) := by
 have hna := hA.1
 have hnb := hB.1
 have hsl := hs.1
 have hcb := hs.cols
 have hS := Sep.init w
 refine went Tryd.func50 rfl (n := 43) rfl rfl ?_
 refine wseq (wreg (wl rfl (oassign (v := .slice none 0 0) rfl rfl evc ?_)))
 refine wnil (thenN (wseq (wreg (wl rfl (omove (v := .slice pb nb cb) rfl rfl (ev rfl rfl) ?_)))))
 refine wl rfl (omove (v := .int .u32 (p : Int)) rfl rfl (ev rfl rfl) ?_)
 refine wl rfl (ocall rfl rfl Tryd.call68 rfl (wrtransp (hB.at hS) hp0 hp2 hr hs) (args2 (ev rfl rfl) (ev rfl rfl)) ?_)
 rintro _ w1 ⟨_, _, rfl, ⟨pT, cT, QT, hQT, rfl, rfl⟩, hN⟩
 refine ⟨_, rfl, ?_⟩
 replace hS := hS.news hN; clear hN
 refine wl rfl (oassign (v := .slice pT (colsM B) cT) rfl rfl (ev rfl rfl) ?_)
 refine wnil (thenN (wseq (wreg (wl rfl (oassign (v := .slice none 0 0) rfl rfl evc ?_)))))
 refine wnil (thenN (wseq (wseq (wreg (wl rfl (omove (v := .slice pa na ca) rfl rfl (ev rfl rfl) ?_))))))
 refine wl rfl (olen rfl rfl rfl Tryd.runUnderlying26 (p := pa) (k := na) (m := ca) (ev rfl rfl) ?_)
 refine wl rfl (omove (v := .int .i64 0) rfl rfl evc ?_)
 refine wnil (thenN (wblock ?_))
 skip
 have hTs : Shp p nb (nums QT) := by rw [hQT]; have h9 := trM_shp (hr.shp hp0) hp0; rwa [modM_len, hnb] at h9
 have hTl : QT.length = colsM B := by rw [nums_lenE hQT, trM_len]
 replace hS := hS.nilLst 52 1
 refine wloop (σ := Nat) (fun i a9 w' => ∃ (fb : Nat → Value) (Q : List Rw) (pX : Option Addr) (cX : Nat), a9 = act 43 (sets fb [(2, .int .u32 (p : Int)), (6, .slice none 0 0), (7, .slice pT (colsM B) cT), (8, .slice pX i cX), (17, .slice pa na ca), (18, .int .i64 (na : Int)), (19, .int .i64 (i : Int))]) ∧ Sep w [.lst 52 1 pX i cX (mmE Q), .lst 52 1 pT (colsM B) cT (mmE QT)] w' ∧ (i ≤ na) ∧ (nums Q = mkM i (colsM B) (mulE p A (modM p B) nb))) (fun i => na - i) (0) ⟨_, [], none, 0, act_sets (l := [(2, .int .u32 (p : Int)), (6, .slice none 0 0), (7, .slice pT (colsM B) cT), (8, .slice none 0 0), (17, .slice pa na ca), (18, .int .i64 (na : Int)), (19, .int .i64 0)]) ⟨rfl, rfl, rfl, rfl, rfl, rfl, rfl, trivial⟩, hS, Nat.zero_le _, rfl⟩ ?_
 clear hS; rintro i _ w2 ⟨fb, Q, pX, cX, rfl, hS, hi, hQ⟩
 refine wseq (wreg ?_)
 by_cases hlt : i < na
 ·
  refine wl rfl (obin (u := .int .i64 (i : Int)) (v := .int .i64 (na : Int)) (z := .bool true) rfl rfl (ev rfl rfl) (ev rfl rfl) (bin_lss (decide_eq_true (by omega))) ?_)
  refine wnil (thenN (wseq ?_))
  refine wT (ev rfl rfl) ?_
  refine wskip (thenN (wseq (wblock (wseq (wreg ?_)))))
  obtain ⟨xr, hxr⟩ : ∃ r, (A)[i]? = some r := ⟨_, List.getElem?_eq_getElem (by have := hA.1; omega)⟩
  obtain ⟨br, ofr, pr, cr, hpr, hcr, hsr⟩ := hA.2.2 i _ hxr
  have hrl := hAl xr (List.mem_of_getElem? hxr)
  refine wl rfl (oindex (p := pa) (g := br) (off := ofr) (m := na) (k := i) (j := (ofr + i * 1)) rfl rfl Tryd.runUnderlying26 Tryd.sizeOf52 (ev rfl rfl) (hpr) (ev rfl rfl) (by omega) rfl ?_)
  refine wl rfl (oloadc (v := .slice pr xr.length cr) (show One Tryd.prog 52 from ⟨Tryd.isAgg52, Tryd.sizeOf52⟩) rfl rfl (ev (v := .pointer (some ⟨br, (ofr + i * 1), none⟩)) rfl rfl) (hS.cellAt (hcr 0 _ rfl)) ?_)
  refine wl rfl (oassign (v := .slice pr xr.length cr) rfl rfl (ev rfl rfl) ?_)
  refine wnil (thenN (wseq (wreg (wl rfl (oassign (v := .slice none 0 0) rfl rfl evc ?_)))))
  refine wnil (thenN (wseq (wseq (wreg (wl rfl (omove (v := .slice pT (colsM B) cT) rfl rfl (ev rfl rfl) ?_))))))
  refine wl rfl (olen rfl rfl rfl Tryd.runUnderlying26 (p := pT) (k := colsM B) (m := cT) (ev rfl rfl) ?_)
  refine wl rfl (omove (v := .int .i64 0) rfl rfl evc ?_)
  refine wnil (thenN (wblock ?_))
  replace hS := hS.nilRowm
  refine wloop (σ := Nat) (fun k a9 w' => ∃ (fb : Nat → Value) (pO : Option Addr) (cO : Nat), a9 = act 43 (sets fb [(2, .int .u32 (p : Int)), (6, .slice none 0 0), (7, .slice pT (colsM B) cT), (8, .slice pX i cX), (10, .slice pr xr.length cr), (11, .slice pO k cO), (17, .slice pa na ca), (18, .int .i64 (na : Int)), (19, .int .i64 (i : Int)), (23, .slice pT (colsM B) cT), (24, .int .i64 (((colsM B : Nat) : Int))), (25, .int .i64 (k : Int))]) ∧ Sep w [.rowm pO k cO (rowF k (mulE p A (modM p B) nb i)), .lst 52 1 pX i cX (mmE Q), .lst 52 1 pT (colsM B) cT (mmE QT)] w' ∧ (k ≤ colsM B)) (fun k => colsM B - k) (0) ⟨_, none, 0, act_sets (l := [(2, .int .u32 (p : Int)), (6, .slice none 0 0), (7, .slice pT (colsM B) cT), (8, .slice pX i cX), (10, .slice pr xr.length cr), (11, .slice none 0 0), (17, .slice pa na ca), (18, .int .i64 (na : Int)), (19, .int .i64 (i : Int)), (23, .slice pT (colsM B) cT), (24, .int .i64 (((colsM B : Nat) : Int))), (25, .int .i64 0)]) ⟨rfl, rfl, rfl, rfl, rfl, rfl, rfl, rfl, rfl, rfl, rfl, rfl, trivial⟩, hS, Nat.zero_le _⟩ ?_
  clear hS; rintro k _ w3 ⟨fb, pO, cO, rfl, hS, hk⟩
  refine wseq (wreg ?_)
  by_cases hlk : k < colsM B
  ·
   refine wl rfl (obin (u := .int .i64 (k : Int)) (v := .int .i64 (((colsM B : Nat) : Int))) (z := .bool true) rfl rfl (ev rfl rfl) (ev rfl rfl) (bin_lss (decide_eq_true (by omega))) ?_)
   refine wnil (thenN (wseq ?_))
   refine wT (ev rfl rfl) ?_
   refine wskip (thenN (wseq (wblock (wseq (wreg ?_)))))
   obtain ⟨gT, hgT⟩ := hS.lstPtr 2 rfl (by omega)
   obtain ⟨⟨pc, cc, xc⟩, hqc⟩ : ∃ q, (QT)[k]? = some q := ⟨_, List.getElem?_eq_getElem (by omega)⟩
   have hdc : (nums (QT)).getD k [] = xc := getD_get (nums_get hqc)
   obtain ⟨hnc, hltc⟩ := hTs.get (nums_get hqc)
   simp only at hnc hltc
   have hxck : xc = rowF nb (fun j => nd ((modM p B).getD j []) k) := by rw [← hdc, hQT, trM_at hlk, modM_len, hnb]
   refine wl rfl (oindex (p := pT) (g := gT) (off := 0) (m := colsM B) (k := k) (j := (0 + k * 1)) rfl rfl Tryd.runUnderlying26 Tryd.sizeOf52 (ev rfl rfl) (hgT) (ev rfl rfl) (by omega) rfl ?_)
   refine wl rfl (oloadc (v := .slice pc nb cc) (show One Tryd.prog 52 from ⟨Tryd.isAgg52, Tryd.sizeOf52⟩) rfl rfl (ev (v := .pointer (some ⟨gT, (0 + k * 1), none⟩)) rfl rfl) (hS.mRow 2 rfl hqc hnc hgT) ?_)
   refine wl rfl (oassign (v := .slice pc nb cc) rfl rfl (ev rfl rfl) ?_)
   refine wnil (thenN (wreg (wl rfl (omove (v := .slice pO k cO) rfl rfl (ev rfl rfl) ?_))))
   refine wl rfl (omove (v := .slice pr xr.length cr) rfl rfl (ev rfl rfl) ?_)
   refine wl rfl (omove (v := .slice pc nb cc) rfl rfl (ev rfl rfl) ?_)
   refine wl rfl (omove (v := .int .u32 (p : Int)) rfl rfl (ev rfl rfl) ?_)
   refine wl rfl (ocall rfl rfl Tryd.call37 rfl ((show Calls _ _ _ _ (Ret (Is (.int .u32 ((mulE p A (modM p B) nb i k : Nat) : Int))) _) from by have h9 := wrdot (hsr.below hS.below (Nat.le_refl _)) (show Sl _ pc nb cc xc from hnc ▸ (hS.mFr 2 rfl hqc).sl) (by omega) hp0 hp2; rw [show dotp p (fun j => nd xr j * nd xc j) xr.length = mulE p A (modM p B) nb i k from by rw [hrl]; unfold mulE; refine dotp_congr fun j hj => ?_; rw [getD_get hxr, hxck, rowF_nd hj]] at h9; exact h9)) (args3 (ev rfl rfl) (ev rfl rfl) (ev rfl rfl)) ?_)
   rintro _ w4 ⟨_, _, rfl, ⟨rfl, rfl⟩, hN⟩
   refine ⟨_, rfl, ?_⟩
   replace hS := hS.news hN; clear hN
   refine wl rfl (obslice (ps := #[(0, .int .u32 (((mulE p A (modM p B) nb i k : Nat) : Int)))]) (z := .int .u32 0) [.int .u32 (((mulE p A (modM p B) nb i k : Nat) : Int))] hS rfl rfl Tryd.runUnderlying52 Tryd.sizeOf27 Tryd.zeroValue27 (parts1 (ev (v := .int .u32 (((mulE p A (modM p B) nb i k : Nat) : Int))) rfl rfl)) rfl (by decide) (fill1_1s rfl rfl) ?_)
   clear hS; intro g5 w6 hS
   obtain hS := (show Sep w [.rowm pO k cO (rowF k (mulE p A (modM p B) nb i)), .blk g5 [.int .u32 (((mulE p A (modM p B) nb i k : Nat) : Int))] 27, .lst 52 1 pX i cX (mmE Q), .lst 52 1 pT (colsM B) cT (mmE QT)] w6 from hS.pick [1, 0, 2, 3] (by decide) rfl)
   refine wl rfl (oappendR (p := pO) (m := k) (c := cO) (xs := (rowF k (mulE p A (modM p B) nb i))) (k := 1) (c2 := 1) (a := (some ⟨g5, 0, none⟩)) (ys := ([mulE p A (modM p B) nb i k])) hS rfl rfl Tryd.underlying52 infouint32 (ev (v := .slice pO k cO) rfl rfl) (ev (v := .slice (some ⟨g5, 0, none⟩) 1 1) rfl rfl) (Sl.blk1 (hS.blkAt 1 rfl) (Nat.lt_trans (dotp_lt hp0 _) hp2)) (by omega) (by omega) ?_)
   clear hS; intro p8 c9 w7 hS
   refine wl rfl (oassign (v := .slice p8 ((k + 1)) c9) rfl rfl (ev rfl rfl) ?_)
   refine wnil (blkN (thenN (wreg (wl rfl (obin (u := .int .i64 (k : Int)) (v := .int .i64 1) (z := .int .i64 (((k + 1 : Nat) : Int))) rfl rfl (ev rfl rfl) evc (bin_add (wrap_i64 (by omega) (by omega))) ?_)))))
   refine wl rfl (omove (v := .int .i64 (((k + 1 : Nat) : Int))) rfl rfl (ev rfl rfl) ?_)
   refine wnil (thenN ?_)
   rw [rowF_S] at hS
   exact ⟨(k + 1), ⟨_, _, _, act_sets (l := [(2, .int .u32 (p : Int)), (6, .slice none 0 0), (7, .slice pT (colsM B) cT), (8, .slice pX i cX), (10, .slice pr xr.length cr), (11, .slice p8 ((k + 1)) c9), (17, .slice pa na ca), (18, .int .i64 (na : Int)), (19, .int .i64 (i : Int)), (23, .slice pT (colsM B) cT), (24, .int .i64 (((colsM B : Nat) : Int))), (25, .int .i64 (((k + 1 : Nat) : Int)))]) ⟨rfl, rfl, rfl, rfl, rfl, rfl, rfl, rfl, rfl, rfl, rfl, rfl, trivial⟩, hS.pick [0, 2, 3] (by decide) rfl, by omega⟩, by omega⟩
  ·
   refine wl rfl (obin (u := .int .i64 (k : Int)) (v := .int .i64 (((colsM B : Nat) : Int))) (z := .bool false) rfl rfl (ev rfl rfl) (ev rfl rfl) (bin_lss (decide_eq_false (by omega))) ?_)
   refine wnil (thenN (wseq ?_))
   refine wF (ev rfl rfl) ?_
   refine wexit ?_
   refine thenE ?_
   refine thenE ?_
   refine blkE ?_
   refine thenN (wreg (wl rfl (omove (v := .slice pX i cX) rfl rfl (ev rfl rfl) ?_)))
   refine wl rfl (omove (v := .slice pO k cO) rfl rfl (ev rfl rfl) ?_)
   refine wl rfl (obslice (ps := #[(0, .slice pO k cO)]) (z := .slice none 0 0) [.slice pO k cO] hS rfl rfl Tryd.runUnderlying26 Tryd.sizeOf52 Tryd.zeroValue52 (parts1 (ev (v := .slice pO k cO) rfl rfl)) rfl (by decide) (fill1_1s rfl rfl) ?_)
   clear hS; intro g4 w5 hS
   have hkc : k = colsM B := by omega
   subst hkc
   obtain hS := (show Sep w [.rowm pO (((colsM B))) cO (rowF ((colsM B)) (mulE p A (modM p B) nb i)), .lst 52 1 pX i cX (mmE Q), .blk g4 [.slice pO (((colsM B))) cO] 52, .lst 52 1 pT (colsM B) cT (mmE QT)] w5 from hS.pick [1, 2, 0, 3] (by decide) rfl)
   refine wl rfl (oappendL (p := pX) (m := i) (c := cX) (g2 := g4) (c2 := 1) (off := 0) [.slice pO (((colsM B))) cO] [.rowm pO (((colsM B))) cO (rowF ((colsM B)) (mulE p A (modM p B) nb i))] hS rfl rfl Tryd.underlying26 infoRow rfl (by decide) (ev (v := .slice pX i cX) rfl rfl) (ev (v := .slice (some ⟨g4, 0, none⟩) 1 1) rfl rfl) (fun j v hj => by rw [Nat.zero_add]; exact (blk_cell (hS.blkAt 2 rfl) j).trans hj) rfl rfl rfl (by omega) (by omega) ?_)
   clear hS; intro p7 c8 w6 hS
   refine wl rfl (oassign (v := .slice p7 ((i + 1)) c8) rfl rfl (ev rfl rfl) ?_)
   refine wnil (blkN (thenN (wreg (wl rfl (obin (u := .int .i64 (i : Int)) (v := .int .i64 1) (z := .int .i64 (((i + 1 : Nat) : Int))) rfl rfl (ev rfl rfl) evc (bin_add (wrap_i64 (by omega) (by omega))) ?_)))))
   refine wl rfl (omove (v := .int .i64 (((i + 1 : Nat) : Int))) rfl rfl (ev rfl rfl) ?_)
   refine wnil (thenN ?_)
   rw [mmE_snoc (xs := rowF (colsM B) (mulE p A (modM p B) nb i)) (n := colsM B) (rowF_len _ _)] at hS
   exact ⟨(i + 1), ⟨_, _, _, _, act_sets (l := [(2, .int .u32 (p : Int)), (6, .slice none 0 0), (7, .slice pT (colsM B) cT), (8, .slice p7 ((i + 1)) c8), (17, .slice pa na ca), (18, .int .i64 (na : Int)), (19, .int .i64 (((i + 1 : Nat) : Int)))]) ⟨rfl, rfl, rfl, rfl, rfl, rfl, rfl, trivial⟩, hS.pick [0, 2] (by decide) rfl, by omega, by rw [nums_app, hQ, mkM_S]⟩, by omega⟩
 ·
  refine wl rfl (obin (u := .int .i64 (i : Int)) (v := .int .i64 (na : Int)) (z := .bool false) rfl rfl (ev rfl rfl) (ev rfl rfl) (bin_lss (decide_eq_false (by omega))) ?_)
  refine wnil (thenN (wseq ?_))
  refine wF (ev rfl rfl) ?_
  refine wexit ?_
  refine thenE ?_
  refine thenE ?_
  refine blkE ?_
  refine thenN (wseq (wreg (wl rfl (omove (v := .slice pX i cX) rfl rfl (ev rfl rfl) ?_))))
  refine wl rfl (oassign (v := .slice pX i cX) rfl rfl (ev rfl rfl) ?_)
  refine wnil (thenN ?_)
  refine wleave ?_
  have hin : i = na := by omega
  refine wret1 Tryd.results50 (tellT (v := .slice pX i cX) rfl rfl) ?_
  exact ⟨_, _, rfl, ⟨pX, cX, Q, by rw [hQ, hin]; unfold mulM; rw [hna], by rw [hin], by rw [hin]⟩, hS.newR 0 rfl rfl⟩
end Go.Proofs.YtndilfigdbenoaaDoor
/-
  The document's Pow; modmat's Pow, Trace; the law's number.
-/
namespace Go.Proofs.YtndilfigdbenoaaDoor
open Go.RowKit
theorem Sq.small {p n : Nat} {M : List (List Nat)} (h : Sq p n M) (hn : n ≤ 1048576) : SmallM M := ⟨by rw [h.2]; omega, fun r hr => by rw [(h.1 r hr).1]; exact hn⟩
theorem Sq.rect {p n : Nat} {M : List (List Nat)} (h : Sq p n M) : RectM M := h.1.rect (fun e => by rw [← h.2]; exact e)
theorem mkM_mul {p n r : Nat} {A B : List (List Nat)} {Q : List (List Nat)} (hA : A.length = r) (h : Q = mkM r n (mulE p A B n)) : Q = mulM p A B n n := by rw [h]; unfold mulM; rw [hA]
theorem powG_len {p n : Nat} (hp : 0 < p) (e : Nat) : ∀ {O X : List (List Nat)}, Sq p n O → Sq p n X → Sq p n (powG p n O X e) := by
 induction e using Nat.strongRecOn with
 | _ e ih =>
  intro O X hO hX
  by_cases h0 : e = 0
  ·subst h0; rw [powG_0]; exact hO
  ·by_cases h : e % 2 = 1
   ·rw [powG_odd h]; exact ih _ (by omega) (hO.mul hp) (hX.mul hp)
   ·rw [powG_even h0 h]; exact ih _ (by omega) hO (hX.mul hp)
theorem wrpow {pm : Option Addr} {n cm p e0 : Nat} {M : List (List Nat)} {w : World} (hm : MS w pm n M) (hp1 : 1 < p) (hp2 : p < 4294967296) (hs : SmallM M) (hr : RectM M) (hq : M.length = colsM M) (he0 : e0 < 18446744073709551616) :
  Calls Tryd.prog 29 #[.slice pm n cm, .int .u64 ((e0 : Nat) : Int), .int .u32 ((p : Nat) : Int)] w (Ret (MMn n (powG p n (idM n) (modM p M) e0)) w) := by
 have hnm := hm.1
 have hp0 : 0 < p := by omega
 have hcb : n ≤ 1048576 := by rw [← hnm, hq]; exact hs.cols
 have hrb : ∀ r ∈ M, r.length ≤ 2097152 := fun r h => by have := hs.2 r h; omega
 have hM9 : Sq p n (modM p M) := ⟨by have := hr.shp (p := p) hp0; rwa [← hq, hnm] at this, by rw [modM_len]; exact hnm⟩
 obtain ⟨W, hW0⟩ : ∃ W, powG p n (idM n) (modM p M) e0 = W := ⟨_, rfl⟩
 have hS := Sep.init w
 refine went Tryd.func29 rfl (n := 30) rfl rfl ?_
 refine wseq (wreg (wl rfl (oassign (v := .slice none 0 0) rfl rfl evc ?_)))
 refine wnil (thenN (wseq (wreg (wl rfl (omove (v := .slice pm n cm) rfl rfl (ev rfl rfl) ?_)))))
 refine wl rfl (olen rfl rfl rfl Tryd.runUnderlying26 (p := pm) (k := n) (m := cm) (ev rfl rfl) ?_)
 refine wl rfl (ocall rfl rfl Tryd.call24 rfl (wrident (by omega)) (args1 (ev rfl rfl)) ?_)
 rintro _ w1 ⟨_, _, rfl, ⟨pO, cO, QO, hQO, rfl, rfl⟩, hN⟩
 refine ⟨_, rfl, ?_⟩
 replace hS := hS.news hN; clear hN
 refine wl rfl (oassign (v := .slice pO n cO) rfl rfl (ev rfl rfl) ?_)
 refine wnil (thenN (wseq (wreg (wl rfl (omove (v := .slice pm n cm) rfl rfl (ev rfl rfl) ?_)))))
 refine wl rfl (omove (v := .int .u32 (p : Int)) rfl rfl (ev rfl rfl) ?_)
 refine wl rfl (ocall rfl rfl Tryd.call49 rfl (wrnorm (hm.at hS) hp0 hp2 (by omega) hrb) (args2 (ev rfl rfl) (ev rfl rfl)) ?_)
 rintro _ w2 ⟨_, _, rfl, ⟨pX, cX, QX, hQX, rfl, rfl⟩, hN⟩
 refine ⟨_, rfl, ?_⟩
 replace hS := hS.news hN; clear hN
 refine wl rfl (oassign (v := .slice pX n cX) rfl rfl (ev rfl rfl) ?_)
 refine wnil (thenN (wseq (wblock ?_)))
 refine wloop (σ := Nat) (fun e a9 w' => ∃ (fb : Nat → Value) (QO1 : List Rw) (QX1 : List Rw) (pO1 : Option Addr) (cO1 : Nat) (pX1 : Option Addr) (cX1 : Nat), a9 = act 30 (sets fb [(0, .slice pX1 n cX1), (1, .int .u64 (e : Int)), (2, .int .u32 (p : Int)), (6, .slice none 0 0), (7, .slice pO1 n cO1)]) ∧ Sep w [.lst 52 1 pX1 n cX1 (mmE QX1), .lst 52 1 pO1 n cO1 (mmE QO1)] w' ∧ (e < 18446744073709551616) ∧ (Sq p n (nums QO1)) ∧ (Sq p n (nums QX1)) ∧ (powG p n (nums QO1) (nums QX1) e = W)) (fun e => e) (e0) ⟨_, QO, QX, pO, cO, pX, cX, act_sets (l := [(0, .slice pX n cX), (1, .int .u64 (e0 : Int)), (2, .int .u32 (p : Int)), (6, .slice none 0 0), (7, .slice pO n cO)]) ⟨rfl, rfl, rfl, rfl, rfl, trivial⟩, hS, he0, by rw [hQO]; exact Sq.one hp1, by rw [hQX]; exact hM9, by rw [hQO, hQX]; exact hW0⟩ ?_
 clear hS; rintro e _ w3 ⟨fb, QO1, QX1, pO1, cO1, pX1, cX1, rfl, hS, heb, hO1, hX1, hW⟩
 refine wseq (wseq (wreg (wl rfl (omove (v := .int .u64 (e : Int)) rfl rfl (ev rfl rfl) ?_))))
 by_cases he : e = 0
 ·
  refine wl rfl (obin (u := .int .u64 (e : Int)) (v := .int .u64 0) (z := .bool false) rfl rfl (ev rfl rfl) evc (bin_gtr (decide_eq_false (by omega))) ?_)
  refine wnil (thenN ?_)
  refine wF (ev rfl rfl) ?_
  refine wexit ?_
  refine thenE ?_
  refine thenE ?_
  refine blkE ?_
  refine thenN (wseq (wreg (wl rfl (omove (v := .slice pO1 n cO1) rfl rfl (ev rfl rfl) ?_))))
  refine wl rfl (oassign (v := .slice pO1 n cO1) rfl rfl (ev rfl rfl) ?_)
  refine wnil (thenN ?_)
  refine wleave ?_
  refine wret1 Tryd.results29 (tellT (v := .slice pO1 n cO1) rfl rfl) ?_
  subst he
  rw [powG_0] at hW
  exact ⟨_, _, rfl, ⟨pO1, cO1, QO1, hW.trans hW0.symm, rfl, rfl⟩, hS.newR 1 rfl rfl⟩
 ·
  refine wl rfl (obin (u := .int .u64 (e : Int)) (v := .int .u64 0) (z := .bool true) rfl rfl (ev rfl rfl) evc (bin_gtr (decide_eq_true (by omega))) ?_)
  refine wnil (thenN ?_)
  refine wT (ev rfl rfl) ?_
  refine wskip (thenN (wblock (wseq (wseq (wreg (wl rfl (omove (v := .int .u64 (e : Int)) rfl rfl (ev rfl rfl) ?_)))))))
  refine wl rfl (obin (u := .int .u64 (e : Int)) (v := .int .u64 2) (z := .int .u64 (((e % 2 : Nat) : Int))) rfl rfl (ev rfl rfl) evc (bin_rem (by decide) rfl) ?_)
  by_cases ho : e % 2 = 1
  ·
   refine wl rfl (obin (u := .int .u64 (((e % 2 : Nat) : Int))) (v := .int .u64 1) (z := .bool true) rfl rfl (ev rfl rfl) evc (bin_eql (eqT (by omega))) ?_)
   refine wnil (thenN ?_)
   refine wT (ev rfl rfl) ?_
   refine wreg (wl rfl (omove (v := .slice pO1 n cO1) rfl rfl (ev rfl rfl) ?_))
   refine wl rfl (omove (v := .slice pX1 n cX1) rfl rfl (ev rfl rfl) ?_)
   refine wl rfl (omove (v := .int .u32 (p : Int)) rfl rfl (ev rfl rfl) ?_)
   refine wl rfl (ocall rfl rfl Tryd.call50 rfl ((show Calls _ _ _ _ (Ret (MMn n (mulM p (nums QO1) (nums QX1) n n)) _) from by have h9 := wrmul (ca := cO1) (cb := cX1) (hS.ms 1 rfl (by simp only [maxLen]; omega)) (hS.ms 0 rfl (by simp only [maxLen]; omega)) hp0 hp2 (fun r h => (hO1.1 r h).1) (by omega) hX1.rect (hX1.small hcb); rwa [modM_id hX1.1, hX1.cols] at h9)) (args3 (ev rfl rfl) (ev rfl rfl) (ev rfl rfl)) ?_)
   rintro _ w4 ⟨_, _, rfl, ⟨pO2, cO2, QO2, hQO2, rfl, rfl⟩, hN⟩
   refine ⟨_, rfl, ?_⟩
   replace hS := hS.news hN; clear hN
   refine wl rfl (oassign (v := .slice pO2 n cO2) rfl rfl (ev rfl rfl) ?_)
   refine wnil (thenN (wseq (wreg (wl rfl (omove (v := .slice pX1 n cX1) rfl rfl (ev rfl rfl) ?_)))))
   refine wl rfl (omove (v := .slice pX1 n cX1) rfl rfl (ev rfl rfl) ?_)
   refine wl rfl (omove (v := .int .u32 (p : Int)) rfl rfl (ev rfl rfl) ?_)
   obtain hS := (show Sep w [.lst 52 1 pO2 n cO2 (mmE QO2), .lst 52 1 pX1 n cX1 (mmE QX1)] w4 from hS.pick [0, 1] (by decide) rfl)
   refine wl rfl (ocall rfl rfl Tryd.call50 rfl ((show Calls _ _ _ _ (Ret (MMn n (mulM p (nums QX1) (nums QX1) n n)) _) from by have h9 := wrmul (ca := cX1) (cb := cX1) (hS.ms 1 rfl (by simp only [maxLen]; omega)) (hS.ms 1 rfl (by simp only [maxLen]; omega)) hp0 hp2 (fun r h => (hX1.1 r h).1) (by omega) hX1.rect (hX1.small hcb); rwa [modM_id hX1.1, hX1.cols] at h9)) (args3 (ev rfl rfl) (ev rfl rfl) (ev rfl rfl)) ?_)
   rintro _ w5 ⟨_, _, rfl, ⟨pX2, cX2, QX2, hQX2, rfl, rfl⟩, hN⟩
   refine ⟨_, rfl, ?_⟩
   replace hS := hS.news hN; clear hN
   refine wl rfl (oassign (v := .slice pX2 n cX2) rfl rfl (ev rfl rfl) ?_)
   refine wnil (thenN (wreg (wl rfl (omove (v := .int .u64 (e : Int)) rfl rfl (ev rfl rfl) ?_))))
   obtain hS := (show Sep w [.lst 52 1 pX2 n cX2 (mmE QX2), .lst 52 1 pO2 n cO2 (mmE QO2)] w5 from hS.pick [0, 1] (by decide) rfl)
   refine wl rfl (obin (u := .int .u64 (e : Int)) (v := .int .u64 2) (z := .int .u64 (((e / 2 : Nat) : Int))) rfl rfl (ev rfl rfl) evc (bin_quo (by decide) (by rw [show (e : Int).tdiv 2 = ((e / 2 : Nat) : Int) from rfl]; exact wrap_u64 (by omega) (by omega))) ?_)
   refine wl rfl (oassign (v := .int .u64 (((e / 2 : Nat) : Int))) rfl rfl (ev rfl rfl) ?_)
   refine wnil (blkN (thenN ?_))
   exact ⟨(e / 2), ⟨_, _, _, _, _, _, _, act_sets (l := [(0, .slice pX2 n cX2), (1, .int .u64 (((e / 2 : Nat) : Int))), (2, .int .u32 (p : Int)), (6, .slice none 0 0), (7, .slice pO2 n cO2)]) ⟨rfl, rfl, rfl, rfl, rfl, trivial⟩, hS.pick [0, 1] (by decide) rfl, by omega, by rw [hQO2]; exact hO1.mul hp0, by rw [hQX2]; exact hX1.mul hp0, by rw [hQO2, hQX2, ← powG_odd ho]; exact hW⟩, by omega⟩
  ·
   refine wl rfl (obin (u := .int .u64 (((e % 2 : Nat) : Int))) (v := .int .u64 1) (z := .bool false) rfl rfl (ev rfl rfl) evc (bin_eql (eqF (by omega))) ?_)
   refine wnil (thenN ?_)
   refine wF (ev rfl rfl) ?_
   refine wskip (thenN (wseq (wreg (wl rfl (omove (v := .slice pX1 n cX1) rfl rfl (ev rfl rfl) ?_)))))
   refine wl rfl (omove (v := .slice pX1 n cX1) rfl rfl (ev rfl rfl) ?_)
   refine wl rfl (omove (v := .int .u32 (p : Int)) rfl rfl (ev rfl rfl) ?_)
   refine wl rfl (ocall rfl rfl Tryd.call50 rfl ((show Calls _ _ _ _ (Ret (MMn n (mulM p (nums QX1) (nums QX1) n n)) _) from by have h9 := wrmul (ca := cX1) (cb := cX1) (hS.ms 0 rfl (by simp only [maxLen]; omega)) (hS.ms 0 rfl (by simp only [maxLen]; omega)) hp0 hp2 (fun r h => (hX1.1 r h).1) (by omega) hX1.rect (hX1.small hcb); rwa [modM_id hX1.1, hX1.cols] at h9)) (args3 (ev rfl rfl) (ev rfl rfl) (ev rfl rfl)) ?_)
   rintro _ w4 ⟨_, _, rfl, ⟨pX2, cX2, QX2, hQX2, rfl, rfl⟩, hN⟩
   refine ⟨_, rfl, ?_⟩
   replace hS := hS.news hN; clear hN
   refine wl rfl (oassign (v := .slice pX2 n cX2) rfl rfl (ev rfl rfl) ?_)
   refine wnil (thenN (wreg (wl rfl (omove (v := .int .u64 (e : Int)) rfl rfl (ev rfl rfl) ?_))))
   obtain hS := (show Sep w [.lst 52 1 pX2 n cX2 (mmE QX2), .lst 52 1 pO1 n cO1 (mmE QO1)] w4 from hS.pick [0, 2] (by decide) rfl)
   refine wl rfl (obin (u := .int .u64 (e : Int)) (v := .int .u64 2) (z := .int .u64 (((e / 2 : Nat) : Int))) rfl rfl (ev rfl rfl) evc (bin_quo (by decide) (by rw [show (e : Int).tdiv 2 = ((e / 2 : Nat) : Int) from rfl]; exact wrap_u64 (by omega) (by omega))) ?_)
   refine wl rfl (oassign (v := .int .u64 (((e / 2 : Nat) : Int))) rfl rfl (ev rfl rfl) ?_)
   refine wnil (blkN (thenN ?_))
   exact ⟨(e / 2), ⟨_, _, _, _, _, _, _, act_sets (l := [(0, .slice pX2 n cX2), (1, .int .u64 (((e / 2 : Nat) : Int))), (2, .int .u32 (p : Int)), (6, .slice none 0 0), (7, .slice pO1 n cO1)]) ⟨rfl, rfl, rfl, rfl, rfl, trivial⟩, hS.pick [0, 1] (by decide) rfl, by omega, hO1, by rw [hQX2]; exact hX1.mul hp0, by rw [hQX2, ← powG_even he ho]; exact hW⟩, by omega⟩
theorem wlnumberE {e x : Int} {w : World} (he : e ≠ 0) :
  Calls Tryd.prog 27 #[.int .u32 0, .int .i64 e, .int .u32 x, .int .i64 e] w (Ret (Is (.bool true)) w) := by
 have hS := Sep.init w
 refine went Tryd.func27 rfl (n := 27) rfl rfl ?_
 refine wseq (wreg (wl rfl (oassign (v := .bool false) rfl rfl evc ?_)))
 refine wnil (thenN (wseq (wseq (wreg (wl rfl (omove (v := .int .i64 e) rfl rfl (ev rfl rfl) ?_))))))
 refine wl rfl (obin (u := .int .i64 e) (v := .int .i64 0) (z := .bool true) rfl rfl (ev rfl rfl) evc (bin_neq (neT he)) ?_)
 refine wnil (thenN ?_)
 refine wT (ev rfl rfl) ?_
 refine wseq (wreg (wl rfl (omove (v := .int .i64 e) rfl rfl (ev rfl rfl) ?_)))
 refine wl rfl (ocall rfl rfl Tryd.call11 rfl (wxnum) (args1 (ev rfl rfl)) ?_)
 rintro _ w1 ⟨_, _, rfl, ⟨rfl, rfl⟩, hN⟩
 refine ⟨_, rfl, ?_⟩
 replace hS := hS.news hN; clear hN
 refine wl rfl (omove (v := .int .i64 e) rfl rfl (ev rfl rfl) ?_)
 refine wl rfl (obin (u := .int .i64 e) (v := .int .i64 e) (z := .bool true) rfl rfl (ev rfl rfl) (ev rfl rfl) (bin_eql (eqT rfl)) ?_)
 refine wl rfl (omove (v := .bool true) rfl rfl (ev rfl rfl) ?_)
 refine wlOn (e := 15) rfl rfl rfl rfl (omove (v := .int .u32 0) rfl rfl (ev rfl rfl) ?_)
 refine wlOn (e := 15) rfl rfl rfl rfl (obin (u := .int .u32 0) (v := .int .u32 0) (z := .bool true) rfl rfl (ev rfl rfl) evc (bin_eql (by decide)) ?_)
 refine wl rfl (opick (b := true) (v := .bool true) rfl rfl (ev rfl rfl) (ev rfl rfl) ?_)
 refine wl rfl (oassign (v := .bool true) rfl rfl (ev rfl rfl) ?_)
 refine wnil (thenN ?_)
 refine wleave ?_
 refine thenR ?_
 refine wret1 Tryd.results27 (tellT (v := .bool true) rfl rfl) ?_
 exact ⟨_, _, rfl, isI, hS.new0⟩
theorem wlnumber {x : Int} {w : World} :
  Calls Tryd.prog 27 #[.int .u32 x, .int .i64 0, .int .u32 x, .int .i64 0] w (Ret (Is (.bool true)) w) := by
 have hS := Sep.init w
 refine went Tryd.func27 rfl (n := 27) rfl rfl ?_
 refine wseq (wreg (wl rfl (oassign (v := .bool false) rfl rfl evc ?_)))
 refine wnil (thenN (wseq (wseq (wreg (wl rfl (omove (v := .int .i64 0) rfl rfl (ev rfl rfl) ?_))))))
 refine wl rfl (obin (u := .int .i64 0) (v := .int .i64 0) (z := .bool false) rfl rfl (ev rfl rfl) evc (bin_neq (by decide)) ?_)
 refine wnil (thenN ?_)
 refine wF (ev rfl rfl) ?_
 refine wskip (thenN (wseq (wreg (wl rfl (omove (v := .int .i64 0) rfl rfl (ev rfl rfl) ?_)))))
 refine wl rfl (ocall rfl rfl Tryd.call11 rfl (wxnum) (args1 (ev rfl rfl)) ?_)
 rintro _ w1 ⟨_, _, rfl, ⟨rfl, rfl⟩, hN⟩
 refine ⟨_, rfl, ?_⟩
 replace hS := hS.news hN; clear hN
 refine wl rfl (obin (u := .int .i64 0) (v := .int .i64 0) (z := .bool true) rfl rfl (ev rfl rfl) evc (bin_eql (by decide)) ?_)
 refine wl rfl (omove (v := .bool true) rfl rfl (ev rfl rfl) ?_)
 refine wlOn (e := 22) rfl rfl rfl rfl (omove (v := .int .u32 x) rfl rfl (ev rfl rfl) ?_)
 refine wlOn (e := 22) rfl rfl rfl rfl (omove (v := .int .u32 x) rfl rfl (ev rfl rfl) ?_)
 refine wlOn (e := 22) rfl rfl rfl rfl (obin (u := .int .u32 x) (v := .int .u32 x) (z := .bool true) rfl rfl (ev rfl rfl) (ev rfl rfl) (bin_eql (eqT rfl)) ?_)
 refine wl rfl (opick (b := true) (v := .bool true) rfl rfl (ev rfl rfl) (ev rfl rfl) ?_)
 refine wl rfl (oassign (v := .bool true) rfl rfl (ev rfl rfl) ?_)
 refine wnil (thenN ?_)
 refine wleave ?_
 refine wret1 Tryd.results27 (tellT (v := .bool true) rfl rfl) ?_
 exact ⟨_, _, rfl, isI, hS.new0⟩
theorem wxtrace40 {pm : Option Addr} {nm cm p : Nat} {M : List (List Nat)} {w : World} (ht : Tb w) (hm : MS w pm nm M) (hp2 : p < 4294967296) (hs : SmallM M) (hp : ¬ MR.Pr p) :
  Calls Tryd.prog 26 #[.slice pm nm cm, .int .u32 ((p : Nat) : Int)] w (Ret (Is (.tuple #[.int .u32 0, .int .i64 40])) w) := by
 have hS := Sep.init w
 refine went Tryd.func26 rfl (n := 38) rfl rfl ?_
 refine wseq (wreg (wl rfl (oassign (v := .int .u32 0) rfl rfl evc ?_)))
 refine wl rfl (oassign (v := .int .i64 0) rfl rfl evc ?_)
 refine wnil (thenN (wseq (wreg (wl rfl (omove (v := .int .u32 (p : Int)) rfl rfl (ev rfl rfl) ?_)))))
 refine wl rfl (omove (v := .slice pm nm cm) rfl rfl (ev rfl rfl) ?_)
 refine wl rfl (ocall rfl rfl Tryd.call38 rfl (wxsquare40 (ht.at hS) (hm.at hS) hp2 hs hp) (args2 (ev rfl rfl) (ev rfl rfl)) ?_)
 rintro _ w1 ⟨_, _, rfl, ⟨rfl, rfl⟩, hN⟩
 refine ⟨_, rfl, ?_⟩
 replace hS := hS.news hN; clear hN
 refine wl rfl (omove (v := .tuple #[.agg #[.int .u64 0, .slice none 0 0, .int .i64 0], .int .i64 40]) rfl rfl (ev rfl rfl) ?_)
 refine wl rfl (oextract (vs := [.agg #[.int .u64 0, .slice none 0 0, .int .i64 0], .int .i64 40]) (v := .agg #[.int .u64 0, .slice none 0 0, .int .i64 0]) rfl rfl (ev rfl rfl) rfl ?_)
 refine wl rfl (oextract (vs := [.agg #[.int .u64 0, .slice none 0 0, .int .i64 0], .int .i64 40]) (v := .int .i64 40) rfl rfl (ev rfl rfl) rfl ?_)
 refine wl rfl (oalloc [.int .u64 0, .slice none 0 0, .int .i64 0] hS rfl rfl Tryd.zeroValue63 rfl ?_)
 clear hS; intro g2 w3 hS
 refine wl rfl (ostore [.int .u64 0, .slice none 0 0, .int .i64 0] [.int .u64 0, .slice none 0 0, .int .i64 0] Tryd.sizeOf63 hS 0 rfl rfl (ev rfl rfl) (ev (v := .agg #[.int .u64 0, .slice none 0 0, .int .i64 0]) rfl rfl) rfl rfl rfl rfl rfl rfl ?_)
 clear hS; intro w4 hS
 refine wl rfl (oassign (v := .int .i64 40) rfl rfl (ev rfl rfl) ?_)
 refine wnil (thenN (wseq (wseq (wreg (wl rfl (omove (v := .int .i64 40) rfl rfl (ev rfl rfl) ?_))))))
 refine wl rfl (obin (u := .int .i64 40) (v := .int .i64 0) (z := .bool true) rfl rfl (ev rfl rfl) evc (bin_neq (by decide)) ?_)
 refine wnil (thenN ?_)
 refine wT (ev rfl rfl) ?_
 refine wseq (wreg (wl rfl (omove (v := .int .i64 40) rfl rfl (ev rfl rfl) ?_)))
 refine wl rfl (oassign (v := .int .u32 0) rfl rfl evc ?_)
 refine wl rfl (oassign (v := .int .i64 40) rfl rfl (ev rfl rfl) ?_)
 refine wnil (thenN ?_)
 refine wleave ?_
 refine thenR ?_
 refine wret2 Tryd.results26 (tellT (v := .int .u32 0) rfl rfl) (tellT (v := .int .i64 40) rfl rfl) ?_
 exact ⟨_, _, rfl, isI, hS.new0⟩
theorem wxtrace2 {pm : Option Addr} {nm cm p : Nat} {M : List (List Nat)} {w : World} (ht : Tb w) (hm : MS w pm nm M) (hp2 : p < 4294967296) (hs : SmallM M) (hp : MR.Pr p) (hr : ¬ RectM M) :
  Calls Tryd.prog 26 #[.slice pm nm cm, .int .u32 ((p : Nat) : Int)] w (Ret (Is (.tuple #[.int .u32 0, .int .i64 2])) w) := by
 have hS := Sep.init w
 refine went Tryd.func26 rfl (n := 38) rfl rfl ?_
 refine wseq (wreg (wl rfl (oassign (v := .int .u32 0) rfl rfl evc ?_)))
 refine wl rfl (oassign (v := .int .i64 0) rfl rfl evc ?_)
 refine wnil (thenN (wseq (wreg (wl rfl (omove (v := .int .u32 (p : Int)) rfl rfl (ev rfl rfl) ?_)))))
 refine wl rfl (omove (v := .slice pm nm cm) rfl rfl (ev rfl rfl) ?_)
 refine wl rfl (ocall rfl rfl Tryd.call38 rfl (wxsquare2 (ht.at hS) (hm.at hS) hp2 hs hp hr) (args2 (ev rfl rfl) (ev rfl rfl)) ?_)
 rintro _ w1 ⟨_, _, rfl, ⟨rfl, rfl⟩, hN⟩
 refine ⟨_, rfl, ?_⟩
 replace hS := hS.news hN; clear hN
 refine wl rfl (omove (v := .tuple #[.agg #[.int .u64 0, .slice none 0 0, .int .i64 0], .int .i64 2]) rfl rfl (ev rfl rfl) ?_)
 refine wl rfl (oextract (vs := [.agg #[.int .u64 0, .slice none 0 0, .int .i64 0], .int .i64 2]) (v := .agg #[.int .u64 0, .slice none 0 0, .int .i64 0]) rfl rfl (ev rfl rfl) rfl ?_)
 refine wl rfl (oextract (vs := [.agg #[.int .u64 0, .slice none 0 0, .int .i64 0], .int .i64 2]) (v := .int .i64 2) rfl rfl (ev rfl rfl) rfl ?_)
 refine wl rfl (oalloc [.int .u64 0, .slice none 0 0, .int .i64 0] hS rfl rfl Tryd.zeroValue63 rfl ?_)
 clear hS; intro g2 w3 hS
 refine wl rfl (ostore [.int .u64 0, .slice none 0 0, .int .i64 0] [.int .u64 0, .slice none 0 0, .int .i64 0] Tryd.sizeOf63 hS 0 rfl rfl (ev rfl rfl) (ev (v := .agg #[.int .u64 0, .slice none 0 0, .int .i64 0]) rfl rfl) rfl rfl rfl rfl rfl rfl ?_)
 clear hS; intro w4 hS
 refine wl rfl (oassign (v := .int .i64 2) rfl rfl (ev rfl rfl) ?_)
 refine wnil (thenN (wseq (wseq (wreg (wl rfl (omove (v := .int .i64 2) rfl rfl (ev rfl rfl) ?_))))))
 refine wl rfl (obin (u := .int .i64 2) (v := .int .i64 0) (z := .bool true) rfl rfl (ev rfl rfl) evc (bin_neq (by decide)) ?_)
 refine wnil (thenN ?_)
 refine wT (ev rfl rfl) ?_
 refine wseq (wreg (wl rfl (omove (v := .int .i64 2) rfl rfl (ev rfl rfl) ?_)))
 refine wl rfl (oassign (v := .int .u32 0) rfl rfl evc ?_)
 refine wl rfl (oassign (v := .int .i64 2) rfl rfl (ev rfl rfl) ?_)
 refine wnil (thenN ?_)
 refine wleave ?_
 refine thenR ?_
 refine wret2 Tryd.results26 (tellT (v := .int .u32 0) rfl rfl) (tellT (v := .int .i64 2) rfl rfl) ?_
 exact ⟨_, _, rfl, isI, hS.new0⟩
theorem wxtrace3 {pm : Option Addr} {nm cm p : Nat} {M : List (List Nat)} {w : World} (ht : Tb w) (hm : MS w pm nm M) (hp2 : p < 4294967296) (hs : SmallM M) (hp : MR.Pr p) (hr : RectM M) (hq : ¬ (M.length ≠ 0 ∧ M.length = colsM M)) :
  Calls Tryd.prog 26 #[.slice pm nm cm, .int .u32 ((p : Nat) : Int)] w (Ret (Is (.tuple #[.int .u32 0, .int .i64 3])) w) := by
 have hS := Sep.init w
 refine went Tryd.func26 rfl (n := 38) rfl rfl ?_
 refine wseq (wreg (wl rfl (oassign (v := .int .u32 0) rfl rfl evc ?_)))
 refine wl rfl (oassign (v := .int .i64 0) rfl rfl evc ?_)
 refine wnil (thenN (wseq (wreg (wl rfl (omove (v := .int .u32 (p : Int)) rfl rfl (ev rfl rfl) ?_)))))
 refine wl rfl (omove (v := .slice pm nm cm) rfl rfl (ev rfl rfl) ?_)
 refine wl rfl (ocall rfl rfl Tryd.call38 rfl (wxsquare3 (ht.at hS) (hm.at hS) hp2 hs hp hr hq) (args2 (ev rfl rfl) (ev rfl rfl)) ?_)
 rintro _ w1 ⟨_, _, rfl, ⟨rfl, rfl⟩, hN⟩
 refine ⟨_, rfl, ?_⟩
 replace hS := hS.news hN; clear hN
 refine wl rfl (omove (v := .tuple #[.agg #[.int .u64 0, .slice none 0 0, .int .i64 0], .int .i64 3]) rfl rfl (ev rfl rfl) ?_)
 refine wl rfl (oextract (vs := [.agg #[.int .u64 0, .slice none 0 0, .int .i64 0], .int .i64 3]) (v := .agg #[.int .u64 0, .slice none 0 0, .int .i64 0]) rfl rfl (ev rfl rfl) rfl ?_)
 refine wl rfl (oextract (vs := [.agg #[.int .u64 0, .slice none 0 0, .int .i64 0], .int .i64 3]) (v := .int .i64 3) rfl rfl (ev rfl rfl) rfl ?_)
 refine wl rfl (oalloc [.int .u64 0, .slice none 0 0, .int .i64 0] hS rfl rfl Tryd.zeroValue63 rfl ?_)
 clear hS; intro g2 w3 hS
 refine wl rfl (ostore [.int .u64 0, .slice none 0 0, .int .i64 0] [.int .u64 0, .slice none 0 0, .int .i64 0] Tryd.sizeOf63 hS 0 rfl rfl (ev rfl rfl) (ev (v := .agg #[.int .u64 0, .slice none 0 0, .int .i64 0]) rfl rfl) rfl rfl rfl rfl rfl rfl ?_)
 clear hS; intro w4 hS
 refine wl rfl (oassign (v := .int .i64 3) rfl rfl (ev rfl rfl) ?_)
 refine wnil (thenN (wseq (wseq (wreg (wl rfl (omove (v := .int .i64 3) rfl rfl (ev rfl rfl) ?_))))))
 refine wl rfl (obin (u := .int .i64 3) (v := .int .i64 0) (z := .bool true) rfl rfl (ev rfl rfl) evc (bin_neq (by decide)) ?_)
 refine wnil (thenN ?_)
 refine wT (ev rfl rfl) ?_
 refine wseq (wreg (wl rfl (omove (v := .int .i64 3) rfl rfl (ev rfl rfl) ?_)))
 refine wl rfl (oassign (v := .int .u32 0) rfl rfl evc ?_)
 refine wl rfl (oassign (v := .int .i64 3) rfl rfl (ev rfl rfl) ?_)
 refine wnil (thenN ?_)
 refine wleave ?_
 refine thenR ?_
 refine wret2 Tryd.results26 (tellT (v := .int .u32 0) rfl rfl) (tellT (v := .int .i64 3) rfl rfl) ?_
 exact ⟨_, _, rfl, isI, hS.new0⟩
theorem wxtrace {pm : Option Addr} {nm cm p : Nat} {M : List (List Nat)} {w : World} (ht : Tb w) (hm : MS w pm nm M) (hp2 : p < 4294967296) (hs : SmallM M) (hp : MR.Pr p) (hr : RectM M) (h0 : M.length ≠ 0) (hq : M.length = colsM M)  :
  Calls Tryd.prog 26 #[.slice pm nm cm, .int .u32 ((p : Nat) : Int)] w (Ret (Is (.tuple #[.int .u32 ((trTo p M M.length : Nat) : Int), .int .i64 0])) w) := by
 have hcb := hs.cols
 have hnb := hs.1
 have hp1 := hp.1
 have hp0 : 0 < p := by omega
 have hshM := hr.shp hp0
 have hS := Sep.init w
 refine went Tryd.func26 rfl (n := 38) rfl rfl ?_
 refine wseq (wreg (wl rfl (oassign (v := .int .u32 0) rfl rfl evc ?_)))
 refine wl rfl (oassign (v := .int .i64 0) rfl rfl evc ?_)
 refine wnil (thenN (wseq (wreg (wl rfl (omove (v := .int .u32 (p : Int)) rfl rfl (ev rfl rfl) ?_)))))
 refine wl rfl (omove (v := .slice pm nm cm) rfl rfl (ev rfl rfl) ?_)
 refine wl rfl (ocall rfl rfl Tryd.call38 rfl (wxsquare (ht.at hS) (hm.at hS) hp2 hs hp hr h0 hq) (args2 (ev rfl rfl) (ev rfl rfl)) ?_)
 rintro _ w1 ⟨_, _, rfl, ⟨pX, cX, QX, hQX, rfl, rfl⟩, hN⟩
 refine ⟨_, rfl, ?_⟩
 replace hS := hS.news hN; clear hN
 refine wl rfl (omove (v := .tuple #[.agg #[.int .u64 (p : Int), .slice pX M.length cX, .int .i64 (((colsM M : Nat) : Int))], .int .i64 0]) rfl rfl (ev rfl rfl) ?_)
 refine wl rfl (oextract (vs := [.agg #[.int .u64 (p : Int), .slice pX M.length cX, .int .i64 (((colsM M : Nat) : Int))], .int .i64 0]) (v := .agg #[.int .u64 (p : Int), .slice pX M.length cX, .int .i64 (((colsM M : Nat) : Int))]) rfl rfl (ev rfl rfl) rfl ?_)
 refine wl rfl (oextract (vs := [.agg #[.int .u64 (p : Int), .slice pX M.length cX, .int .i64 (((colsM M : Nat) : Int))], .int .i64 0]) (v := .int .i64 0) rfl rfl (ev rfl rfl) rfl ?_)
 refine wl rfl (oalloc [.int .u64 0, .slice none 0 0, .int .i64 0] hS rfl rfl Tryd.zeroValue63 rfl ?_)
 clear hS; intro g2 w3 hS
 refine wl rfl (ostore [.int .u64 (p : Int), .slice pX M.length cX, .int .i64 (((colsM M : Nat) : Int))] [.int .u64 (p : Int), .slice pX M.length cX, .int .i64 (((colsM M : Nat) : Int))] Tryd.sizeOf63 hS 0 rfl rfl (ev rfl rfl) (ev (v := .agg #[.int .u64 (p : Int), .slice pX M.length cX, .int .i64 (((colsM M : Nat) : Int))]) rfl rfl) rfl rfl rfl rfl rfl rfl ?_)
 clear hS; intro w4 hS
 refine wl rfl (oassign (v := .int .i64 0) rfl rfl (ev rfl rfl) ?_)
 refine wnil (thenN (wseq (wseq (wreg (wl rfl (omove (v := .int .i64 0) rfl rfl (ev rfl rfl) ?_))))))
 refine wl rfl (obin (u := .int .i64 0) (v := .int .i64 0) (z := .bool false) rfl rfl (ev rfl rfl) evc (bin_neq (by decide)) ?_)
 refine wnil (thenN ?_)
 refine wF (ev rfl rfl) ?_
 refine wskip (thenN (wseq (wreg (wl rfl (oassign (v := .int .u32 0) rfl rfl evc ?_)))))
 refine wnil (thenN (wseq (wseq (wreg (wl rfl (ofieldAddr (g := g2) (off := 0) 1 rfl rfl (ev rfl rfl) Tryd.runUnderlying63 rfl Tryd.sizeOf25 rfl ?_))))))
 refine wl rfl (oload1 (v := .slice pX M.length cX) (show One Tryd.prog 25 from ⟨Tryd.isAgg25, Tryd.sizeOf25⟩) hS 0 rfl rfl (ev rfl rfl) rfl rfl ?_)
 refine wl rfl (olen rfl rfl rfl Tryd.runUnderlying25 (p := pX) (k := M.length) (m := cX) (ev rfl rfl) ?_)
 refine wl rfl (omove (v := .int .i64 0) rfl rfl evc ?_)
 refine wnil (thenN (wblock ?_))
 refine wloop (σ := Nat) (fun i a9 w' => ∃ (fb : Nat → Value) (acc : Nat), a9 = act 38 (sets fb [(4, .int .u32 0), (5, .int .i64 0), (6, .pointer (some ⟨g2, 0, none⟩)), (8, .int .u32 (acc : Int)), (21, .int .i64 (M.length : Int)), (22, .int .i64 (i : Int))]) ∧ Sep w [.blk g2 [.int .u64 (p : Int), .slice pX M.length cX, .int .i64 (((colsM M : Nat) : Int))] 63, .lst 52 1 pX M.length cX (mmE QX)] w' ∧ (i ≤ M.length) ∧ (acc = trTo p M i) ∧ (acc < p)) (fun i => M.length - i) (0) ⟨_, 0, act_sets (l := [(4, .int .u32 0), (5, .int .i64 0), (6, .pointer (some ⟨g2, 0, none⟩)), (8, .int .u32 0), (21, .int .i64 (M.length : Int)), (22, .int .i64 0)]) ⟨rfl, rfl, rfl, rfl, rfl, rfl, trivial⟩, hS, Nat.zero_le _, rfl, hp0⟩ ?_
 clear hS; rintro i _ w5 ⟨fb, acc, rfl, hS, hi, hacc, hal⟩
 refine wseq (wreg ?_)
 by_cases hlt : i < M.length
 ·
  refine wl rfl (obin (u := .int .i64 (i : Int)) (v := .int .i64 (M.length : Int)) (z := .bool true) rfl rfl (ev rfl rfl) (ev rfl rfl) (bin_lss (decide_eq_true (by omega))) ?_)
  refine wnil (thenN (wseq ?_))
  refine wT (ev rfl rfl) ?_
  refine wskip (thenN (wseq (wblock (wseq (wreg (wl rfl (omove (v := .int .i64 (i : Int)) rfl rfl (ev rfl rfl) ?_)))))))
  refine wl rfl (oassign (v := .int .i64 (i : Int)) rfl rfl (ev rfl rfl) ?_)
  refine wnil (thenN ?_)
  have hXs : Shp p (colsM M) (nums QX) := by rw [hQX]; exact hshM
  have hXl : QX.length = M.length := by rw [nums_lenE hQX, modM_len]
  obtain ⟨gX, hgX⟩ := hS.lstPtr 1 rfl (by omega)
  obtain ⟨⟨pa, ca, xa⟩, hqa⟩ : ∃ q, (QX)[i]? = some q := ⟨_, List.getElem?_eq_getElem (by omega)⟩
  have hda : (nums (QX)).getD i [] = xa := getD_get (nums_get hqa)
  obtain ⟨hna, hlta⟩ := hXs.get (nums_get hqa)
  simp only at hna hlta
  obtain ⟨ga, hga⟩ := hS.mPtr 1 rfl hqa (by show 0 < xa.length; omega)
  have hla := nd_lt (k := i) hlta hp0
  have hm9 := mod_lt32 (a := acc + nd xa i) hp0 hp2
  have hxm : nd xa i = nd (M.getD i []) i % p := by rw [← hda, hQX, nd_modM]
  refine wstage 11 [25, 26, 27, 28, 29, 30, 31, 32, 33, 34, 35] [[], [], [], [2], [], [3, 4, 2], [5, 2, 3, 4], [], [6, 7, 2, 3, 4, 5], [8, 2, 3, 4, 5, 6, 7], [0, 1, 9, 2, 3, 4, 5, 6, 7, 8]] [[], [], [], [], [], [], [], [], [], [], []] [] [] (fun i9 => ([fun _ => Is (.agg #[.int .u64 (p : Int), .slice pX M.length cX, .int .i64 (((colsM M : Nat) : Int))]), fun _ => Is (.int .u32 (acc : Int)), fun _ => Is (.pointer (some ⟨g2, 1, none⟩)), fun _ => Is (.slice pX M.length cX), fun _ => Is (.int .i64 (i : Int)), fun _ => Is (.pointer (some ⟨gX, (0 + i * 1), none⟩)), fun _ => Is (.slice pa (colsM M) ca), fun _ => Is (.int .i64 (i : Int)), fun _ => Is (.pointer (some ⟨ga, i, none⟩)), fun _ => Is (.int .u32 (((nd xa i : Nat) : Int))), fun _ => Is (.int .u32 ((((acc + (nd xa i)) % p : Nat) : Int)))] : List (List Value → Tell)).getD i9 (fun _ _ _ => False)) (heldNil) (fun d _ _ _ _ h => (by cases d <;> exact h)) (by kernel_rfl) (by kernel_rfl) (by kernel_rfl) hS ?_ ?_
  ·
   refine stepsCons rfl (fun Q f' w' ρ S ho hT hS hB => ?_) ?_
   ·exact .inl ⟨want_none rfl, oload (vs := [.int .u64 (p : Int), .slice pX M.length cX, .int .i64 (((colsM M : Nat) : Int))]) (show Agg Tryd.prog 63 3 from ⟨Tryd.isAgg63, Tryd.sizeOf63⟩) hS 0 rfl rfl (ev rfl (ho 6 rfl)) rfl rfl rfl ⟨_, _, rfl, isI, New.same _⟩⟩
   refine stepsCons rfl (fun Q f' w' ρ S ho hT hS hB => ?_) ?_
   ·exact .inl ⟨want_none rfl, omove (v := .int .u32 (acc : Int)) rfl rfl (ev rfl (ho 8 rfl)) ⟨_, _, rfl, isI, New.same _⟩⟩
   refine stepsCons rfl (fun Q f' w' ρ S ho hT hS hB => ?_) ?_
   ·exact .inl ⟨want_none rfl, ofieldAddr (g := g2) (off := 0) 1 rfl rfl (ev rfl (ho 6 rfl)) Tryd.runUnderlying63 rfl Tryd.sizeOf25 rfl ⟨_, _, rfl, isI, New.same _⟩⟩
   refine stepsCons rfl (fun Q f' w' ρ S ho hT hS hB => ?_) ?_
   ·obtain ⟨hv2, hr2⟩ := (hT 2 27 rfl rfl : (Is (.pointer (some ⟨g2, 1, none⟩))) _ _)
    obtain hS := hS.flat1 hr2
    exact .inl ⟨want_none rfl, oload1 (v := .slice pX M.length cX) (show One Tryd.prog 25 from ⟨Tryd.isAgg25, Tryd.sizeOf25⟩) hS 0 rfl rfl (ev rfl hv2) rfl rfl ⟨_, _, rfl, isI, New.same _⟩⟩
   refine stepsCons rfl (fun Q f' w' ρ S ho hT hS hB => ?_) ?_
   ·exact .inl ⟨want_none rfl, omove (v := .int .i64 (i : Int)) rfl rfl (ev rfl (ho 9 rfl)) ⟨_, _, rfl, isI, New.same _⟩⟩
   refine stepsCons rfl (fun Q f' w' ρ S ho hT hS hB => ?_) ?_
   ·obtain ⟨hv3, hr3⟩ := (hT 3 28 rfl rfl : (Is (.slice pX M.length cX)) _ _)
    obtain ⟨hv4, hr4⟩ := (hT 4 29 rfl rfl : (Is (.int .i64 (((i : Nat) : Int)))) _ _)
    obtain hS := hS.flat2 hr3 hr4
    exact .inl ⟨want_none rfl, oindex (p := pX) (g := gX) (off := 0) (m := M.length) (k := i) (j := (0 + i * 1)) rfl rfl Tryd.runUnderlying25 Tryd.sizeOf52 (ev rfl hv3) (hgX) (ev rfl hv4) (by omega) rfl ⟨_, _, rfl, isI, New.same _⟩⟩
   refine stepsCons rfl (fun Q f' w' ρ S ho hT hS hB => ?_) ?_
   ·obtain ⟨hv5, hr5⟩ := (hT 5 30 rfl rfl : (Is (.pointer (some ⟨gX, (0 + i * 1), none⟩))) _ _)
    obtain hS := hS.flat1 hr5
    exact .inl ⟨want_none rfl, oloadc (v := .slice pa (colsM M) ca) (show One Tryd.prog 52 from ⟨Tryd.isAgg52, Tryd.sizeOf52⟩) rfl rfl (ev (v := .pointer (some ⟨gX, (0 + i * 1), none⟩)) rfl hv5) (hS.mRow 1 rfl hqa hna hgX) ⟨_, _, rfl, isI, New.same _⟩⟩
   refine stepsCons rfl (fun Q f' w' ρ S ho hT hS hB => ?_) ?_
   ·exact .inl ⟨want_none rfl, omove (v := .int .i64 (i : Int)) rfl rfl (ev rfl (ho 9 rfl)) ⟨_, _, rfl, isI, New.same _⟩⟩
   refine stepsCons rfl (fun Q f' w' ρ S ho hT hS hB => ?_) ?_
   ·obtain ⟨hv6, hr6⟩ := (hT 6 31 rfl rfl : (Is (.slice pa (colsM M) ca)) _ _)
    obtain ⟨hv7, hr7⟩ := (hT 7 32 rfl rfl : (Is (.int .i64 (((i : Nat) : Int)))) _ _)
    obtain hS := hS.flat2 hr6 hr7
    exact .inl ⟨want_none rfl, oindex (p := pa) (g := ga) (off := 0) (m := colsM M) (k := i) (j := i) rfl rfl Tryd.runUnderlying52 Tryd.sizeOf27 (ev rfl hv6) (hga) (ev rfl hv7) (by omega) (by simp) ⟨_, _, rfl, isI, New.same _⟩⟩
   refine stepsCons rfl (fun Q f' w' ρ S ho hT hS hB => ?_) ?_
   ·obtain ⟨hv8, hr8⟩ := (hT 8 33 rfl rfl : (Is (.pointer (some ⟨ga, i, none⟩))) _ _)
    obtain hS := hS.flat1 hr8
    exact .inl ⟨want_none rfl, oloadc (v := .int .u32 (((nd xa i : Nat) : Int))) one32 rfl rfl (ev (v := .pointer (some ⟨ga, i, none⟩)) rfl hv8) (hS.mCell 1 rfl hqa hga (by omega)) ⟨_, _, rfl, isI, New.same _⟩⟩
   refine stepsCons rfl (fun Q f' w' ρ S ho hT hS hB => ?_) ?_
   ·obtain ⟨hv0, hr0⟩ := (hT 0 25 rfl rfl : (Is (.agg #[.int .u64 (((p : Nat) : Int)), .slice pX M.length cX, .int .i64 (((colsM M : Nat) : Int))])) _ _)
    obtain ⟨hv1, hr1⟩ := (hT 1 26 rfl rfl : (Is (.int .u32 (((acc : Nat) : Int)))) _ _)
    obtain ⟨hv9, hr9⟩ := (hT 9 34 rfl rfl : (Is (.int .u32 (((nd xa i : Nat) : Int)))) _ _)
    obtain hS := hS.flat3 hr0 hr1 hr9
    exact .inl ⟨want_none rfl, ocall rfl rfl Tryd.call48 rfl (wxadd (a := acc) (b := (nd xa i)) hp0 hp2 (by omega) (by omega)) (args3 (ev rfl hv0) (ev rfl hv1) (ev rfl hv9)) callN⟩
   exact stepsNil
  ·
   intro vs ρ w6 f' hf hT hS
   obtain ⟨hv0, hr0⟩ := (hT 0 (by decide) : (Is (.agg #[.int .u64 (((p : Nat) : Int)), .slice pX M.length cX, .int .i64 (((colsM M : Nat) : Int))])) _ _)
   obtain ⟨hv1, hr1⟩ := (hT 1 (by decide) : (Is (.int .u32 (((acc : Nat) : Int)))) _ _)
   obtain ⟨hv2, hr2⟩ := (hT 2 (by decide) : (Is (.pointer (some ⟨g2, 1, none⟩))) _ _)
   obtain ⟨hv3, hr3⟩ := (hT 3 (by decide) : (Is (.slice pX M.length cX)) _ _)
   obtain ⟨hv4, hr4⟩ := (hT 4 (by decide) : (Is (.int .i64 (((i : Nat) : Int)))) _ _)
   obtain ⟨hv5, hr5⟩ := (hT 5 (by decide) : (Is (.pointer (some ⟨gX, (0 + i * 1), none⟩))) _ _)
   obtain ⟨hv6, hr6⟩ := (hT 6 (by decide) : (Is (.slice pa (colsM M) ca)) _ _)
   obtain ⟨hv7, hr7⟩ := (hT 7 (by decide) : (Is (.int .i64 (((i : Nat) : Int)))) _ _)
   obtain ⟨hv8, hr8⟩ := (hT 8 (by decide) : (Is (.pointer (some ⟨ga, i, none⟩))) _ _)
   obtain ⟨hv9, hr9⟩ := (hT 9 (by decide) : (Is (.int .u32 (((nd xa i : Nat) : Int)))) _ _)
   obtain ⟨hv10, hr10⟩ := (hT 10 (by decide) : (Is (.int .u32 ((((acc + (nd xa i)) % p : Nat) : Int)))) _ _)
   simp only [pool, if_true, hr0, hr1, hr2, hr3, hr4, hr5, hr6, hr7, hr8, hr9, hr10, List.nil_append, List.cons_append, List.append_nil] at hS
   simp only [layf, hv0, hv1, hv2, hv3, hv4, hv5, hv6, hv7, hv8, hv9, hv10] at hf
   subst hf; clear hT hv0 hv1 hv2 hv3 hv4 hv5 hv6 hv7 hv8 hv9 hv10 hr0 hr1 hr2 hr3 hr4 hr5 hr6 hr7 hr8 hr9 hr10
   refine wlate 11 rfl (by kernel_rfl) (oassign (v := .int .u32 ((((acc + (nd xa i)) % p : Nat) : Int))) rfl rfl (ev rfl rfl) ?_)
   refine ⟨heldNil, ?_⟩
   refine wdone rfl ?_
   refine blkN (thenN (wreg (wl rfl (obin (u := .int .i64 (i : Int)) (v := .int .i64 1) (z := .int .i64 (((i + 1 : Nat) : Int))) rfl rfl (ev rfl rfl) evc (bin_add (wrap_i64 (by omega) (by omega))) ?_))))
   refine wl rfl (omove (v := .int .i64 (((i + 1 : Nat) : Int))) rfl rfl (ev rfl rfl) ?_)
   refine wnil (thenN ?_)
   exact ⟨(i + 1), ⟨_, _, act_sets (l := [(4, .int .u32 0), (5, .int .i64 0), (6, .pointer (some ⟨g2, 0, none⟩)), (8, .int .u32 ((((acc + (nd xa i)) % p : Nat) : Int))), (21, .int .i64 (M.length : Int)), (22, .int .i64 (((i + 1 : Nat) : Int)))]) ⟨rfl, rfl, rfl, rfl, rfl, rfl, trivial⟩, hS.pick [0, 1] (by decide) rfl, by omega, by rw [trTo, ← hacc, hxm], Nat.mod_lt _ hp0⟩, by omega⟩
 ·
  refine wl rfl (obin (u := .int .i64 (i : Int)) (v := .int .i64 (M.length : Int)) (z := .bool false) rfl rfl (ev rfl rfl) (ev rfl rfl) (bin_lss (decide_eq_false (by omega))) ?_)
  refine wnil (thenN (wseq ?_))
  refine wF (ev rfl rfl) ?_
  refine wexit ?_
  refine thenE ?_
  refine thenE ?_
  refine blkE ?_
  refine thenN (wseq (wreg (wl rfl (omove (v := .int .u32 (acc : Int)) rfl rfl (ev rfl rfl) ?_))))
  refine wl rfl (oassign (v := .int .u32 (acc : Int)) rfl rfl (ev rfl rfl) ?_)
  refine wl rfl (oassign (v := .int .i64 0) rfl rfl evc ?_)
  refine wnil (thenN ?_)
  refine wleave ?_
  have hin : i = M.length := by omega
  refine wret2 Tryd.results26 (tellT (v := .int .u32 (acc : Int)) rfl rfl) (tellT (v := .int .i64 0) rfl rfl) ?_
  exact ⟨_, _, rfl, ⟨by rw [hacc, hin], rfl⟩, hS.new0⟩
theorem wxpow40 {pm : Option Addr} {nm cm p e0 : Nat} {M : List (List Nat)} {w : World} (ht : Tb w) (hm : MS w pm nm M) (hp2 : p < 4294967296) (hs : SmallM M) (hp : ¬ MR.Pr p) :
  Calls Tryd.prog 25 #[.slice pm nm cm, .int .u64 ((e0 : Nat) : Int), .int .u32 ((p : Nat) : Int)] w (Ret (Is (.tuple #[.slice none 0 0, .int .i64 40])) w) := by
 have hS := Sep.init w
 refine went Tryd.func25 rfl (n := 40) rfl rfl ?_
 refine wseq (wreg (wl rfl (oassign (v := .slice none 0 0) rfl rfl evc ?_)))
 refine wl rfl (oassign (v := .int .i64 0) rfl rfl evc ?_)
 refine wnil (thenN (wseq (wreg (wl rfl (omove (v := .int .u32 (p : Int)) rfl rfl (ev rfl rfl) ?_)))))
 refine wl rfl (omove (v := .slice pm nm cm) rfl rfl (ev rfl rfl) ?_)
 refine wl rfl (ocall rfl rfl Tryd.call38 rfl (wxsquare40 (ht.at hS) (hm.at hS) hp2 hs hp) (args2 (ev rfl rfl) (ev rfl rfl)) ?_)
 rintro _ w1 ⟨_, _, rfl, ⟨rfl, rfl⟩, hN⟩
 refine ⟨_, rfl, ?_⟩
 replace hS := hS.news hN; clear hN
 refine wl rfl (omove (v := .tuple #[.agg #[.int .u64 0, .slice none 0 0, .int .i64 0], .int .i64 40]) rfl rfl (ev rfl rfl) ?_)
 refine wl rfl (oextract (vs := [.agg #[.int .u64 0, .slice none 0 0, .int .i64 0], .int .i64 40]) (v := .agg #[.int .u64 0, .slice none 0 0, .int .i64 0]) rfl rfl (ev rfl rfl) rfl ?_)
 refine wl rfl (oextract (vs := [.agg #[.int .u64 0, .slice none 0 0, .int .i64 0], .int .i64 40]) (v := .int .i64 40) rfl rfl (ev rfl rfl) rfl ?_)
 refine wl rfl (oalloc [.int .u64 0, .slice none 0 0, .int .i64 0] hS rfl rfl Tryd.zeroValue63 rfl ?_)
 clear hS; intro g2 w3 hS
 refine wl rfl (ostore [.int .u64 0, .slice none 0 0, .int .i64 0] [.int .u64 0, .slice none 0 0, .int .i64 0] Tryd.sizeOf63 hS 0 rfl rfl (ev rfl rfl) (ev (v := .agg #[.int .u64 0, .slice none 0 0, .int .i64 0]) rfl rfl) rfl rfl rfl rfl rfl rfl ?_)
 clear hS; intro w4 hS
 refine wl rfl (oassign (v := .int .i64 40) rfl rfl (ev rfl rfl) ?_)
 refine wnil (thenN (wseq (wseq (wreg (wl rfl (omove (v := .int .i64 40) rfl rfl (ev rfl rfl) ?_))))))
 refine wl rfl (obin (u := .int .i64 40) (v := .int .i64 0) (z := .bool true) rfl rfl (ev rfl rfl) evc (bin_neq (by decide)) ?_)
 refine wnil (thenN ?_)
 refine wT (ev rfl rfl) ?_
 refine wseq (wreg (wl rfl (omove (v := .int .i64 40) rfl rfl (ev rfl rfl) ?_)))
 refine wl rfl (oassign (v := .slice none 0 0) rfl rfl evc ?_)
 refine wl rfl (oassign (v := .int .i64 40) rfl rfl (ev rfl rfl) ?_)
 refine wnil (thenN ?_)
 refine wleave ?_
 refine thenR ?_
 refine wret2 Tryd.results25 (tellT (v := .slice none 0 0) rfl rfl) (tellT (v := .int .i64 40) rfl rfl) ?_
 exact ⟨_, _, rfl, isI, hS.new0⟩
theorem wxpow2 {pm : Option Addr} {nm cm p e0 : Nat} {M : List (List Nat)} {w : World} (ht : Tb w) (hm : MS w pm nm M) (hp2 : p < 4294967296) (hs : SmallM M) (hp : MR.Pr p) (hr : ¬ RectM M) :
  Calls Tryd.prog 25 #[.slice pm nm cm, .int .u64 ((e0 : Nat) : Int), .int .u32 ((p : Nat) : Int)] w (Ret (Is (.tuple #[.slice none 0 0, .int .i64 2])) w) := by
 have hS := Sep.init w
 refine went Tryd.func25 rfl (n := 40) rfl rfl ?_
 refine wseq (wreg (wl rfl (oassign (v := .slice none 0 0) rfl rfl evc ?_)))
 refine wl rfl (oassign (v := .int .i64 0) rfl rfl evc ?_)
 refine wnil (thenN (wseq (wreg (wl rfl (omove (v := .int .u32 (p : Int)) rfl rfl (ev rfl rfl) ?_)))))
 refine wl rfl (omove (v := .slice pm nm cm) rfl rfl (ev rfl rfl) ?_)
 refine wl rfl (ocall rfl rfl Tryd.call38 rfl (wxsquare2 (ht.at hS) (hm.at hS) hp2 hs hp hr) (args2 (ev rfl rfl) (ev rfl rfl)) ?_)
 rintro _ w1 ⟨_, _, rfl, ⟨rfl, rfl⟩, hN⟩
 refine ⟨_, rfl, ?_⟩
 replace hS := hS.news hN; clear hN
 refine wl rfl (omove (v := .tuple #[.agg #[.int .u64 0, .slice none 0 0, .int .i64 0], .int .i64 2]) rfl rfl (ev rfl rfl) ?_)
 refine wl rfl (oextract (vs := [.agg #[.int .u64 0, .slice none 0 0, .int .i64 0], .int .i64 2]) (v := .agg #[.int .u64 0, .slice none 0 0, .int .i64 0]) rfl rfl (ev rfl rfl) rfl ?_)
 refine wl rfl (oextract (vs := [.agg #[.int .u64 0, .slice none 0 0, .int .i64 0], .int .i64 2]) (v := .int .i64 2) rfl rfl (ev rfl rfl) rfl ?_)
 refine wl rfl (oalloc [.int .u64 0, .slice none 0 0, .int .i64 0] hS rfl rfl Tryd.zeroValue63 rfl ?_)
 clear hS; intro g2 w3 hS
 refine wl rfl (ostore [.int .u64 0, .slice none 0 0, .int .i64 0] [.int .u64 0, .slice none 0 0, .int .i64 0] Tryd.sizeOf63 hS 0 rfl rfl (ev rfl rfl) (ev (v := .agg #[.int .u64 0, .slice none 0 0, .int .i64 0]) rfl rfl) rfl rfl rfl rfl rfl rfl ?_)
 clear hS; intro w4 hS
 refine wl rfl (oassign (v := .int .i64 2) rfl rfl (ev rfl rfl) ?_)
 refine wnil (thenN (wseq (wseq (wreg (wl rfl (omove (v := .int .i64 2) rfl rfl (ev rfl rfl) ?_))))))
 refine wl rfl (obin (u := .int .i64 2) (v := .int .i64 0) (z := .bool true) rfl rfl (ev rfl rfl) evc (bin_neq (by decide)) ?_)
 refine wnil (thenN ?_)
 refine wT (ev rfl rfl) ?_
 refine wseq (wreg (wl rfl (omove (v := .int .i64 2) rfl rfl (ev rfl rfl) ?_)))
 refine wl rfl (oassign (v := .slice none 0 0) rfl rfl evc ?_)
 refine wl rfl (oassign (v := .int .i64 2) rfl rfl (ev rfl rfl) ?_)
 refine wnil (thenN ?_)
 refine wleave ?_
 refine thenR ?_
 refine wret2 Tryd.results25 (tellT (v := .slice none 0 0) rfl rfl) (tellT (v := .int .i64 2) rfl rfl) ?_
 exact ⟨_, _, rfl, isI, hS.new0⟩
theorem wxpow3 {pm : Option Addr} {nm cm p e0 : Nat} {M : List (List Nat)} {w : World} (ht : Tb w) (hm : MS w pm nm M) (hp2 : p < 4294967296) (hs : SmallM M) (hp : MR.Pr p) (hr : RectM M) (hq : ¬ (M.length ≠ 0 ∧ M.length = colsM M)) :
  Calls Tryd.prog 25 #[.slice pm nm cm, .int .u64 ((e0 : Nat) : Int), .int .u32 ((p : Nat) : Int)] w (Ret (Is (.tuple #[.slice none 0 0, .int .i64 3])) w) := by
 have hS := Sep.init w
 refine went Tryd.func25 rfl (n := 40) rfl rfl ?_
 refine wseq (wreg (wl rfl (oassign (v := .slice none 0 0) rfl rfl evc ?_)))
 refine wl rfl (oassign (v := .int .i64 0) rfl rfl evc ?_)
 refine wnil (thenN (wseq (wreg (wl rfl (omove (v := .int .u32 (p : Int)) rfl rfl (ev rfl rfl) ?_)))))
 refine wl rfl (omove (v := .slice pm nm cm) rfl rfl (ev rfl rfl) ?_)
 refine wl rfl (ocall rfl rfl Tryd.call38 rfl (wxsquare3 (ht.at hS) (hm.at hS) hp2 hs hp hr hq) (args2 (ev rfl rfl) (ev rfl rfl)) ?_)
 rintro _ w1 ⟨_, _, rfl, ⟨rfl, rfl⟩, hN⟩
 refine ⟨_, rfl, ?_⟩
 replace hS := hS.news hN; clear hN
 refine wl rfl (omove (v := .tuple #[.agg #[.int .u64 0, .slice none 0 0, .int .i64 0], .int .i64 3]) rfl rfl (ev rfl rfl) ?_)
 refine wl rfl (oextract (vs := [.agg #[.int .u64 0, .slice none 0 0, .int .i64 0], .int .i64 3]) (v := .agg #[.int .u64 0, .slice none 0 0, .int .i64 0]) rfl rfl (ev rfl rfl) rfl ?_)
 refine wl rfl (oextract (vs := [.agg #[.int .u64 0, .slice none 0 0, .int .i64 0], .int .i64 3]) (v := .int .i64 3) rfl rfl (ev rfl rfl) rfl ?_)
 refine wl rfl (oalloc [.int .u64 0, .slice none 0 0, .int .i64 0] hS rfl rfl Tryd.zeroValue63 rfl ?_)
 clear hS; intro g2 w3 hS
 refine wl rfl (ostore [.int .u64 0, .slice none 0 0, .int .i64 0] [.int .u64 0, .slice none 0 0, .int .i64 0] Tryd.sizeOf63 hS 0 rfl rfl (ev rfl rfl) (ev (v := .agg #[.int .u64 0, .slice none 0 0, .int .i64 0]) rfl rfl) rfl rfl rfl rfl rfl rfl ?_)
 clear hS; intro w4 hS
 refine wl rfl (oassign (v := .int .i64 3) rfl rfl (ev rfl rfl) ?_)
 refine wnil (thenN (wseq (wseq (wreg (wl rfl (omove (v := .int .i64 3) rfl rfl (ev rfl rfl) ?_))))))
 refine wl rfl (obin (u := .int .i64 3) (v := .int .i64 0) (z := .bool true) rfl rfl (ev rfl rfl) evc (bin_neq (by decide)) ?_)
 refine wnil (thenN ?_)
 refine wT (ev rfl rfl) ?_
 refine wseq (wreg (wl rfl (omove (v := .int .i64 3) rfl rfl (ev rfl rfl) ?_)))
 refine wl rfl (oassign (v := .slice none 0 0) rfl rfl evc ?_)
 refine wl rfl (oassign (v := .int .i64 3) rfl rfl (ev rfl rfl) ?_)
 refine wnil (thenN ?_)
 refine wleave ?_
 refine thenR ?_
 refine wret2 Tryd.results25 (tellT (v := .slice none 0 0) rfl rfl) (tellT (v := .int .i64 3) rfl rfl) ?_
 exact ⟨_, _, rfl, isI, hS.new0⟩
theorem wxpow {pm : Option Addr} {nm cm p e0 : Nat} {M : List (List Nat)} {w : World} (ht : Tb w) (hm : MS w pm nm M) (hp2 : p < 4294967296) (hs : SmallM M) (hp : MR.Pr p) (hr : RectM M) (h0 : M.length ≠ 0) (hq : M.length = colsM M) (he0 : e0 < 18446744073709551616) :
  Calls Tryd.prog 25 #[.slice pm nm cm, .int .u64 ((e0 : Nat) : Int), .int .u32 ((p : Nat) : Int)] w (Ret (MmE (powG p (colsM M) (idM (colsM M)) (modM p M) e0) 0) w) := by
 have hcb := hs.cols
 have hnb := hs.1
 have hp1 := hp.1
 have hp0 : 0 < p := by omega
 have hshM := hr.shp hp0
 have hM9 : Sq p (colsM M) (modM p M) := ⟨hshM, by rw [modM_len]; exact hq⟩
 obtain ⟨W, hW0⟩ : ∃ W, powG p (colsM M) (idM (colsM M)) (modM p M) e0 = W := ⟨_, rfl⟩
 have hWl : W.length = colsM M := by rw [← hW0]; exact (powG_len hp0 _ (Sq.one (by omega)) hM9).2
 have hS := Sep.init w
 refine went Tryd.func25 rfl (n := 40) rfl rfl ?_
 refine wseq (wreg (wl rfl (oassign (v := .slice none 0 0) rfl rfl evc ?_)))
 refine wl rfl (oassign (v := .int .i64 0) rfl rfl evc ?_)
 refine wnil (thenN (wseq (wreg (wl rfl (omove (v := .int .u32 (p : Int)) rfl rfl (ev rfl rfl) ?_)))))
 refine wl rfl (omove (v := .slice pm nm cm) rfl rfl (ev rfl rfl) ?_)
 refine wl rfl (ocall rfl rfl Tryd.call38 rfl (wxsquare (ht.at hS) (hm.at hS) hp2 hs hp hr h0 hq) (args2 (ev rfl rfl) (ev rfl rfl)) ?_)
 rintro _ w1 ⟨_, _, rfl, ⟨pX, cX, QX, hQX, rfl, rfl⟩, hN⟩
 refine ⟨_, rfl, ?_⟩
 replace hS := hS.news hN; clear hN
 refine wl rfl (omove (v := .tuple #[.agg #[.int .u64 (p : Int), .slice pX M.length cX, .int .i64 (((colsM M : Nat) : Int))], .int .i64 0]) rfl rfl (ev rfl rfl) ?_)
 refine wl rfl (oextract (vs := [.agg #[.int .u64 (p : Int), .slice pX M.length cX, .int .i64 (((colsM M : Nat) : Int))], .int .i64 0]) (v := .agg #[.int .u64 (p : Int), .slice pX M.length cX, .int .i64 (((colsM M : Nat) : Int))]) rfl rfl (ev rfl rfl) rfl ?_)
 refine wl rfl (oextract (vs := [.agg #[.int .u64 (p : Int), .slice pX M.length cX, .int .i64 (((colsM M : Nat) : Int))], .int .i64 0]) (v := .int .i64 0) rfl rfl (ev rfl rfl) rfl ?_)
 refine wl rfl (oalloc [.int .u64 0, .slice none 0 0, .int .i64 0] hS rfl rfl Tryd.zeroValue63 rfl ?_)
 clear hS; intro g2 w3 hS
 refine wl rfl (ostore [.int .u64 (p : Int), .slice pX M.length cX, .int .i64 (((colsM M : Nat) : Int))] [.int .u64 (p : Int), .slice pX M.length cX, .int .i64 (((colsM M : Nat) : Int))] Tryd.sizeOf63 hS 0 rfl rfl (ev rfl rfl) (ev (v := .agg #[.int .u64 (p : Int), .slice pX M.length cX, .int .i64 (((colsM M : Nat) : Int))]) rfl rfl) rfl rfl rfl rfl rfl rfl ?_)
 clear hS; intro w4 hS
 refine wl rfl (oassign (v := .int .i64 0) rfl rfl (ev rfl rfl) ?_)
 refine wnil (thenN (wseq (wseq (wreg (wl rfl (omove (v := .int .i64 0) rfl rfl (ev rfl rfl) ?_))))))
 refine wl rfl (obin (u := .int .i64 0) (v := .int .i64 0) (z := .bool false) rfl rfl (ev rfl rfl) evc (bin_neq (by decide)) ?_)
 refine wnil (thenN ?_)
 refine wF (ev rfl rfl) ?_
 refine wskip (thenN (wseq (wreg (wl rfl (ofieldAddr (g := g2) (off := 0) 0 rfl rfl (ev rfl rfl) Tryd.runUnderlying63 rfl Tryd.sizeOf47 rfl ?_)))))
 refine wl rfl (oload1 (v := .int .u64 (p : Int)) (show One Tryd.prog 47 from ⟨Tryd.isAgg47, Tryd.sizeOf47⟩) hS 0 rfl rfl (ev rfl rfl) rfl rfl ?_)
 refine wl rfl (ofieldAddr (g := g2) (off := 0) 2 rfl rfl (ev rfl rfl) Tryd.runUnderlying63 rfl Tryd.sizeOf3 rfl ?_)
 refine wl rfl (oload1 (v := .int .i64 (((colsM M : Nat) : Int))) oneI hS 0 rfl rfl (ev rfl rfl) rfl rfl ?_)
 refine wl rfl (ocall rfl rfl Tryd.call39 rfl (wxone (by omega)) (args2 (ev rfl rfl) (ev rfl rfl)) ?_)
 rintro _ w5 ⟨_, _, rfl, ⟨pO, cO, QO, hQO, rfl, rfl⟩, hN⟩
 refine ⟨_, rfl, ?_⟩
 replace hS := hS.news hN; clear hN
 refine wl rfl (oalloc [.int .u64 0, .slice none 0 0, .int .i64 0] hS rfl rfl Tryd.zeroValue63 rfl ?_)
 clear hS; intro g6 w7 hS
 refine wl rfl (ostore [.int .u64 (p : Int), .slice pO (colsM M) cO, .int .i64 (((colsM M : Nat) : Int))] [.int .u64 (p : Int), .slice pO (colsM M) cO, .int .i64 (((colsM M : Nat) : Int))] Tryd.sizeOf63 hS 0 rfl rfl (ev rfl rfl) (ev (v := .agg #[.int .u64 (p : Int), .slice pO (colsM M) cO, .int .i64 (((colsM M : Nat) : Int))]) rfl rfl) rfl rfl rfl rfl rfl rfl ?_)
 clear hS; intro w8 hS
 refine wnil (thenN (wseq (wblock ?_)))
 refine wloop (σ := Nat) (fun e a9 w' => ∃ (fb : Nat → Value) (QO1 : List Rw) (QX1 : List Rw) (pO1 : Option Addr) (cO1 : Nat) (pX1 : Option Addr) (cX1 : Nat), a9 = act 40 (sets fb [(1, .int .u64 (e : Int)), (6, .slice none 0 0), (7, .int .i64 0), (8, .pointer (some ⟨g2, 0, none⟩)), (10, .pointer (some ⟨g6, 0, none⟩))]) ∧ Sep w [.blk g6 [.int .u64 (p : Int), .slice pO1 (colsM M) cO1, .int .i64 (((colsM M : Nat) : Int))] 63, .lst 52 1 pO1 (colsM M) cO1 (mmE QO1), .blk g2 [.int .u64 (p : Int), .slice pX1 M.length cX1, .int .i64 (((colsM M : Nat) : Int))] 63, .lst 52 1 pX1 M.length cX1 (mmE QX1)] w' ∧ (e < 18446744073709551616) ∧ (Sq p (colsM M) (nums QO1)) ∧ (Sq p (colsM M) (nums QX1)) ∧ (powG p (colsM M) (nums QO1) (nums QX1) e = W)) (fun e => e) (e0) ⟨_, QO, QX, pO, cO, pX, cX, act_sets (l := [(1, .int .u64 (e0 : Int)), (6, .slice none 0 0), (7, .int .i64 0), (8, .pointer (some ⟨g2, 0, none⟩)), (10, .pointer (some ⟨g6, 0, none⟩))]) ⟨rfl, rfl, rfl, rfl, rfl, trivial⟩, hS, he0, by rw [hQO]; exact Sq.one (by omega), by rw [hQX]; exact hM9, by rw [hQO, hQX]; exact hW0⟩ ?_
 clear hS; rintro e _ w9 ⟨fb, QO1, QX1, pO1, cO1, pX1, cX1, rfl, hS, heb, hO1, hX1, hW⟩
 refine wseq (wseq (wreg (wl rfl (omove (v := .int .u64 (e : Int)) rfl rfl (ev rfl rfl) ?_))))
 by_cases he : e = 0
 ·
  refine wl rfl (obin (u := .int .u64 (e : Int)) (v := .int .u64 0) (z := .bool false) rfl rfl (ev rfl rfl) evc (bin_gtr (decide_eq_false (by omega))) ?_)
  refine wnil (thenN ?_)
  refine wF (ev rfl rfl) ?_
  refine wexit ?_
  refine thenE ?_
  refine thenE ?_
  refine blkE ?_
  refine thenN (wseq (wreg (wl rfl (ofieldAddr (g := g6) (off := 0) 1 rfl rfl (ev rfl rfl) Tryd.runUnderlying63 rfl Tryd.sizeOf25 rfl ?_))))
  refine wl rfl (oload1 (v := .slice pO1 (colsM M) cO1) (show One Tryd.prog 25 from ⟨Tryd.isAgg25, Tryd.sizeOf25⟩) hS 0 rfl rfl (ev rfl rfl) rfl rfl ?_)
  refine wl rfl (oassign (v := .slice pO1 (colsM M) cO1) rfl rfl (ev rfl rfl) ?_)
  refine wl rfl (oassign (v := .int .i64 0) rfl rfl evc ?_)
  refine wnil (thenN ?_)
  refine wleave ?_
  refine wret2 Tryd.results25 (tellT (v := .slice pO1 (colsM M) cO1) rfl rfl) (tellT (v := .int .i64 0) rfl rfl) ?_
  subst he
  rw [powG_0] at hW
  exact ⟨_, _, rfl, ⟨pO1, cO1, QO1, hW.trans hW0.symm, by rw [hW0, hWl], by rw [hW0, hWl]⟩, hS.newR 1 rfl rfl⟩
 ·
  refine wl rfl (obin (u := .int .u64 (e : Int)) (v := .int .u64 0) (z := .bool true) rfl rfl (ev rfl rfl) evc (bin_gtr (decide_eq_true (by omega))) ?_)
  refine wnil (thenN ?_)
  refine wT (ev rfl rfl) ?_
  refine wskip (thenN (wseq (wblock (wseq (wseq (wreg (wl rfl (omove (v := .int .u64 (e : Int)) rfl rfl (ev rfl rfl) ?_))))))))
  refine wl rfl (obin (u := .int .u64 (e : Int)) (v := .int .u64 1) (z := .int .u64 (((e % 2 : Nat) : Int))) rfl rfl (ev rfl rfl) evc (bin_andE (b := 1) heb (by omega) (Nat.and_one_is_mod _)) ?_)
  by_cases ho : e % 2 = 1
  ·
   refine wl rfl (obin (u := .int .u64 (((e % 2 : Nat) : Int))) (v := .int .u64 1) (z := .bool true) rfl rfl (ev rfl rfl) evc (bin_eql (eqT (by omega))) ?_)
   refine wnil (thenN ?_)
   refine wT (ev rfl rfl) ?_
   refine wreg (wl rfl (oload (vs := [.int .u64 (p : Int), .slice pO1 (colsM M) cO1, .int .i64 (((colsM M : Nat) : Int))]) (show Agg Tryd.prog 63 3 from ⟨Tryd.isAgg63, Tryd.sizeOf63⟩) hS 0 rfl rfl (ev rfl rfl) rfl rfl rfl ?_))
   refine wl rfl (oload (vs := [.int .u64 (p : Int), .slice pX1 M.length cX1, .int .i64 (((colsM M : Nat) : Int))]) (show Agg Tryd.prog 63 3 from ⟨Tryd.isAgg63, Tryd.sizeOf63⟩) hS 2 rfl rfl (ev rfl rfl) rfl rfl rfl ?_)
   refine wl rfl (ocall rfl rfl Tryd.call47 rfl (wxtimes (hS.ms 1 rfl (by simp only [maxLen]; omega)) (hS.ms 3 rfl (by simp only [maxLen]; omega)) hO1.1 hX1.1 (by omega) (by omega) (by omega) hp0 hp2 (by omega)) (args2 (ev rfl rfl) (ev rfl rfl)) ?_)
   rintro _ w10 ⟨_, _, rfl, ⟨pO2, cO2, QO2, hQO2, rfl, rfl⟩, hN⟩
   refine ⟨_, rfl, ?_⟩
   replace hS := hS.news hN; clear hN
   refine wl rfl (ostore [.int .u64 (p : Int), .slice pO2 (colsM M) cO2, .int .i64 (((colsM M : Nat) : Int))] [.int .u64 (p : Int), .slice pO2 (colsM M) cO2, .int .i64 (((colsM M : Nat) : Int))] Tryd.sizeOf63 hS 1 rfl rfl (ev rfl rfl) (ev (v := .agg #[.int .u64 (p : Int), .slice pO2 (colsM M) cO2, .int .i64 (((colsM M : Nat) : Int))]) rfl rfl) rfl rfl rfl rfl rfl rfl ?_)
   clear hS; intro w11 hS
   refine wnil (thenN (wreg (wl rfl (oload (vs := [.int .u64 (p : Int), .slice pX1 M.length cX1, .int .i64 (((colsM M : Nat) : Int))]) (show Agg Tryd.prog 63 3 from ⟨Tryd.isAgg63, Tryd.sizeOf63⟩) hS 3 rfl rfl (ev rfl rfl) rfl rfl rfl ?_))))
   refine wl rfl (oload (vs := [.int .u64 (p : Int), .slice pX1 M.length cX1, .int .i64 (((colsM M : Nat) : Int))]) (show Agg Tryd.prog 63 3 from ⟨Tryd.isAgg63, Tryd.sizeOf63⟩) hS 3 rfl rfl (ev rfl rfl) rfl rfl rfl ?_)
   obtain hS := (show Sep w [.lst 52 1 pO2 (colsM M) cO2 (mmE QO2), .blk g6 [.int .u64 (((p : Nat) : Int)), .slice pO2 (colsM M) cO2, .int .i64 (((colsM M : Nat) : Int))] 63, .blk g2 [.int .u64 (((p : Nat) : Int)), .slice pX1 M.length cX1, .int .i64 (((colsM M : Nat) : Int))] 63, .lst 52 1 pX1 M.length cX1 (mmE QX1)] w11 from hS.pick [0, 1, 3, 4] (by decide) rfl)
   refine wl rfl (ocall rfl rfl Tryd.call47 rfl (wxtimes (hS.ms 3 rfl (by simp only [maxLen]; omega)) (hS.ms 3 rfl (by simp only [maxLen]; omega)) hX1.1 hX1.1 (by omega) (by omega) (by omega) hp0 hp2 (by omega)) (args2 (ev rfl rfl) (ev rfl rfl)) ?_)
   rintro _ w12 ⟨_, _, rfl, ⟨pX2, cX2, QX2, hQX2, rfl, rfl⟩, hN⟩
   refine ⟨_, rfl, ?_⟩
   replace hS := hS.news hN; clear hN
   refine wl rfl (ostore [.int .u64 (p : Int), .slice pX2 M.length cX2, .int .i64 (((colsM M : Nat) : Int))] [.int .u64 (p : Int), .slice pX2 M.length cX2, .int .i64 (((colsM M : Nat) : Int))] Tryd.sizeOf63 hS 3 rfl rfl (ev rfl rfl) (ev (v := .agg #[.int .u64 (p : Int), .slice pX2 M.length cX2, .int .i64 (((colsM M : Nat) : Int))]) rfl rfl) rfl rfl rfl rfl rfl rfl ?_)
   clear hS; intro w13 hS
   refine wnil (blkN (thenN (wreg (wl rfl (omove (v := .int .u64 (e : Int)) rfl rfl (ev rfl rfl) ?_)))))
   obtain hS := (show Sep w [.lst 52 1 pX2 M.length cX2 (mmE QX2), .lst 52 1 pO2 (colsM M) cO2 (mmE QO2), .blk g6 [.int .u64 (((p : Nat) : Int)), .slice pO2 (colsM M) cO2, .int .i64 (((colsM M : Nat) : Int))] 63, .blk g2 [.int .u64 (((p : Nat) : Int)), .slice pX2 M.length cX2, .int .i64 (((colsM M : Nat) : Int))] 63] w13 from hS.pick [0, 1, 2, 3] (by decide) rfl)
   refine wl rfl (obin (u := .int .u64 (e : Int)) (v := .int .u64 1) (z := .int .u64 (((e / 2 : Nat) : Int))) rfl rfl (ev rfl rfl) evc (bin_shr (by omega) (by have h9 := shr_u64w e 1 (by omega); rw [Nat.pow_one] at h9; exact h9)) ?_)
   refine wl rfl (oassign (v := .int .u64 (((e / 2 : Nat) : Int))) rfl rfl (ev rfl rfl) ?_)
   refine wnil (thenN ?_)
   exact ⟨(e / 2), ⟨_, _, _, _, _, _, _, act_sets (l := [(1, .int .u64 (((e / 2 : Nat) : Int))), (6, .slice none 0 0), (7, .int .i64 0), (8, .pointer (some ⟨g2, 0, none⟩)), (10, .pointer (some ⟨g6, 0, none⟩))]) ⟨rfl, rfl, rfl, rfl, rfl, trivial⟩, hS.pick [2, 1, 3, 0] (by decide) rfl, by omega, by rw [(mkM_mul hO1.2 hQO2)]; exact hO1.mul hp0, by rw [(mkM_mul (hX1.2.trans hq.symm) hQX2)]; exact hX1.mul hp0, by rw [(mkM_mul hO1.2 hQO2), (mkM_mul (hX1.2.trans hq.symm) hQX2), ← powG_odd ho]; exact hW⟩, by omega⟩
  ·
   refine wl rfl (obin (u := .int .u64 (((e % 2 : Nat) : Int))) (v := .int .u64 1) (z := .bool false) rfl rfl (ev rfl rfl) evc (bin_eql (eqF (by omega))) ?_)
   refine wnil (thenN ?_)
   refine wF (ev rfl rfl) ?_
   refine wskip (thenN (wreg (wl rfl (oload (vs := [.int .u64 (p : Int), .slice pX1 M.length cX1, .int .i64 (((colsM M : Nat) : Int))]) (show Agg Tryd.prog 63 3 from ⟨Tryd.isAgg63, Tryd.sizeOf63⟩) hS 2 rfl rfl (ev rfl rfl) rfl rfl rfl ?_))))
   refine wl rfl (oload (vs := [.int .u64 (p : Int), .slice pX1 M.length cX1, .int .i64 (((colsM M : Nat) : Int))]) (show Agg Tryd.prog 63 3 from ⟨Tryd.isAgg63, Tryd.sizeOf63⟩) hS 2 rfl rfl (ev rfl rfl) rfl rfl rfl ?_)
   refine wl rfl (ocall rfl rfl Tryd.call47 rfl (wxtimes (hS.ms 3 rfl (by simp only [maxLen]; omega)) (hS.ms 3 rfl (by simp only [maxLen]; omega)) hX1.1 hX1.1 (by omega) (by omega) (by omega) hp0 hp2 (by omega)) (args2 (ev rfl rfl) (ev rfl rfl)) ?_)
   rintro _ w10 ⟨_, _, rfl, ⟨pX2, cX2, QX2, hQX2, rfl, rfl⟩, hN⟩
   refine ⟨_, rfl, ?_⟩
   replace hS := hS.news hN; clear hN
   refine wl rfl (ostore [.int .u64 (p : Int), .slice pX2 M.length cX2, .int .i64 (((colsM M : Nat) : Int))] [.int .u64 (p : Int), .slice pX2 M.length cX2, .int .i64 (((colsM M : Nat) : Int))] Tryd.sizeOf63 hS 3 rfl rfl (ev rfl rfl) (ev (v := .agg #[.int .u64 (p : Int), .slice pX2 M.length cX2, .int .i64 (((colsM M : Nat) : Int))]) rfl rfl) rfl rfl rfl rfl rfl rfl ?_)
   clear hS; intro w11 hS
   refine wnil (blkN (thenN (wreg (wl rfl (omove (v := .int .u64 (e : Int)) rfl rfl (ev rfl rfl) ?_)))))
   obtain hS := (show Sep w [.lst 52 1 pX2 M.length cX2 (mmE QX2), .blk g6 [.int .u64 (((p : Nat) : Int)), .slice pO1 (colsM M) cO1, .int .i64 (((colsM M : Nat) : Int))] 63, .lst 52 1 pO1 (colsM M) cO1 (mmE QO1), .blk g2 [.int .u64 (((p : Nat) : Int)), .slice pX2 M.length cX2, .int .i64 (((colsM M : Nat) : Int))] 63] w11 from hS.pick [0, 1, 2, 3] (by decide) rfl)
   refine wl rfl (obin (u := .int .u64 (e : Int)) (v := .int .u64 1) (z := .int .u64 (((e / 2 : Nat) : Int))) rfl rfl (ev rfl rfl) evc (bin_shr (by omega) (by have h9 := shr_u64w e 1 (by omega); rw [Nat.pow_one] at h9; exact h9)) ?_)
   refine wl rfl (oassign (v := .int .u64 (((e / 2 : Nat) : Int))) rfl rfl (ev rfl rfl) ?_)
   refine wnil (thenN ?_)
   exact ⟨(e / 2), ⟨_, _, _, _, _, _, _, act_sets (l := [(1, .int .u64 (((e / 2 : Nat) : Int))), (6, .slice none 0 0), (7, .int .i64 0), (8, .pointer (some ⟨g2, 0, none⟩)), (10, .pointer (some ⟨g6, 0, none⟩))]) ⟨rfl, rfl, rfl, rfl, rfl, trivial⟩, hS.pick [1, 2, 3, 0] (by decide) rfl, by omega, hO1, by rw [(mkM_mul (hX1.2.trans hq.symm) hQX2)]; exact hX1.mul hp0, by rw [(mkM_mul (hX1.2.trans hq.symm) hQX2), ← powG_even he ho]; exact hW⟩, by omega⟩
end Go.Proofs.YtndilfigdbenoaaDoor
/-
  The document's Det.
-/
namespace Go.Proofs.YtndilfigdbenoaaDoor
open Go.RowKit
def elD (p c inv : Nat) (M : List (List Nat)) : Nat → List (List Nat)
  | 0 => M
  | i + 1 => if i ≤ c then elD p c inv M i else (elD p c inv M i).set i (lessR p (nd ((elD p c inv M i).getD i []) c * inv % p) ((elD p c inv M i).getD i []) ((elD p c inv M i).getD c []))
section
variable {p c inv C : Nat} {M : List (List Nat)}
theorem elD_len : ∀ i, (elD p c inv M i).length = M.length
  | 0 => rfl
  | i + 1 => by rw [elD]; split <;> simp [elD_len i]
theorem elD_start : ∀ i, i ≤ c + 1 → elD p c inv M i = M
  | 0, _ => rfl
  | i + 1, h => by rw [elD, if_pos (by omega)]; exact elD_start i (by omega)
theorem elD_next {i : Nat} (h : ¬ i ≤ c) : elD p c inv M (i + 1) = (elD p c inv M i).set i (lessR p (nd ((elD p c inv M i).getD i []) c * inv % p) ((elD p c inv M i).getD i []) ((elD p c inv M i).getD c [])) := by rw [elD, if_neg h]
theorem elD_from : ∀ {i l : Nat}, i ≤ l ∨ l ≤ c → (elD p c inv M i).getD l [] = M.getD l []
 | 0, _, _ => rfl
 | i + 1, l, h => by
  rw [elD]
  split
  ·exact elD_from (by omega)
  ·rw [getD_set_ne (by omega)]; exact elD_from (by omega)
theorem elD_done : ∀ {i l : Nat}, l < i → c < l → l < M.length → (elD p c inv M i).getD l [] = lessR p (nd (M.getD l []) c * inv % p) (M.getD l []) (M.getD c [])
 | 0, _, h, _, _ => by omega
 | i + 1, l, h, hl, hm => by
  rw [elD]
  split
  ·omega
  ·by_cases e : l = i
   ·subst e
    rw [getD_set_self (by rw [elD_len]; exact hm), elD_from (.inl (Nat.le_refl _)), elD_from (.inr (by omega))]
   ·rw [getD_set_ne (fun h => e h.symm)]; exact elD_done (by omega) hl hm
theorem elD_shp (h : Shp p C M) (hp : 0 < p) (hc : c < M.length) : ∀ i, i ≤ M.length → Shp p C (elD p c inv M i)
 | 0, _ => h
 | i + 1, hi => by
  have ih := elD_shp h hp hc i (by omega)
  rw [elD]
  split
  ·exact ih
  ·have h1 := ih.at (i := i) (by rw [elD_len]; omega)
   have h2 := ih.at (i := c) (by rw [elD_len]; omega)
   have e : ((elD p c inv M i).getD i []).length = ((elD p c inv M i).getD c []).length := by rw [h1.1, h2.1]
   exact ih.set i ⟨by rw [lessR_len e]; exact h1.1, lessR_lt e hp⟩
end
theorem less_scal {p f iv : Nat} {a b : List Nat} (h : a.length = b.length) : lessR p f a (scalR p iv b) = lessR p (f * iv % p) a b := by
 apply nd_ext (by rw [lessR_len (by rw [scalR_len]; exact h), lessR_len h])
 intro k hk
 rw [lessR_len (by rw [scalR_len]; exact h)] at hk
 rw [lessR_nd (by rw [scalR_len]; exact h) hk, lessR_nd h hk, scalR_nd]
 have e : f * (nd b k * iv % p) % p = f * iv % p * nd b k % p := by
  rw [Nat.mul_mod_mod, Nat.mod_mul_mod]
  congr 1
  rw [Nat.mul_assoc, Nat.mul_comm iv]
 rw [e]
theorem det_step {p n c i : Nat} {N A : List (List Nat)} (hp : 0 < p) (hN : Shp p n N) (hl : N.length = n) (hA : Shp p n A) (hAl : A.length = n) (hP : (redTo p N c).2.length = c) (hag : ∀ l, c ≤ l → l < n → A.getD l [] = (redTo p N c).1.getD l [])
  (hci : c ≤ i) (hin : i < n) (h0 : nd (A.getD i []) c ≠ 0) (hz : ∀ l, c ≤ l → l < i → nd (A.getD l []) c = 0) :
  (redTo p N (c + 1)).2.length = c + 1 ∧ detTo p N (c + 1) = (if i = c then detTo p N c else (0 + p - detTo p N c) % p) * nd ((swapM A c i).getD c []) c % p ∧
  ∀ l, c + 1 ≤ l → l < n → (elD p c (pinv p (nd ((swapM A c i).getD c []) c)) (swapM A c i) n).getD l [] = (redTo p N (c + 1)).1.getD l [] := by
 obtain ⟨i1, i2, i3, i4, i5⟩ := redTo_inv hN hp c
 have hf : firstNZ (redTo p N c).1 c ((redTo p N c).1.length - c) c = some i := firstNZ_some hci (by omega) (fun l h1 h2 => by rw [← hag l h1 (by omega)]; exact hz l h1 h2) (by rw [← hag i hci hin]; exact h0)
 have hX : ∀ l, c ≤ l → l < n → (swapM A c i).getD l [] = (swapM (redTo p N c).1 c i).getD l [] := fun l h1 h2 => by
  rw [swapM_at (by omega) (by omega), swapM_at (by omega) (by omega), hag i hci hin, hag c (Nat.le_refl _) (by omega), hag l h1 h2]
 have hs := redStep_some (p := p) (c := c) (i := i) (s := redTo p N c) (by rw [hP]; exact hf)
 rw [hP] at hs
 have hcc : (swapM A c i).getD c [] = A.getD i [] := by rw [swapM_at (by omega) (by omega), if_pos rfl]
 refine ⟨?_, ?_, fun l h1 h2 => ?_⟩
 ·show (redStep p c (redTo p N c)).2.length = _
  rw [hs, List.length_append, hP]; rfl
 ·rw [detTo, hP, hf, hcc, hag i hci hin]
 ·show _ = (redStep p c (redTo p N c)).1.getD l []
  rw [hs]
  simp only
  have hsR := swapM_shp i2 (i := c) (j := i) (by omega) (by omega)
  have hXl := swapM_len (redTo p N c).1 c i
  have hsA := swapM_shp hA (i := c) (j := i) (by omega) (by omega)
  have hXA := swapM_len A c i
  rw [elD_done (by omega) (by omega) (by omega), elimM_done (by omega) (by omega) (by rw [normM_len]; omega)]
  have e1 : (normM p c c (swapM (redTo p N c).1 c i)).getD l [] = (swapM (redTo p N c).1 c i).getD l [] := by unfold normM; rw [getD_set_ne (by omega)]
  have e2 : (normM p c c (swapM (redTo p N c).1 c i)).getD c [] = scalR p (pinv p (nd ((swapM (redTo p N c).1 c i).getD c []) c)) ((swapM (redTo p N c).1 c i).getD c []) := by unfold normM; rw [getD_set_self (by omega)]
  rw [e1, e2, hX l (by omega) h2, hX c (Nat.le_refl _) (by omega)]
  exact (less_scal (by rw [(hsR.at (show l < _ by omega)).1, (hsR.at (show c < _ by omega)).1])).symm
theorem det_dead {p n c : Nat} {N A : List (List Nat)} (hp : MR.Pr p) (hN : Shp p n N) (hl : N.length = n) (hc : c < n) (hP : (redTo p N c).2.length = c) (hag : ∀ l, c ≤ l → l < n → A.getD l [] = (redTo p N c).1.getD l [])
  (hz : ∀ l, c ≤ l → l < n → nd (A.getD l []) c = 0) : detTo p N n = 0 := by
 have hp0 : 0 < p := by have := hp.1; omega
 obtain ⟨i1, i2, i3, i4, i5⟩ := redTo_inv hN hp0 c
 have hf : firstNZ (redTo p N c).1 c ((redTo p N c).1.length - c) c = none := firstNZ_none fun l h1 h2 => by rw [← hag l h1 (by omega)]; exact hz l h1 (by omega)
 have h1 : (redTo p N (c + 1)).2.length = c := by
  show (redStep p c (redTo p N c)).2.length = _
  rw [redStep_none (by rw [hP]; exact hf), hP]
 have h2 : ∀ k, (redTo p N (c + 1 + k)).2.length ≤ c + k := by
  intro k
  induction k with
  | zero => rw [Nat.add_zero, h1]; exact Nat.le_refl _
  | succ k ih =>
   show (redStep p (c + 1 + k) (redTo p N (c + 1 + k))).2.length ≤ _
   unfold redStep
   split
   ·omega
   ·simp only [List.length_append, List.length_cons, List.length_nil]; omega
 have h3 := h2 (n - (c + 1))
 rw [show c + 1 + (n - (c + 1)) = n by omega] at h3
 exact Classical.byContradiction fun h => by have := (detTo_ne hp hN n (Nat.le_refl _)).1 h; omega
theorem wrdet {pm : Option Addr} {n cm p : Nat} {M : List (List Nat)} {w : World} (hm : MS w pm n M) (hp : MR.Pr p) (hp2 : p < 4294967296) (hs : SmallM M) (hr : RectM M) (h0 : M.length ≠ 0) (hq : M.length = colsM M) :
  Calls Tryd.prog 30 #[.slice pm n cm, .int .u32 ((p : Nat) : Int)] w (Ret (Is (.int .u32 ((detTo p (modM p M) n : Nat) : Int))) w) := by
 have hnm := hm.1
 have hp1 := hp.1
 have hp0 : 0 < p := by omega
 have hcb : n ≤ 1048576 := by rw [← hnm, hq]; exact hs.cols
 have hrb : ∀ r ∈ M, r.length ≤ 2097152 := fun r h => by have := hs.2 r h; omega
 have hml1 := Nat.mod_lt 1 hp0
 obtain ⟨N, hN⟩ : ∃ N, modM p M = N := ⟨_, rfl⟩
 have hMl : N.length = n := by rw [← hN, modM_len]; exact hnm
 have hsh : Shp p n N := by rw [← hN]; have := hr.shp (p := p) hp0; rwa [← hq, hnm] at this
 rw [hN]
 have hS := Sep.init w
 refine went Tryd.func30 rfl (n := 133) rfl rfl ?_
 refine wseq (wreg (wl rfl (oassign (v := .int .u32 0) rfl rfl evc ?_)))
 refine wnil (thenN (wseq (wreg (wl rfl (omove (v := .slice pm n cm) rfl rfl (ev rfl rfl) ?_)))))
 refine wl rfl (omove (v := .int .u32 (p : Int)) rfl rfl (ev rfl rfl) ?_)
 refine wl rfl (ocall rfl rfl Tryd.call49 rfl (wrnorm (hm.at hS) hp0 hp2 (by omega) hrb) (args2 (ev rfl rfl) (ev rfl rfl)) ?_)
 rintro _ w1 ⟨_, _, rfl, ⟨pX, cX, QX, hQX, rfl, rfl⟩, hN⟩
 refine ⟨_, rfl, ?_⟩
 replace hS := hS.news hN; clear hN
 refine wl rfl (oassign (v := .slice pX n cX) rfl rfl (ev rfl rfl) ?_)
 refine wnil (thenN (wseq (wreg (wl rfl (omove (v := .int .u32 (p : Int)) rfl rfl (ev rfl rfl) ?_)))))
 skip
 refine wl rfl (obin (u := .int .u32 1) (v := .int .u32 (p : Int)) (z := .int .u32 (((1 % p : Nat) : Int))) rfl rfl evc (ev rfl rfl) (bin_rem (by omega) rfl) ?_)
 refine wl rfl (oassign (v := .int .u32 (((1 % p : Nat) : Int))) rfl rfl (ev rfl rfl) ?_)
 refine wnil (thenN (wseq (wseq (wreg (wl rfl (omove (v := .slice pX n cX) rfl rfl (ev rfl rfl) ?_))))))
 refine wl rfl (olen rfl rfl rfl Tryd.runUnderlying26 (p := pX) (k := n) (m := cX) (ev rfl rfl) ?_)
 refine wl rfl (omove (v := .int .i64 0) rfl rfl evc ?_)
 refine wnil (thenN (wblock ?_))
 refine wloop (σ := Nat) (fun c a9 w' => ∃ (fb : Nat → Value) (Q1 : List Rw) (d : Nat), a9 = act 133 (sets fb [(0, .slice pX n cX), (1, .int .u32 (p : Int)), (5, .int .u32 (d : Int)), (18, .int .i64 (n : Int)), (19, .int .i64 (c : Int))]) ∧ Sep w [.lst 52 1 pX n cX (mmE Q1)] w' ∧ (c ≤ n) ∧ (Shp p n (nums Q1)) ∧ ((redTo p N c).2.length = c) ∧ (∀ l, c ≤ l → l < n → (nums Q1).getD l [] = (redTo p N c).1.getD l []) ∧ ((nums Q1).length = n) ∧ (d = detTo p N c) ∧ (d < p)) (fun c => n - c) (0) ⟨_, QX, 1 % p, act_sets (l := [(0, .slice pX n cX), (1, .int .u32 (p : Int)), (5, .int .u32 (((1 % p : Nat) : Int))), (18, .int .i64 (n : Int)), (19, .int .i64 0)]) ⟨rfl, rfl, rfl, rfl, rfl, trivial⟩, hS, Nat.zero_le _, by rw [hQX, hN]; exact hsh, rfl, fun l _ _ => by rw [hQX, hN]; rfl, by rw [hQX, hN]; exact hMl, rfl, hml1⟩ ?_
 clear hS; rintro c _ w2 ⟨fb, Q1, d, rfl, hS, hc, hsQ, hP, hag, hlQ, hd, hdp⟩
 refine wseq (wreg ?_)
 by_cases hlt : c < n
 ·
  refine wl rfl (obin (u := .int .i64 (c : Int)) (v := .int .i64 (n : Int)) (z := .bool true) rfl rfl (ev rfl rfl) (ev rfl rfl) (bin_lss (decide_eq_true (by omega))) ?_)
  refine wnil (thenN (wseq ?_))
  refine wT (ev rfl rfl) ?_
  refine wskip (thenN (wseq (wblock (wseq (wreg (wl rfl (omove (v := .int .i64 (c : Int)) rfl rfl (ev rfl rfl) ?_)))))))
  refine wl rfl (oassign (v := .int .i64 (c : Int)) rfl rfl (ev rfl rfl) ?_)
  refine wnil (thenN (wseq (wreg (wl rfl (omove (v := .int .i64 (c : Int)) rfl rfl (ev rfl rfl) ?_)))))
  refine wl rfl (oassign (v := .int .i64 (c : Int)) rfl rfl (ev rfl rfl) ?_)
  refine wnil (thenN (wseq (wblock ?_)))
  have hQ1n : Q1.length = n := by rw [← nums_len]; exact hlQ
  refine wloop (σ := Nat) (fun r a9 w' => ∃ (fb : Nat → Value), a9 = act 133 (sets fb [(0, .slice pX n cX), (1, .int .u32 (p : Int)), (5, .int .u32 (d : Int)), (6, .int .i64 (c : Int)), (7, .int .i64 (r : Int)), (18, .int .i64 (n : Int)), (19, .int .i64 (c : Int))]) ∧ Sep w [.lst 52 1 pX n cX (mmE Q1)] w' ∧ (c ≤ r) ∧ (r ≤ n) ∧ (∀ l, c ≤ l → l < r → nd ((nums Q1).getD l []) c = 0)) (fun r => n - r) (c) ⟨_, act_sets (l := [(0, .slice pX n cX), (1, .int .u32 (p : Int)), (5, .int .u32 (d : Int)), (6, .int .i64 (c : Int)), (7, .int .i64 (c : Int)), (18, .int .i64 (n : Int)), (19, .int .i64 (c : Int))]) ⟨rfl, rfl, rfl, rfl, rfl, rfl, rfl, trivial⟩, hS, Nat.le_refl _, by omega, fun l h1 h2 => by omega⟩ ?_
  clear hS; rintro r _ w3 ⟨fb, rfl, hS, hr1, hr2, hz⟩
  refine wseq (wseq (wreg (wl rfl (omove (v := .int .i64 (r : Int)) rfl rfl (ev rfl rfl) ?_))))
  refine wl rfl (omove (v := .slice pX n cX) rfl rfl (ev rfl rfl) ?_)
  refine wl rfl (olen rfl rfl rfl Tryd.runUnderlying26 (p := pX) (k := n) (m := cX) (ev rfl rfl) ?_)
  by_cases hrn : r < n
  ·
   obtain ⟨gm, hgm⟩ := hS.lstPtr 0 rfl (by omega)
   refine wl rfl (obin (u := .int .i64 (r : Int)) (v := .int .i64 (n : Int)) (z := .bool true) rfl rfl (ev rfl rfl) (ev rfl rfl) (bin_lss (decide_eq_true (by omega))) ?_)
   refine wl rfl (omove (v := .bool true) rfl rfl (ev rfl rfl) ?_)
   refine wlOn (e := 27) rfl rfl rfl rfl (omove (v := .slice pX n cX) rfl rfl (ev rfl rfl) ?_)
   refine wlOn (e := 27) rfl rfl rfl rfl (omove (v := .int .i64 (r : Int)) rfl rfl (ev rfl rfl) ?_)
   obtain ⟨⟨pv, cv, xv⟩, hqv⟩ : ∃ q, (Q1)[r]? = some q := ⟨_, List.getElem?_eq_getElem (by omega)⟩
   have hdv : (nums (Q1)).getD r [] = xv := getD_get (nums_get hqv)
   obtain ⟨hnv, hltv⟩ := hsQ.get (nums_get hqv)
   simp only at hnv hltv
   obtain ⟨gv, hgv⟩ := hS.mPtr 0 rfl hqv (by show 0 < xv.length; omega)
   refine wlOn (e := 27) rfl rfl rfl rfl (oindex (p := pX) (g := gm) (off := 0) (m := n) (k := r) (j := (0 + r * 1)) rfl rfl Tryd.runUnderlying26 Tryd.sizeOf52 (ev rfl rfl) (hgm) (ev rfl rfl) (by omega) rfl ?_)
   refine wlOn (e := 27) rfl rfl rfl rfl (oloadc (v := .slice pv n cv) (show One Tryd.prog 52 from ⟨Tryd.isAgg52, Tryd.sizeOf52⟩) rfl rfl (ev (v := .pointer (some ⟨gm, (0 + r * 1), none⟩)) rfl rfl) (hS.mRow 0 rfl hqv hnv hgm) ?_)
   refine wlOn (e := 27) rfl rfl rfl rfl (omove (v := .int .i64 (c : Int)) rfl rfl (ev rfl rfl) ?_)
   refine wlOn (e := 27) rfl rfl rfl rfl (oindex (p := pv) (g := gv) (off := 0) (m := n) (k := c) (j := c) rfl rfl Tryd.runUnderlying52 Tryd.sizeOf27 (ev rfl rfl) (hgv) (ev rfl rfl) (by omega) (by simp) ?_)
   refine wlOn (e := 27) rfl rfl rfl rfl (oloadc (v := .int .u32 (((nd xv c : Nat) : Int))) one32 rfl rfl (ev (v := .pointer (some ⟨gv, c, none⟩)) rfl rfl) (hS.mCell 0 rfl hqv hgv (by omega)) ?_)
   by_cases hne : nd xv c = 0
   ·
    refine wlOn (e := 27) rfl rfl rfl rfl (obin (u := .int .u32 (((nd xv c : Nat) : Int))) (v := .int .u32 0) (z := .bool true) rfl rfl (ev rfl rfl) evc (bin_eql (eqT (by omega))) ?_)
    refine wl rfl (opick (b := true) (v := .bool true) rfl rfl (ev rfl rfl) (ev rfl rfl) ?_)
    refine wnil (thenN ?_)
    refine wT (ev rfl rfl) ?_
    refine wskip (thenN (wblock (wreg (wl rfl (omove (v := .int .i64 (r : Int)) rfl rfl (ev rfl rfl) ?_)))))
    refine wl rfl (obin (u := .int .i64 (r : Int)) (v := .int .i64 1) (z := .int .i64 (((r + 1 : Nat) : Int))) rfl rfl (ev rfl rfl) evc (bin_add (wrap_i64 (by omega) (by omega))) ?_)
    refine wl rfl (oassign (v := .int .i64 (((r + 1 : Nat) : Int))) rfl rfl (ev rfl rfl) ?_)
    refine wnil (blkN (thenN ?_))
    exact ⟨(r + 1), ⟨_, act_sets (l := [(0, .slice pX n cX), (1, .int .u32 (p : Int)), (5, .int .u32 (d : Int)), (6, .int .i64 (c : Int)), (7, .int .i64 (((r + 1 : Nat) : Int))), (18, .int .i64 (n : Int)), (19, .int .i64 (c : Int))]) ⟨rfl, rfl, rfl, rfl, rfl, rfl, rfl, trivial⟩, hS.pick [0] (by decide) rfl, by omega, by omega, fun l h1 h2 => (Nat.lt_or_eq_of_le (Nat.lt_succ_iff.1 h2)).elim (hz l h1) (fun e => by rw [e, hdv]; exact hne)⟩, by omega⟩
   ·
    refine wlOn (e := 27) rfl rfl rfl rfl (obin (u := .int .u32 (((nd xv c : Nat) : Int))) (v := .int .u32 0) (z := .bool false) rfl rfl (ev rfl rfl) evc (bin_eql (eqF (by omega))) ?_)
    refine wl rfl (opick (b := true) (v := .bool false) rfl rfl (ev rfl rfl) (ev rfl rfl) ?_)
    refine wnil (thenN ?_)
    refine wF (ev rfl rfl) ?_
    refine wexit ?_
    refine thenE ?_
    refine thenE ?_
    refine blkE ?_
    refine thenN (wseq (wseq (wreg (wl rfl (omove (v := .int .i64 (r : Int)) rfl rfl (ev rfl rfl) ?_)))))
    refine wl rfl (omove (v := .slice pX n cX) rfl rfl (ev rfl rfl) ?_)
    refine wl rfl (olen rfl rfl rfl Tryd.runUnderlying26 (p := pX) (k := n) (m := cX) (ev rfl rfl) ?_)
    refine wl rfl (obin (u := .int .i64 (r : Int)) (v := .int .i64 (n : Int)) (z := .bool false) rfl rfl (ev rfl rfl) (ev rfl rfl) (bin_eql (eqF (by omega))) ?_)
    refine wnil (thenN ?_)
    refine wF (ev rfl rfl) ?_
    refine wskip (thenN ?_)
    refine wjoin (I := fun a9 w' => ∃ (fb : Nat → Value) (Q2 : List Rw) (d2 : Nat), a9 = act 133 (sets fb [(0, .slice pX n cX), (1, .int .u32 (p : Int)), (5, .int .u32 (d2 : Int)), (6, .int .i64 (c : Int)), (18, .int .i64 (n : Int)), (19, .int .i64 (c : Int))]) ∧ Sep w [.lst 52 1 pX n cX (mmE Q2)] w' ∧ (nums Q2 = swapM (nums Q1) c r) ∧ (d2 = if r = c then d else (0 + p - d) % p)) ?_ ?_
    ·
     refine wseq (wreg (wl rfl (omove (v := .int .i64 (r : Int)) rfl rfl (ev rfl rfl) ?_)))
     refine wl rfl (omove (v := .int .i64 (c : Int)) rfl rfl (ev rfl rfl) ?_)
     by_cases hrp : r = c
     ·
      refine wl rfl (obin (u := .int .i64 (r : Int)) (v := .int .i64 (c : Int)) (z := .bool false) rfl rfl (ev rfl rfl) (ev rfl rfl) (bin_neq (neF (by omega))) ?_)
      refine wnil (thenN ?_)
      refine wF (ev rfl rfl) ?_
      refine wskip (thenN ?_)
      exact ⟨_, _, _, act_sets (l := [(0, .slice pX n cX), (1, .int .u32 (p : Int)), (5, .int .u32 (d : Int)), (6, .int .i64 (c : Int)), (18, .int .i64 (n : Int)), (19, .int .i64 (c : Int))]) ⟨rfl, rfl, rfl, rfl, rfl, rfl, trivial⟩, hS.pick [0] (by decide) rfl, by rw [hrp, swapM_self (by omega)], by rw [if_pos hrp]⟩
     ·
      refine wl rfl (obin (u := .int .i64 (r : Int)) (v := .int .i64 (c : Int)) (z := .bool true) rfl rfl (ev rfl rfl) (ev rfl rfl) (bin_neq (neT (by omega))) ?_)
      refine wnil (thenN ?_)
      refine wT (ev rfl rfl) ?_
      refine wseq ?_
      obtain ⟨⟨pu, cu, xu⟩, hqu⟩ : ∃ q, (Q1)[c]? = some q := ⟨_, List.getElem?_eq_getElem (by omega)⟩
      have hdu : (nums (Q1)).getD c [] = xu := getD_get (nums_get hqu)
      obtain ⟨hnu, hltu⟩ := hsQ.get (nums_get hqu)
      simp only at hnu hltu
      obtain ⟨gu, hgu⟩ := hS.mPtr 0 rfl hqu (by show 0 < xu.length; omega)
      obtain ⟨⟨pj, cj, xj⟩, hqj⟩ : ∃ q, (Q1)[r]? = some q := ⟨_, List.getElem?_eq_getElem (by omega)⟩
      have hdj : (nums (Q1)).getD r [] = xj := getD_get (nums_get hqj)
      obtain ⟨hnj, hltj⟩ := hsQ.get (nums_get hqj)
      simp only at hnj hltj
      obtain ⟨gj, hgj⟩ := hS.mPtr 0 rfl hqj (by show 0 < xj.length; omega)
      refine wstage 13 [46, 47, 48, 49, 50, 51, 52, 53, 54, 55, 56, 57, 58] [[], [], [], [], [], [], [4, 5], [6, 4, 5], [], [], [8, 9], [10, 8, 9], [0, 1, 4, 5, 6, 7, 8, 9, 10, 11]] [[], [], [], [], [], [], [], [], [], [], [], [], []] [2, 3] [] (fun i9 => ([fun _ => Is (.slice pX n cX), fun _ => Is (.int .i64 (r : Int)), fun _ => Is (.slice pX n cX), fun _ => Is (.int .i64 (c : Int)), fun _ => Is (.slice pX n cX), fun _ => Is (.int .i64 (c : Int)), fun _ => Is (.pointer (some ⟨gm, (0 + c * 1), none⟩)), fun _ => Is (.slice pu n cu), fun _ => Is (.slice pX n cX), fun _ => Is (.int .i64 (r : Int)), fun _ => Is (.pointer (some ⟨gm, (0 + r * 1), none⟩)), fun _ => Is (.slice pj n cj), fun _ => Is (.pointer (some ⟨gm, (0 + r * 1), none⟩))] : List (List Value → Tell)).getD i9 (fun _ _ _ => False)) (heldNil) (fun d _ _ _ _ h => (by cases d <;> exact h)) (by kernel_rfl) (by kernel_rfl) (by kernel_rfl) hS ?_ ?_
      ·
       refine stepsCons rfl (fun Q f' w' ρ S ho hT hS hB => ?_) ?_
       ·exact .inl ⟨want_none rfl, omove (v := .slice pX n cX) rfl rfl (ev rfl (ho 0 rfl)) ⟨_, _, rfl, isI, New.same _⟩⟩
       refine stepsCons rfl (fun Q f' w' ρ S ho hT hS hB => ?_) ?_
       ·exact .inl ⟨want_none rfl, omove (v := .int .i64 (r : Int)) rfl rfl (ev rfl (ho 7 rfl)) ⟨_, _, rfl, isI, New.same _⟩⟩
       refine stepsPure rfl ?_ ?_
       ·intro f' ρ ho hT
        exact ⟨_, .inl ⟨want_none rfl, fun w hw => ymove (v := .slice pX n cX) rfl (ev (v := .slice pX n cX) rfl (ho 0 rfl)) w⟩, isI⟩
       refine stepsPure rfl ?_ ?_
       ·intro f' ρ ho hT
        exact ⟨_, .inl ⟨want_none rfl, fun w hw => ymove (v := .int .i64 (c : Int)) rfl (ev (v := .int .i64 (c : Int)) rfl (ho 6 rfl)) w⟩, isI⟩
       refine stepsCons rfl (fun Q f' w' ρ S ho hT hS hB => ?_) ?_
       ·exact .inl ⟨want_none rfl, omove (v := .slice pX n cX) rfl rfl (ev rfl (ho 0 rfl)) ⟨_, _, rfl, isI, New.same _⟩⟩
       refine stepsCons rfl (fun Q f' w' ρ S ho hT hS hB => ?_) ?_
       ·exact .inl ⟨want_none rfl, omove (v := .int .i64 (c : Int)) rfl rfl (ev rfl (ho 6 rfl)) ⟨_, _, rfl, isI, New.same _⟩⟩
       refine stepsCons rfl (fun Q f' w' ρ S ho hT hS hB => ?_) ?_
       ·obtain ⟨hv4, hr4⟩ := (hT 4 50 rfl rfl : (Is (.slice pX n cX)) _ _)
        obtain ⟨hv5, hr5⟩ := (hT 5 51 rfl rfl : (Is (.int .i64 (((c : Nat) : Int)))) _ _)
        obtain hS := hS.flat2 hr4 hr5
        exact .inl ⟨want_none rfl, oindex (p := pX) (g := gm) (off := 0) (m := n) (k := c) (j := (0 + c * 1)) rfl rfl Tryd.runUnderlying26 Tryd.sizeOf52 (ev rfl hv4) (hgm) (ev rfl hv5) (by omega) rfl ⟨_, _, rfl, isI, New.same _⟩⟩
       refine stepsCons rfl (fun Q f' w' ρ S ho hT hS hB => ?_) ?_
       ·obtain ⟨hv6, hr6⟩ := (hT 6 52 rfl rfl : (Is (.pointer (some ⟨gm, (0 + c * 1), none⟩))) _ _)
        obtain hS := hS.flat1 hr6
        exact .inl ⟨want_none rfl, oloadc (v := .slice pu n cu) (show One Tryd.prog 52 from ⟨Tryd.isAgg52, Tryd.sizeOf52⟩) rfl rfl (ev (v := .pointer (some ⟨gm, (0 + c * 1), none⟩)) rfl hv6) (hS.mRow 0 rfl hqu hnu hgm) ⟨_, _, rfl, isI, New.same _⟩⟩
       refine stepsCons rfl (fun Q f' w' ρ S ho hT hS hB => ?_) ?_
       ·exact .inl ⟨want_none rfl, omove (v := .slice pX n cX) rfl rfl (ev rfl (ho 0 rfl)) ⟨_, _, rfl, isI, New.same _⟩⟩
       refine stepsCons rfl (fun Q f' w' ρ S ho hT hS hB => ?_) ?_
       ·exact .inl ⟨want_none rfl, omove (v := .int .i64 (r : Int)) rfl rfl (ev rfl (ho 7 rfl)) ⟨_, _, rfl, isI, New.same _⟩⟩
       refine stepsCons rfl (fun Q f' w' ρ S ho hT hS hB => ?_) ?_
       ·obtain ⟨hv8, hr8⟩ := (hT 8 54 rfl rfl : (Is (.slice pX n cX)) _ _)
        obtain ⟨hv9, hr9⟩ := (hT 9 55 rfl rfl : (Is (.int .i64 (((r : Nat) : Int)))) _ _)
        obtain hS := hS.flat2 hr8 hr9
        exact .inl ⟨want_none rfl, oindex (p := pX) (g := gm) (off := 0) (m := n) (k := r) (j := (0 + r * 1)) rfl rfl Tryd.runUnderlying26 Tryd.sizeOf52 (ev rfl hv8) (hgm) (ev rfl hv9) (by omega) rfl ⟨_, _, rfl, isI, New.same _⟩⟩
       refine stepsCons rfl (fun Q f' w' ρ S ho hT hS hB => ?_) ?_
       ·obtain ⟨hv10, hr10⟩ := (hT 10 56 rfl rfl : (Is (.pointer (some ⟨gm, (0 + r * 1), none⟩))) _ _)
        obtain hS := hS.flat1 hr10
        exact .inl ⟨want_none rfl, oloadc (v := .slice pj n cj) (show One Tryd.prog 52 from ⟨Tryd.isAgg52, Tryd.sizeOf52⟩) rfl rfl (ev (v := .pointer (some ⟨gm, (0 + r * 1), none⟩)) rfl hv10) (hS.mRow 0 rfl hqj hnj hgm) ⟨_, _, rfl, isI, New.same _⟩⟩
       refine stepsCons rfl (fun Q f' w' ρ S ho hT hS hB => ?_) ?_
       ·obtain ⟨hv0, hr0⟩ := (hT 0 46 rfl rfl : (Is (.slice pX n cX)) _ _)
        obtain ⟨hv1, hr1⟩ := (hT 1 47 rfl rfl : (Is (.int .i64 (((r : Nat) : Int)))) _ _)
        obtain hS := hS.flat2 hr0 hr1
        exact .inl ⟨want_none rfl, oindex (p := pX) (g := gm) (off := 0) (m := n) (k := r) (j := (0 + r * 1)) rfl rfl Tryd.runUnderlying26 Tryd.sizeOf52 (ev rfl hv0) (hgm) (ev rfl hv1) (by omega) rfl ⟨_, _, rfl, isI, New.same _⟩⟩
       exact stepsNil
      ·
       intro vs ρ w4 f' hf hT hS
       obtain ⟨hv0, hr0⟩ := (hT 0 (by decide) : (Is (.slice pX n cX)) _ _)
       obtain ⟨hv1, hr1⟩ := (hT 1 (by decide) : (Is (.int .i64 (((r : Nat) : Int)))) _ _)
       obtain ⟨hv2, hr2⟩ := (hT 2 (by decide) : (Is (.slice pX n cX)) _ _)
       obtain ⟨hv3, hr3⟩ := (hT 3 (by decide) : (Is (.int .i64 (((c : Nat) : Int)))) _ _)
       obtain ⟨hv4, hr4⟩ := (hT 4 (by decide) : (Is (.slice pX n cX)) _ _)
       obtain ⟨hv5, hr5⟩ := (hT 5 (by decide) : (Is (.int .i64 (((c : Nat) : Int)))) _ _)
       obtain ⟨hv6, hr6⟩ := (hT 6 (by decide) : (Is (.pointer (some ⟨gm, (0 + c * 1), none⟩))) _ _)
       obtain ⟨hv7, hr7⟩ := (hT 7 (by decide) : (Is (.slice pu n cu)) _ _)
       obtain ⟨hv8, hr8⟩ := (hT 8 (by decide) : (Is (.slice pX n cX)) _ _)
       obtain ⟨hv9, hr9⟩ := (hT 9 (by decide) : (Is (.int .i64 (((r : Nat) : Int)))) _ _)
       obtain ⟨hv10, hr10⟩ := (hT 10 (by decide) : (Is (.pointer (some ⟨gm, (0 + r * 1), none⟩))) _ _)
       obtain ⟨hv11, hr11⟩ := (hT 11 (by decide) : (Is (.slice pj n cj)) _ _)
       obtain ⟨hv12, hr12⟩ := (hT 12 (by decide) : (Is (.pointer (some ⟨gm, (0 + r * 1), none⟩))) _ _)
       simp only [pool, if_true, hr0, hr1, hr2, hr3, hr4, hr5, hr6, hr7, hr8, hr9, hr10, hr11, hr12, List.nil_append, List.cons_append, List.append_nil] at hS
       simp only [layf, hv0, hv1, hv2, hv3, hv4, hv5, hv6, hv7, hv8, hv9, hv10, hv11, hv12] at hf
       subst hf; clear hT hv0 hv1 hv2 hv3 hv4 hv5 hv6 hv7 hv8 hv9 hv10 hv11 hv12 hr0 hr1 hr2 hr3 hr4 hr5 hr6 hr7 hr8 hr9 hr10 hr11 hr12
       obtain hS := hS.take2 hqj hqu (by omega) hnj hnu
       obtain hS := (show Sep w [.rowm pu n cu xu, .lst 52 1 pX n cX (((mmE Q1).set r ⟨[.slice pj n cj], []⟩).set c ⟨[.slice pu n cu], []⟩), .rowm pj n cj xj] w4 from hS.pick [1, 2, 0] (by decide) rfl)
       refine wlate 13 rfl (by kernel_rfl) (ostoreL (i := r) (g := gm) [.slice pu n cu] [.rowm pu n cu xu] Tryd.sizeOf52 hS rfl rfl (ev (v := .pointer (some ⟨gm, (0 + r * 1), none⟩)) rfl rfl) (ev (v := .slice pu n cu) rfl rfl) (rfl) rfl rfl rfl hgm (by omega) rfl ?_)
       clear hS; intro w5 hS
       refine ⟨heldNil, ?_⟩
       refine wlate 14 rfl (by kernel_rfl) (oindex (p := pX) (g := gm) (off := 0) (m := n) (k := c) (j := (0 + c * 1)) rfl rfl Tryd.runUnderlying26 Tryd.sizeOf52 (ev rfl rfl) (hgm) (ev rfl rfl) (by omega) rfl ?_)
       refine ⟨heldNil, ?_⟩
       obtain hS := (show Sep w [.rowm pj n cj xj, .lst 52 1 pX n cX ((((mmE Q1).set r ⟨[.slice pj n cj], []⟩).set c ⟨[.slice pu n cu], []⟩).set r ⟨[.slice pu n cu], [.rowm pu n cu xu]⟩)] w5 from hS.pick [1, 0] (by decide) rfl)
       refine wlate 15 rfl (by kernel_rfl) (ostoreL (i := c) (g := gm) [.slice pj n cj] [.rowm pj n cj xj] Tryd.sizeOf52 hS rfl rfl (ev (v := .pointer (some ⟨gm, (0 + c * 1), none⟩)) rfl rfl) (ev (v := .slice pj n cj) rfl rfl) (rfl) rfl rfl rfl hgm (by omega) rfl ?_)
       clear hS; intro w6 hS
       refine ⟨heldNil, ?_⟩
       refine wdone rfl ?_
       refine thenN (wreg (wl rfl (omove (v := .int .u32 (d : Int)) rfl rfl (ev rfl rfl) ?_)))
       refine wl rfl (omove (v := .int .u32 (p : Int)) rfl rfl (ev rfl rfl) ?_)
       rw [swap_mm (by omega) hnj hnu] at hS
       refine wl rfl (ocall rfl rfl Tryd.call51 rfl (wrsub (a := 0) (b := d) (p := p) hp0 hp2 (by omega) (by omega)) (args3 evc (ev rfl rfl) (ev rfl rfl)) ?_)
       rintro _ w7 ⟨_, _, rfl, ⟨rfl, rfl⟩, hN⟩
       refine ⟨_, rfl, ?_⟩
       replace hS := hS.news hN; clear hN
       refine wl rfl (oassign (v := .int .u32 ((((0 + p - d) % p : Nat) : Int))) rfl rfl (ev rfl rfl) ?_)
       refine wnil (thenN ?_)
       have hm9 := mod_lt32 (a := 0 + p - d) hp0 hp2
       exact ⟨_, _, _, act_sets (l := [(0, .slice pX n cX), (1, .int .u32 (p : Int)), (5, .int .u32 ((((0 + p - d) % p : Nat) : Int))), (6, .int .i64 (c : Int)), (18, .int .i64 (n : Int)), (19, .int .i64 (c : Int))]) ⟨rfl, rfl, rfl, rfl, rfl, rfl, trivial⟩, hS.pick [0] (by decide) rfl, by rw [nums_set, nums_set]; unfold swapM; rw [hdu, hdj, List.set_comm _ _ (by omega)], by rw [if_neg hrp]⟩
    clear hS; rintro _ w4 ⟨fb, Q2, d2, rfl, hS, hQ2, hd2⟩
    refine wseq (wreg (wl rfl (omove (v := .int .u32 (d2 : Int)) rfl rfl (ev rfl rfl) ?_)))
    refine wl rfl (omove (v := .slice pX n cX) rfl rfl (ev rfl rfl) ?_)
    refine wl rfl (omove (v := .int .i64 (c : Int)) rfl rfl (ev rfl rfl) ?_)
    obtain ⟨k1, k2, k3⟩ := det_step hp0 hsh hMl hsQ hlQ hP hag hr1 hrn (by rw [hdv]; exact hne) hz
    rw [← hQ2] at k2 k3
    have hQ2n : Q2.length = n := by rw [nums_lenE hQ2, swapM_len]; exact hlQ
    have s2 : Shp p n (nums Q2) := by rw [hQ2]; exact swapM_shp hsQ (by omega) (by omega)
    have hd2p : d2 < p := by rw [hd2]; split; exact hdp; exact Nat.mod_lt _ hp0
    obtain ⟨gm, hgm⟩ := hS.lstPtr 0 rfl (by omega)
    obtain ⟨⟨ps, cs, xs⟩, hqs⟩ : ∃ q, (Q2)[c]? = some q := ⟨_, List.getElem?_eq_getElem (by omega)⟩
    have hds : (nums (Q2)).getD c [] = xs := getD_get (nums_get hqs)
    obtain ⟨hns, hlts⟩ := s2.get (nums_get hqs)
    simp only at hns hlts
    obtain ⟨gs, hgs⟩ := hS.mPtr 0 rfl hqs (by show 0 < xs.length; omega)
    have hxc := nd_lt hlts hp0 (k := c)
    rw [hds] at k2 k3
    have hm8 := mod_lt32 (a := d2 * nd xs c) hp0 hp2
    obtain ⟨iv, hiv⟩ : ∃ iv, Hid (pinv p (nd xs c) = iv) := ⟨_, rfl⟩
    have hivp : iv < p := by rw [← hiv.out]; exact Nat.mod_lt _ hp0
    rw [hiv.out] at k3
    refine wl rfl (oindex (p := pX) (g := gm) (off := 0) (m := n) (k := c) (j := (0 + c * 1)) rfl rfl Tryd.runUnderlying26 Tryd.sizeOf52 (ev rfl rfl) (hgm) (ev rfl rfl) (by omega) rfl ?_)
    refine wl rfl (oloadc (v := .slice ps n cs) (show One Tryd.prog 52 from ⟨Tryd.isAgg52, Tryd.sizeOf52⟩) rfl rfl (ev (v := .pointer (some ⟨gm, (0 + c * 1), none⟩)) rfl rfl) (hS.mRow 0 rfl hqs hns hgm) ?_)
    refine wl rfl (omove (v := .int .i64 (c : Int)) rfl rfl (ev rfl rfl) ?_)
    refine wl rfl (oindex (p := ps) (g := gs) (off := 0) (m := n) (k := c) (j := c) rfl rfl Tryd.runUnderlying52 Tryd.sizeOf27 (ev rfl rfl) (hgs) (ev rfl rfl) (by omega) (by simp) ?_)
    refine wl rfl (oloadc (v := .int .u32 (((nd xs c : Nat) : Int))) one32 rfl rfl (ev (v := .pointer (some ⟨gs, c, none⟩)) rfl rfl) (hS.mCell 0 rfl hqs hgs (by omega)) ?_)
    refine wl rfl (omove (v := .int .u32 (p : Int)) rfl rfl (ev rfl rfl) ?_)
    refine wl rfl (ocall rfl rfl Tryd.call52 rfl (wsmul (a := d2) (b := (nd xs c)) (n := p) (by omega) (by omega) hp0 hp2) (args3 (ev rfl rfl) (ev rfl rfl) (ev rfl rfl)) ?_)
    rintro _ w5 ⟨_, _, rfl, ⟨rfl, rfl⟩, hN⟩
    refine ⟨_, rfl, ?_⟩
    replace hS := hS.news hN; clear hN
    refine wl rfl (oassign (v := .int .u32 (((d2 * (nd xs c) % p : Nat) : Int))) rfl rfl (ev rfl rfl) ?_)
    refine wnil (thenN (wseq (wreg (wl rfl (omove (v := .slice pX n cX) rfl rfl (ev rfl rfl) ?_)))))
    refine wl rfl (omove (v := .int .i64 (c : Int)) rfl rfl (ev rfl rfl) ?_)
    refine wl rfl (oindex (p := pX) (g := gm) (off := 0) (m := n) (k := c) (j := (0 + c * 1)) rfl rfl Tryd.runUnderlying26 Tryd.sizeOf52 (ev rfl rfl) (hgm) (ev rfl rfl) (by omega) rfl ?_)
    refine wl rfl (oloadc (v := .slice ps n cs) (show One Tryd.prog 52 from ⟨Tryd.isAgg52, Tryd.sizeOf52⟩) rfl rfl (ev (v := .pointer (some ⟨gm, (0 + c * 1), none⟩)) rfl rfl) (hS.mRow 0 rfl hqs hns hgm) ?_)
    refine wl rfl (omove (v := .int .i64 (c : Int)) rfl rfl (ev rfl rfl) ?_)
    refine wl rfl (oindex (p := ps) (g := gs) (off := 0) (m := n) (k := c) (j := c) rfl rfl Tryd.runUnderlying52 Tryd.sizeOf27 (ev rfl rfl) (hgs) (ev rfl rfl) (by omega) (by simp) ?_)
    refine wl rfl (oloadc (v := .int .u32 (((nd xs c : Nat) : Int))) one32 rfl rfl (ev (v := .pointer (some ⟨gs, c, none⟩)) rfl rfl) (hS.mCell 0 rfl hqs hgs (by omega)) ?_)
    refine wl rfl (omove (v := .int .u32 (p : Int)) rfl rfl (ev rfl rfl) ?_)
    refine wl rfl (ocall rfl rfl Tryd.call53 rfl ((show Calls _ _ _ _ (Ret (Is (.int .u32 (iv : Int))) _) from by rw [← hiv.out]; exact wsinv (by omega) hp2 (by omega))) (args2 (ev rfl rfl) (ev rfl rfl)) ?_)
    rintro _ w6 ⟨_, _, rfl, ⟨rfl, rfl⟩, hN⟩
    refine ⟨_, rfl, ?_⟩
    replace hS := hS.news hN; clear hN
    refine wl rfl (oassign (v := .int .u32 (iv : Int)) rfl rfl (ev rfl rfl) ?_)
    refine wnil (thenN (wseq (wreg (wl rfl (omove (v := .int .i64 (c : Int)) rfl rfl (ev rfl rfl) ?_)))))
    refine wl rfl (obin (u := .int .i64 (c : Int)) (v := .int .i64 1) (z := .int .i64 (((c + 1 : Nat) : Int))) rfl rfl (ev rfl rfl) evc (bin_add (wrap_i64 (by omega) (by omega))) ?_)
    refine wl rfl (oassign (v := .int .i64 (((c + 1 : Nat) : Int))) rfl rfl (ev rfl rfl) ?_)
    refine wnil (thenN (wblock ?_))
    refine wloop (σ := Nat) (fun i a9 w' => ∃ (fb : Nat → Value) (Qi : List Rw), a9 = act 133 (sets fb [(0, .slice pX n cX), (1, .int .u32 (p : Int)), (5, .int .u32 (((d2 * (nd xs c) % p : Nat) : Int))), (6, .int .i64 (c : Int)), (8, .int .u32 (iv : Int)), (9, .int .i64 (i : Int)), (18, .int .i64 (n : Int)), (19, .int .i64 (c : Int))]) ∧ Sep w [.lst 52 1 pX n cX (mmE Qi)] w' ∧ (c + 1 ≤ i) ∧ (i ≤ n) ∧ (nums Qi = elD p c iv (nums Q2) i)) (fun i => n - i) ((c + 1)) ⟨_, Q2, act_sets (l := [(0, .slice pX n cX), (1, .int .u32 (p : Int)), (5, .int .u32 (((d2 * (nd xs c) % p : Nat) : Int))), (6, .int .i64 (c : Int)), (8, .int .u32 (iv : Int)), (9, .int .i64 (((c + 1 : Nat) : Int))), (18, .int .i64 (n : Int)), (19, .int .i64 (c : Int))]) ⟨rfl, rfl, rfl, rfl, rfl, rfl, rfl, rfl, trivial⟩, hS, Nat.le_refl _, by omega, (elD_start _ (Nat.le_refl _)).symm⟩ ?_
    clear hS; rintro i _ w7 ⟨fb, Qi, rfl, hS, hi1, hi, hQi⟩
    refine wseq (wseq (wreg (wl rfl (omove (v := .int .i64 (i : Int)) rfl rfl (ev rfl rfl) ?_))))
    refine wl rfl (omove (v := .slice pX n cX) rfl rfl (ev rfl rfl) ?_)
    refine wl rfl (olen rfl rfl rfl Tryd.runUnderlying26 (p := pX) (k := n) (m := cX) (ev rfl rfl) ?_)
    by_cases hli : i < n
    ·
     have si : Shp p n (nums Qi) := by rw [hQi]; exact elD_shp s2 hp0 (by rw [nums_len]; omega) i (by rw [nums_len]; omega)
     have hQin : Qi.length = n := by rw [nums_lenE hQi, elD_len, nums_len]; exact hQ2n
     refine wl rfl (obin (u := .int .i64 (i : Int)) (v := .int .i64 (n : Int)) (z := .bool true) rfl rfl (ev rfl rfl) (ev rfl rfl) (bin_lss (decide_eq_true (by omega))) ?_)
     refine wnil (thenN ?_)
     refine wT (ev rfl rfl) ?_
     refine wskip (thenN (wseq (wblock (wseq (wreg (wl rfl (omove (v := .slice pX n cX) rfl rfl (ev rfl rfl) ?_)))))))
     refine wl rfl (omove (v := .int .i64 (i : Int)) rfl rfl (ev rfl rfl) ?_)
     obtain ⟨⟨pa, ca, xa⟩, hqa⟩ : ∃ q, (Qi)[i]? = some q := ⟨_, List.getElem?_eq_getElem (by omega)⟩
     have hda : (nums (Qi)).getD i [] = xa := getD_get (nums_get hqa)
     obtain ⟨hna, hlta⟩ := si.get (nums_get hqa)
     simp only at hna hlta
     obtain ⟨ga, hga⟩ := hS.mPtr 0 rfl hqa (by show 0 < xa.length; omega)
     obtain ⟨⟨pb, cb, xb⟩, hqb⟩ : ∃ q, (Qi)[c]? = some q := ⟨_, List.getElem?_eq_getElem (by omega)⟩
     have hdb : (nums (Qi)).getD c [] = xb := getD_get (nums_get hqb)
     obtain ⟨hnb, hltb⟩ := si.get (nums_get hqb)
     simp only at hnb hltb
     obtain ⟨gb, hgb⟩ := hS.mPtr 0 rfl hqb (by show 0 < xb.length; omega)
     have hxc9 := nd_lt hlta hp0 (k := c)
     obtain ⟨fv, hfv⟩ : ∃ fv, nd xa c * iv % p = fv := ⟨_, rfl⟩
     have hfvp : fv < p := by rw [← hfv]; exact Nat.mod_lt _ hp0
     refine wl rfl (oindex (p := pX) (g := gm) (off := 0) (m := n) (k := i) (j := (0 + i * 1)) rfl rfl Tryd.runUnderlying26 Tryd.sizeOf52 (ev rfl rfl) (hgm) (ev rfl rfl) (by omega) rfl ?_)
     refine wl rfl (oloadc (v := .slice pa n ca) (show One Tryd.prog 52 from ⟨Tryd.isAgg52, Tryd.sizeOf52⟩) rfl rfl (ev (v := .pointer (some ⟨gm, (0 + i * 1), none⟩)) rfl rfl) (hS.mRow 0 rfl hqa hna hgm) ?_)
     refine wl rfl (omove (v := .int .i64 (c : Int)) rfl rfl (ev rfl rfl) ?_)
     refine wl rfl (oindex (p := pa) (g := ga) (off := 0) (m := n) (k := c) (j := c) rfl rfl Tryd.runUnderlying52 Tryd.sizeOf27 (ev rfl rfl) (hga) (ev rfl rfl) (by omega) (by simp) ?_)
     refine wl rfl (oloadc (v := .int .u32 (((nd xa c : Nat) : Int))) one32 rfl rfl (ev (v := .pointer (some ⟨ga, c, none⟩)) rfl rfl) (hS.mCell 0 rfl hqa hga (by omega)) ?_)
     refine wl rfl (omove (v := .int .u32 (iv : Int)) rfl rfl (ev rfl rfl) ?_)
     refine wl rfl (omove (v := .int .u32 (p : Int)) rfl rfl (ev rfl rfl) ?_)
     refine wl rfl (ocall rfl rfl Tryd.call52 rfl ((show Calls _ _ _ _ (Ret (Is (.int .u32 (fv : Int))) _) from by rw [← hfv]; exact wsmul (by omega) (by omega) hp0 hp2)) (args3 (ev rfl rfl) (ev rfl rfl) (ev rfl rfl)) ?_)
     rintro _ w8 ⟨_, _, rfl, ⟨rfl, rfl⟩, hN⟩
     refine ⟨_, rfl, ?_⟩
     replace hS := hS.news hN; clear hN
     refine wl rfl (oassign (v := .int .u32 (fv : Int)) rfl rfl (ev rfl rfl) ?_)
     refine wnil (thenN (wseq (wreg (wl rfl (omove (v := .slice pX n cX) rfl rfl (ev rfl rfl) ?_)))))
     refine wl rfl (olen rfl rfl rfl Tryd.runUnderlying26 (p := pX) (k := n) (m := cX) (ev rfl rfl) ?_)
     refine wl rfl (omove (v := .int .i64 0) rfl rfl evc ?_)
     refine wnil (thenN (wblock ?_))
     rw [← qmix0 (new := lessR p fv xa xb) hqa] at hS
     refine wloop (σ := Nat) (fun k a9 w' => ∃ (fb : Nat → Value), a9 = act 133 (sets fb [(0, .slice pX n cX), (1, .int .u32 (p : Int)), (5, .int .u32 (((d2 * (nd xs c) % p : Nat) : Int))), (6, .int .i64 (c : Int)), (8, .int .u32 (iv : Int)), (9, .int .i64 (i : Int)), (10, .int .u32 (fv : Int)), (18, .int .i64 (n : Int)), (19, .int .i64 (c : Int)), (101, .int .i64 (n : Int)), (102, .int .i64 (k : Int))]) ∧ Sep w [.lst 52 1 pX n cX (mmE (Qi.set i ⟨pa, ca, mixR (lessR p fv xa xb) xa k⟩))] w' ∧ (k ≤ n)) (fun k => n - k) (0) ⟨_, act_sets (l := [(0, .slice pX n cX), (1, .int .u32 (p : Int)), (5, .int .u32 (((d2 * (nd xs c) % p : Nat) : Int))), (6, .int .i64 (c : Int)), (8, .int .u32 (iv : Int)), (9, .int .i64 (i : Int)), (10, .int .u32 (fv : Int)), (18, .int .i64 (n : Int)), (19, .int .i64 (c : Int)), (101, .int .i64 (n : Int)), (102, .int .i64 0)]) ⟨rfl, rfl, rfl, rfl, rfl, rfl, rfl, rfl, rfl, rfl, rfl, trivial⟩, hS, Nat.zero_le _⟩ ?_
     clear hS; rintro k _ w9 ⟨fb, rfl, hS, hk⟩
     refine wseq (wreg ?_)
     by_cases hlk : k < n
     ·
      have hmx : (mixR (lessR p fv xa xb) xa k).length = n := by rw [mixR_len (lessR_len (by omega)) (by omega)]; exact hna
      have hmk : nd (mixR (lessR p fv xa xb) xa k) k = nd xa k := by rw [mixR_nd (lessR_len (by omega)) (by omega), if_neg (Nat.lt_irrefl _)]
      have hxk := nd_lt hlta hp0 (k := k)
      have hyk := nd_lt hltb hp0 (k := k)
      have hml := Nat.mod_lt (fv * nd xb k) hp0
      refine wl rfl (obin (u := .int .i64 (k : Int)) (v := .int .i64 (n : Int)) (z := .bool true) rfl rfl (ev rfl rfl) (ev rfl rfl) (bin_lss (decide_eq_true (by omega))) ?_)
      refine wnil (thenN (wseq ?_))
      refine wT (ev rfl rfl) ?_
      refine wskip (thenN (wseq (wblock (wseq (wreg (wl rfl (omove (v := .int .i64 (k : Int)) rfl rfl (ev rfl rfl) ?_)))))))
      refine wl rfl (oassign (v := .int .i64 (k : Int)) rfl rfl (ev rfl rfl) ?_)
      refine wnil (thenN ?_)
      refine wstage 25 [105, 106, 107, 108, 109, 110, 111, 112, 113, 114, 115, 116, 117, 118, 119, 120, 121, 122, 123, 124, 125, 126, 127, 128, 129] [[], [], [0, 1], [2, 0, 1], [], [], [], [5, 6], [7, 5, 6], [], [8, 9, 5, 6, 7], [10, 5, 6, 7, 8, 9], [], [], [], [13, 14], [15, 13, 14], [], [16, 17, 13, 14, 15], [18, 13, 14, 15, 16, 17], [], [12, 19, 20, 13, 14, 15, 16, 17, 18], [], [11, 21, 22, 5, 6, 7, 8, 9, 10, 12, 13, 14, 15, 16, 17, 18, 19, 20], [3, 4, 0, 1, 2, 5, 6, 7, 8, 9, 10, 11, 12, 13, 14, 15, 16, 17, 18, 19, 20, 21, 22, 23]] [[], [], [], [], [], [], [], [], [], [], [], [], [], [], [], [], [], [], [], [], [], [], [], [], []] [] [] (fun i9 => ([fun _ => Is (.slice pX n cX), fun _ => Is (.int .i64 (i : Int)), fun _ => Is (.pointer (some ⟨gm, (0 + i * 1), none⟩)), fun _ => Is (.slice pa n ca), fun _ => Is (.int .i64 (k : Int)), fun _ => Is (.slice pX n cX), fun _ => Is (.int .i64 (i : Int)), fun _ => Is (.pointer (some ⟨gm, (0 + i * 1), none⟩)), fun _ => Is (.slice pa n ca), fun _ => Is (.int .i64 (k : Int)), fun _ => Is (.pointer (some ⟨ga, k, none⟩)), fun _ => Is (.int .u32 (((nd (mixR (lessR p fv xa xb) xa k) k : Nat) : Int))), fun _ => Is (.int .u32 (fv : Int)), fun _ => Is (.slice pX n cX), fun _ => Is (.int .i64 (c : Int)), fun _ => Is (.pointer (some ⟨gm, (0 + c * 1), none⟩)), fun _ => Is (.slice pb n cb), fun _ => Is (.int .i64 (k : Int)), fun _ => Is (.pointer (some ⟨gb, k, none⟩)), fun _ => Is (.int .u32 (((nd xb k : Nat) : Int))), fun _ => Is (.int .u32 (p : Int)), fun _ => Is (.int .u32 (((fv * (nd xb k) % p : Nat) : Int))), fun _ => Is (.int .u32 (p : Int)), fun _ => Is (.int .u32 (((((nd (mixR (lessR p fv xa xb) xa k) k) + p - (fv * (nd xb k) % p)) % p : Nat) : Int))), fun _ => Is (.pointer (some ⟨ga, k, none⟩))] : List (List Value → Tell)).getD i9 (fun _ _ _ => False)) (heldNil) (fun d _ _ _ _ h => (by cases d <;> exact h)) (by kernel_rfl) (by kernel_rfl) (by kernel_rfl) hS ?_ ?_
      ·
       refine stepsCons rfl (fun Q f' w' ρ S ho hT hS hB => ?_) ?_
       ·exact .inl ⟨want_none rfl, omove (v := .slice pX n cX) rfl rfl (ev rfl (ho 0 rfl)) ⟨_, _, rfl, isI, New.same _⟩⟩
       refine stepsCons rfl (fun Q f' w' ρ S ho hT hS hB => ?_) ?_
       ·exact .inl ⟨want_none rfl, omove (v := .int .i64 (i : Int)) rfl rfl (ev rfl (ho 9 rfl)) ⟨_, _, rfl, isI, New.same _⟩⟩
       refine stepsCons rfl (fun Q f' w' ρ S ho hT hS hB => ?_) ?_
       ·obtain ⟨hv0, hr0⟩ := (hT 0 105 rfl rfl : (Is (.slice pX n cX)) _ _)
        obtain ⟨hv1, hr1⟩ := (hT 1 106 rfl rfl : (Is (.int .i64 (((i : Nat) : Int)))) _ _)
        obtain hS := hS.flat2 hr0 hr1
        exact .inl ⟨want_none rfl, oindex (p := pX) (g := gm) (off := 0) (m := n) (k := i) (j := (0 + i * 1)) rfl rfl Tryd.runUnderlying26 Tryd.sizeOf52 (ev rfl hv0) (hgm) (ev rfl hv1) (by omega) rfl ⟨_, _, rfl, isI, New.same _⟩⟩
       refine stepsCons rfl (fun Q f' w' ρ S ho hT hS hB => ?_) ?_
       ·obtain ⟨hv2, hr2⟩ := (hT 2 107 rfl rfl : (Is (.pointer (some ⟨gm, (0 + i * 1), none⟩))) _ _)
        obtain hS := hS.flat1 hr2
        exact .inl ⟨want_none rfl, oloadc (v := .slice pa n ca) (show One Tryd.prog 52 from ⟨Tryd.isAgg52, Tryd.sizeOf52⟩) rfl rfl (ev (v := .pointer (some ⟨gm, (0 + i * 1), none⟩)) rfl hv2) (hS.mRow 0 rfl (qset_self hqa) hmx hgm) ⟨_, _, rfl, isI, New.same _⟩⟩
       refine stepsCons rfl (fun Q f' w' ρ S ho hT hS hB => ?_) ?_
       ·exact .inl ⟨want_none rfl, omove (v := .int .i64 (k : Int)) rfl rfl (ev rfl (ho 11 rfl)) ⟨_, _, rfl, isI, New.same _⟩⟩
       refine stepsCons rfl (fun Q f' w' ρ S ho hT hS hB => ?_) ?_
       ·exact .inl ⟨want_none rfl, omove (v := .slice pX n cX) rfl rfl (ev rfl (ho 0 rfl)) ⟨_, _, rfl, isI, New.same _⟩⟩
       refine stepsCons rfl (fun Q f' w' ρ S ho hT hS hB => ?_) ?_
       ·exact .inl ⟨want_none rfl, omove (v := .int .i64 (i : Int)) rfl rfl (ev rfl (ho 9 rfl)) ⟨_, _, rfl, isI, New.same _⟩⟩
       refine stepsCons rfl (fun Q f' w' ρ S ho hT hS hB => ?_) ?_
       ·obtain ⟨hv5, hr5⟩ := (hT 5 110 rfl rfl : (Is (.slice pX n cX)) _ _)
        obtain ⟨hv6, hr6⟩ := (hT 6 111 rfl rfl : (Is (.int .i64 (((i : Nat) : Int)))) _ _)
        obtain hS := hS.flat2 hr5 hr6
        exact .inl ⟨want_none rfl, oindex (p := pX) (g := gm) (off := 0) (m := n) (k := i) (j := (0 + i * 1)) rfl rfl Tryd.runUnderlying26 Tryd.sizeOf52 (ev rfl hv5) (hgm) (ev rfl hv6) (by omega) rfl ⟨_, _, rfl, isI, New.same _⟩⟩
       refine stepsCons rfl (fun Q f' w' ρ S ho hT hS hB => ?_) ?_
       ·obtain ⟨hv7, hr7⟩ := (hT 7 112 rfl rfl : (Is (.pointer (some ⟨gm, (0 + i * 1), none⟩))) _ _)
        obtain hS := hS.flat1 hr7
        exact .inl ⟨want_none rfl, oloadc (v := .slice pa n ca) (show One Tryd.prog 52 from ⟨Tryd.isAgg52, Tryd.sizeOf52⟩) rfl rfl (ev (v := .pointer (some ⟨gm, (0 + i * 1), none⟩)) rfl hv7) (hS.mRow 0 rfl (qset_self hqa) hmx hgm) ⟨_, _, rfl, isI, New.same _⟩⟩
       refine stepsCons rfl (fun Q f' w' ρ S ho hT hS hB => ?_) ?_
       ·exact .inl ⟨want_none rfl, omove (v := .int .i64 (k : Int)) rfl rfl (ev rfl (ho 11 rfl)) ⟨_, _, rfl, isI, New.same _⟩⟩
       refine stepsCons rfl (fun Q f' w' ρ S ho hT hS hB => ?_) ?_
       ·obtain ⟨hv8, hr8⟩ := (hT 8 113 rfl rfl : (Is (.slice pa n ca)) _ _)
        obtain ⟨hv9, hr9⟩ := (hT 9 114 rfl rfl : (Is (.int .i64 (((k : Nat) : Int)))) _ _)
        obtain hS := hS.flat2 hr8 hr9
        exact .inl ⟨want_none rfl, oindex (p := pa) (g := ga) (off := 0) (m := n) (k := k) (j := k) rfl rfl Tryd.runUnderlying52 Tryd.sizeOf27 (ev rfl hv8) (hga) (ev rfl hv9) (by omega) (by simp) ⟨_, _, rfl, isI, New.same _⟩⟩
       refine stepsCons rfl (fun Q f' w' ρ S ho hT hS hB => ?_) ?_
       ·obtain ⟨hv10, hr10⟩ := (hT 10 115 rfl rfl : (Is (.pointer (some ⟨ga, k, none⟩))) _ _)
        obtain hS := hS.flat1 hr10
        exact .inl ⟨want_none rfl, oloadc (v := .int .u32 (((nd (mixR (lessR p fv xa xb) xa k) k : Nat) : Int))) one32 rfl rfl (ev (v := .pointer (some ⟨ga, k, none⟩)) rfl hv10) (hS.mCell 0 rfl (qset_self hqa) hga (by omega)) ⟨_, _, rfl, isI, New.same _⟩⟩
       refine stepsCons rfl (fun Q f' w' ρ S ho hT hS hB => ?_) ?_
       ·exact .inl ⟨want_none rfl, omove (v := .int .u32 (fv : Int)) rfl rfl (ev rfl (ho 10 rfl)) ⟨_, _, rfl, isI, New.same _⟩⟩
       refine stepsCons rfl (fun Q f' w' ρ S ho hT hS hB => ?_) ?_
       ·exact .inl ⟨want_none rfl, omove (v := .slice pX n cX) rfl rfl (ev rfl (ho 0 rfl)) ⟨_, _, rfl, isI, New.same _⟩⟩
       refine stepsCons rfl (fun Q f' w' ρ S ho hT hS hB => ?_) ?_
       ·exact .inl ⟨want_none rfl, omove (v := .int .i64 (c : Int)) rfl rfl (ev rfl (ho 6 rfl)) ⟨_, _, rfl, isI, New.same _⟩⟩
       refine stepsCons rfl (fun Q f' w' ρ S ho hT hS hB => ?_) ?_
       ·obtain ⟨hv13, hr13⟩ := (hT 13 118 rfl rfl : (Is (.slice pX n cX)) _ _)
        obtain ⟨hv14, hr14⟩ := (hT 14 119 rfl rfl : (Is (.int .i64 (((c : Nat) : Int)))) _ _)
        obtain hS := hS.flat2 hr13 hr14
        exact .inl ⟨want_none rfl, oindex (p := pX) (g := gm) (off := 0) (m := n) (k := c) (j := (0 + c * 1)) rfl rfl Tryd.runUnderlying26 Tryd.sizeOf52 (ev rfl hv13) (hgm) (ev rfl hv14) (by omega) rfl ⟨_, _, rfl, isI, New.same _⟩⟩
       refine stepsCons rfl (fun Q f' w' ρ S ho hT hS hB => ?_) ?_
       ·obtain ⟨hv15, hr15⟩ := (hT 15 120 rfl rfl : (Is (.pointer (some ⟨gm, (0 + c * 1), none⟩))) _ _)
        obtain hS := hS.flat1 hr15
        exact .inl ⟨want_none rfl, oloadc (v := .slice pb n cb) (show One Tryd.prog 52 from ⟨Tryd.isAgg52, Tryd.sizeOf52⟩) rfl rfl (ev (v := .pointer (some ⟨gm, (0 + c * 1), none⟩)) rfl hv15) (hS.mRow 0 rfl ((List.getElem?_set_ne (by omega)).trans hqb) hnb hgm) ⟨_, _, rfl, isI, New.same _⟩⟩
       refine stepsCons rfl (fun Q f' w' ρ S ho hT hS hB => ?_) ?_
       ·exact .inl ⟨want_none rfl, omove (v := .int .i64 (k : Int)) rfl rfl (ev rfl (ho 11 rfl)) ⟨_, _, rfl, isI, New.same _⟩⟩
       refine stepsCons rfl (fun Q f' w' ρ S ho hT hS hB => ?_) ?_
       ·obtain ⟨hv16, hr16⟩ := (hT 16 121 rfl rfl : (Is (.slice pb n cb)) _ _)
        obtain ⟨hv17, hr17⟩ := (hT 17 122 rfl rfl : (Is (.int .i64 (((k : Nat) : Int)))) _ _)
        obtain hS := hS.flat2 hr16 hr17
        exact .inl ⟨want_none rfl, oindex (p := pb) (g := gb) (off := 0) (m := n) (k := k) (j := k) rfl rfl Tryd.runUnderlying52 Tryd.sizeOf27 (ev rfl hv16) (hgb) (ev rfl hv17) (by omega) (by simp) ⟨_, _, rfl, isI, New.same _⟩⟩
       refine stepsCons rfl (fun Q f' w' ρ S ho hT hS hB => ?_) ?_
       ·obtain ⟨hv18, hr18⟩ := (hT 18 123 rfl rfl : (Is (.pointer (some ⟨gb, k, none⟩))) _ _)
        obtain hS := hS.flat1 hr18
        exact .inl ⟨want_none rfl, oloadc (v := .int .u32 (((nd xb k : Nat) : Int))) one32 rfl rfl (ev (v := .pointer (some ⟨gb, k, none⟩)) rfl hv18) (hS.mCell 0 rfl ((List.getElem?_set_ne (by omega)).trans hqb) hgb (by omega)) ⟨_, _, rfl, isI, New.same _⟩⟩
       refine stepsCons rfl (fun Q f' w' ρ S ho hT hS hB => ?_) ?_
       ·exact .inl ⟨want_none rfl, omove (v := .int .u32 (p : Int)) rfl rfl (ev rfl (ho 1 rfl)) ⟨_, _, rfl, isI, New.same _⟩⟩
       refine stepsCons rfl (fun Q f' w' ρ S ho hT hS hB => ?_) ?_
       ·obtain ⟨hv12, hr12⟩ := (hT 12 117 rfl rfl : (Is (.int .u32 (((fv : Nat) : Int)))) _ _)
        obtain ⟨hv19, hr19⟩ := (hT 19 124 rfl rfl : (Is (.int .u32 (((nd xb k : Nat) : Int)))) _ _)
        obtain ⟨hv20, hr20⟩ := (hT 20 125 rfl rfl : (Is (.int .u32 (((p : Nat) : Int)))) _ _)
        obtain hS := hS.flat3 hr12 hr19 hr20
        exact .inl ⟨want_none rfl, ocall rfl rfl Tryd.call52 rfl (wsmul (a := fv) (b := (nd xb k)) (n := p) (by omega) (by omega) hp0 hp2) (args3 (ev rfl hv12) (ev rfl hv19) (ev rfl hv20)) callN⟩
       refine stepsCons rfl (fun Q f' w' ρ S ho hT hS hB => ?_) ?_
       ·exact .inl ⟨want_none rfl, omove (v := .int .u32 (p : Int)) rfl rfl (ev rfl (ho 1 rfl)) ⟨_, _, rfl, isI, New.same _⟩⟩
       refine stepsCons rfl (fun Q f' w' ρ S ho hT hS hB => ?_) ?_
       ·obtain ⟨hv11, hr11⟩ := (hT 11 116 rfl rfl : (Is (.int .u32 (((nd (mixR (lessR p fv xa xb) xa k) k : Nat) : Int)))) _ _)
        obtain ⟨hv21, hr21⟩ := (hT 21 126 rfl rfl : (Is (.int .u32 (((fv * (nd xb k) % p : Nat) : Int)))) _ _)
        obtain ⟨hv22, hr22⟩ := (hT 22 127 rfl rfl : (Is (.int .u32 (((p : Nat) : Int)))) _ _)
        obtain hS := hS.flat3 hr11 hr21 hr22
        exact .inl ⟨want_none rfl, ocall rfl rfl Tryd.call51 rfl (wrsub (a := (nd (mixR (lessR p fv xa xb) xa k) k)) (b := (fv * (nd xb k) % p)) (p := p) hp0 hp2 (by omega) (by omega)) (args3 (ev rfl hv11) (ev rfl hv21) (ev rfl hv22)) callN⟩
       refine stepsCons rfl (fun Q f' w' ρ S ho hT hS hB => ?_) ?_
       ·obtain ⟨hv3, hr3⟩ := (hT 3 108 rfl rfl : (Is (.slice pa n ca)) _ _)
        obtain ⟨hv4, hr4⟩ := (hT 4 109 rfl rfl : (Is (.int .i64 (((k : Nat) : Int)))) _ _)
        obtain hS := hS.flat2 hr3 hr4
        exact .inl ⟨want_none rfl, oindex (p := pa) (g := ga) (off := 0) (m := n) (k := k) (j := k) rfl rfl Tryd.runUnderlying52 Tryd.sizeOf27 (ev rfl hv3) (hga) (ev rfl hv4) (by omega) (by simp) ⟨_, _, rfl, isI, New.same _⟩⟩
       exact stepsNil
      ·
       intro vs ρ w10 f' hf hT hS
       obtain ⟨hv0, hr0⟩ := (hT 0 (by decide) : (Is (.slice pX n cX)) _ _)
       obtain ⟨hv1, hr1⟩ := (hT 1 (by decide) : (Is (.int .i64 (((i : Nat) : Int)))) _ _)
       obtain ⟨hv2, hr2⟩ := (hT 2 (by decide) : (Is (.pointer (some ⟨gm, (0 + i * 1), none⟩))) _ _)
       obtain ⟨hv3, hr3⟩ := (hT 3 (by decide) : (Is (.slice pa n ca)) _ _)
       obtain ⟨hv4, hr4⟩ := (hT 4 (by decide) : (Is (.int .i64 (((k : Nat) : Int)))) _ _)
       obtain ⟨hv5, hr5⟩ := (hT 5 (by decide) : (Is (.slice pX n cX)) _ _)
       obtain ⟨hv6, hr6⟩ := (hT 6 (by decide) : (Is (.int .i64 (((i : Nat) : Int)))) _ _)
       obtain ⟨hv7, hr7⟩ := (hT 7 (by decide) : (Is (.pointer (some ⟨gm, (0 + i * 1), none⟩))) _ _)
       obtain ⟨hv8, hr8⟩ := (hT 8 (by decide) : (Is (.slice pa n ca)) _ _)
       obtain ⟨hv9, hr9⟩ := (hT 9 (by decide) : (Is (.int .i64 (((k : Nat) : Int)))) _ _)
       obtain ⟨hv10, hr10⟩ := (hT 10 (by decide) : (Is (.pointer (some ⟨ga, k, none⟩))) _ _)
       obtain ⟨hv11, hr11⟩ := (hT 11 (by decide) : (Is (.int .u32 (((nd (mixR (lessR p fv xa xb) xa k) k : Nat) : Int)))) _ _)
       obtain ⟨hv12, hr12⟩ := (hT 12 (by decide) : (Is (.int .u32 (((fv : Nat) : Int)))) _ _)
       obtain ⟨hv13, hr13⟩ := (hT 13 (by decide) : (Is (.slice pX n cX)) _ _)
       obtain ⟨hv14, hr14⟩ := (hT 14 (by decide) : (Is (.int .i64 (((c : Nat) : Int)))) _ _)
       obtain ⟨hv15, hr15⟩ := (hT 15 (by decide) : (Is (.pointer (some ⟨gm, (0 + c * 1), none⟩))) _ _)
       obtain ⟨hv16, hr16⟩ := (hT 16 (by decide) : (Is (.slice pb n cb)) _ _)
       obtain ⟨hv17, hr17⟩ := (hT 17 (by decide) : (Is (.int .i64 (((k : Nat) : Int)))) _ _)
       obtain ⟨hv18, hr18⟩ := (hT 18 (by decide) : (Is (.pointer (some ⟨gb, k, none⟩))) _ _)
       obtain ⟨hv19, hr19⟩ := (hT 19 (by decide) : (Is (.int .u32 (((nd xb k : Nat) : Int)))) _ _)
       obtain ⟨hv20, hr20⟩ := (hT 20 (by decide) : (Is (.int .u32 (((p : Nat) : Int)))) _ _)
       obtain ⟨hv21, hr21⟩ := (hT 21 (by decide) : (Is (.int .u32 (((fv * (nd xb k) % p : Nat) : Int)))) _ _)
       obtain ⟨hv22, hr22⟩ := (hT 22 (by decide) : (Is (.int .u32 (((p : Nat) : Int)))) _ _)
       obtain ⟨hv23, hr23⟩ := (hT 23 (by decide) : (Is (.int .u32 (((((nd (mixR (lessR p fv xa xb) xa k) k) + p - (fv * (nd xb k) % p)) % p : Nat) : Int)))) _ _)
       obtain ⟨hv24, hr24⟩ := (hT 24 (by decide) : (Is (.pointer (some ⟨ga, k, none⟩))) _ _)
       simp only [pool, if_true, hr0, hr1, hr2, hr3, hr4, hr5, hr6, hr7, hr8, hr9, hr10, hr11, hr12, hr13, hr14, hr15, hr16, hr17, hr18, hr19, hr20, hr21, hr22, hr23, hr24, List.nil_append, List.cons_append, List.append_nil] at hS
       simp only [layf, hv0, hv1, hv2, hv3, hv4, hv5, hv6, hv7, hv8, hv9, hv10, hv11, hv12, hv13, hv14, hv15, hv16, hv17, hv18, hv19, hv20, hv21, hv22, hv23, hv24] at hf
       subst hf; clear hT hv0 hv1 hv2 hv3 hv4 hv5 hv6 hv7 hv8 hv9 hv10 hv11 hv12 hv13 hv14 hv15 hv16 hv17 hv18 hv19 hv20 hv21 hv22 hv23 hv24 hr0 hr1 hr2 hr3 hr4 hr5 hr6 hr7 hr8 hr9 hr10 hr11 hr12 hr13 hr14 hr15 hr16 hr17 hr18 hr19 hr20 hr21 hr22 hr23 hr24
       refine wlate 25 rfl (by kernel_rfl) (ostoreM (i := i) (g := ga) (k := k) (u := (((nd (mixR (lessR p fv xa xb) xa k) k) + p - (fv * (nd xb k) % p)) % p)) Tryd.sizeOf27 hS rfl rfl (ev (v := .pointer (some ⟨ga, k, none⟩)) rfl rfl) (ev (v := .int .u32 (((((nd (mixR (lessR p fv xa xb) xa k) k) + p - (fv * (nd xb k) % p)) % p : Nat) : Int))) rfl rfl) (qset_self hqa) hga (show k < List.length (mixR (lessR p fv xa xb) xa k) by omega) (by have := Nat.mod_lt (nd (mixR (lessR p fv xa xb) xa k) k + p - fv * nd xb k % p) hp0; omega) ?_)
       clear hS; intro w11 hS
       refine ⟨heldNil, ?_⟩
       refine wdone rfl ?_
       refine blkN (thenN (wreg (wl rfl (obin (u := .int .i64 (k : Int)) (v := .int .i64 1) (z := .int .i64 (((k + 1 : Nat) : Int))) rfl rfl (ev rfl rfl) evc (bin_add (wrap_i64 (by omega) (by omega))) ?_))))
       refine wl rfl (omove (v := .int .i64 (((k + 1 : Nat) : Int))) rfl rfl (ev rfl rfl) ?_)
       refine wnil (thenN ?_)
       rw [qmix_next (lessR_len (by omega)) (by omega) (by rw [lessR_nd (by omega) (by omega), hmk])] at hS
       exact ⟨(k + 1), ⟨_, act_sets (l := [(0, .slice pX n cX), (1, .int .u32 (p : Int)), (5, .int .u32 (((d2 * (nd xs c) % p : Nat) : Int))), (6, .int .i64 (c : Int)), (8, .int .u32 (iv : Int)), (9, .int .i64 (i : Int)), (10, .int .u32 (fv : Int)), (18, .int .i64 (n : Int)), (19, .int .i64 (c : Int)), (101, .int .i64 (n : Int)), (102, .int .i64 (((k + 1 : Nat) : Int)))]) ⟨rfl, rfl, rfl, rfl, rfl, rfl, rfl, rfl, rfl, rfl, rfl, trivial⟩, hS.pick [0] (by decide) rfl, by omega⟩, by omega⟩
     ·
      refine wl rfl (obin (u := .int .i64 (k : Int)) (v := .int .i64 (n : Int)) (z := .bool false) rfl rfl (ev rfl rfl) (ev rfl rfl) (bin_lss (decide_eq_false (by omega))) ?_)
      refine wnil (thenN (wseq ?_))
      refine wF (ev rfl rfl) ?_
      refine wexit ?_
      refine thenE ?_
      refine thenE ?_
      refine blkE ?_
      refine blkN (thenN (wreg (wl rfl (omove (v := .int .i64 (i : Int)) rfl rfl (ev rfl rfl) ?_))))
      rw [mixR_full (lessR_len (by omega)) (by omega)] at hS
      refine wl rfl (obin (u := .int .i64 (i : Int)) (v := .int .i64 1) (z := .int .i64 (((i + 1 : Nat) : Int))) rfl rfl (ev rfl rfl) evc (bin_add (wrap_i64 (by omega) (by omega))) ?_)
      refine wl rfl (oassign (v := .int .i64 (((i + 1 : Nat) : Int))) rfl rfl (ev rfl rfl) ?_)
      refine wnil (thenN ?_)
      exact ⟨(i + 1), ⟨_, _, act_sets (l := [(0, .slice pX n cX), (1, .int .u32 (p : Int)), (5, .int .u32 (((d2 * (nd xs c) % p : Nat) : Int))), (6, .int .i64 (c : Int)), (8, .int .u32 (iv : Int)), (9, .int .i64 (((i + 1 : Nat) : Int))), (18, .int .i64 (n : Int)), (19, .int .i64 (c : Int))]) ⟨rfl, rfl, rfl, rfl, rfl, rfl, rfl, rfl, trivial⟩, hS.pick [0] (by decide) rfl, by omega, by omega, by rw [nums_set, elD_next (by omega), ← hQi, hda, hdb, hfv]⟩, by omega⟩
    ·
     refine wl rfl (obin (u := .int .i64 (i : Int)) (v := .int .i64 (n : Int)) (z := .bool false) rfl rfl (ev rfl rfl) (ev rfl rfl) (bin_lss (decide_eq_false (by omega))) ?_)
     refine wnil (thenN ?_)
     refine wF (ev rfl rfl) ?_
     refine wexit ?_
     refine thenE ?_
     refine thenE ?_
     refine blkE ?_
     refine blkN (thenN (wreg ?_))
     have hin : i = n := by omega
     refine wl rfl (obin (u := .int .i64 (c : Int)) (v := .int .i64 1) (z := .int .i64 (((c + 1 : Nat) : Int))) rfl rfl (ev rfl rfl) evc (bin_add (wrap_i64 (by omega) (by omega))) ?_)
     refine wl rfl (omove (v := .int .i64 (((c + 1 : Nat) : Int))) rfl rfl (ev rfl rfl) ?_)
     refine wnil (thenN ?_)
     exact ⟨(c + 1), ⟨_, _, _, act_sets (l := [(0, .slice pX n cX), (1, .int .u32 (p : Int)), (5, .int .u32 (((d2 * (nd xs c) % p : Nat) : Int))), (18, .int .i64 (n : Int)), (19, .int .i64 (((c + 1 : Nat) : Int)))]) ⟨rfl, rfl, rfl, rfl, rfl, trivial⟩, hS.pick [0] (by decide) rfl, by omega, by rw [hQi]; exact elD_shp s2 hp0 (by rw [nums_len]; omega) i (by rw [nums_len]; omega), k1, by rw [hQi, hin]; exact k3, by rw [hQi, elD_len, nums_len]; exact hQ2n, by rw [k2, hd2, hd], Nat.mod_lt _ hp0⟩, by omega⟩
  ·
   have hdet0 := det_dead hp hsh hMl hlt hP hag (fun l h1 h2 => hz l h1 (by omega))
   refine wl rfl (obin (u := .int .i64 (r : Int)) (v := .int .i64 (n : Int)) (z := .bool false) rfl rfl (ev rfl rfl) (ev rfl rfl) (bin_lss (decide_eq_false (by omega))) ?_)
   refine wl rfl (omove (v := .bool false) rfl rfl (ev rfl rfl) ?_)
   refine wlOff (e := 27) (d := 28) (b' := false) rfl rfl rfl rfl rfl rfl ?_
   refine wlOff (e := 27) (d := 29) (b' := false) rfl rfl rfl rfl rfl rfl ?_
   refine wlOff (e := 27) (d := 30) (b' := false) rfl rfl rfl rfl rfl rfl ?_
   refine wlOff (e := 27) (d := 31) (b' := false) rfl rfl rfl rfl rfl rfl ?_
   refine wlOff (e := 27) (d := 32) (b' := false) rfl rfl rfl rfl rfl rfl ?_
   refine wlOff (e := 27) (d := 33) (b' := false) rfl rfl rfl rfl rfl rfl ?_
   refine wlOff (e := 27) (d := 34) (b' := false) rfl rfl rfl rfl rfl rfl ?_
   refine wlOff (e := 27) (d := 35) (b' := false) rfl rfl rfl rfl rfl rfl ?_
   refine wl rfl (opick (b := false) (v := .bool false) rfl rfl (ev rfl rfl) evc ?_)
   refine wnil (thenN ?_)
   refine wF (ev rfl rfl) ?_
   refine wexit ?_
   refine thenE ?_
   refine thenE ?_
   refine blkE ?_
   refine thenN (wseq (wseq (wreg (wl rfl (omove (v := .int .i64 (r : Int)) rfl rfl (ev rfl rfl) ?_)))))
   refine wl rfl (omove (v := .slice pX n cX) rfl rfl (ev rfl rfl) ?_)
   refine wl rfl (olen rfl rfl rfl Tryd.runUnderlying26 (p := pX) (k := n) (m := cX) (ev rfl rfl) ?_)
   refine wl rfl (obin (u := .int .i64 (r : Int)) (v := .int .i64 (n : Int)) (z := .bool true) rfl rfl (ev rfl rfl) (ev rfl rfl) (bin_eql (eqT (by omega))) ?_)
   refine wnil (thenN ?_)
   refine wT (ev rfl rfl) ?_
   refine wseq (wreg (wl rfl (oassign (v := .int .u32 0) rfl rfl evc ?_)))
   refine wnil (thenN ?_)
   refine wleave ?_
   refine thenR ?_
   refine blkR ?_
   refine thenR ?_
   refine thenR ?_
   refine blkR ?_
   refine thenR ?_
   refine wret1 Tryd.results30 (tellT (v := .int .u32 0) rfl rfl) ?_
   exact ⟨_, _, rfl, ⟨by rw [hdet0]; rfl, rfl⟩, hS.new0⟩
 ·
  refine wl rfl (obin (u := .int .i64 (c : Int)) (v := .int .i64 (n : Int)) (z := .bool false) rfl rfl (ev rfl rfl) (ev rfl rfl) (bin_lss (decide_eq_false (by omega))) ?_)
  refine wnil (thenN (wseq ?_))
  refine wF (ev rfl rfl) ?_
  refine wexit ?_
  refine thenE ?_
  refine thenE ?_
  refine blkE ?_
  refine thenN (wseq (wreg (wl rfl (omove (v := .int .u32 (d : Int)) rfl rfl (ev rfl rfl) ?_))))
  refine wl rfl (oassign (v := .int .u32 (d : Int)) rfl rfl (ev rfl rfl) ?_)
  refine wnil (thenN ?_)
  refine wleave ?_
  have hcn : c = n := by omega
  refine wret1 Tryd.results30 (tellT (v := .int .u32 (d : Int)) rfl rfl) ?_
  exact ⟨_, _, rfl, ⟨by rw [hd, hcn], rfl⟩, hS.new0⟩
end Go.Proofs.YtndilfigdbenoaaDoor
