/-
  Contracts and lemmas, joined in one text.
-/
import Derived.Test.YtndilfigdbenoaaDoorCB
import Derived.Test.YtndilfigdbenoaaDoorMmA
import Derived.Test.YtndilfigdbenoaaDoorPrime
import Derived.Test.YtndilfigdbenoaaDoorCA
set_option linter.unusedVariables false
set_option linter.unusedSimpArgs false
/-
  modmat's small functions, and how it reads.
-/
set_option maxRecDepth 100000
set_option maxHeartbeats 16000000
namespace Go.Proofs.YtndilfigdbenoaaDoor
open Go.RowKit
theorem wxmul {p n c k a b : Nat} {pp : Option Addr} {w : World} (hp0 : 0 < p) (hp2 : p < 4294967296) (ha : a < 4294967296) (hb : b < 4294967296) :
  Calls Tryd.prog 63 #[.agg #[.int .u64 ((p : Nat) : Int), .slice pp n c, .int .i64 ((k : Nat) : Int)], .int .u32 ((a : Nat) : Int), .int .u32 ((b : Nat) : Int)] w (Ret (Is (.int .u32 ((a * b % p : Nat) : Int))) w) := by
 have hm := mod_lt32 (a := a * b) hp0 hp2
 have hS := Sep.init w
 refine went Tryd.func63 rfl (n := 16) rfl rfl ?_
 refine wseq (wreg (wl rfl (obox [.int .u64 (p : Int), .slice pp n c, .int .i64 (k : Int)] hS rfl rfl (ev (v := .agg #[.int .u64 (p : Int), .slice pp n c, .int .i64 (k : Int)]) rfl rfl) rfl ?_)))
 clear hS; intro g1 w2 hS
 refine wl rfl (oassign (v := .int .u32 0) rfl rfl evc ?_)
 refine wnil (thenN (wseq (wreg (wl rfl (omove (v := .int .u32 (a : Int)) rfl rfl (ev rfl rfl) ?_)))))
 refine wl rfl (oconvert (u := .int .u32 (a : Int)) (v := .int .u64 (a : Int)) rfl rfl (ev rfl rfl) (convert_int Tryd.runUnderlying27 Tryd.runUnderlying47 (wrap_u64 (by omega) (by omega))) ?_)
 refine wl rfl (omove (v := .int .u32 (b : Int)) rfl rfl (ev rfl rfl) ?_)
 refine wl rfl (oconvert (u := .int .u32 (b : Int)) (v := .int .u64 (b : Int)) rfl rfl (ev rfl rfl) (convert_int Tryd.runUnderlying27 Tryd.runUnderlying47 (wrap_u64 (by omega) (by omega))) ?_)
 refine wl rfl (obin (u := .int .u64 (a : Int)) (v := .int .u64 (b : Int)) (z := .int .u64 (((a * b : Nat) : Int))) rfl rfl (ev rfl rfl) (ev rfl rfl) (bin_mul (mul_u64 ha hb)) ?_)
 refine wl rfl (ofieldAddr (g := g1) (off := 0) 0 rfl rfl (ev rfl rfl) Tryd.runUnderlying63 rfl Tryd.sizeOf47 rfl ?_)
 refine wl rfl (oload1 (v := .int .u64 (p : Int)) (show One Tryd.prog 47 from ⟨Tryd.isAgg47, Tryd.sizeOf47⟩) hS 0 rfl rfl (ev rfl rfl) rfl rfl ?_)
 refine wl rfl (obin (u := .int .u64 (((a * b : Nat) : Int))) (v := .int .u64 (p : Int)) (z := .int .u64 (((a * b % p : Nat) : Int))) rfl rfl (ev rfl rfl) (ev rfl rfl) (bin_rem (by omega) rfl) ?_)
 refine wl rfl (oconvert (u := .int .u64 (((a * b % p : Nat) : Int))) (v := .int .u32 (((a * b % p : Nat) : Int))) rfl rfl (ev rfl rfl) (convert_int Tryd.runUnderlying47 Tryd.runUnderlying27 (wrap_u32 (by omega) (by omega))) ?_)
 refine wl rfl (oassign (v := .int .u32 (((a * b % p : Nat) : Int))) rfl rfl (ev rfl rfl) ?_)
 refine wnil (thenN ?_)
 refine wleave ?_
 refine wret1 Tryd.results63 (tellT (v := .int .u32 (((a * b % p : Nat) : Int))) rfl rfl) ?_
 exact ⟨_, _, rfl, isI, hS.new0⟩
theorem wxadd {p n c k a b : Nat} {pp : Option Addr} {w : World} (hp0 : 0 < p) (hp2 : p < 4294967296) (ha : a < 4294967296) (hb : b < 4294967296) :
  Calls Tryd.prog 48 #[.agg #[.int .u64 ((p : Nat) : Int), .slice pp n c, .int .i64 ((k : Nat) : Int)], .int .u32 ((a : Nat) : Int), .int .u32 ((b : Nat) : Int)] w (Ret (Is (.int .u32 (((a + b) % p : Nat) : Int))) w) := by
 have hm := mod_lt32 (a := (a + b)) hp0 hp2
 have hS := Sep.init w
 refine went Tryd.func48 rfl (n := 16) rfl rfl ?_
 refine wseq (wreg (wl rfl (obox [.int .u64 (p : Int), .slice pp n c, .int .i64 (k : Int)] hS rfl rfl (ev (v := .agg #[.int .u64 (p : Int), .slice pp n c, .int .i64 (k : Int)]) rfl rfl) rfl ?_)))
 clear hS; intro g1 w2 hS
 refine wl rfl (oassign (v := .int .u32 0) rfl rfl evc ?_)
 refine wnil (thenN (wseq (wreg (wl rfl (omove (v := .int .u32 (a : Int)) rfl rfl (ev rfl rfl) ?_)))))
 refine wl rfl (oconvert (u := .int .u32 (a : Int)) (v := .int .u64 (a : Int)) rfl rfl (ev rfl rfl) (convert_int Tryd.runUnderlying27 Tryd.runUnderlying47 (wrap_u64 (by omega) (by omega))) ?_)
 refine wl rfl (omove (v := .int .u32 (b : Int)) rfl rfl (ev rfl rfl) ?_)
 refine wl rfl (oconvert (u := .int .u32 (b : Int)) (v := .int .u64 (b : Int)) rfl rfl (ev rfl rfl) (convert_int Tryd.runUnderlying27 Tryd.runUnderlying47 (wrap_u64 (by omega) (by omega))) ?_)
 refine wl rfl (obin (u := .int .u64 (a : Int)) (v := .int .u64 (b : Int)) (z := .int .u64 (((a + b : Nat) : Int))) rfl rfl (ev rfl rfl) (ev rfl rfl) (bin_add (wrap_u64 (by omega) (by omega))) ?_)
 refine wl rfl (ofieldAddr (g := g1) (off := 0) 0 rfl rfl (ev rfl rfl) Tryd.runUnderlying63 rfl Tryd.sizeOf47 rfl ?_)
 refine wl rfl (oload1 (v := .int .u64 (p : Int)) (show One Tryd.prog 47 from ⟨Tryd.isAgg47, Tryd.sizeOf47⟩) hS 0 rfl rfl (ev rfl rfl) rfl rfl ?_)
 refine wl rfl (obin (u := .int .u64 (((a + b : Nat) : Int))) (v := .int .u64 (p : Int)) (z := .int .u64 ((((a + b) % p : Nat) : Int))) rfl rfl (ev rfl rfl) (ev rfl rfl) (bin_rem (by omega) rfl) ?_)
 refine wl rfl (oconvert (u := .int .u64 ((((a + b) % p : Nat) : Int))) (v := .int .u32 ((((a + b) % p : Nat) : Int))) rfl rfl (ev rfl rfl) (convert_int Tryd.runUnderlying47 Tryd.runUnderlying27 (wrap_u32 (by omega) (by omega))) ?_)
 refine wl rfl (oassign (v := .int .u32 ((((a + b) % p : Nat) : Int))) rfl rfl (ev rfl rfl) ?_)
 refine wnil (thenN ?_)
 refine wleave ?_
 refine wret1 Tryd.results48 (tellT (v := .int .u32 ((((a + b) % p : Nat) : Int))) rfl rfl) ?_
 exact ⟨_, _, rfl, isI, hS.new0⟩
theorem wxsub {p n c k a b : Nat} {pp : Option Addr} {w : World} (hp0 : 0 < p) (hp2 : p < 4294967296) (ha : a < 4294967296) (hb : b < 4294967296) (hbp : b ≤ p) :
  Calls Tryd.prog 55 #[.agg #[.int .u64 ((p : Nat) : Int), .slice pp n c, .int .i64 ((k : Nat) : Int)], .int .u32 ((a : Nat) : Int), .int .u32 ((b : Nat) : Int)] w (Ret (Is (.int .u32 (((a + p - b) % p : Nat) : Int))) w) := by
 have hm := mod_lt32 (a := (a + p - b)) hp0 hp2
 have hS := Sep.init w
 refine went Tryd.func55 rfl (n := 19) rfl rfl ?_
 refine wseq (wreg (wl rfl (obox [.int .u64 (p : Int), .slice pp n c, .int .i64 (k : Int)] hS rfl rfl (ev (v := .agg #[.int .u64 (p : Int), .slice pp n c, .int .i64 (k : Int)]) rfl rfl) rfl ?_)))
 clear hS; intro g1 w2 hS
 refine wl rfl (oassign (v := .int .u32 0) rfl rfl evc ?_)
 refine wnil (thenN (wseq (wreg (wl rfl (omove (v := .int .u32 (a : Int)) rfl rfl (ev rfl rfl) ?_)))))
 refine wl rfl (oconvert (u := .int .u32 (a : Int)) (v := .int .u64 (a : Int)) rfl rfl (ev rfl rfl) (convert_int Tryd.runUnderlying27 Tryd.runUnderlying47 (wrap_u64 (by omega) (by omega))) ?_)
 refine wl rfl (ofieldAddr (g := g1) (off := 0) 0 rfl rfl (ev rfl rfl) Tryd.runUnderlying63 rfl Tryd.sizeOf47 rfl ?_)
 refine wl rfl (oload1 (v := .int .u64 (p : Int)) (show One Tryd.prog 47 from ⟨Tryd.isAgg47, Tryd.sizeOf47⟩) hS 0 rfl rfl (ev rfl rfl) rfl rfl ?_)
 refine wl rfl (obin (u := .int .u64 (a : Int)) (v := .int .u64 (p : Int)) (z := .int .u64 (((a + p : Nat) : Int))) rfl rfl (ev rfl rfl) (ev rfl rfl) (bin_add (wrap_u64 (by omega) (by omega))) ?_)
 refine wl rfl (omove (v := .int .u32 (b : Int)) rfl rfl (ev rfl rfl) ?_)
 refine wl rfl (oconvert (u := .int .u32 (b : Int)) (v := .int .u64 (b : Int)) rfl rfl (ev rfl rfl) (convert_int Tryd.runUnderlying27 Tryd.runUnderlying47 (wrap_u64 (by omega) (by omega))) ?_)
 refine wl rfl (obin (u := .int .u64 (((a + p : Nat) : Int))) (v := .int .u64 (b : Int)) (z := .int .u64 (((a + p - b : Nat) : Int))) rfl rfl (ev rfl rfl) (ev rfl rfl) (bin_sub (by rw [show ((a + p : Nat) : Int) - (b : Int) = ((a + p - b : Nat) : Int) by omega]; exact wrap_u64 (by omega) (by omega))) ?_)
 refine wl rfl (ofieldAddr (g := g1) (off := 0) 0 rfl rfl (ev rfl rfl) Tryd.runUnderlying63 rfl Tryd.sizeOf47 rfl ?_)
 refine wl rfl (oload1 (v := .int .u64 (p : Int)) (show One Tryd.prog 47 from ⟨Tryd.isAgg47, Tryd.sizeOf47⟩) hS 0 rfl rfl (ev rfl rfl) rfl rfl ?_)
 refine wl rfl (obin (u := .int .u64 (((a + p - b : Nat) : Int))) (v := .int .u64 (p : Int)) (z := .int .u64 ((((a + p - b) % p : Nat) : Int))) rfl rfl (ev rfl rfl) (ev rfl rfl) (bin_rem (by omega) rfl) ?_)
 refine wl rfl (oconvert (u := .int .u64 ((((a + p - b) % p : Nat) : Int))) (v := .int .u32 ((((a + p - b) % p : Nat) : Int))) rfl rfl (ev rfl rfl) (convert_int Tryd.runUnderlying47 Tryd.runUnderlying27 (wrap_u32 (by omega) (by omega))) ?_)
 refine wl rfl (oassign (v := .int .u32 ((((a + p - b) % p : Nat) : Int))) rfl rfl (ev rfl rfl) ?_)
 refine wnil (thenN ?_)
 refine wleave ?_
 refine wret1 Tryd.results55 (tellT (v := .int .u32 ((((a + p - b) % p : Nat) : Int))) rfl rfl) ?_
 exact ⟨_, _, rfl, isI, hS.new0⟩
theorem take_next {α : Type} {L : List α} {i : Nat} {x : α} (h : L[i]? = some x) : L.take (i + 1) = L.take i ++ [x] := by
  rw [List.take_add_one, h]; rfl
def RdT (p : Nat) (M : List (List Nat)) : Tell := fun v r => ∃ pp c Q, nums Q = modM p M ∧ v = .tuple #[.agg #[.int .u64 ((p : Nat) : Int), .slice pp M.length c, .int .i64 ((colsM M : Nat) : Int)], .int .i64 0] ∧ r = [.lst 52 1 pp M.length c (mmE Q)]
theorem row0 {M : List (List Nat)} {x : List Nat} {i : Nat} (h : M[i]? = some x) (h0 : i = 0) : x.length = colsM M := by
  subst h0
  unfold colsM
  rw [getD_get h]
theorem nd_map_mod {xs : List Nat} {p k : Nat} (hk : k < xs.length) : nd (xs.map (· % p)) k = nd xs k % p := by
  rw [nd_get (by simpa using hk), List.getElem_map, nd_get hk]
theorem wxread {pm : Option Addr} {nm cm p : Nat} {M : List (List Nat)} {w : World} (hm : MS w pm nm M) (hp0 : 0 < p) (hp2 : p < 4294967296) (hb1 : nm ≤ 2097152) (hb2 : ∀ r ∈ M, r.length ≤ 1048576) (hr : RectM M) :
  Calls Tryd.prog 66 #[.slice pm nm cm, .int .u32 ((p : Nat) : Int)] w (Ret (RdT p M) w) := by
 have hS := Sep.init w
 refine went Tryd.func66 rfl (n := 58) rfl rfl ?_
 refine wseq (wreg (wl rfl (oalloc [.int .u64 0, .slice none 0 0, .int .i64 0] hS rfl rfl Tryd.zeroValue63 rfl ?_)))
 clear hS; intro g1 w2 hS
 refine wl rfl (oassign (v := .int .i64 0) rfl rfl evc ?_)
 refine wnil (thenN (wseq (wreg (wl rfl (omove (v := .int .u32 (p : Int)) rfl rfl (ev rfl rfl) ?_)))))
 refine wl rfl (oconvert (u := .int .u32 (p : Int)) (v := .int .u64 (p : Int)) rfl rfl (ev rfl rfl) (convert_int Tryd.runUnderlying27 Tryd.runUnderlying47 (wrap_u64 (by omega) (by omega))) ?_)
 refine wl rfl (obuild (ps := #[(0, .int .u64 (p : Int))]) (v := .agg #[.int .u64 (p : Int), .slice none 0 0, .int .i64 0]) rfl rfl (parts1 (ev (v := .int .u64 (p : Int)) rfl rfl)) (fun w => by simp [go_sem, Instr.build, Instr.fill]) ?_)
 refine wl rfl (oalloc [.int .u64 0, .slice none 0 0, .int .i64 0] hS rfl rfl Tryd.zeroValue63 rfl ?_)
 clear hS; intro g3 w4 hS
 refine wl rfl (ostore [.int .u64 (p : Int), .slice none 0 0, .int .i64 0] [.int .u64 (p : Int), .slice none 0 0, .int .i64 0] Tryd.sizeOf63 hS 0 rfl rfl (ev rfl rfl) (ev (v := .agg #[.int .u64 (p : Int), .slice none 0 0, .int .i64 0]) rfl rfl) rfl rfl rfl rfl rfl rfl ?_)
 clear hS; intro w5 hS
 refine wnil (thenN (wseq (wseq (wreg (wl rfl (omove (v := .slice pm nm cm) rfl rfl (ev rfl rfl) ?_))))))
 refine wl rfl (olen rfl rfl rfl Tryd.runUnderlying26 (p := pm) (k := nm) (m := cm) (ev rfl rfl) ?_)
 refine wl rfl (omove (v := .int .i64 0) rfl rfl evc ?_)
 refine wnil (thenN (wblock ?_))
 replace hS := hS.nilLst 52 1
 refine wloop (σ := Nat) (fun i a9 w' => ∃ (fb : Nat → Value) (Q : List Rw) (kk : Nat) (pX : Option Addr) (cX : Nat), a9 = act 58 (sets fb [(1, .int .u32 (p : Int)), (4, .pointer (some ⟨g1, 0, none⟩)), (6, .pointer (some ⟨g3, 0, none⟩)), (15, .slice pm nm cm), (16, .int .i64 (nm : Int)), (17, .int .i64 (i : Int))]) ∧ Sep w [.lst 52 1 pX i cX (mmE Q), .blk g3 [.int .u64 (p : Int), .slice pX i cX, .int .i64 (kk : Int)] 63, .blk g1 [.int .u64 0, .slice none 0 0, .int .i64 0] 63] w' ∧ (i ≤ nm) ∧ (nums Q = modM p (M.take i)) ∧ (kk = if i = 0 then 0 else colsM M)) (fun i => nm - i) (0) ⟨_, [], 0, none, 0, act_sets (l := [(1, .int .u32 (p : Int)), (4, .pointer (some ⟨g1, 0, none⟩)), (6, .pointer (some ⟨g3, 0, none⟩)), (15, .slice pm nm cm), (16, .int .i64 (nm : Int)), (17, .int .i64 0)]) ⟨rfl, rfl, rfl, rfl, rfl, rfl, trivial⟩, hS, Nat.zero_le _, rfl, rfl⟩ ?_
 clear hS; rintro i _ w6 ⟨fb, Q, kk, pX, cX, rfl, hS, hi, hQ, hkk⟩
 refine wseq (wreg ?_)
 by_cases hlt : i < nm
 ·
  obtain ⟨xr, hxr⟩ : ∃ r, (M)[i]? = some r := ⟨_, List.getElem?_eq_getElem (by have := hm.1; omega)⟩
  obtain ⟨br, ofr, pr, cr, hpr, hcr, hsr⟩ := hm.2.2 i _ hxr
  have hml := hm.1
  have hrb := hb2 xr (List.mem_of_getElem? hxr)
  have hrl := hr xr (List.mem_of_getElem? hxr)
  refine wl rfl (obin (u := .int .i64 (i : Int)) (v := .int .i64 (nm : Int)) (z := .bool true) rfl rfl (ev rfl rfl) (ev rfl rfl) (bin_lss (decide_eq_true (by omega))) ?_)
  refine wnil (thenN (wseq ?_))
  refine wT (ev rfl rfl) ?_
  refine wskip (thenN (wseq (wblock (wseq (wreg (wl rfl (omove (v := .int .i64 (i : Int)) rfl rfl (ev rfl rfl) ?_)))))))
  refine wl rfl (oindex (p := pm) (g := br) (off := ofr) (m := nm) (k := i) (j := (ofr + i * 1)) rfl rfl Tryd.runUnderlying26 Tryd.sizeOf52 (ev rfl rfl) (hpr) (ev rfl rfl) (by omega) rfl ?_)
  refine wl rfl (oloadc (v := .slice pr xr.length cr) (show One Tryd.prog 52 from ⟨Tryd.isAgg52, Tryd.sizeOf52⟩) rfl rfl (ev (v := .pointer (some ⟨br, (ofr + i * 1), none⟩)) rfl rfl) (hS.cellAt (hcr 0 _ rfl)) ?_)
  refine wl rfl (oassign (v := .int .i64 (i : Int)) rfl rfl (ev rfl rfl) ?_)
  refine wl rfl (oassign (v := .slice pr xr.length cr) rfl rfl (ev rfl rfl) ?_)
  refine wnil (thenN ?_)
  refine wjoin (I := fun a9 w' => ∃ (fb : Nat → Value) (k2 : Nat), a9 = act 58 (sets fb [(1, .int .u32 (p : Int)), (4, .pointer (some ⟨g1, 0, none⟩)), (6, .pointer (some ⟨g3, 0, none⟩)), (8, .slice pr xr.length cr), (15, .slice pm nm cm), (16, .int .i64 (nm : Int)), (17, .int .i64 (i : Int))]) ∧ Sep w [.lst 52 1 pX i cX (mmE Q), .blk g3 [.int .u64 (p : Int), .slice pX i cX, .int .i64 (k2 : Int)] 63, .blk g1 [.int .u64 0, .slice none 0 0, .int .i64 0] 63] w' ∧ (k2 = colsM M)) ?_ ?_
  ·
   refine wseq (wreg (wl rfl (omove (v := .int .i64 (i : Int)) rfl rfl (ev rfl rfl) ?_)))
   by_cases hi0 : i = 0
   ·
    refine wl rfl (obin (u := .int .i64 (i : Int)) (v := .int .i64 0) (z := .bool true) rfl rfl (ev rfl rfl) evc (bin_eql (eqT (by omega))) ?_)
    refine wnil (thenN ?_)
    refine wT (ev rfl rfl) ?_
    refine wreg (wl rfl (omove (v := .slice pr xr.length cr) rfl rfl (ev rfl rfl) ?_))
    refine wl rfl (olen rfl rfl rfl Tryd.runUnderlying52 (p := pr) (k := xr.length) (m := cr) (ev rfl rfl) ?_)
    refine wl rfl (ofieldAddr (g := g3) (off := 0) 2 rfl rfl (ev rfl rfl) Tryd.runUnderlying63 rfl Tryd.sizeOf3 rfl ?_)
    refine wl rfl (ostore [.int .i64 (xr.length : Int)] [.int .u64 (p : Int), .slice pX i cX, .int .i64 (xr.length : Int)] Tryd.sizeOf3 hS 1 rfl rfl (ev rfl rfl) (ev (v := .int .i64 (xr.length : Int)) rfl rfl) rfl rfl rfl rfl rfl rfl ?_)
    clear hS; intro w7 hS
    refine wnil (thenN ?_)
    have hr0 := row0 hxr hi0
    exact ⟨_, _, act_sets (l := [(1, .int .u32 (p : Int)), (4, .pointer (some ⟨g1, 0, none⟩)), (6, .pointer (some ⟨g3, 0, none⟩)), (8, .slice pr xr.length cr), (15, .slice pm nm cm), (16, .int .i64 (nm : Int)), (17, .int .i64 (i : Int))]) ⟨rfl, rfl, rfl, rfl, rfl, rfl, rfl, trivial⟩, hS.pick [0, 1, 2] (by decide) rfl, hr0⟩
   ·
    refine wl rfl (obin (u := .int .i64 (i : Int)) (v := .int .i64 0) (z := .bool false) rfl rfl (ev rfl rfl) evc (bin_eql (eqF (by omega))) ?_)
    refine wnil (thenN ?_)
    refine wF (ev rfl rfl) ?_
    refine wskip (thenN ?_)
    have hk0 : kk = colsM M := by rw [hkk, if_neg hi0]
    exact ⟨_, _, act_sets (l := [(1, .int .u32 (p : Int)), (4, .pointer (some ⟨g1, 0, none⟩)), (6, .pointer (some ⟨g3, 0, none⟩)), (8, .slice pr xr.length cr), (15, .slice pm nm cm), (16, .int .i64 (nm : Int)), (17, .int .i64 (i : Int))]) ⟨rfl, rfl, rfl, rfl, rfl, rfl, rfl, trivial⟩, hS.pick [0, 1, 2] (by decide) rfl, hk0⟩
  clear hS; rintro _ w7 ⟨fb, k2, rfl, hS, hk2⟩
  refine wseq (wseq (wreg (wl rfl (omove (v := .slice pr xr.length cr) rfl rfl (ev rfl rfl) ?_))))
  refine wl rfl (olen rfl rfl rfl Tryd.runUnderlying52 (p := pr) (k := xr.length) (m := cr) (ev rfl rfl) ?_)
  refine wl rfl (ofieldAddr (g := g3) (off := 0) 2 rfl rfl (ev rfl rfl) Tryd.runUnderlying63 rfl Tryd.sizeOf3 rfl ?_)
  refine wl rfl (oload1 (v := .int .i64 (k2 : Int)) oneI hS 1 rfl rfl (ev rfl rfl) rfl rfl ?_)
  refine wl rfl (obin (u := .int .i64 (xr.length : Int)) (v := .int .i64 (k2 : Int)) (z := .bool false) rfl rfl (ev rfl rfl) (ev rfl rfl) (bin_neq (neF (by omega))) ?_)
  refine wnil (thenN ?_)
  refine wF (ev rfl rfl) ?_
  refine wskip (thenN (wseq (wreg (wl rfl (omove (v := .slice pr xr.length cr) rfl rfl (ev rfl rfl) ?_)))))
  refine wl rfl (olen rfl rfl rfl Tryd.runUnderlying52 (p := pr) (k := xr.length) (m := cr) (ev rfl rfl) ?_)
  refine wl rfl (omakeL (zs := [.int .u32 0]) (k := xr.length) (m := xr.length) hS rfl rfl Tryd.underlying52 infouint32 rfl rfl (by decide) rfl (ev (v := .int .i64 (xr.length : Int)) rfl rfl) (ev (v := .int .i64 (xr.length : Int)) rfl rfl) (by omega) (by omega) (by omega) ?_)
  clear hS; intro g8 w9 hS
  refine wl rfl (oassign (v := .slice (some ⟨g8, 0, none⟩) xr.length xr.length) rfl rfl (ev rfl rfl) ?_)
  refine wnil (thenN (wseq (wseq (wreg (wl rfl (omove (v := .slice pr xr.length cr) rfl rfl (ev rfl rfl) ?_))))))
  refine wl rfl (olen rfl rfl rfl Tryd.runUnderlying52 (p := pr) (k := xr.length) (m := cr) (ev rfl rfl) ?_)
  refine wl rfl (omove (v := .int .i64 0) rfl rfl evc ?_)
  refine wnil (thenN (wblock ?_))
  obtain hS := (show Sep w [.lst 27 1 (some ⟨g8, 0, none⟩) xr.length xr.length (u32E (List.replicate xr.length 0)), .lst 52 1 pX i cX (mmE Q), .blk g3 [.int .u64 (p : Int), .slice pX i cX, .int .i64 (k2 : Int)] 63, .blk g1 [.int .u64 0, .slice none 0 0, .int .i64 0] 63] w9 from by rw [u32E_rep]; exact hS).lstRow (lims_zeros _)
  rw [← mixR_zero (xr.map (· % p)) (List.replicate xr.length 0)] at hS
  refine wloop (σ := Nat) (fun k a9 w' => ∃ (fb : Nat → Value), a9 = act 58 (sets fb [(1, .int .u32 (p : Int)), (4, .pointer (some ⟨g1, 0, none⟩)), (6, .pointer (some ⟨g3, 0, none⟩)), (9, .slice (some ⟨g8, 0, none⟩) xr.length xr.length), (15, .slice pm nm cm), (16, .int .i64 (nm : Int)), (17, .int .i64 (i : Int)), (36, .slice pr xr.length cr), (37, .int .i64 (xr.length : Int)), (38, .int .i64 (k : Int))]) ∧ Sep w [.rowm (some ⟨g8, 0, none⟩) xr.length xr.length (mixR (xr.map (· % p)) (List.replicate xr.length 0) k), .lst 52 1 pX i cX (mmE Q), .blk g3 [.int .u64 (p : Int), .slice pX i cX, .int .i64 (k2 : Int)] 63, .blk g1 [.int .u64 0, .slice none 0 0, .int .i64 0] 63] w' ∧ (k ≤ xr.length)) (fun k => xr.length - k) (0) ⟨_, act_sets (l := [(1, .int .u32 (p : Int)), (4, .pointer (some ⟨g1, 0, none⟩)), (6, .pointer (some ⟨g3, 0, none⟩)), (9, .slice (some ⟨g8, 0, none⟩) xr.length xr.length), (15, .slice pm nm cm), (16, .int .i64 (nm : Int)), (17, .int .i64 (i : Int)), (36, .slice pr xr.length cr), (37, .int .i64 (xr.length : Int)), (38, .int .i64 0)]) ⟨rfl, rfl, rfl, rfl, rfl, rfl, rfl, rfl, rfl, rfl, trivial⟩, hS, Nat.zero_le _⟩ ?_
  clear hS; rintro k _ w10 ⟨fb, rfl, hS, hk⟩
  refine wseq (wreg ?_)
  by_cases hlk : k < xr.length
  ·
   obtain ⟨bce, oce, hpce, hcce⟩ := hsr.el (show k < xr.length by omega)
   refine wl rfl (obin (u := .int .i64 (k : Int)) (v := .int .i64 (xr.length : Int)) (z := .bool true) rfl rfl (ev rfl rfl) (ev rfl rfl) (bin_lss (decide_eq_true (by omega))) ?_)
   refine wnil (thenN (wseq ?_))
   refine wT (ev rfl rfl) ?_
   refine wskip (thenN (wseq (wblock (wseq (wreg (wl rfl (omove (v := .int .i64 (k : Int)) rfl rfl (ev rfl rfl) ?_)))))))
   refine wl rfl (oindex (p := pr) (g := bce) (off := oce) (m := xr.length) (k := k) (j := (oce + k * 1)) rfl rfl Tryd.runUnderlying52 Tryd.sizeOf27 (ev rfl rfl) (hpce) (ev rfl rfl) (by omega) rfl ?_)
   refine wl rfl (oloadc (v := .int .u32 (((nd xr k : Nat) : Int))) one32 rfl rfl (ev (v := .pointer (some ⟨bce, (oce + k * 1), none⟩)) rfl rfl) (hS.cellAt (hcce 0 _ rfl)) ?_)
   refine wl rfl (oassign (v := .int .i64 (k : Int)) rfl rfl (ev rfl rfl) ?_)
   refine wl rfl (oassign (v := .int .u32 (((nd xr k : Nat) : Int))) rfl rfl (ev rfl rfl) ?_)
   refine wnil (thenN (wreg (wl rfl (omove (v := .slice (some ⟨g8, 0, none⟩) xr.length xr.length) rfl rfl (ev rfl rfl) ?_))))
   refine wl rfl (omove (v := .int .i64 (k : Int)) rfl rfl (ev rfl rfl) ?_)
   refine wl rfl (omove (v := .int .u32 (((nd xr k : Nat) : Int))) rfl rfl (ev rfl rfl) ?_)
   refine wl rfl (omove (v := .int .u32 (p : Int)) rfl rfl (ev rfl rfl) ?_)
   refine wl rfl (obin (u := .int .u32 (((nd xr k : Nat) : Int))) (v := .int .u32 (p : Int)) (z := .int .u32 (((nd xr k % p : Nat) : Int))) rfl rfl (ev rfl rfl) (ev rfl rfl) (bin_rem (by omega) rfl) ?_)
   refine wl rfl (oindex (p := (some ⟨g8, 0, none⟩)) (g := g8) (off := 0) (m := xr.length) (k := k) (j := k) rfl rfl Tryd.runUnderlying52 Tryd.sizeOf27 (ev rfl rfl) (rfl) (ev rfl rfl) (by omega) (by simp) ?_)
   refine wl rfl (ostoreRow (i := k) (u := (nd xr k % p)) Tryd.sizeOf27 hS 0 rfl rfl (ev (v := .pointer (some ⟨g8, k, none⟩)) rfl rfl) ((ev (v := .int .u32 (((nd xr k % p : Nat) : Int))) rfl rfl)) rfl (rfl) ((by omega)) (by have := Nat.mod_lt (nd xr k) hp0; omega) ?_)
   clear hS; intro w11 hS
   refine wnil (blkN (thenN (wreg (wl rfl (obin (u := .int .i64 (k : Int)) (v := .int .i64 1) (z := .int .i64 (((k + 1 : Nat) : Int))) rfl rfl (ev rfl rfl) evc (bin_add (wrap_i64 (by omega) (by omega))) ?_)))))
   refine wl rfl (omove (v := .int .i64 (((k + 1 : Nat) : Int))) rfl rfl (ev rfl rfl) ?_)
   refine wnil (thenN ?_)
   rw [mixR_set (new := xr.map (· % p)) (old := List.replicate xr.length 0) (by simp) (by simpa using hlk) (nd_map_mod hlk).symm] at hS
   exact ⟨(k + 1), ⟨_, act_sets (l := [(1, .int .u32 (p : Int)), (4, .pointer (some ⟨g1, 0, none⟩)), (6, .pointer (some ⟨g3, 0, none⟩)), (9, .slice (some ⟨g8, 0, none⟩) xr.length xr.length), (15, .slice pm nm cm), (16, .int .i64 (nm : Int)), (17, .int .i64 (i : Int)), (36, .slice pr xr.length cr), (37, .int .i64 (xr.length : Int)), (38, .int .i64 (((k + 1 : Nat) : Int)))]) ⟨rfl, rfl, rfl, rfl, rfl, rfl, rfl, rfl, rfl, rfl, trivial⟩, hS.pick [0, 1, 2, 3] (by decide) rfl, by omega⟩, by omega⟩
  ·
   refine wl rfl (obin (u := .int .i64 (k : Int)) (v := .int .i64 (xr.length : Int)) (z := .bool false) rfl rfl (ev rfl rfl) (ev rfl rfl) (bin_lss (decide_eq_false (by omega))) ?_)
   refine wnil (thenN (wseq ?_))
   refine wF (ev rfl rfl) ?_
   refine wexit ?_
   refine thenE ?_
   refine thenE ?_
   refine blkE ?_
   refine thenN (wreg (wl rfl (ofieldAddr (g := g3) (off := 0) 1 rfl rfl (ev rfl rfl) Tryd.runUnderlying63 rfl Tryd.sizeOf25 rfl ?_)))
   refine wl rfl (oload1 (v := .slice pX i cX) (show One Tryd.prog 25 from ⟨Tryd.isAgg25, Tryd.sizeOf25⟩) hS 2 rfl rfl (ev rfl rfl) rfl rfl ?_)
   refine wl rfl (omove (v := .slice (some ⟨g8, 0, none⟩) xr.length xr.length) rfl rfl (ev rfl rfl) ?_)
   refine wl rfl (obslice (ps := #[(0, .slice (some ⟨g8, 0, none⟩) xr.length xr.length)]) (z := .slice none 0 0) [.slice (some ⟨g8, 0, none⟩) xr.length xr.length] hS rfl rfl Tryd.runUnderlying25 Tryd.sizeOf52 Tryd.zeroValue52 (parts1 (ev (v := .slice (some ⟨g8, 0, none⟩) xr.length xr.length) rfl rfl)) rfl (by decide) (fill1_1s rfl rfl) ?_)
   clear hS; intro g11 w12 hS
   rw [mixR_full (new := xr.map (· % p)) (old := List.replicate xr.length 0) (by simp) (by simp; omega)] at hS
   obtain hS := (show Sep w [.rowm (some ⟨g8, 0, none⟩) xr.length xr.length (xr.map (· % p)), .lst 52 1 pX i cX (mmE Q), .blk g11 [.slice (some ⟨g8, 0, none⟩) xr.length xr.length] 52, .blk g3 [.int .u64 (((p : Nat) : Int)), .slice pX i cX, .int .i64 (((k2 : Nat) : Int))] 63, .blk g1 [.int .u64 0, .slice none 0 0, .int .i64 0] 63] w12 from hS.pick [1, 2, 0, 3, 4] (by decide) rfl)
   refine wl rfl (oappendL (p := pX) (m := i) (c := cX) (g2 := g11) (c2 := 1) (off := 0) [.slice (some ⟨g8, 0, none⟩) xr.length xr.length] [.rowm (some ⟨g8, 0, none⟩) xr.length xr.length (xr.map (· % p))] hS rfl rfl Tryd.underlying25 infoRow rfl (by decide) (ev (v := .slice pX i cX) rfl rfl) (ev (v := .slice (some ⟨g11, 0, none⟩) 1 1) rfl rfl) (fun j v hj => by rw [Nat.zero_add]; exact (blk_cell (hS.blkAt 2 rfl) j).trans hj) rfl rfl rfl (by omega) (by omega) ?_)
   clear hS; intro p14 c15 w13 hS
   refine wl rfl (ofieldAddr (g := g3) (off := 0) 1 rfl rfl (ev rfl rfl) Tryd.runUnderlying63 rfl Tryd.sizeOf25 rfl ?_)
   refine wl rfl (ostore [.slice p14 ((i + 1)) c15] [.int .u64 (p : Int), .slice p14 ((i + 1)) c15, .int .i64 (k2 : Int)] Tryd.sizeOf25 hS 2 rfl rfl (ev rfl rfl) (ev (v := .slice p14 ((i + 1)) c15) rfl rfl) rfl rfl rfl rfl rfl rfl ?_)
   clear hS; intro w16 hS
   refine wnil (blkN (thenN (wreg (wl rfl (obin (u := .int .i64 (i : Int)) (v := .int .i64 1) (z := .int .i64 (((i + 1 : Nat) : Int))) rfl rfl (ev rfl rfl) evc (bin_add (wrap_i64 (by omega) (by omega))) ?_)))))
   refine wl rfl (omove (v := .int .i64 (((i + 1 : Nat) : Int))) rfl rfl (ev rfl rfl) ?_)
   refine wnil (thenN ?_)
   rw [mmE_snoc (xs := xr.map (· % p)) (n := xr.length) (List.length_map _)] at hS
   exact ⟨(i + 1), ⟨_, _, _, _, _, act_sets (l := [(1, .int .u32 (p : Int)), (4, .pointer (some ⟨g1, 0, none⟩)), (6, .pointer (some ⟨g3, 0, none⟩)), (15, .slice pm nm cm), (16, .int .i64 (nm : Int)), (17, .int .i64 (((i + 1 : Nat) : Int)))]) ⟨rfl, rfl, rfl, rfl, rfl, rfl, trivial⟩, hS.pick [0, 2, 3] (by decide) rfl, by omega, by rw [nums_app, hQ, take_next hxr]; simp [modM], by rw [if_neg (by omega)]; exact hk2⟩, by omega⟩
 ·
  refine wl rfl (obin (u := .int .i64 (i : Int)) (v := .int .i64 (nm : Int)) (z := .bool false) rfl rfl (ev rfl rfl) (ev rfl rfl) (bin_lss (decide_eq_false (by omega))) ?_)
  refine wnil (thenN (wseq ?_))
  refine wF (ev rfl rfl) ?_
  refine wexit ?_
  refine thenE ?_
  refine thenE ?_
  refine blkE ?_
  refine thenN (wseq (wreg (wl rfl (oload (vs := [.int .u64 (p : Int), .slice pX i cX, .int .i64 (kk : Int)]) (show Agg Tryd.prog 63 3 from ⟨Tryd.isAgg63, Tryd.sizeOf63⟩) hS 1 rfl rfl (ev rfl rfl) rfl rfl rfl ?_))))
  refine wl rfl (ostore [.int .u64 (p : Int), .slice pX i cX, .int .i64 (kk : Int)] [.int .u64 (p : Int), .slice pX i cX, .int .i64 (kk : Int)] Tryd.sizeOf63 hS 2 rfl rfl (ev rfl rfl) (ev (v := .agg #[.int .u64 (p : Int), .slice pX i cX, .int .i64 (kk : Int)]) rfl rfl) rfl rfl rfl rfl rfl rfl ?_)
  clear hS; intro w7 hS
  refine wl rfl (oassign (v := .int .i64 0) rfl rfl evc ?_)
  refine wnil (thenN ?_)
  refine wleave ?_
  have hml := hm.1
  obtain rfl : i = M.length := by omega
  rw [List.take_length] at hQ
  obtain rfl : kk = colsM M := by rw [hkk]; split; unfold colsM; simp [List.eq_nil_of_length_eq_zero (by assumption)]; rfl
  refine wret2 Tryd.results66 (tellC (cs := [.int .u64 (p : Int), .slice pX M.length cX, .int .i64 ((((colsM M) : Nat) : Int))]) (show Agg Tryd.prog 63 3 from ⟨Tryd.isAgg63, Tryd.sizeOf63⟩) hS 2 rfl rfl rfl rfl) (tellT (v := .int .i64 0) rfl rfl) ?_
  exact ⟨_, _, rfl, ⟨_, _, Q, hQ, rfl, rfl⟩, hS.newR 0 rfl rfl⟩
theorem wxreadE {pm : Option Addr} {nm cm p : Nat} {M : List (List Nat)} {w : World} (hm : MS w pm nm M) (hp0 : 0 < p) (hp2 : p < 4294967296) (hb1 : nm ≤ 2097152) (hb2 : ∀ r ∈ M, r.length ≤ 1048576) (hr : ¬ RectM M) :
  Calls Tryd.prog 66 #[.slice pm nm cm, .int .u32 ((p : Nat) : Int)] w (Ret (Is (.tuple #[.agg #[.int .u64 0, .slice none 0 0, .int .i64 0], .int .i64 2])) w) := by
 have hS := Sep.init w
 refine went Tryd.func66 rfl (n := 58) rfl rfl ?_
 refine wseq (wreg (wl rfl (oalloc [.int .u64 0, .slice none 0 0, .int .i64 0] hS rfl rfl Tryd.zeroValue63 rfl ?_)))
 clear hS; intro g1 w2 hS
 refine wl rfl (oassign (v := .int .i64 0) rfl rfl evc ?_)
 refine wnil (thenN (wseq (wreg (wl rfl (omove (v := .int .u32 (p : Int)) rfl rfl (ev rfl rfl) ?_)))))
 refine wl rfl (oconvert (u := .int .u32 (p : Int)) (v := .int .u64 (p : Int)) rfl rfl (ev rfl rfl) (convert_int Tryd.runUnderlying27 Tryd.runUnderlying47 (wrap_u64 (by omega) (by omega))) ?_)
 refine wl rfl (obuild (ps := #[(0, .int .u64 (p : Int))]) (v := .agg #[.int .u64 (p : Int), .slice none 0 0, .int .i64 0]) rfl rfl (parts1 (ev (v := .int .u64 (p : Int)) rfl rfl)) (fun w => by simp [go_sem, Instr.build, Instr.fill]) ?_)
 refine wl rfl (oalloc [.int .u64 0, .slice none 0 0, .int .i64 0] hS rfl rfl Tryd.zeroValue63 rfl ?_)
 clear hS; intro g3 w4 hS
 refine wl rfl (ostore [.int .u64 (p : Int), .slice none 0 0, .int .i64 0] [.int .u64 (p : Int), .slice none 0 0, .int .i64 0] Tryd.sizeOf63 hS 0 rfl rfl (ev rfl rfl) (ev (v := .agg #[.int .u64 (p : Int), .slice none 0 0, .int .i64 0]) rfl rfl) rfl rfl rfl rfl rfl rfl ?_)
 clear hS; intro w5 hS
 refine wnil (thenN (wseq (wseq (wreg (wl rfl (omove (v := .slice pm nm cm) rfl rfl (ev rfl rfl) ?_))))))
 refine wl rfl (olen rfl rfl rfl Tryd.runUnderlying26 (p := pm) (k := nm) (m := cm) (ev rfl rfl) ?_)
 refine wl rfl (omove (v := .int .i64 0) rfl rfl evc ?_)
 refine wnil (thenN (wblock ?_))
 replace hS := hS.nilLst 52 1
 refine wloop (σ := Nat) (fun i a9 w' => ∃ (fb : Nat → Value) (Q : List Rw) (kk : Nat) (pX : Option Addr) (cX : Nat), a9 = act 58 (sets fb [(1, .int .u32 (p : Int)), (4, .pointer (some ⟨g1, 0, none⟩)), (6, .pointer (some ⟨g3, 0, none⟩)), (15, .slice pm nm cm), (16, .int .i64 (nm : Int)), (17, .int .i64 (i : Int))]) ∧ Sep w [.lst 52 1 pX i cX (mmE Q), .blk g3 [.int .u64 (p : Int), .slice pX i cX, .int .i64 (kk : Int)] 63, .blk g1 [.int .u64 0, .slice none 0 0, .int .i64 0] 63] w' ∧ (i ≤ nm) ∧ (nums Q = modM p (M.take i)) ∧ (kk = if i = 0 then 0 else colsM M) ∧ (∀ r ∈ M.take i, r.length = colsM M)) (fun i => nm - i) (0) ⟨_, [], 0, none, 0, act_sets (l := [(1, .int .u32 (p : Int)), (4, .pointer (some ⟨g1, 0, none⟩)), (6, .pointer (some ⟨g3, 0, none⟩)), (15, .slice pm nm cm), (16, .int .i64 (nm : Int)), (17, .int .i64 0)]) ⟨rfl, rfl, rfl, rfl, rfl, rfl, trivial⟩, hS, Nat.zero_le _, rfl, rfl, by simp⟩ ?_
 clear hS; rintro i _ w6 ⟨fb, Q, kk, pX, cX, rfl, hS, hi, hQ, hkk, hrc⟩
 refine wseq (wreg ?_)
 by_cases hlt : i < nm
 ·
  obtain ⟨xr, hxr⟩ : ∃ r, (M)[i]? = some r := ⟨_, List.getElem?_eq_getElem (by have := hm.1; omega)⟩
  obtain ⟨br, ofr, pr, cr, hpr, hcr, hsr⟩ := hm.2.2 i _ hxr
  have hml := hm.1
  have hrb := hb2 xr (List.mem_of_getElem? hxr)
  refine wl rfl (obin (u := .int .i64 (i : Int)) (v := .int .i64 (nm : Int)) (z := .bool true) rfl rfl (ev rfl rfl) (ev rfl rfl) (bin_lss (decide_eq_true (by omega))) ?_)
  refine wnil (thenN (wseq ?_))
  refine wT (ev rfl rfl) ?_
  refine wskip (thenN (wseq (wblock (wseq (wreg (wl rfl (omove (v := .int .i64 (i : Int)) rfl rfl (ev rfl rfl) ?_)))))))
  refine wl rfl (oindex (p := pm) (g := br) (off := ofr) (m := nm) (k := i) (j := (ofr + i * 1)) rfl rfl Tryd.runUnderlying26 Tryd.sizeOf52 (ev rfl rfl) (hpr) (ev rfl rfl) (by omega) rfl ?_)
  refine wl rfl (oloadc (v := .slice pr xr.length cr) (show One Tryd.prog 52 from ⟨Tryd.isAgg52, Tryd.sizeOf52⟩) rfl rfl (ev (v := .pointer (some ⟨br, (ofr + i * 1), none⟩)) rfl rfl) (hS.cellAt (hcr 0 _ rfl)) ?_)
  refine wl rfl (oassign (v := .int .i64 (i : Int)) rfl rfl (ev rfl rfl) ?_)
  refine wl rfl (oassign (v := .slice pr xr.length cr) rfl rfl (ev rfl rfl) ?_)
  refine wnil (thenN ?_)
  refine wjoin (I := fun a9 w' => ∃ (fb : Nat → Value) (k2 : Nat), a9 = act 58 (sets fb [(1, .int .u32 (p : Int)), (4, .pointer (some ⟨g1, 0, none⟩)), (6, .pointer (some ⟨g3, 0, none⟩)), (8, .slice pr xr.length cr), (15, .slice pm nm cm), (16, .int .i64 (nm : Int)), (17, .int .i64 (i : Int))]) ∧ Sep w [.lst 52 1 pX i cX (mmE Q), .blk g3 [.int .u64 (p : Int), .slice pX i cX, .int .i64 (k2 : Int)] 63, .blk g1 [.int .u64 0, .slice none 0 0, .int .i64 0] 63] w' ∧ (k2 = colsM M)) ?_ ?_
  ·
   refine wseq (wreg (wl rfl (omove (v := .int .i64 (i : Int)) rfl rfl (ev rfl rfl) ?_)))
   by_cases hi0 : i = 0
   ·
    refine wl rfl (obin (u := .int .i64 (i : Int)) (v := .int .i64 0) (z := .bool true) rfl rfl (ev rfl rfl) evc (bin_eql (eqT (by omega))) ?_)
    refine wnil (thenN ?_)
    refine wT (ev rfl rfl) ?_
    refine wreg (wl rfl (omove (v := .slice pr xr.length cr) rfl rfl (ev rfl rfl) ?_))
    refine wl rfl (olen rfl rfl rfl Tryd.runUnderlying52 (p := pr) (k := xr.length) (m := cr) (ev rfl rfl) ?_)
    refine wl rfl (ofieldAddr (g := g3) (off := 0) 2 rfl rfl (ev rfl rfl) Tryd.runUnderlying63 rfl Tryd.sizeOf3 rfl ?_)
    refine wl rfl (ostore [.int .i64 (xr.length : Int)] [.int .u64 (p : Int), .slice pX i cX, .int .i64 (xr.length : Int)] Tryd.sizeOf3 hS 1 rfl rfl (ev rfl rfl) (ev (v := .int .i64 (xr.length : Int)) rfl rfl) rfl rfl rfl rfl rfl rfl ?_)
    clear hS; intro w7 hS
    refine wnil (thenN ?_)
    have hr0 := row0 hxr hi0
    exact ⟨_, _, act_sets (l := [(1, .int .u32 (p : Int)), (4, .pointer (some ⟨g1, 0, none⟩)), (6, .pointer (some ⟨g3, 0, none⟩)), (8, .slice pr xr.length cr), (15, .slice pm nm cm), (16, .int .i64 (nm : Int)), (17, .int .i64 (i : Int))]) ⟨rfl, rfl, rfl, rfl, rfl, rfl, rfl, trivial⟩, hS.pick [0, 1, 2] (by decide) rfl, hr0⟩
   ·
    refine wl rfl (obin (u := .int .i64 (i : Int)) (v := .int .i64 0) (z := .bool false) rfl rfl (ev rfl rfl) evc (bin_eql (eqF (by omega))) ?_)
    refine wnil (thenN ?_)
    refine wF (ev rfl rfl) ?_
    refine wskip (thenN ?_)
    have hk0 : kk = colsM M := by rw [hkk, if_neg hi0]
    exact ⟨_, _, act_sets (l := [(1, .int .u32 (p : Int)), (4, .pointer (some ⟨g1, 0, none⟩)), (6, .pointer (some ⟨g3, 0, none⟩)), (8, .slice pr xr.length cr), (15, .slice pm nm cm), (16, .int .i64 (nm : Int)), (17, .int .i64 (i : Int))]) ⟨rfl, rfl, rfl, rfl, rfl, rfl, rfl, trivial⟩, hS.pick [0, 1, 2] (by decide) rfl, hk0⟩
  clear hS; rintro _ w7 ⟨fb, k2, rfl, hS, hk2⟩
  refine wseq (wseq (wreg (wl rfl (omove (v := .slice pr xr.length cr) rfl rfl (ev rfl rfl) ?_))))
  refine wl rfl (olen rfl rfl rfl Tryd.runUnderlying52 (p := pr) (k := xr.length) (m := cr) (ev rfl rfl) ?_)
  refine wl rfl (ofieldAddr (g := g3) (off := 0) 2 rfl rfl (ev rfl rfl) Tryd.runUnderlying63 rfl Tryd.sizeOf3 rfl ?_)
  refine wl rfl (oload1 (v := .int .i64 (k2 : Int)) oneI hS 1 rfl rfl (ev rfl rfl) rfl rfl ?_)
  skip
  by_cases hrl : xr.length = colsM M
  ·
   refine wl rfl (obin (u := .int .i64 (xr.length : Int)) (v := .int .i64 (k2 : Int)) (z := .bool false) rfl rfl (ev rfl rfl) (ev rfl rfl) (bin_neq (neF (by omega))) ?_)
   refine wnil (thenN ?_)
   refine wF (ev rfl rfl) ?_
   refine wskip (thenN (wseq (wreg (wl rfl (omove (v := .slice pr xr.length cr) rfl rfl (ev rfl rfl) ?_)))))
   refine wl rfl (olen rfl rfl rfl Tryd.runUnderlying52 (p := pr) (k := xr.length) (m := cr) (ev rfl rfl) ?_)
   refine wl rfl (omakeL (zs := [.int .u32 0]) (k := xr.length) (m := xr.length) hS rfl rfl Tryd.underlying52 infouint32 rfl rfl (by decide) rfl (ev (v := .int .i64 (xr.length : Int)) rfl rfl) (ev (v := .int .i64 (xr.length : Int)) rfl rfl) (by omega) (by omega) (by omega) ?_)
   clear hS; intro g8 w9 hS
   refine wl rfl (oassign (v := .slice (some ⟨g8, 0, none⟩) xr.length xr.length) rfl rfl (ev rfl rfl) ?_)
   refine wnil (thenN (wseq (wseq (wreg (wl rfl (omove (v := .slice pr xr.length cr) rfl rfl (ev rfl rfl) ?_))))))
   refine wl rfl (olen rfl rfl rfl Tryd.runUnderlying52 (p := pr) (k := xr.length) (m := cr) (ev rfl rfl) ?_)
   refine wl rfl (omove (v := .int .i64 0) rfl rfl evc ?_)
   refine wnil (thenN (wblock ?_))
   obtain hS := (show Sep w [.lst 27 1 (some ⟨g8, 0, none⟩) xr.length xr.length (u32E (List.replicate xr.length 0)), .lst 52 1 pX i cX (mmE Q), .blk g3 [.int .u64 (p : Int), .slice pX i cX, .int .i64 (k2 : Int)] 63, .blk g1 [.int .u64 0, .slice none 0 0, .int .i64 0] 63] w9 from by rw [u32E_rep]; exact hS).lstRow (lims_zeros _)
   rw [← mixR_zero (xr.map (· % p)) (List.replicate xr.length 0)] at hS
   refine wloop (σ := Nat) (fun k a9 w' => ∃ (fb : Nat → Value), a9 = act 58 (sets fb [(1, .int .u32 (p : Int)), (4, .pointer (some ⟨g1, 0, none⟩)), (6, .pointer (some ⟨g3, 0, none⟩)), (9, .slice (some ⟨g8, 0, none⟩) xr.length xr.length), (15, .slice pm nm cm), (16, .int .i64 (nm : Int)), (17, .int .i64 (i : Int)), (36, .slice pr xr.length cr), (37, .int .i64 (xr.length : Int)), (38, .int .i64 (k : Int))]) ∧ Sep w [.rowm (some ⟨g8, 0, none⟩) xr.length xr.length (mixR (xr.map (· % p)) (List.replicate xr.length 0) k), .lst 52 1 pX i cX (mmE Q), .blk g3 [.int .u64 (p : Int), .slice pX i cX, .int .i64 (k2 : Int)] 63, .blk g1 [.int .u64 0, .slice none 0 0, .int .i64 0] 63] w' ∧ (k ≤ xr.length)) (fun k => xr.length - k) (0) ⟨_, act_sets (l := [(1, .int .u32 (p : Int)), (4, .pointer (some ⟨g1, 0, none⟩)), (6, .pointer (some ⟨g3, 0, none⟩)), (9, .slice (some ⟨g8, 0, none⟩) xr.length xr.length), (15, .slice pm nm cm), (16, .int .i64 (nm : Int)), (17, .int .i64 (i : Int)), (36, .slice pr xr.length cr), (37, .int .i64 (xr.length : Int)), (38, .int .i64 0)]) ⟨rfl, rfl, rfl, rfl, rfl, rfl, rfl, rfl, rfl, rfl, trivial⟩, hS, Nat.zero_le _⟩ ?_
   clear hS; rintro k _ w10 ⟨fb, rfl, hS, hk⟩
   refine wseq (wreg ?_)
   by_cases hlk : k < xr.length
   ·
    obtain ⟨bce, oce, hpce, hcce⟩ := hsr.el (show k < xr.length by omega)
    refine wl rfl (obin (u := .int .i64 (k : Int)) (v := .int .i64 (xr.length : Int)) (z := .bool true) rfl rfl (ev rfl rfl) (ev rfl rfl) (bin_lss (decide_eq_true (by omega))) ?_)
    refine wnil (thenN (wseq ?_))
    refine wT (ev rfl rfl) ?_
    refine wskip (thenN (wseq (wblock (wseq (wreg (wl rfl (omove (v := .int .i64 (k : Int)) rfl rfl (ev rfl rfl) ?_)))))))
    refine wl rfl (oindex (p := pr) (g := bce) (off := oce) (m := xr.length) (k := k) (j := (oce + k * 1)) rfl rfl Tryd.runUnderlying52 Tryd.sizeOf27 (ev rfl rfl) (hpce) (ev rfl rfl) (by omega) rfl ?_)
    refine wl rfl (oloadc (v := .int .u32 (((nd xr k : Nat) : Int))) one32 rfl rfl (ev (v := .pointer (some ⟨bce, (oce + k * 1), none⟩)) rfl rfl) (hS.cellAt (hcce 0 _ rfl)) ?_)
    refine wl rfl (oassign (v := .int .i64 (k : Int)) rfl rfl (ev rfl rfl) ?_)
    refine wl rfl (oassign (v := .int .u32 (((nd xr k : Nat) : Int))) rfl rfl (ev rfl rfl) ?_)
    refine wnil (thenN (wreg (wl rfl (omove (v := .slice (some ⟨g8, 0, none⟩) xr.length xr.length) rfl rfl (ev rfl rfl) ?_))))
    refine wl rfl (omove (v := .int .i64 (k : Int)) rfl rfl (ev rfl rfl) ?_)
    refine wl rfl (omove (v := .int .u32 (((nd xr k : Nat) : Int))) rfl rfl (ev rfl rfl) ?_)
    refine wl rfl (omove (v := .int .u32 (p : Int)) rfl rfl (ev rfl rfl) ?_)
    refine wl rfl (obin (u := .int .u32 (((nd xr k : Nat) : Int))) (v := .int .u32 (p : Int)) (z := .int .u32 (((nd xr k % p : Nat) : Int))) rfl rfl (ev rfl rfl) (ev rfl rfl) (bin_rem (by omega) rfl) ?_)
    refine wl rfl (oindex (p := (some ⟨g8, 0, none⟩)) (g := g8) (off := 0) (m := xr.length) (k := k) (j := k) rfl rfl Tryd.runUnderlying52 Tryd.sizeOf27 (ev rfl rfl) (rfl) (ev rfl rfl) (by omega) (by simp) ?_)
    refine wl rfl (ostoreRow (i := k) (u := (nd xr k % p)) Tryd.sizeOf27 hS 0 rfl rfl (ev (v := .pointer (some ⟨g8, k, none⟩)) rfl rfl) ((ev (v := .int .u32 (((nd xr k % p : Nat) : Int))) rfl rfl)) rfl (rfl) ((by omega)) (by have := Nat.mod_lt (nd xr k) hp0; omega) ?_)
    clear hS; intro w11 hS
    refine wnil (blkN (thenN (wreg (wl rfl (obin (u := .int .i64 (k : Int)) (v := .int .i64 1) (z := .int .i64 (((k + 1 : Nat) : Int))) rfl rfl (ev rfl rfl) evc (bin_add (wrap_i64 (by omega) (by omega))) ?_)))))
    refine wl rfl (omove (v := .int .i64 (((k + 1 : Nat) : Int))) rfl rfl (ev rfl rfl) ?_)
    refine wnil (thenN ?_)
    rw [mixR_set (new := xr.map (· % p)) (old := List.replicate xr.length 0) (by simp) (by simpa using hlk) (nd_map_mod hlk).symm] at hS
    exact ⟨(k + 1), ⟨_, act_sets (l := [(1, .int .u32 (p : Int)), (4, .pointer (some ⟨g1, 0, none⟩)), (6, .pointer (some ⟨g3, 0, none⟩)), (9, .slice (some ⟨g8, 0, none⟩) xr.length xr.length), (15, .slice pm nm cm), (16, .int .i64 (nm : Int)), (17, .int .i64 (i : Int)), (36, .slice pr xr.length cr), (37, .int .i64 (xr.length : Int)), (38, .int .i64 (((k + 1 : Nat) : Int)))]) ⟨rfl, rfl, rfl, rfl, rfl, rfl, rfl, rfl, rfl, rfl, trivial⟩, hS.pick [0, 1, 2, 3] (by decide) rfl, by omega⟩, by omega⟩
   ·
    refine wl rfl (obin (u := .int .i64 (k : Int)) (v := .int .i64 (xr.length : Int)) (z := .bool false) rfl rfl (ev rfl rfl) (ev rfl rfl) (bin_lss (decide_eq_false (by omega))) ?_)
    refine wnil (thenN (wseq ?_))
    refine wF (ev rfl rfl) ?_
    refine wexit ?_
    refine thenE ?_
    refine thenE ?_
    refine blkE ?_
    refine thenN (wreg (wl rfl (ofieldAddr (g := g3) (off := 0) 1 rfl rfl (ev rfl rfl) Tryd.runUnderlying63 rfl Tryd.sizeOf25 rfl ?_)))
    refine wl rfl (oload1 (v := .slice pX i cX) (show One Tryd.prog 25 from ⟨Tryd.isAgg25, Tryd.sizeOf25⟩) hS 2 rfl rfl (ev rfl rfl) rfl rfl ?_)
    refine wl rfl (omove (v := .slice (some ⟨g8, 0, none⟩) xr.length xr.length) rfl rfl (ev rfl rfl) ?_)
    refine wl rfl (obslice (ps := #[(0, .slice (some ⟨g8, 0, none⟩) xr.length xr.length)]) (z := .slice none 0 0) [.slice (some ⟨g8, 0, none⟩) xr.length xr.length] hS rfl rfl Tryd.runUnderlying25 Tryd.sizeOf52 Tryd.zeroValue52 (parts1 (ev (v := .slice (some ⟨g8, 0, none⟩) xr.length xr.length) rfl rfl)) rfl (by decide) (fill1_1s rfl rfl) ?_)
    clear hS; intro g11 w12 hS
    rw [mixR_full (new := xr.map (· % p)) (old := List.replicate xr.length 0) (by simp) (by simp; omega)] at hS
    obtain hS := (show Sep w [.rowm (some ⟨g8, 0, none⟩) xr.length xr.length (xr.map (· % p)), .lst 52 1 pX i cX (mmE Q), .blk g11 [.slice (some ⟨g8, 0, none⟩) xr.length xr.length] 52, .blk g3 [.int .u64 (((p : Nat) : Int)), .slice pX i cX, .int .i64 (((k2 : Nat) : Int))] 63, .blk g1 [.int .u64 0, .slice none 0 0, .int .i64 0] 63] w12 from hS.pick [1, 2, 0, 3, 4] (by decide) rfl)
    refine wl rfl (oappendL (p := pX) (m := i) (c := cX) (g2 := g11) (c2 := 1) (off := 0) [.slice (some ⟨g8, 0, none⟩) xr.length xr.length] [.rowm (some ⟨g8, 0, none⟩) xr.length xr.length (xr.map (· % p))] hS rfl rfl Tryd.underlying25 infoRow rfl (by decide) (ev (v := .slice pX i cX) rfl rfl) (ev (v := .slice (some ⟨g11, 0, none⟩) 1 1) rfl rfl) (fun j v hj => by rw [Nat.zero_add]; exact (blk_cell (hS.blkAt 2 rfl) j).trans hj) rfl rfl rfl (by omega) (by omega) ?_)
    clear hS; intro p14 c15 w13 hS
    refine wl rfl (ofieldAddr (g := g3) (off := 0) 1 rfl rfl (ev rfl rfl) Tryd.runUnderlying63 rfl Tryd.sizeOf25 rfl ?_)
    refine wl rfl (ostore [.slice p14 ((i + 1)) c15] [.int .u64 (p : Int), .slice p14 ((i + 1)) c15, .int .i64 (k2 : Int)] Tryd.sizeOf25 hS 2 rfl rfl (ev rfl rfl) (ev (v := .slice p14 ((i + 1)) c15) rfl rfl) rfl rfl rfl rfl rfl rfl ?_)
    clear hS; intro w16 hS
    refine wnil (blkN (thenN (wreg (wl rfl (obin (u := .int .i64 (i : Int)) (v := .int .i64 1) (z := .int .i64 (((i + 1 : Nat) : Int))) rfl rfl (ev rfl rfl) evc (bin_add (wrap_i64 (by omega) (by omega))) ?_)))))
    refine wl rfl (omove (v := .int .i64 (((i + 1 : Nat) : Int))) rfl rfl (ev rfl rfl) ?_)
    refine wnil (thenN ?_)
    rw [mmE_snoc (xs := xr.map (· % p)) (n := xr.length) (List.length_map _)] at hS
    exact ⟨(i + 1), ⟨_, _, _, _, _, act_sets (l := [(1, .int .u32 (p : Int)), (4, .pointer (some ⟨g1, 0, none⟩)), (6, .pointer (some ⟨g3, 0, none⟩)), (15, .slice pm nm cm), (16, .int .i64 (nm : Int)), (17, .int .i64 (((i + 1 : Nat) : Int)))]) ⟨rfl, rfl, rfl, rfl, rfl, rfl, trivial⟩, hS.pick [0, 2, 3] (by decide) rfl, by omega, by rw [nums_app, hQ, take_next hxr]; simp [modM], by rw [if_neg (by omega)]; exact hk2, by rw [take_next hxr]; intro u hu; exact (List.mem_append.1 hu).elim (hrc u) (fun h => by rw [List.mem_singleton.1 h]; exact hrl)⟩, by omega⟩
  ·
   refine wl rfl (obin (u := .int .i64 (xr.length : Int)) (v := .int .i64 (k2 : Int)) (z := .bool true) rfl rfl (ev rfl rfl) (ev rfl rfl) (bin_neq (neT (by omega))) ?_)
   refine wnil (thenN ?_)
   refine wT (ev rfl rfl) ?_
   refine wseq (wreg (wl rfl (obuild (ps := #[]) (v := .agg #[.int .u64 0, .slice none 0 0, .int .i64 0]) rfl rfl (parts0) (fun w => by simp [go_sem, Instr.build, Instr.fill]) ?_)))
   refine wl rfl (ostore [.int .u64 0, .slice none 0 0, .int .i64 0] [.int .u64 0, .slice none 0 0, .int .i64 0] Tryd.sizeOf63 hS 2 rfl rfl (ev rfl rfl) (ev (v := .agg #[.int .u64 0, .slice none 0 0, .int .i64 0]) rfl rfl) rfl rfl rfl rfl rfl rfl ?_)
   clear hS; intro w8 hS
   refine wl rfl (oassign (v := .int .i64 2) rfl rfl evc ?_)
   refine wnil (thenN ?_)
   refine wleave ?_
   refine thenR ?_
   refine blkR ?_
   refine thenR ?_
   refine thenR ?_
   refine blkR ?_
   refine thenR ?_
   refine wret2 Tryd.results66 (tellC (cs := [.int .u64 0, .slice none 0 0, .int .i64 0]) (show Agg Tryd.prog 63 3 from ⟨Tryd.isAgg63, Tryd.sizeOf63⟩) hS 2 rfl rfl rfl rfl) (tellT (v := .int .i64 2) rfl rfl) ?_
   exact ⟨_, _, rfl, isI, hS.new0⟩
 ·
  refine wl rfl (obin (u := .int .i64 (i : Int)) (v := .int .i64 (nm : Int)) (z := .bool false) rfl rfl (ev rfl rfl) (ev rfl rfl) (bin_lss (decide_eq_false (by omega))) ?_)
  refine wnil (thenN (wseq ?_))
  refine wF (ev rfl rfl) ?_
  refine wexit ?_
  refine thenE ?_
  refine thenE ?_
  refine blkE ?_
  refine thenN (wseq (wreg (wl rfl (oload (vs := [.int .u64 (p : Int), .slice pX i cX, .int .i64 (kk : Int)]) (show Agg Tryd.prog 63 3 from ⟨Tryd.isAgg63, Tryd.sizeOf63⟩) hS 1 rfl rfl (ev rfl rfl) rfl rfl rfl ?_))))
  refine wl rfl (ostore [.int .u64 (p : Int), .slice pX i cX, .int .i64 (kk : Int)] [.int .u64 (p : Int), .slice pX i cX, .int .i64 (kk : Int)] Tryd.sizeOf63 hS 2 rfl rfl (ev rfl rfl) (ev (v := .agg #[.int .u64 (p : Int), .slice pX i cX, .int .i64 (kk : Int)]) rfl rfl) rfl rfl rfl rfl rfl rfl ?_)
  clear hS; intro w7 hS
  refine wl rfl (oassign (v := .int .i64 0) rfl rfl evc ?_)
  refine wnil (thenN ?_)
  refine wleave ?_
  exact absurd (fun r hr => hrc r (by rw [List.take_of_length_le (by have := hm.1; omega)]; exact hr)) hr
theorem infoMat : (Tryd.prog.info? 63).map (fun i => (i.zero, i.size, i.bytes)) = some (some (.agg #[.int .u64 0, .slice none 0 0, .int .i64 0]), 3, 40) := by kernel_rfl
structure MG where
  p : Option Addr
  c : Nat
  Q : List Rw
  M : List (List Nat)
def mgC (pr : Nat) (g : MG) : List Value := [.int .u64 ((pr : Nat) : Int), .slice g.p g.M.length g.c, .int .i64 ((colsM g.M : Nat) : Int)]
def mgE (pr : Nat) (g : MG) : El := ⟨mgC pr g, [.lst 52 1 g.p g.M.length g.c (mmE g.Q)]⟩
theorem mg_snoc {pr : Nat} {Es : List MG} {p : Option Addr} {c : Nat} {Q : List Rw} {M : List (List Nat)} : Es.map (mgE pr) ++ [(⟨[.int .u64 ((pr : Nat) : Int), .slice p M.length c, .int .i64 ((colsM M : Nat) : Int)], [.lst 52 1 p M.length c (mmE Q)]⟩ : El)] = (Es ++ [(⟨p, c, Q, M⟩ : MG)]).map (mgE pr) := by rw [List.map_append]; rfl
def LMS (w : World) (p : Option Addr) (n : Nat) (Ms : List (List (List Nat))) : Prop := Ms.length = n ∧ ∀ (i : Nat) (M : List (List Nat)), Ms[i]? = some M → ∃ b off q c, p = some ⟨b, off, none⟩ ∧ (∀ j v, [Value.slice q M.length c][j]? = some v → w.cell? ⟨b, off + i * 1 + j, none⟩ = some v) ∧ MS w q M.length M
def AlT (pr : Nat) (Ms : List (List (List Nat))) : Tell := fun v r => ∃ (po : Option Addr) (co : Nat) (Es : List MG), Es.map MG.M = Ms ∧ (∀ g ∈ Es, nums g.Q = modM pr g.M) ∧ v = .tuple #[.slice po Ms.length co, .int .i64 0] ∧ r = [.lst 63 3 po Ms.length co (Es.map (mgE pr))]
def SmallM (M : List (List Nat)) : Prop := M.length ≤ 2097152 ∧ ∀ r ∈ M, r.length ≤ 1048576
theorem wxall40 {pl : Option Addr} {nl cl p : Nat} {Ms : List (List (List Nat))} {w : World} (ht : Tb w) (hL : LMS w pl nl Ms) (hp2 : p < 4294967296) (hn : nl ≤ 1000) (hsm : ∀ M ∈ Ms, SmallM M) (hp : ¬ MR.Pr p) :
  Calls Tryd.prog 45 #[.int .u32 ((p : Nat) : Int), .slice pl nl cl] w (Ret (Is (.tuple #[.slice none 0 0, .int .i64 40])) w) := by
 have hS := Sep.init w
 refine went Tryd.func45 rfl (n := 35) rfl rfl ?_
 refine wseq (wreg (wl rfl (oassign (v := .slice none 0 0) rfl rfl evc ?_)))
 refine wl rfl (oassign (v := .int .i64 0) rfl rfl evc ?_)
 refine wnil (thenN (wseq (wseq (wreg (wl rfl (omove (v := .int .u32 (p : Int)) rfl rfl (ev rfl rfl) ?_))))))
 refine wl rfl (ocall rfl rfl Tryd.call65 rfl (wpis (b := false) hp2 (ht.at hS) ⟨(fun h => by cases h), (fun h => absurd h hp)⟩) (args1 (ev rfl rfl)) ?_)
 rintro _ w1 ⟨_, _, rfl, ⟨rfl, rfl⟩, hN⟩
 refine ⟨_, rfl, ?_⟩
 replace hS := hS.news hN; clear hN
 refine wl rfl (onot (b := false) rfl rfl (ev rfl rfl) ?_)
 refine wnil (thenN ?_)
 refine wT (ev rfl rfl) ?_
 refine wseq (wreg (wl rfl (oassign (v := .slice none 0 0) rfl rfl evc ?_)))
 refine wl rfl (oassign (v := .int .i64 40) rfl rfl evc ?_)
 refine wnil (thenN ?_)
 refine wleave ?_
 refine thenR ?_
 refine wret2 Tryd.results45 (tellT (v := .slice none 0 0) rfl rfl) (tellT (v := .int .i64 40) rfl rfl) ?_
 exact ⟨_, _, rfl, isI, hS.new0⟩
theorem wxall {pl : Option Addr} {nl cl p : Nat} {Ms : List (List (List Nat))} {w : World} (ht : Tb w) (hL : LMS w pl nl Ms) (hp2 : p < 4294967296) (hn : nl ≤ 1000) (hsm : ∀ M ∈ Ms, SmallM M) (hp : MR.Pr p) (hr : ∀ M ∈ Ms, RectM M) :
  Calls Tryd.prog 45 #[.int .u32 ((p : Nat) : Int), .slice pl nl cl] w (Ret (AlT p Ms) w) := by
 have hS := Sep.init w
 refine went Tryd.func45 rfl (n := 35) rfl rfl ?_
 refine wseq (wreg (wl rfl (oassign (v := .slice none 0 0) rfl rfl evc ?_)))
 refine wl rfl (oassign (v := .int .i64 0) rfl rfl evc ?_)
 refine wnil (thenN (wseq (wseq (wreg (wl rfl (omove (v := .int .u32 (p : Int)) rfl rfl (ev rfl rfl) ?_))))))
 have hp1 := hp.1
 refine wl rfl (ocall rfl rfl Tryd.call65 rfl (wpis (b := true) hp2 (ht.at hS) ⟨fun _ => hp, fun _ => rfl⟩) (args1 (ev rfl rfl)) ?_)
 rintro _ w1 ⟨_, _, rfl, ⟨rfl, rfl⟩, hN⟩
 refine ⟨_, rfl, ?_⟩
 replace hS := hS.news hN; clear hN
 refine wl rfl (onot (b := true) rfl rfl (ev rfl rfl) ?_)
 refine wnil (thenN ?_)
 refine wF (ev rfl rfl) ?_
 refine wskip (thenN (wseq (wreg (wl rfl (oassign (v := .slice none 0 0) rfl rfl evc ?_)))))
 refine wnil (thenN (wseq (wseq (wreg (wl rfl (omove (v := .slice pl nl cl) rfl rfl (ev rfl rfl) ?_))))))
 refine wl rfl (olen rfl rfl rfl Tryd.runUnderlying81 (p := pl) (k := nl) (m := cl) (ev rfl rfl) ?_)
 refine wl rfl (omove (v := .int .i64 0) rfl rfl evc ?_)
 refine wnil (thenN (wblock ?_))
 replace hS := hS.nilLst 63 3
 refine wloop (σ := Nat) (fun i a9 w' => ∃ (fb : Nat → Value) (Es : List MG) (pO : Option Addr) (cO : Nat), a9 = act 35 (sets fb [(0, .int .u32 (p : Int)), (6, .slice pO i cO), (14, .slice pl nl cl), (15, .int .i64 (nl : Int)), (16, .int .i64 (i : Int))]) ∧ Sep w [.lst 63 3 pO i cO (Es.map (mgE p))] w' ∧ (i ≤ nl) ∧ (Es.map MG.M = Ms.take i) ∧ (∀ g ∈ Es, nums g.Q = modM p g.M)) (fun i => nl - i) (0) ⟨_, [], none, 0, act_sets (l := [(0, .int .u32 (p : Int)), (6, .slice none 0 0), (14, .slice pl nl cl), (15, .int .i64 (nl : Int)), (16, .int .i64 0)]) ⟨rfl, rfl, rfl, rfl, rfl, trivial⟩, hS, Nat.zero_le _, rfl, (fun g h => by cases h)⟩ ?_
 clear hS; rintro i _ w2 ⟨fb, Es, pO, cO, rfl, hS, hi, hE, hE2⟩
 refine wseq (wreg ?_)
 by_cases hlt : i < nl
 ·
  have hnl := hL.1
  obtain ⟨M, hM⟩ : ∃ M, Ms[i]? = some M := ⟨_, List.getElem?_eq_getElem (by omega)⟩
  obtain ⟨b, off, pq, cq, hpx, hcx, hms⟩ := hL.2 i M hM
  obtain ⟨hs1, hs2⟩ := hsm M (List.mem_of_getElem? hM)
  refine wl rfl (obin (u := .int .i64 (i : Int)) (v := .int .i64 (nl : Int)) (z := .bool true) rfl rfl (ev rfl rfl) (ev rfl rfl) (bin_lss (decide_eq_true (by omega))) ?_)
  refine wnil (thenN (wseq ?_))
  refine wT (ev rfl rfl) ?_
  refine wskip (thenN (wseq (wblock (wseq (wreg ?_)))))
  have hrM := hr M (List.mem_of_getElem? hM)
  refine wl rfl (oindex (p := pl) (g := b) (off := off) (m := nl) (k := i) (j := (off + i * 1)) rfl rfl Tryd.runUnderlying81 Tryd.sizeOf26 (ev rfl rfl) (hpx) (ev rfl rfl) ((show i < nl by omega)) rfl ?_)
  refine wl rfl (oloadc (v := .slice pq M.length cq) (show One Tryd.prog 26 from ⟨Tryd.isAgg26, Tryd.sizeOf26⟩) rfl rfl (ev (v := .pointer (some ⟨b, (off + i * 1), none⟩)) rfl rfl) (hS.cellAt (hcx 0 _ rfl)) ?_)
  refine wl rfl (oassign (v := .slice pq M.length cq) rfl rfl (ev rfl rfl) ?_)
  refine wnil (thenN (wseq (wreg (wl rfl (omove (v := .slice pq M.length cq) rfl rfl (ev rfl rfl) ?_)))))
  refine wl rfl (omove (v := .int .u32 (p : Int)) rfl rfl (ev rfl rfl) ?_)
  refine wl rfl (ocall rfl rfl Tryd.call66 rfl (wxread (hms.at hS) (by omega) hp2 hs1 hs2 hrM) (args2 (ev rfl rfl) (ev rfl rfl)) ?_)
  rintro _ w3 ⟨_, _, rfl, ⟨pX, cX, QX, hQX, rfl, rfl⟩, hN⟩
  refine ⟨_, rfl, ?_⟩
  replace hS := hS.news hN; clear hN
  refine wl rfl (omove (v := .tuple #[.agg #[.int .u64 (p : Int), .slice pX M.length cX, .int .i64 (((colsM M : Nat) : Int))], .int .i64 0]) rfl rfl (ev rfl rfl) ?_)
  refine wl rfl (oextract (vs := [.agg #[.int .u64 (p : Int), .slice pX M.length cX, .int .i64 (((colsM M : Nat) : Int))], .int .i64 0]) (v := .agg #[.int .u64 (p : Int), .slice pX M.length cX, .int .i64 (((colsM M : Nat) : Int))]) rfl rfl (ev rfl rfl) rfl ?_)
  refine wl rfl (oextract (vs := [.agg #[.int .u64 (p : Int), .slice pX M.length cX, .int .i64 (((colsM M : Nat) : Int))], .int .i64 0]) (v := .int .i64 0) rfl rfl (ev rfl rfl) rfl ?_)
  refine wl rfl (oalloc [.int .u64 0, .slice none 0 0, .int .i64 0] hS rfl rfl Tryd.zeroValue63 rfl ?_)
  clear hS; intro g4 w5 hS
  refine wl rfl (ostore [.int .u64 (p : Int), .slice pX M.length cX, .int .i64 (((colsM M : Nat) : Int))] [.int .u64 (p : Int), .slice pX M.length cX, .int .i64 (((colsM M : Nat) : Int))] Tryd.sizeOf63 hS 0 rfl rfl (ev rfl rfl) (ev (v := .agg #[.int .u64 (p : Int), .slice pX M.length cX, .int .i64 (((colsM M : Nat) : Int))]) rfl rfl) rfl rfl rfl rfl rfl rfl ?_)
  clear hS; intro w6 hS
  refine wl rfl (oassign (v := .int .i64 0) rfl rfl (ev rfl rfl) ?_)
  refine wnil (thenN (wseq (wseq (wreg (wl rfl (omove (v := .int .i64 0) rfl rfl (ev rfl rfl) ?_))))))
  refine wl rfl (obin (u := .int .i64 0) (v := .int .i64 0) (z := .bool false) rfl rfl (ev rfl rfl) evc (bin_neq (by decide)) ?_)
  refine wnil (thenN ?_)
  refine wF (ev rfl rfl) ?_
  refine wskip (thenN (wreg (wl rfl (omove (v := .slice pO i cO) rfl rfl (ev rfl rfl) ?_))))
  refine wl rfl (oload (vs := [.int .u64 (p : Int), .slice pX M.length cX, .int .i64 (((colsM M : Nat) : Int))]) (show Agg Tryd.prog 63 3 from ⟨Tryd.isAgg63, Tryd.sizeOf63⟩) hS 0 rfl rfl (ev rfl rfl) rfl rfl rfl ?_)
  refine wl rfl (obslice (ps := #[(0, .agg #[.int .u64 (p : Int), .slice pX M.length cX, .int .i64 (((colsM M : Nat) : Int))])]) (z := .agg #[.int .u64 0, .slice none 0 0, .int .i64 0]) [.int .u64 (p : Int), .slice pX M.length cX, .int .i64 (((colsM M : Nat) : Int))] hS rfl rfl Tryd.runUnderlying73 Tryd.sizeOf63 Tryd.zeroValue63 (parts1 (ev (v := .agg #[.int .u64 (p : Int), .slice pX M.length cX, .int .i64 (((colsM M : Nat) : Int))]) rfl rfl)) rfl (by decide) fill3_1 ?_)
  clear hS; intro g7 w8 hS
  obtain hS := (show Sep w [.lst 52 1 pX M.length cX (mmE QX), .lst 63 3 pO i cO (Es.map (mgE p)), .blk g7 [.int .u64 (((p : Nat) : Int)), .slice pX M.length cX, .int .i64 (((colsM M : Nat) : Int))] 63, .blk g4 [.int .u64 (((p : Nat) : Int)), .slice pX M.length cX, .int .i64 (((colsM M : Nat) : Int))] 63] w8 from hS.pick [2, 3, 0, 1] (by decide) rfl)
  refine wl rfl (oappendL (p := pO) (m := i) (c := cO) (g2 := g7) (c2 := 1) (off := 0) [.int .u64 (p : Int), .slice pX M.length cX, .int .i64 (((colsM M : Nat) : Int))] [.lst 52 1 pX M.length cX (mmE QX)] hS rfl rfl Tryd.underlying73 infoMat rfl (by decide) (ev (v := .slice pO i cO) rfl rfl) (ev (v := .slice (some ⟨g7, 0, none⟩) 1 1) rfl rfl) (fun j v hj => by rw [Nat.zero_add]; exact (blk_cell (hS.blkAt 2 rfl) j).trans hj) rfl rfl rfl (by omega) (by omega) ?_)
  clear hS; intro p10 c11 w9 hS
  refine wl rfl (oassign (v := .slice p10 ((i + 1)) c11) rfl rfl (ev rfl rfl) ?_)
  refine wnil (blkN (thenN (wreg (wl rfl (obin (u := .int .i64 (i : Int)) (v := .int .i64 1) (z := .int .i64 (((i + 1 : Nat) : Int))) rfl rfl (ev rfl rfl) evc (bin_add (wrap_i64 (by omega) (by omega))) ?_)))))
  refine wl rfl (omove (v := .int .i64 (((i + 1 : Nat) : Int))) rfl rfl (ev rfl rfl) ?_)
  refine wnil (thenN ?_)
  rw [mg_snoc] at hS
  exact ⟨(i + 1), ⟨_, _, _, _, act_sets (l := [(0, .int .u32 (p : Int)), (6, .slice p10 ((i + 1)) c11), (14, .slice pl nl cl), (15, .int .i64 (nl : Int)), (16, .int .i64 (((i + 1 : Nat) : Int)))]) ⟨rfl, rfl, rfl, rfl, rfl, trivial⟩, hS.pick [0] (by decide) rfl, by omega, by rw [List.map_append, hE, take_next hM]; rfl, fun g hg => (List.mem_append.1 hg).elim (hE2 g) (fun h => by rw [List.mem_singleton.1 h]; exact hQX)⟩, by omega⟩
 ·
  refine wl rfl (obin (u := .int .i64 (i : Int)) (v := .int .i64 (nl : Int)) (z := .bool false) rfl rfl (ev rfl rfl) (ev rfl rfl) (bin_lss (decide_eq_false (by omega))) ?_)
  refine wnil (thenN (wseq ?_))
  refine wF (ev rfl rfl) ?_
  refine wexit ?_
  refine thenE ?_
  refine thenE ?_
  refine blkE ?_
  refine thenN (wseq (wreg (wl rfl (omove (v := .slice pO i cO) rfl rfl (ev rfl rfl) ?_))))
  refine wl rfl (oassign (v := .slice pO i cO) rfl rfl (ev rfl rfl) ?_)
  refine wl rfl (oassign (v := .int .i64 0) rfl rfl evc ?_)
  refine wnil (thenN ?_)
  refine wleave ?_
  have hnl := hL.1
  obtain rfl : i = Ms.length := by omega
  rw [List.take_length] at hE
  refine wret2 Tryd.results45 (tellT (v := .slice pO Ms.length cO) rfl rfl) (tellT (v := .int .i64 0) rfl rfl) ?_
  exact ⟨_, _, rfl, ⟨_, _, Es, hE, hE2, rfl, rfl⟩, hS.newR 0 rfl rfl⟩
theorem wxallE {pl : Option Addr} {nl cl p : Nat} {Ms : List (List (List Nat))} {w : World} (ht : Tb w) (hL : LMS w pl nl Ms) (hp2 : p < 4294967296) (hn : nl ≤ 1000) (hsm : ∀ M ∈ Ms, SmallM M) (hp : MR.Pr p) (hr : ¬ ∀ M ∈ Ms, RectM M) :
  Calls Tryd.prog 45 #[.int .u32 ((p : Nat) : Int), .slice pl nl cl] w (Ret (Is (.tuple #[.slice none 0 0, .int .i64 2])) w) := by
 have hS := Sep.init w
 refine went Tryd.func45 rfl (n := 35) rfl rfl ?_
 refine wseq (wreg (wl rfl (oassign (v := .slice none 0 0) rfl rfl evc ?_)))
 refine wl rfl (oassign (v := .int .i64 0) rfl rfl evc ?_)
 refine wnil (thenN (wseq (wseq (wreg (wl rfl (omove (v := .int .u32 (p : Int)) rfl rfl (ev rfl rfl) ?_))))))
 have hp1 := hp.1
 refine wl rfl (ocall rfl rfl Tryd.call65 rfl (wpis (b := true) hp2 (ht.at hS) ⟨fun _ => hp, fun _ => rfl⟩) (args1 (ev rfl rfl)) ?_)
 rintro _ w1 ⟨_, _, rfl, ⟨rfl, rfl⟩, hN⟩
 refine ⟨_, rfl, ?_⟩
 replace hS := hS.news hN; clear hN
 refine wl rfl (onot (b := true) rfl rfl (ev rfl rfl) ?_)
 refine wnil (thenN ?_)
 refine wF (ev rfl rfl) ?_
 refine wskip (thenN (wseq (wreg (wl rfl (oassign (v := .slice none 0 0) rfl rfl evc ?_)))))
 refine wnil (thenN (wseq (wseq (wreg (wl rfl (omove (v := .slice pl nl cl) rfl rfl (ev rfl rfl) ?_))))))
 refine wl rfl (olen rfl rfl rfl Tryd.runUnderlying81 (p := pl) (k := nl) (m := cl) (ev rfl rfl) ?_)
 refine wl rfl (omove (v := .int .i64 0) rfl rfl evc ?_)
 refine wnil (thenN (wblock ?_))
 replace hS := hS.nilLst 63 3
 refine wloop (σ := Nat) (fun i a9 w' => ∃ (fb : Nat → Value) (Es : List MG) (pO : Option Addr) (cO : Nat), a9 = act 35 (sets fb [(0, .int .u32 (p : Int)), (6, .slice pO i cO), (14, .slice pl nl cl), (15, .int .i64 (nl : Int)), (16, .int .i64 (i : Int))]) ∧ Sep w [.lst 63 3 pO i cO (Es.map (mgE p))] w' ∧ (i ≤ nl) ∧ (Es.map MG.M = Ms.take i) ∧ (∀ g ∈ Es, nums g.Q = modM p g.M) ∧ (∀ M ∈ Ms.take i, RectM M)) (fun i => nl - i) (0) ⟨_, [], none, 0, act_sets (l := [(0, .int .u32 (p : Int)), (6, .slice none 0 0), (14, .slice pl nl cl), (15, .int .i64 (nl : Int)), (16, .int .i64 0)]) ⟨rfl, rfl, rfl, rfl, rfl, trivial⟩, hS, Nat.zero_le _, rfl, (fun g h => by cases h), by simp⟩ ?_
 clear hS; rintro i _ w2 ⟨fb, Es, pO, cO, rfl, hS, hi, hE, hE2, hrc⟩
 refine wseq (wreg ?_)
 by_cases hlt : i < nl
 ·
  have hnl := hL.1
  obtain ⟨M, hM⟩ : ∃ M, Ms[i]? = some M := ⟨_, List.getElem?_eq_getElem (by omega)⟩
  obtain ⟨b, off, pq, cq, hpx, hcx, hms⟩ := hL.2 i M hM
  obtain ⟨hs1, hs2⟩ := hsm M (List.mem_of_getElem? hM)
  refine wl rfl (obin (u := .int .i64 (i : Int)) (v := .int .i64 (nl : Int)) (z := .bool true) rfl rfl (ev rfl rfl) (ev rfl rfl) (bin_lss (decide_eq_true (by omega))) ?_)
  refine wnil (thenN (wseq ?_))
  refine wT (ev rfl rfl) ?_
  refine wskip (thenN (wseq (wblock (wseq (wreg (wl rfl (oindex (p := pl) (g := b) (off := off) (m := nl) (k := i) (j := (off + i * 1)) rfl rfl Tryd.runUnderlying81 Tryd.sizeOf26 (ev rfl rfl) (hpx) (ev rfl rfl) ((show i < nl by omega)) rfl ?_)))))))
  refine wl rfl (oloadc (v := .slice pq M.length cq) (show One Tryd.prog 26 from ⟨Tryd.isAgg26, Tryd.sizeOf26⟩) rfl rfl (ev (v := .pointer (some ⟨b, (off + i * 1), none⟩)) rfl rfl) (hS.cellAt (hcx 0 _ rfl)) ?_)
  refine wl rfl (oassign (v := .slice pq M.length cq) rfl rfl (ev rfl rfl) ?_)
  refine wnil (thenN (wseq (wreg (wl rfl (omove (v := .slice pq M.length cq) rfl rfl (ev rfl rfl) ?_)))))
  refine wl rfl (omove (v := .int .u32 (p : Int)) rfl rfl (ev rfl rfl) ?_)
  by_cases hrM : RectM M
  ·
   refine wl rfl (ocall rfl rfl Tryd.call66 rfl (wxread (hms.at hS) (by omega) hp2 hs1 hs2 hrM) (args2 (ev rfl rfl) (ev rfl rfl)) ?_)
   rintro _ w3 ⟨_, _, rfl, ⟨pX, cX, QX, hQX, rfl, rfl⟩, hN⟩
   refine ⟨_, rfl, ?_⟩
   replace hS := hS.news hN; clear hN
   refine wl rfl (omove (v := .tuple #[.agg #[.int .u64 (p : Int), .slice pX M.length cX, .int .i64 (((colsM M : Nat) : Int))], .int .i64 0]) rfl rfl (ev rfl rfl) ?_)
   refine wl rfl (oextract (vs := [.agg #[.int .u64 (p : Int), .slice pX M.length cX, .int .i64 (((colsM M : Nat) : Int))], .int .i64 0]) (v := .agg #[.int .u64 (p : Int), .slice pX M.length cX, .int .i64 (((colsM M : Nat) : Int))]) rfl rfl (ev rfl rfl) rfl ?_)
   refine wl rfl (oextract (vs := [.agg #[.int .u64 (p : Int), .slice pX M.length cX, .int .i64 (((colsM M : Nat) : Int))], .int .i64 0]) (v := .int .i64 0) rfl rfl (ev rfl rfl) rfl ?_)
   refine wl rfl (oalloc [.int .u64 0, .slice none 0 0, .int .i64 0] hS rfl rfl Tryd.zeroValue63 rfl ?_)
   clear hS; intro g4 w5 hS
   refine wl rfl (ostore [.int .u64 (p : Int), .slice pX M.length cX, .int .i64 (((colsM M : Nat) : Int))] [.int .u64 (p : Int), .slice pX M.length cX, .int .i64 (((colsM M : Nat) : Int))] Tryd.sizeOf63 hS 0 rfl rfl (ev rfl rfl) (ev (v := .agg #[.int .u64 (p : Int), .slice pX M.length cX, .int .i64 (((colsM M : Nat) : Int))]) rfl rfl) rfl rfl rfl rfl rfl rfl ?_)
   clear hS; intro w6 hS
   refine wl rfl (oassign (v := .int .i64 0) rfl rfl (ev rfl rfl) ?_)
   refine wnil (thenN (wseq (wseq (wreg (wl rfl (omove (v := .int .i64 0) rfl rfl (ev rfl rfl) ?_))))))
   refine wl rfl (obin (u := .int .i64 0) (v := .int .i64 0) (z := .bool false) rfl rfl (ev rfl rfl) evc (bin_neq (by decide)) ?_)
   refine wnil (thenN ?_)
   refine wF (ev rfl rfl) ?_
   refine wskip (thenN (wreg (wl rfl (omove (v := .slice pO i cO) rfl rfl (ev rfl rfl) ?_))))
   refine wl rfl (oload (vs := [.int .u64 (p : Int), .slice pX M.length cX, .int .i64 (((colsM M : Nat) : Int))]) (show Agg Tryd.prog 63 3 from ⟨Tryd.isAgg63, Tryd.sizeOf63⟩) hS 0 rfl rfl (ev rfl rfl) rfl rfl rfl ?_)
   refine wl rfl (obslice (ps := #[(0, .agg #[.int .u64 (p : Int), .slice pX M.length cX, .int .i64 (((colsM M : Nat) : Int))])]) (z := .agg #[.int .u64 0, .slice none 0 0, .int .i64 0]) [.int .u64 (p : Int), .slice pX M.length cX, .int .i64 (((colsM M : Nat) : Int))] hS rfl rfl Tryd.runUnderlying73 Tryd.sizeOf63 Tryd.zeroValue63 (parts1 (ev (v := .agg #[.int .u64 (p : Int), .slice pX M.length cX, .int .i64 (((colsM M : Nat) : Int))]) rfl rfl)) rfl (by decide) fill3_1 ?_)
   clear hS; intro g7 w8 hS
   obtain hS := (show Sep w [.lst 52 1 pX M.length cX (mmE QX), .lst 63 3 pO i cO (Es.map (mgE p)), .blk g7 [.int .u64 (((p : Nat) : Int)), .slice pX M.length cX, .int .i64 (((colsM M : Nat) : Int))] 63, .blk g4 [.int .u64 (((p : Nat) : Int)), .slice pX M.length cX, .int .i64 (((colsM M : Nat) : Int))] 63] w8 from hS.pick [2, 3, 0, 1] (by decide) rfl)
   refine wl rfl (oappendL (p := pO) (m := i) (c := cO) (g2 := g7) (c2 := 1) (off := 0) [.int .u64 (p : Int), .slice pX M.length cX, .int .i64 (((colsM M : Nat) : Int))] [.lst 52 1 pX M.length cX (mmE QX)] hS rfl rfl Tryd.underlying73 infoMat rfl (by decide) (ev (v := .slice pO i cO) rfl rfl) (ev (v := .slice (some ⟨g7, 0, none⟩) 1 1) rfl rfl) (fun j v hj => by rw [Nat.zero_add]; exact (blk_cell (hS.blkAt 2 rfl) j).trans hj) rfl rfl rfl (by omega) (by omega) ?_)
   clear hS; intro p10 c11 w9 hS
   refine wl rfl (oassign (v := .slice p10 ((i + 1)) c11) rfl rfl (ev rfl rfl) ?_)
   refine wnil (blkN (thenN (wreg (wl rfl (obin (u := .int .i64 (i : Int)) (v := .int .i64 1) (z := .int .i64 (((i + 1 : Nat) : Int))) rfl rfl (ev rfl rfl) evc (bin_add (wrap_i64 (by omega) (by omega))) ?_)))))
   refine wl rfl (omove (v := .int .i64 (((i + 1 : Nat) : Int))) rfl rfl (ev rfl rfl) ?_)
   refine wnil (thenN ?_)
   rw [mg_snoc] at hS
   exact ⟨(i + 1), ⟨_, _, _, _, act_sets (l := [(0, .int .u32 (p : Int)), (6, .slice p10 ((i + 1)) c11), (14, .slice pl nl cl), (15, .int .i64 (nl : Int)), (16, .int .i64 (((i + 1 : Nat) : Int)))]) ⟨rfl, rfl, rfl, rfl, rfl, trivial⟩, hS.pick [0] (by decide) rfl, by omega, by rw [List.map_append, hE, take_next hM]; rfl, fun g hg => (List.mem_append.1 hg).elim (hE2 g) (fun h => by rw [List.mem_singleton.1 h]; exact hQX), fun u hu => by rw [take_next hM] at hu; exact (List.mem_append.1 hu).elim (hrc u) (fun h => by rw [List.mem_singleton.1 h]; exact hrM)⟩, by omega⟩
  ·
   refine wl rfl (ocall rfl rfl Tryd.call66 rfl (wxreadE (hms.at hS) (by omega) hp2 hs1 hs2 hrM) (args2 (ev rfl rfl) (ev rfl rfl)) ?_)
   rintro _ w3 ⟨_, _, rfl, ⟨rfl, rfl⟩, hN⟩
   refine ⟨_, rfl, ?_⟩
   replace hS := hS.news hN; clear hN
   refine wl rfl (omove (v := .tuple #[.agg #[.int .u64 0, .slice none 0 0, .int .i64 0], .int .i64 2]) rfl rfl (ev rfl rfl) ?_)
   refine wl rfl (oextract (vs := [.agg #[.int .u64 0, .slice none 0 0, .int .i64 0], .int .i64 2]) (v := .agg #[.int .u64 0, .slice none 0 0, .int .i64 0]) rfl rfl (ev rfl rfl) rfl ?_)
   refine wl rfl (oextract (vs := [.agg #[.int .u64 0, .slice none 0 0, .int .i64 0], .int .i64 2]) (v := .int .i64 2) rfl rfl (ev rfl rfl) rfl ?_)
   refine wl rfl (oalloc [.int .u64 0, .slice none 0 0, .int .i64 0] hS rfl rfl Tryd.zeroValue63 rfl ?_)
   clear hS; intro g4 w5 hS
   refine wl rfl (ostore [.int .u64 0, .slice none 0 0, .int .i64 0] [.int .u64 0, .slice none 0 0, .int .i64 0] Tryd.sizeOf63 hS 0 rfl rfl (ev rfl rfl) (ev (v := .agg #[.int .u64 0, .slice none 0 0, .int .i64 0]) rfl rfl) rfl rfl rfl rfl rfl rfl ?_)
   clear hS; intro w6 hS
   refine wl rfl (oassign (v := .int .i64 2) rfl rfl (ev rfl rfl) ?_)
   refine wnil (thenN (wseq (wseq (wreg (wl rfl (omove (v := .int .i64 2) rfl rfl (ev rfl rfl) ?_))))))
   refine wl rfl (obin (u := .int .i64 2) (v := .int .i64 0) (z := .bool true) rfl rfl (ev rfl rfl) evc (bin_neq (by decide)) ?_)
   refine wnil (thenN ?_)
   refine wT (ev rfl rfl) ?_
   refine wseq (wreg (wl rfl (omove (v := .int .i64 2) rfl rfl (ev rfl rfl) ?_)))
   refine wl rfl (oassign (v := .slice none 0 0) rfl rfl evc ?_)
   refine wl rfl (oassign (v := .int .i64 2) rfl rfl (ev rfl rfl) ?_)
   refine wnil (thenN ?_)
   refine wleave ?_
   refine thenR ?_
   refine blkR ?_
   refine thenR ?_
   refine thenR ?_
   refine blkR ?_
   refine thenR ?_
   refine wret2 Tryd.results45 (tellT (v := .slice none 0 0) rfl rfl) (tellT (v := .int .i64 2) rfl rfl) ?_
   exact ⟨_, _, rfl, isI, hS.new0⟩
 ·
  refine wl rfl (obin (u := .int .i64 (i : Int)) (v := .int .i64 (nl : Int)) (z := .bool false) rfl rfl (ev rfl rfl) (ev rfl rfl) (bin_lss (decide_eq_false (by omega))) ?_)
  refine wnil (thenN (wseq ?_))
  refine wF (ev rfl rfl) ?_
  refine wexit ?_
  refine thenE ?_
  refine thenE ?_
  refine blkE ?_
  refine thenN (wseq (wreg (wl rfl (omove (v := .slice pO i cO) rfl rfl (ev rfl rfl) ?_))))
  refine wl rfl (oassign (v := .slice pO i cO) rfl rfl (ev rfl rfl) ?_)
  refine wl rfl (oassign (v := .int .i64 0) rfl rfl evc ?_)
  refine wnil (thenN ?_)
  refine wleave ?_
  exact absurd (fun M hM => hrc M (by rw [List.take_of_length_le (by have := hL.1; omega)]; exact hM)) hr
theorem Sep.new {S : List Res} {w w' : World} (h : Sep w S w') (ha : S.all (fun r => !r.arg) = true) : New w S w' :=
  ⟨h.below, h.holds, fun r hr g hg => h.low r hr (by have := List.all_eq_true.1 ha r hr; simpa using this) g hg, h.apart⟩
theorem LMS.one {w : World} {g : Nat} {p : Option Addr} {n c : Nat} {M : List (List Nat)} {t : TypeId} (h : w.heap[g]? = some (.cells [.slice p n c].toArray t)) (hM : MS w p n M) : LMS w (some ⟨g, 0, none⟩) 1 [M] := by
  refine ⟨rfl, fun i N hN => ?_⟩
  have hi : i < 1 := (List.getElem?_eq_some_iff.1 hN).1
  obtain rfl : i = 0 := by omega
  simp at hN
  subst hN
  have hl := hM.1
  subst hl
  exact ⟨g, 0, p, c, rfl, fun j v hj => (blk_cell h (0 + j)).trans (by rw [Nat.zero_add]; exact hj) |> fun x => by simpa using x, hM⟩
theorem LMS.two {w : World} {g : Nat} {p p2 : Option Addr} {n c n2 c2 : Nat} {M M2 : List (List Nat)} {t : TypeId} (h : w.heap[g]? = some (.cells [.slice p n c, .slice p2 n2 c2].toArray t)) (hM : MS w p n M) (hM2 : MS w p2 n2 M2) : LMS w (some ⟨g, 0, none⟩) 2 [M, M2] := by
 refine ⟨rfl, fun i N hN => ?_⟩
 have hi : i < 2 := (List.getElem?_eq_some_iff.1 hN).1
 have hl := hM.1
 have hl2 := hM2.1
 subst hl; subst hl2
 have hb := fun j v => fun hj => (blk_cell h j).trans (show [Value.slice p M.length c, .slice p2 M2.length c2][j]? = some v from hj)
 match i, hi with
 | 0, _ =>
  simp at hN; subst hN
  refine ⟨g, 0, p, c, rfl, fun j v hj => ?_, hM⟩
  have h1 : j = 0 := by have := (List.getElem?_eq_some_iff.1 hj).1; simp at this; omega
  subst h1
  exact hb 0 v hj
 | 1, _ =>
  simp at hN; subst hN
  refine ⟨g, 0, p2, c2, rfl, fun j v hj => ?_, hM2⟩
  have h1 : j = 0 := by have := (List.getElem?_eq_some_iff.1 hj).1; simp at this; omega
  subst h1
  exact hb 1 v hj
def Al1 (pr : Nat) (M : List (List Nat)) : Tell := fun v r => ∃ po co pp c Q, nums Q = modM pr M ∧ v = .tuple #[.slice po 1 co, .int .i64 0] ∧ r = [.lst 52 1 pp M.length c (mmE Q), .lst 63 3 po 1 co [⟨[.int .u64 ((pr : Nat) : Int), .slice pp M.length c, .int .i64 ((colsM M : Nat) : Int)], []⟩]]
theorem AlT.one {pr : Nat} {M : List (List Nat)} {w : World} (e : Ending) (w' : World) (h : Ret (AlT pr [M]) w e w') : Ret (Al1 pr M) w e w' := by
 obtain ⟨v, r, he, ⟨po, co, Es, h1, h2, rfl, rfl⟩, hN⟩ := h
 obtain ⟨g, rfl⟩ : ∃ g, Es = [g] := by
  match Es, h1 with
  | [g], _ => exact ⟨g, rfl⟩
  | [], h => cases h
  | _ :: _ :: _, h => simp at h
 simp at h1
 subst h1
 refine ⟨_, _, he, ⟨po, co, g.p, g.c, g.Q, h2 g (by simp), rfl, rfl⟩, ?_⟩
 have hS := (Sep.init w).news hN
 exact (Sep.takeEl (i := 0) (el := mgE pr g) hS rfl).new rfl
def Al2 (pr : Nat) (M M2 : List (List Nat)) : Tell := fun v r => ∃ po co pp c Q pp2 c2 Q2, nums Q = modM pr M ∧ nums Q2 = modM pr M2 ∧ v = .tuple #[.slice po 2 co, .int .i64 0] ∧ r = [.lst 52 1 pp M.length c (mmE Q), .lst 52 1 pp2 M2.length c2 (mmE Q2), .lst 63 3 po 2 co [⟨[.int .u64 ((pr : Nat) : Int), .slice pp M.length c, .int .i64 ((colsM M : Nat) : Int)], []⟩, ⟨[.int .u64 ((pr : Nat) : Int), .slice pp2 M2.length c2, .int .i64 ((colsM M2 : Nat) : Int)], []⟩]]
theorem AlT.two {pr : Nat} {M M2 : List (List Nat)} {w : World} (e : Ending) (w' : World) (h : Ret (AlT pr [M, M2]) w e w') : Ret (Al2 pr M M2) w e w' := by
 obtain ⟨v, r, he, ⟨po, co, Es, h1, h2, rfl, rfl⟩, hN⟩ := h
 obtain ⟨g, g2, rfl⟩ : ∃ g g2, Es = [g, g2] := by
  match Es, h1 with
  | [g, g2], _ => exact ⟨g, g2, rfl⟩
  | [], h => cases h
  | [_], h => simp at h
  | _ :: _ :: _ :: _, h => simp at h
 simp at h1
 obtain ⟨rfl, rfl⟩ := h1
 refine ⟨_, _, he, ⟨po, co, g.p, g.c, g.Q, g2.p, g2.c, g2.Q, h2 g (by simp), h2 g2 (by simp), rfl, rfl⟩, ?_⟩
 have hS := (Sep.init w).news hN
 have h1 := Sep.takeEl (i := 1) (el := mgE pr g2) hS rfl
 have h2 := h1.perm (List.Perm.swap _ _ _)
 have h3 := Sep.takeEl (i := 0) (el := mgE pr g) h2 rfl
 exact (h3.pick [0, 2, 1] (by decide) rfl : Sep w [_, _, _] w').new rfl
theorem wxall1 {g : Nat} {pm : Option Addr} {nm cm c1 p : Nat} {t : TypeId} {M : List (List Nat)} {w : World} (ht : Tb w) (hb : w.heap[g]? = some (.cells [.slice pm nm cm].toArray t)) (hm : MS w pm nm M) (hp : MR.Pr p) (hp2 : p < 4294967296) (hs : SmallM M) (hr : RectM M) :
  Calls Tryd.prog 45 #[.int .u32 ((p : Nat) : Int), .slice (some ⟨g, 0, none⟩) 1 c1] w (Ret (Al1 p M) w) :=
 (wxall ht (LMS.one hb hm) hp2 (by omega) (fun N h => by rw [List.mem_singleton.1 h]; exact hs) hp (fun N h => by rw [List.mem_singleton.1 h]; exact hr)).mono AlT.one
end Go.Proofs.YtndilfigdbenoaaDoor
/-
  modmat's square, and slices.IndexFunc over rows.
-/
namespace Go.Proofs.YtndilfigdbenoaaDoor
open Go.RowKit
theorem wxsquare40 {pm : Option Addr} {nm cm p : Nat} {M : List (List Nat)} {w : World} (ht : Tb w) (hm : MS w pm nm M) (hp2 : p < 4294967296) (hs : SmallM M) (hp : ¬ MR.Pr p) :
  Calls Tryd.prog 38 #[.int .u32 ((p : Nat) : Int), .slice pm nm cm] w (Ret (Is (.tuple #[.agg #[.int .u64 0, .slice none 0 0, .int .i64 0], .int .i64 40])) w) := by
 have hS := Sep.init w
 refine went Tryd.func38 rfl (n := 41) rfl rfl ?_
 refine wseq (wreg (wl rfl (oalloc [.int .u64 0, .slice none 0 0, .int .i64 0] hS rfl rfl Tryd.zeroValue63 rfl ?_)))
 clear hS; intro g1 w2 hS
 refine wl rfl (oassign (v := .int .i64 0) rfl rfl evc ?_)
 refine wnil (thenN (wseq (wreg (wl rfl (omove (v := .int .u32 (p : Int)) rfl rfl (ev rfl rfl) ?_)))))
 refine wl rfl (omove (v := .slice pm nm cm) rfl rfl (ev rfl rfl) ?_)
 refine wl rfl (obslice (ps := #[(0, .slice pm nm cm)]) (z := .slice none 0 0) [.slice pm nm cm] hS rfl rfl Tryd.runUnderlying81 Tryd.sizeOf26 Tryd.zeroValue26 (parts1 (ev (v := .slice pm nm cm) rfl rfl)) rfl (by decide) (fill1_1s rfl rfl) ?_)
 clear hS; intro g3 w4 hS
 refine wl rfl (ocall rfl rfl Tryd.call45 rfl (wxall40 (ht.at hS) (LMS.one (hS.blkAt 0 rfl) (hm.at hS)) hp2 (by omega) (fun N h => by rw [List.mem_singleton.1 h]; exact hs) (hp)) (args2 (ev rfl rfl) (ev rfl rfl)) ?_)
 rintro _ w5 ⟨_, _, rfl, ⟨rfl, rfl⟩, hN⟩
 refine ⟨_, rfl, ?_⟩
 replace hS := hS.news hN; clear hN
 refine wl rfl (omove (v := .tuple #[.slice none 0 0, .int .i64 40]) rfl rfl (ev rfl rfl) ?_)
 refine wl rfl (oextract (vs := [.slice none 0 0, .int .i64 40]) (v := .slice none 0 0) rfl rfl (ev rfl rfl) rfl ?_)
 refine wl rfl (oextract (vs := [.slice none 0 0, .int .i64 40]) (v := .int .i64 40) rfl rfl (ev rfl rfl) rfl ?_)
 refine wl rfl (oassign (v := .slice none 0 0) rfl rfl (ev rfl rfl) ?_)
 refine wl rfl (oassign (v := .int .i64 40) rfl rfl (ev rfl rfl) ?_)
 refine wnil (thenN (wseq (wseq (wreg (wl rfl (omove (v := .int .i64 40) rfl rfl (ev rfl rfl) ?_))))))
 refine wl rfl (obin (u := .int .i64 40) (v := .int .i64 0) (z := .bool true) rfl rfl (ev rfl rfl) evc (bin_neq (by decide)) ?_)
 refine wnil (thenN ?_)
 refine wT (ev rfl rfl) ?_
 refine wseq (wreg (wl rfl (obuild (ps := #[]) (v := .agg #[.int .u64 0, .slice none 0 0, .int .i64 0]) rfl rfl (parts0) (fun w => by simp [go_sem, Instr.build, Instr.fill]) ?_)))
 refine wl rfl (omove (v := .int .i64 40) rfl rfl (ev rfl rfl) ?_)
 refine wl rfl (ostore [.int .u64 0, .slice none 0 0, .int .i64 0] [.int .u64 0, .slice none 0 0, .int .i64 0] Tryd.sizeOf63 hS 1 rfl rfl (ev rfl rfl) (ev (v := .agg #[.int .u64 0, .slice none 0 0, .int .i64 0]) rfl rfl) rfl rfl rfl rfl rfl rfl ?_)
 clear hS; intro w6 hS
 refine wl rfl (oassign (v := .int .i64 40) rfl rfl (ev rfl rfl) ?_)
 refine wnil (thenN ?_)
 refine wleave ?_
 refine thenR ?_
 refine wret2 Tryd.results38 (tellC (cs := [.int .u64 0, .slice none 0 0, .int .i64 0]) (show Agg Tryd.prog 63 3 from ⟨Tryd.isAgg63, Tryd.sizeOf63⟩) hS 1 rfl rfl rfl rfl) (tellT (v := .int .i64 40) rfl rfl) ?_
 exact ⟨_, _, rfl, isI, hS.new0⟩
theorem wxsquare2 {pm : Option Addr} {nm cm p : Nat} {M : List (List Nat)} {w : World} (ht : Tb w) (hm : MS w pm nm M) (hp2 : p < 4294967296) (hs : SmallM M) (hp : MR.Pr p) (hr : ¬ RectM M) :
  Calls Tryd.prog 38 #[.int .u32 ((p : Nat) : Int), .slice pm nm cm] w (Ret (Is (.tuple #[.agg #[.int .u64 0, .slice none 0 0, .int .i64 0], .int .i64 2])) w) := by
 have hS := Sep.init w
 refine went Tryd.func38 rfl (n := 41) rfl rfl ?_
 refine wseq (wreg (wl rfl (oalloc [.int .u64 0, .slice none 0 0, .int .i64 0] hS rfl rfl Tryd.zeroValue63 rfl ?_)))
 clear hS; intro g1 w2 hS
 refine wl rfl (oassign (v := .int .i64 0) rfl rfl evc ?_)
 refine wnil (thenN (wseq (wreg (wl rfl (omove (v := .int .u32 (p : Int)) rfl rfl (ev rfl rfl) ?_)))))
 refine wl rfl (omove (v := .slice pm nm cm) rfl rfl (ev rfl rfl) ?_)
 refine wl rfl (obslice (ps := #[(0, .slice pm nm cm)]) (z := .slice none 0 0) [.slice pm nm cm] hS rfl rfl Tryd.runUnderlying81 Tryd.sizeOf26 Tryd.zeroValue26 (parts1 (ev (v := .slice pm nm cm) rfl rfl)) rfl (by decide) (fill1_1s rfl rfl) ?_)
 clear hS; intro g3 w4 hS
 refine wl rfl (ocall rfl rfl Tryd.call45 rfl (wxallE (ht.at hS) (LMS.one (hS.blkAt 0 rfl) (hm.at hS)) hp2 (by omega) (fun N h => by rw [List.mem_singleton.1 h]; exact hs) (hp) (fun h => hr (h M (by simp)))) (args2 (ev rfl rfl) (ev rfl rfl)) ?_)
 rintro _ w5 ⟨_, _, rfl, ⟨rfl, rfl⟩, hN⟩
 refine ⟨_, rfl, ?_⟩
 replace hS := hS.news hN; clear hN
 refine wl rfl (omove (v := .tuple #[.slice none 0 0, .int .i64 2]) rfl rfl (ev rfl rfl) ?_)
 refine wl rfl (oextract (vs := [.slice none 0 0, .int .i64 2]) (v := .slice none 0 0) rfl rfl (ev rfl rfl) rfl ?_)
 refine wl rfl (oextract (vs := [.slice none 0 0, .int .i64 2]) (v := .int .i64 2) rfl rfl (ev rfl rfl) rfl ?_)
 refine wl rfl (oassign (v := .slice none 0 0) rfl rfl (ev rfl rfl) ?_)
 refine wl rfl (oassign (v := .int .i64 2) rfl rfl (ev rfl rfl) ?_)
 refine wnil (thenN (wseq (wseq (wreg (wl rfl (omove (v := .int .i64 2) rfl rfl (ev rfl rfl) ?_))))))
 refine wl rfl (obin (u := .int .i64 2) (v := .int .i64 0) (z := .bool true) rfl rfl (ev rfl rfl) evc (bin_neq (by decide)) ?_)
 refine wnil (thenN ?_)
 refine wT (ev rfl rfl) ?_
 refine wseq (wreg (wl rfl (obuild (ps := #[]) (v := .agg #[.int .u64 0, .slice none 0 0, .int .i64 0]) rfl rfl (parts0) (fun w => by simp [go_sem, Instr.build, Instr.fill]) ?_)))
 refine wl rfl (omove (v := .int .i64 2) rfl rfl (ev rfl rfl) ?_)
 refine wl rfl (ostore [.int .u64 0, .slice none 0 0, .int .i64 0] [.int .u64 0, .slice none 0 0, .int .i64 0] Tryd.sizeOf63 hS 1 rfl rfl (ev rfl rfl) (ev (v := .agg #[.int .u64 0, .slice none 0 0, .int .i64 0]) rfl rfl) rfl rfl rfl rfl rfl rfl ?_)
 clear hS; intro w6 hS
 refine wl rfl (oassign (v := .int .i64 2) rfl rfl (ev rfl rfl) ?_)
 refine wnil (thenN ?_)
 refine wleave ?_
 refine thenR ?_
 refine wret2 Tryd.results38 (tellC (cs := [.int .u64 0, .slice none 0 0, .int .i64 0]) (show Agg Tryd.prog 63 3 from ⟨Tryd.isAgg63, Tryd.sizeOf63⟩) hS 1 rfl rfl rfl rfl) (tellT (v := .int .i64 2) rfl rfl) ?_
 exact ⟨_, _, rfl, isI, hS.new0⟩
theorem wxsquare3 {pm : Option Addr} {nm cm p : Nat} {M : List (List Nat)} {w : World} (ht : Tb w) (hm : MS w pm nm M) (hp2 : p < 4294967296) (hs : SmallM M) (hp : MR.Pr p) (hr : RectM M) (hq : ¬ (M.length ≠ 0 ∧ M.length = colsM M)) :
  Calls Tryd.prog 38 #[.int .u32 ((p : Nat) : Int), .slice pm nm cm] w (Ret (Is (.tuple #[.agg #[.int .u64 0, .slice none 0 0, .int .i64 0], .int .i64 3])) w) := by
 have hS := Sep.init w
 refine went Tryd.func38 rfl (n := 41) rfl rfl ?_
 refine wseq (wreg (wl rfl (oalloc [.int .u64 0, .slice none 0 0, .int .i64 0] hS rfl rfl Tryd.zeroValue63 rfl ?_)))
 clear hS; intro g1 w2 hS
 refine wl rfl (oassign (v := .int .i64 0) rfl rfl evc ?_)
 refine wnil (thenN (wseq (wreg (wl rfl (omove (v := .int .u32 (p : Int)) rfl rfl (ev rfl rfl) ?_)))))
 refine wl rfl (omove (v := .slice pm nm cm) rfl rfl (ev rfl rfl) ?_)
 refine wl rfl (obslice (ps := #[(0, .slice pm nm cm)]) (z := .slice none 0 0) [.slice pm nm cm] hS rfl rfl Tryd.runUnderlying81 Tryd.sizeOf26 Tryd.zeroValue26 (parts1 (ev (v := .slice pm nm cm) rfl rfl)) rfl (by decide) (fill1_1s rfl rfl) ?_)
 clear hS; intro g3 w4 hS
 refine wl rfl (ocall rfl rfl Tryd.call45 rfl (wxall1 (ht.at hS) (hS.blkAt 0 rfl) (hm.at hS) (hp) hp2 (hs) (hr)) (args2 (ev rfl rfl) (ev rfl rfl)) ?_)
 rintro _ w5 ⟨_, _, rfl, ⟨pL, cL, pX, cX, QX, hQX, rfl, rfl⟩, hN⟩
 refine ⟨_, rfl, ?_⟩
 replace hS := hS.news hN; clear hN
 refine wl rfl (omove (v := .tuple #[.slice pL 1 cL, .int .i64 0]) rfl rfl (ev rfl rfl) ?_)
 refine wl rfl (oextract (vs := [.slice pL 1 cL, .int .i64 0]) (v := .slice pL 1 cL) rfl rfl (ev rfl rfl) rfl ?_)
 refine wl rfl (oextract (vs := [.slice pL 1 cL, .int .i64 0]) (v := .int .i64 0) rfl rfl (ev rfl rfl) rfl ?_)
 refine wl rfl (oassign (v := .slice pL 1 cL) rfl rfl (ev rfl rfl) ?_)
 refine wl rfl (oassign (v := .int .i64 0) rfl rfl (ev rfl rfl) ?_)
 refine wnil (thenN (wseq (wseq (wreg (wl rfl (omove (v := .int .i64 0) rfl rfl (ev rfl rfl) ?_))))))
 refine wl rfl (obin (u := .int .i64 0) (v := .int .i64 0) (z := .bool false) rfl rfl (ev rfl rfl) evc (bin_neq (by decide)) ?_)
 refine wnil (thenN ?_)
 refine wF (ev rfl rfl) ?_
 refine wskip (thenN (wseq (wseq ?_)))
 obtain ⟨gl6, hgl6⟩ := hS.lstPtr 1 rfl (by omega)
 by_cases h0 : M.length = 0
 ·
  refine wstage 18 [19, 20, 21, 22, 23, 24, 25, 26, 27, 28, 29, 30, 31, 32, 33, 34, 35, 36] [[], [0], [1, 0], [2, 0, 1], [3, 0, 1, 2], [4, 0, 1, 2, 3], [5, 0, 1, 2, 3, 4], [6, 0, 1, 2, 3, 4, 5], [6, 7, 0, 1, 2, 3, 4, 5], [6, 8, 0, 1, 2, 3, 4, 5, 7], [6, 9, 0, 1, 2, 3, 4, 5, 7, 8], [6, 10, 0, 1, 2, 3, 4, 5, 7, 8, 9], [6, 0, 1, 2, 3, 4, 5], [6, 12, 0, 1, 2, 3, 4, 5], [6, 13, 0, 1, 2, 3, 4, 5, 12], [6, 14, 0, 1, 2, 3, 4, 5, 12, 13], [6, 11, 15, 0, 1, 2, 3, 4, 5, 7, 8, 9, 10, 12, 13, 14], [6, 16, 0, 1, 2, 3, 4, 5, 7, 8, 9, 10, 11, 12, 13, 14, 15]] [[], [], [], [], [], [], [], [], [], [], [], [], [], [], [], [], [], []] [] [] (fun i9 => ([fun _ => Is (.slice pL 1 cL), fun _ => Is (.pointer (some ⟨gl6, 0, none⟩)), fun _ => Is (.pointer (some ⟨gl6, 1, none⟩)), fun _ => Is (.slice pX M.length cX), fun _ => Is (.int .i64 (M.length : Int)), fun _ => Is (.bool true), fun _ => Is (.bool true), fun _ => Is undef, fun _ => Is undef, fun _ => Is undef, fun _ => Is undef, fun _ => Is undef, fun _ => Is undef, fun _ => Is undef, fun _ => Is undef, fun _ => Is undef, fun _ => Is undef, fun _ => Is (.bool true)] : List (List Value → Tell)).getD i9 (fun _ _ _ => False)) (heldNil) (fun d _ _ _ _ h => (by cases d <;> exact h)) (by kernel_rfl) (by kernel_rfl) (by kernel_rfl) hS ?_ ?_
  ·
   refine stepsCons rfl (fun Q f' w' ρ S ho hT hS hB => ?_) ?_
   ·exact .inl ⟨want_none rfl, omove (v := .slice pL 1 cL) rfl rfl (ev rfl (ho 6 rfl)) ⟨_, _, rfl, isI, New.same _⟩⟩
   refine stepsCons rfl (fun Q f' w' ρ S ho hT hS hB => ?_) ?_
   ·obtain ⟨hv0, hr0⟩ := (hT 0 19 rfl rfl : (Is (.slice pL 1 cL)) _ _)
    obtain hS := hS.flat1 hr0
    exact .inl ⟨want_none rfl, oindex (p := pL) (g := gl6) (off := 0) (m := 1) (k := 0) (j := 0) rfl rfl Tryd.runUnderlying73 Tryd.sizeOf63 (ev rfl hv0) (hgl6) evc (by omega) rfl ⟨_, _, rfl, isI, New.same _⟩⟩
   refine stepsCons rfl (fun Q f' w' ρ S ho hT hS hB => ?_) ?_
   ·obtain ⟨hv1, hr1⟩ := (hT 1 20 rfl rfl : (Is (.pointer (some ⟨gl6, 0, none⟩))) _ _)
    obtain hS := hS.flat1 hr1
    exact .inl ⟨want_none rfl, ofieldAddr (g := gl6) (off := 0) 1 rfl rfl (ev rfl hv1) Tryd.runUnderlying63 rfl Tryd.sizeOf25 rfl ⟨_, _, rfl, isI, New.same _⟩⟩
   refine stepsCons rfl (fun Q f' w' ρ S ho hT hS hB => ?_) ?_
   ·obtain ⟨hv2, hr2⟩ := (hT 2 21 rfl rfl : (Is (.pointer (some ⟨gl6, 1, none⟩))) _ _)
    obtain hS := hS.flat1 hr2
    exact .inl ⟨want_none rfl, oloadc (v := .slice pX M.length cX) (show One Tryd.prog 25 from ⟨Tryd.isAgg25, Tryd.sizeOf25⟩) rfl rfl (ev (v := .pointer (some ⟨gl6, 1, none⟩)) rfl hv2) (hS.lstAt 1 rfl hgl6 0 1 rfl rfl (by omega) rfl) ⟨_, _, rfl, isI, New.same _⟩⟩
   refine stepsCons rfl (fun Q f' w' ρ S ho hT hS hB => ?_) ?_
   ·obtain ⟨hv3, hr3⟩ := (hT 3 22 rfl rfl : (Is (.slice pX M.length cX)) _ _)
    obtain hS := hS.flat1 hr3
    exact .inl ⟨want_none rfl, olen rfl rfl rfl Tryd.runUnderlying25 (p := pX) (k := M.length) (m := cX) (ev rfl hv3) ⟨_, _, rfl, isI, New.same _⟩⟩
   refine stepsCons rfl (fun Q f' w' ρ S ho hT hS hB => ?_) ?_
   ·obtain ⟨hv4, hr4⟩ := (hT 4 23 rfl rfl : (Is (.int .i64 (((M.length : Nat) : Int)))) _ _)
    obtain hS := hS.flat1 hr4
    exact .inl ⟨want_none rfl, obin (u := .int .i64 (M.length : Int)) (v := .int .i64 0) (z := .bool true) rfl rfl (ev rfl hv4) evc (bin_eql (eqT (by omega))) ⟨_, _, rfl, isI, New.same _⟩⟩
   refine stepsCons rfl (fun Q f' w' ρ S ho hT hS hB => ?_) ?_
   ·obtain ⟨hv5, hr5⟩ := (hT 5 24 rfl rfl : (Is (.bool true)) _ _)
    obtain hS := hS.flat1 hr5
    exact .inl ⟨want_none rfl, omove (v := .bool true) rfl rfl (ev rfl hv5) ⟨_, _, rfl, isI, New.same _⟩⟩
   refine stepsCons rfl (fun Q f' w' ρ S ho hT hS hB => ?_) ?_
   ·obtain ⟨hv6, hr6⟩ := (hT 6 25 rfl rfl : (Is (.bool true)) _ _)
    obtain hS := hS.flat1 hr6
    exact .inr ⟨want_off (e := 25) (b' := true) rfl rfl rfl hv6 rfl, isI⟩
   refine stepsCons rfl (fun Q f' w' ρ S ho hT hS hB => ?_) ?_
   ·obtain ⟨hv6, hr6⟩ := (hT 6 25 rfl rfl : (Is (.bool true)) _ _)
    obtain ⟨hv7, hr7⟩ := (hT 7 26 rfl rfl : (Is undef) _ _)
    obtain hS := hS.flat2 hr6 hr7
    exact .inr ⟨want_off (e := 25) (b' := true) rfl rfl rfl hv6 rfl, isI⟩
   refine stepsCons rfl (fun Q f' w' ρ S ho hT hS hB => ?_) ?_
   ·obtain ⟨hv6, hr6⟩ := (hT 6 25 rfl rfl : (Is (.bool true)) _ _)
    obtain ⟨hv8, hr8⟩ := (hT 8 27 rfl rfl : (Is undef) _ _)
    obtain hS := hS.flat2 hr6 hr8
    exact .inr ⟨want_off (e := 25) (b' := true) rfl rfl rfl hv6 rfl, isI⟩
   refine stepsCons rfl (fun Q f' w' ρ S ho hT hS hB => ?_) ?_
   ·obtain ⟨hv6, hr6⟩ := (hT 6 25 rfl rfl : (Is (.bool true)) _ _)
    obtain ⟨hv9, hr9⟩ := (hT 9 28 rfl rfl : (Is undef) _ _)
    obtain hS := hS.flat2 hr6 hr9
    exact .inr ⟨want_off (e := 25) (b' := true) rfl rfl rfl hv6 rfl, isI⟩
   refine stepsCons rfl (fun Q f' w' ρ S ho hT hS hB => ?_) ?_
   ·obtain ⟨hv6, hr6⟩ := (hT 6 25 rfl rfl : (Is (.bool true)) _ _)
    obtain ⟨hv10, hr10⟩ := (hT 10 29 rfl rfl : (Is undef) _ _)
    obtain hS := hS.flat2 hr6 hr10
    exact .inr ⟨want_off (e := 25) (b' := true) rfl rfl rfl hv6 rfl, isI⟩
   refine stepsCons rfl (fun Q f' w' ρ S ho hT hS hB => ?_) ?_
   ·obtain ⟨hv6, hr6⟩ := (hT 6 25 rfl rfl : (Is (.bool true)) _ _)
    obtain hS := hS.flat1 hr6
    exact .inr ⟨want_off (e := 25) (b' := true) rfl rfl rfl hv6 rfl, isI⟩
   refine stepsCons rfl (fun Q f' w' ρ S ho hT hS hB => ?_) ?_
   ·obtain ⟨hv6, hr6⟩ := (hT 6 25 rfl rfl : (Is (.bool true)) _ _)
    obtain ⟨hv12, hr12⟩ := (hT 12 31 rfl rfl : (Is undef) _ _)
    obtain hS := hS.flat2 hr6 hr12
    exact .inr ⟨want_off (e := 25) (b' := true) rfl rfl rfl hv6 rfl, isI⟩
   refine stepsCons rfl (fun Q f' w' ρ S ho hT hS hB => ?_) ?_
   ·obtain ⟨hv6, hr6⟩ := (hT 6 25 rfl rfl : (Is (.bool true)) _ _)
    obtain ⟨hv13, hr13⟩ := (hT 13 32 rfl rfl : (Is undef) _ _)
    obtain hS := hS.flat2 hr6 hr13
    exact .inr ⟨want_off (e := 25) (b' := true) rfl rfl rfl hv6 rfl, isI⟩
   refine stepsCons rfl (fun Q f' w' ρ S ho hT hS hB => ?_) ?_
   ·obtain ⟨hv6, hr6⟩ := (hT 6 25 rfl rfl : (Is (.bool true)) _ _)
    obtain ⟨hv14, hr14⟩ := (hT 14 33 rfl rfl : (Is undef) _ _)
    obtain hS := hS.flat2 hr6 hr14
    exact .inr ⟨want_off (e := 25) (b' := true) rfl rfl rfl hv6 rfl, isI⟩
   refine stepsCons rfl (fun Q f' w' ρ S ho hT hS hB => ?_) ?_
   ·obtain ⟨hv6, hr6⟩ := (hT 6 25 rfl rfl : (Is (.bool true)) _ _)
    obtain ⟨hv11, hr11⟩ := (hT 11 30 rfl rfl : (Is undef) _ _)
    obtain ⟨hv15, hr15⟩ := (hT 15 34 rfl rfl : (Is undef) _ _)
    obtain hS := hS.flat3 hr6 hr11 hr15
    exact .inr ⟨want_off (e := 25) (b' := true) rfl rfl rfl hv6 rfl, isI⟩
   refine stepsCons rfl (fun Q f' w' ρ S ho hT hS hB => ?_) ?_
   ·obtain ⟨hv6, hr6⟩ := (hT 6 25 rfl rfl : (Is (.bool true)) _ _)
    obtain ⟨hv16, hr16⟩ := (hT 16 35 rfl rfl : (Is undef) _ _)
    obtain hS := hS.flat2 hr6 hr16
    exact .inl ⟨want_none rfl, opick (b := true) (v := .bool true) rfl rfl (ev rfl hv6) evc ⟨_, _, rfl, isI, New.same _⟩⟩
   exact stepsNil
  ·
   intro vs ρ w7 f' hf hT hS
   obtain ⟨hv0, hr0⟩ := (hT 0 (by decide) : (Is (.slice pL 1 cL)) _ _)
   obtain ⟨hv1, hr1⟩ := (hT 1 (by decide) : (Is (.pointer (some ⟨gl6, 0, none⟩))) _ _)
   obtain ⟨hv2, hr2⟩ := (hT 2 (by decide) : (Is (.pointer (some ⟨gl6, 1, none⟩))) _ _)
   obtain ⟨hv3, hr3⟩ := (hT 3 (by decide) : (Is (.slice pX M.length cX)) _ _)
   obtain ⟨hv4, hr4⟩ := (hT 4 (by decide) : (Is (.int .i64 (((M.length : Nat) : Int)))) _ _)
   obtain ⟨hv5, hr5⟩ := (hT 5 (by decide) : (Is (.bool true)) _ _)
   obtain ⟨hv6, hr6⟩ := (hT 6 (by decide) : (Is (.bool true)) _ _)
   obtain ⟨hv7, hr7⟩ := (hT 7 (by decide) : (Is undef) _ _)
   obtain ⟨hv8, hr8⟩ := (hT 8 (by decide) : (Is undef) _ _)
   obtain ⟨hv9, hr9⟩ := (hT 9 (by decide) : (Is undef) _ _)
   obtain ⟨hv10, hr10⟩ := (hT 10 (by decide) : (Is undef) _ _)
   obtain ⟨hv11, hr11⟩ := (hT 11 (by decide) : (Is undef) _ _)
   obtain ⟨hv12, hr12⟩ := (hT 12 (by decide) : (Is undef) _ _)
   obtain ⟨hv13, hr13⟩ := (hT 13 (by decide) : (Is undef) _ _)
   obtain ⟨hv14, hr14⟩ := (hT 14 (by decide) : (Is undef) _ _)
   obtain ⟨hv15, hr15⟩ := (hT 15 (by decide) : (Is undef) _ _)
   obtain ⟨hv16, hr16⟩ := (hT 16 (by decide) : (Is undef) _ _)
   obtain ⟨hv17, hr17⟩ := (hT 17 (by decide) : (Is (.bool true)) _ _)
   simp only [pool, if_true, hr0, hr1, hr2, hr3, hr4, hr5, hr6, hr7, hr8, hr9, hr10, hr11, hr12, hr13, hr14, hr15, hr16, hr17, List.nil_append, List.cons_append, List.append_nil] at hS
   simp only [layf, hv0, hv1, hv2, hv3, hv4, hv5, hv6, hv7, hv8, hv9, hv10, hv11, hv12, hv13, hv14, hv15, hv16, hv17] at hf
   subst hf; clear hT hv0 hv1 hv2 hv3 hv4 hv5 hv6 hv7 hv8 hv9 hv10 hv11 hv12 hv13 hv14 hv15 hv16 hv17 hr0 hr1 hr2 hr3 hr4 hr5 hr6 hr7 hr8 hr9 hr10 hr11 hr12 hr13 hr14 hr15 hr16 hr17
   refine wdone rfl ?_
   refine thenN ?_
   refine wT (ev rfl rfl) ?_
   refine wseq (wreg (wl rfl (obuild (ps := #[]) (v := .agg #[.int .u64 0, .slice none 0 0, .int .i64 0]) rfl rfl (parts0) (fun w => by simp [go_sem, Instr.build, Instr.fill]) ?_)))
   refine wl rfl (ostore [.int .u64 0, .slice none 0 0, .int .i64 0] [.int .u64 0, .slice none 0 0, .int .i64 0] Tryd.sizeOf63 hS 3 rfl rfl (ev rfl rfl) (ev (v := .agg #[.int .u64 0, .slice none 0 0, .int .i64 0]) rfl rfl) rfl rfl rfl rfl rfl rfl ?_)
   clear hS; intro w8 hS
   refine wl rfl (oassign (v := .int .i64 3) rfl rfl evc ?_)
   refine wnil (thenN ?_)
   refine wleave ?_
   refine thenR ?_
   refine wret2 Tryd.results38 (tellC (cs := [.int .u64 0, .slice none 0 0, .int .i64 0]) (show Agg Tryd.prog 63 3 from ⟨Tryd.isAgg63, Tryd.sizeOf63⟩) hS 3 rfl rfl rfl rfl) (tellT (v := .int .i64 3) rfl rfl) ?_
   exact ⟨_, _, rfl, isI, hS.new0⟩
 ·
  refine wstage 18 [19, 20, 21, 22, 23, 24, 25, 26, 27, 28, 29, 30, 31, 32, 33, 34, 35, 36] [[], [0], [1, 0], [2, 0, 1], [3, 0, 1, 2], [4, 0, 1, 2, 3], [5, 0, 1, 2, 3, 4], [6, 0, 1, 2, 3, 4, 5], [6, 7, 0, 1, 2, 3, 4, 5], [6, 8, 0, 1, 2, 3, 4, 5, 7], [6, 9, 0, 1, 2, 3, 4, 5, 7, 8], [6, 10, 0, 1, 2, 3, 4, 5, 7, 8, 9], [6, 0, 1, 2, 3, 4, 5], [6, 12, 0, 1, 2, 3, 4, 5], [6, 13, 0, 1, 2, 3, 4, 5, 12], [6, 14, 0, 1, 2, 3, 4, 5, 12, 13], [6, 11, 15, 0, 1, 2, 3, 4, 5, 7, 8, 9, 10, 12, 13, 14], [6, 16, 0, 1, 2, 3, 4, 5, 7, 8, 9, 10, 11, 12, 13, 14, 15]] [[], [], [], [], [], [], [], [], [], [], [], [], [], [], [], [], [], []] [] [] (fun i9 => ([fun _ => Is (.slice pL 1 cL), fun _ => Is (.pointer (some ⟨gl6, 0, none⟩)), fun _ => Is (.pointer (some ⟨gl6, 1, none⟩)), fun _ => Is (.slice pX M.length cX), fun _ => Is (.int .i64 (M.length : Int)), fun _ => Is (.bool false), fun _ => Is (.bool false), fun _ => Is (.slice pL 1 cL), fun _ => Is (.pointer (some ⟨gl6, 0, none⟩)), fun _ => Is (.pointer (some ⟨gl6, 1, none⟩)), fun _ => Is (.slice pX M.length cX), fun _ => Is (.int .i64 (M.length : Int)), fun _ => Is (.slice pL 1 cL), fun _ => Is (.pointer (some ⟨gl6, 0, none⟩)), fun _ => Is (.pointer (some ⟨gl6, 2, none⟩)), fun _ => Is (.int .i64 (((colsM M : Nat) : Int))), fun _ => Is (.bool true), fun _ => Is (.bool true)] : List (List Value → Tell)).getD i9 (fun _ _ _ => False)) (heldNil) (fun d _ _ _ _ h => (by cases d <;> exact h)) (by kernel_rfl) (by kernel_rfl) (by kernel_rfl) hS ?_ ?_
  ·
   refine stepsCons rfl (fun Q f' w' ρ S ho hT hS hB => ?_) ?_
   ·exact .inl ⟨want_none rfl, omove (v := .slice pL 1 cL) rfl rfl (ev rfl (ho 6 rfl)) ⟨_, _, rfl, isI, New.same _⟩⟩
   refine stepsCons rfl (fun Q f' w' ρ S ho hT hS hB => ?_) ?_
   ·obtain ⟨hv0, hr0⟩ := (hT 0 19 rfl rfl : (Is (.slice pL 1 cL)) _ _)
    obtain hS := hS.flat1 hr0
    exact .inl ⟨want_none rfl, oindex (p := pL) (g := gl6) (off := 0) (m := 1) (k := 0) (j := 0) rfl rfl Tryd.runUnderlying73 Tryd.sizeOf63 (ev rfl hv0) (hgl6) evc (by omega) rfl ⟨_, _, rfl, isI, New.same _⟩⟩
   refine stepsCons rfl (fun Q f' w' ρ S ho hT hS hB => ?_) ?_
   ·obtain ⟨hv1, hr1⟩ := (hT 1 20 rfl rfl : (Is (.pointer (some ⟨gl6, 0, none⟩))) _ _)
    obtain hS := hS.flat1 hr1
    exact .inl ⟨want_none rfl, ofieldAddr (g := gl6) (off := 0) 1 rfl rfl (ev rfl hv1) Tryd.runUnderlying63 rfl Tryd.sizeOf25 rfl ⟨_, _, rfl, isI, New.same _⟩⟩
   refine stepsCons rfl (fun Q f' w' ρ S ho hT hS hB => ?_) ?_
   ·obtain ⟨hv2, hr2⟩ := (hT 2 21 rfl rfl : (Is (.pointer (some ⟨gl6, 1, none⟩))) _ _)
    obtain hS := hS.flat1 hr2
    exact .inl ⟨want_none rfl, oloadc (v := .slice pX M.length cX) (show One Tryd.prog 25 from ⟨Tryd.isAgg25, Tryd.sizeOf25⟩) rfl rfl (ev (v := .pointer (some ⟨gl6, 1, none⟩)) rfl hv2) (hS.lstAt 1 rfl hgl6 0 1 rfl rfl (by omega) rfl) ⟨_, _, rfl, isI, New.same _⟩⟩
   refine stepsCons rfl (fun Q f' w' ρ S ho hT hS hB => ?_) ?_
   ·obtain ⟨hv3, hr3⟩ := (hT 3 22 rfl rfl : (Is (.slice pX M.length cX)) _ _)
    obtain hS := hS.flat1 hr3
    exact .inl ⟨want_none rfl, olen rfl rfl rfl Tryd.runUnderlying25 (p := pX) (k := M.length) (m := cX) (ev rfl hv3) ⟨_, _, rfl, isI, New.same _⟩⟩
   refine stepsCons rfl (fun Q f' w' ρ S ho hT hS hB => ?_) ?_
   ·obtain ⟨hv4, hr4⟩ := (hT 4 23 rfl rfl : (Is (.int .i64 (((M.length : Nat) : Int)))) _ _)
    obtain hS := hS.flat1 hr4
    exact .inl ⟨want_none rfl, obin (u := .int .i64 (M.length : Int)) (v := .int .i64 0) (z := .bool false) rfl rfl (ev rfl hv4) evc (bin_eql (eqF (by omega))) ⟨_, _, rfl, isI, New.same _⟩⟩
   refine stepsCons rfl (fun Q f' w' ρ S ho hT hS hB => ?_) ?_
   ·obtain ⟨hv5, hr5⟩ := (hT 5 24 rfl rfl : (Is (.bool false)) _ _)
    obtain hS := hS.flat1 hr5
    exact .inl ⟨want_none rfl, omove (v := .bool false) rfl rfl (ev rfl hv5) ⟨_, _, rfl, isI, New.same _⟩⟩
   refine stepsCons rfl (fun Q f' w' ρ S ho hT hS hB => ?_) ?_
   ·obtain ⟨hv6, hr6⟩ := (hT 6 25 rfl rfl : (Is (.bool false)) _ _)
    obtain hS := hS.flat1 hr6
    exact .inl ⟨want_on (e := 25) rfl rfl rfl hv6, omove (v := .slice pL 1 cL) rfl rfl (ev rfl (ho 6 rfl)) ⟨_, _, rfl, isI, New.same _⟩⟩
   refine stepsCons rfl (fun Q f' w' ρ S ho hT hS hB => ?_) ?_
   ·obtain ⟨hv6, hr6⟩ := (hT 6 25 rfl rfl : (Is (.bool false)) _ _)
    obtain ⟨hv7, hr7⟩ := (hT 7 26 rfl rfl : (Is (.slice pL 1 cL)) _ _)
    obtain hS := hS.flat2 hr6 hr7
    exact .inl ⟨want_on (e := 25) rfl rfl rfl hv6, oindex (p := pL) (g := gl6) (off := 0) (m := 1) (k := 0) (j := 0) rfl rfl Tryd.runUnderlying73 Tryd.sizeOf63 (ev rfl hv7) (hgl6) evc (by omega) rfl ⟨_, _, rfl, isI, New.same _⟩⟩
   refine stepsCons rfl (fun Q f' w' ρ S ho hT hS hB => ?_) ?_
   ·obtain ⟨hv6, hr6⟩ := (hT 6 25 rfl rfl : (Is (.bool false)) _ _)
    obtain ⟨hv8, hr8⟩ := (hT 8 27 rfl rfl : (Is (.pointer (some ⟨gl6, 0, none⟩))) _ _)
    obtain hS := hS.flat2 hr6 hr8
    exact .inl ⟨want_on (e := 25) rfl rfl rfl hv6, ofieldAddr (g := gl6) (off := 0) 1 rfl rfl (ev rfl hv8) Tryd.runUnderlying63 rfl Tryd.sizeOf25 rfl ⟨_, _, rfl, isI, New.same _⟩⟩
   refine stepsCons rfl (fun Q f' w' ρ S ho hT hS hB => ?_) ?_
   ·obtain ⟨hv6, hr6⟩ := (hT 6 25 rfl rfl : (Is (.bool false)) _ _)
    obtain ⟨hv9, hr9⟩ := (hT 9 28 rfl rfl : (Is (.pointer (some ⟨gl6, 1, none⟩))) _ _)
    obtain hS := hS.flat2 hr6 hr9
    exact .inl ⟨want_on (e := 25) rfl rfl rfl hv6, oloadc (v := .slice pX M.length cX) (show One Tryd.prog 25 from ⟨Tryd.isAgg25, Tryd.sizeOf25⟩) rfl rfl (ev (v := .pointer (some ⟨gl6, 1, none⟩)) rfl hv9) (hS.lstAt 1 rfl hgl6 0 1 rfl rfl (by omega) rfl) ⟨_, _, rfl, isI, New.same _⟩⟩
   refine stepsCons rfl (fun Q f' w' ρ S ho hT hS hB => ?_) ?_
   ·obtain ⟨hv6, hr6⟩ := (hT 6 25 rfl rfl : (Is (.bool false)) _ _)
    obtain ⟨hv10, hr10⟩ := (hT 10 29 rfl rfl : (Is (.slice pX M.length cX)) _ _)
    obtain hS := hS.flat2 hr6 hr10
    exact .inl ⟨want_on (e := 25) rfl rfl rfl hv6, olen rfl rfl rfl Tryd.runUnderlying25 (p := pX) (k := M.length) (m := cX) (ev rfl hv10) ⟨_, _, rfl, isI, New.same _⟩⟩
   refine stepsCons rfl (fun Q f' w' ρ S ho hT hS hB => ?_) ?_
   ·obtain ⟨hv6, hr6⟩ := (hT 6 25 rfl rfl : (Is (.bool false)) _ _)
    obtain hS := hS.flat1 hr6
    exact .inl ⟨want_on (e := 25) rfl rfl rfl hv6, omove (v := .slice pL 1 cL) rfl rfl (ev rfl (ho 6 rfl)) ⟨_, _, rfl, isI, New.same _⟩⟩
   refine stepsCons rfl (fun Q f' w' ρ S ho hT hS hB => ?_) ?_
   ·obtain ⟨hv6, hr6⟩ := (hT 6 25 rfl rfl : (Is (.bool false)) _ _)
    obtain ⟨hv12, hr12⟩ := (hT 12 31 rfl rfl : (Is (.slice pL 1 cL)) _ _)
    obtain hS := hS.flat2 hr6 hr12
    exact .inl ⟨want_on (e := 25) rfl rfl rfl hv6, oindex (p := pL) (g := gl6) (off := 0) (m := 1) (k := 0) (j := 0) rfl rfl Tryd.runUnderlying73 Tryd.sizeOf63 (ev rfl hv12) (hgl6) evc (by omega) rfl ⟨_, _, rfl, isI, New.same _⟩⟩
   refine stepsCons rfl (fun Q f' w' ρ S ho hT hS hB => ?_) ?_
   ·obtain ⟨hv6, hr6⟩ := (hT 6 25 rfl rfl : (Is (.bool false)) _ _)
    obtain ⟨hv13, hr13⟩ := (hT 13 32 rfl rfl : (Is (.pointer (some ⟨gl6, 0, none⟩))) _ _)
    obtain hS := hS.flat2 hr6 hr13
    exact .inl ⟨want_on (e := 25) rfl rfl rfl hv6, ofieldAddr (g := gl6) (off := 0) 2 rfl rfl (ev rfl hv13) Tryd.runUnderlying63 rfl Tryd.sizeOf3 rfl ⟨_, _, rfl, isI, New.same _⟩⟩
   refine stepsCons rfl (fun Q f' w' ρ S ho hT hS hB => ?_) ?_
   ·obtain ⟨hv6, hr6⟩ := (hT 6 25 rfl rfl : (Is (.bool false)) _ _)
    obtain ⟨hv14, hr14⟩ := (hT 14 33 rfl rfl : (Is (.pointer (some ⟨gl6, 2, none⟩))) _ _)
    obtain hS := hS.flat2 hr6 hr14
    exact .inl ⟨want_on (e := 25) rfl rfl rfl hv6, oloadc (v := .int .i64 (((colsM M : Nat) : Int))) oneI rfl rfl (ev (v := .pointer (some ⟨gl6, 2, none⟩)) rfl hv14) (hS.lstAt 1 rfl hgl6 0 2 rfl rfl (by omega) rfl) ⟨_, _, rfl, isI, New.same _⟩⟩
   refine stepsCons rfl (fun Q f' w' ρ S ho hT hS hB => ?_) ?_
   ·obtain ⟨hv6, hr6⟩ := (hT 6 25 rfl rfl : (Is (.bool false)) _ _)
    obtain ⟨hv11, hr11⟩ := (hT 11 30 rfl rfl : (Is (.int .i64 (((M.length : Nat) : Int)))) _ _)
    obtain ⟨hv15, hr15⟩ := (hT 15 34 rfl rfl : (Is (.int .i64 (((colsM M : Nat) : Int)))) _ _)
    obtain hS := hS.flat3 hr6 hr11 hr15
    exact .inl ⟨want_on (e := 25) rfl rfl rfl hv6, obin (u := .int .i64 (M.length : Int)) (v := .int .i64 (((colsM M : Nat) : Int))) (z := .bool true) rfl rfl (ev rfl hv11) (ev rfl hv15) (bin_neq (neT (by omega))) ⟨_, _, rfl, isI, New.same _⟩⟩
   refine stepsCons rfl (fun Q f' w' ρ S ho hT hS hB => ?_) ?_
   ·obtain ⟨hv6, hr6⟩ := (hT 6 25 rfl rfl : (Is (.bool false)) _ _)
    obtain ⟨hv16, hr16⟩ := (hT 16 35 rfl rfl : (Is (.bool true)) _ _)
    obtain hS := hS.flat2 hr6 hr16
    exact .inl ⟨want_none rfl, opick (b := false) (v := .bool true) rfl rfl (ev rfl hv6) (ev rfl hv16) ⟨_, _, rfl, isI, New.same _⟩⟩
   exact stepsNil
  ·
   intro vs ρ w7 f' hf hT hS
   obtain ⟨hv0, hr0⟩ := (hT 0 (by decide) : (Is (.slice pL 1 cL)) _ _)
   obtain ⟨hv1, hr1⟩ := (hT 1 (by decide) : (Is (.pointer (some ⟨gl6, 0, none⟩))) _ _)
   obtain ⟨hv2, hr2⟩ := (hT 2 (by decide) : (Is (.pointer (some ⟨gl6, 1, none⟩))) _ _)
   obtain ⟨hv3, hr3⟩ := (hT 3 (by decide) : (Is (.slice pX M.length cX)) _ _)
   obtain ⟨hv4, hr4⟩ := (hT 4 (by decide) : (Is (.int .i64 (((M.length : Nat) : Int)))) _ _)
   obtain ⟨hv5, hr5⟩ := (hT 5 (by decide) : (Is (.bool false)) _ _)
   obtain ⟨hv6, hr6⟩ := (hT 6 (by decide) : (Is (.bool false)) _ _)
   obtain ⟨hv7, hr7⟩ := (hT 7 (by decide) : (Is (.slice pL 1 cL)) _ _)
   obtain ⟨hv8, hr8⟩ := (hT 8 (by decide) : (Is (.pointer (some ⟨gl6, 0, none⟩))) _ _)
   obtain ⟨hv9, hr9⟩ := (hT 9 (by decide) : (Is (.pointer (some ⟨gl6, 1, none⟩))) _ _)
   obtain ⟨hv10, hr10⟩ := (hT 10 (by decide) : (Is (.slice pX M.length cX)) _ _)
   obtain ⟨hv11, hr11⟩ := (hT 11 (by decide) : (Is (.int .i64 (((M.length : Nat) : Int)))) _ _)
   obtain ⟨hv12, hr12⟩ := (hT 12 (by decide) : (Is (.slice pL 1 cL)) _ _)
   obtain ⟨hv13, hr13⟩ := (hT 13 (by decide) : (Is (.pointer (some ⟨gl6, 0, none⟩))) _ _)
   obtain ⟨hv14, hr14⟩ := (hT 14 (by decide) : (Is (.pointer (some ⟨gl6, 2, none⟩))) _ _)
   obtain ⟨hv15, hr15⟩ := (hT 15 (by decide) : (Is (.int .i64 (((colsM M : Nat) : Int)))) _ _)
   obtain ⟨hv16, hr16⟩ := (hT 16 (by decide) : (Is (.bool true)) _ _)
   obtain ⟨hv17, hr17⟩ := (hT 17 (by decide) : (Is (.bool true)) _ _)
   simp only [pool, if_true, hr0, hr1, hr2, hr3, hr4, hr5, hr6, hr7, hr8, hr9, hr10, hr11, hr12, hr13, hr14, hr15, hr16, hr17, List.nil_append, List.cons_append, List.append_nil] at hS
   simp only [layf, hv0, hv1, hv2, hv3, hv4, hv5, hv6, hv7, hv8, hv9, hv10, hv11, hv12, hv13, hv14, hv15, hv16, hv17] at hf
   subst hf; clear hT hv0 hv1 hv2 hv3 hv4 hv5 hv6 hv7 hv8 hv9 hv10 hv11 hv12 hv13 hv14 hv15 hv16 hv17 hr0 hr1 hr2 hr3 hr4 hr5 hr6 hr7 hr8 hr9 hr10 hr11 hr12 hr13 hr14 hr15 hr16 hr17
   refine wdone rfl ?_
   refine thenN ?_
   refine wT (ev rfl rfl) ?_
   refine wseq (wreg (wl rfl (obuild (ps := #[]) (v := .agg #[.int .u64 0, .slice none 0 0, .int .i64 0]) rfl rfl (parts0) (fun w => by simp [go_sem, Instr.build, Instr.fill]) ?_)))
   refine wl rfl (ostore [.int .u64 0, .slice none 0 0, .int .i64 0] [.int .u64 0, .slice none 0 0, .int .i64 0] Tryd.sizeOf63 hS 3 rfl rfl (ev rfl rfl) (ev (v := .agg #[.int .u64 0, .slice none 0 0, .int .i64 0]) rfl rfl) rfl rfl rfl rfl rfl rfl ?_)
   clear hS; intro w8 hS
   refine wl rfl (oassign (v := .int .i64 3) rfl rfl evc ?_)
   refine wnil (thenN ?_)
   refine wleave ?_
   refine thenR ?_
   refine wret2 Tryd.results38 (tellC (cs := [.int .u64 0, .slice none 0 0, .int .i64 0]) (show Agg Tryd.prog 63 3 from ⟨Tryd.isAgg63, Tryd.sizeOf63⟩) hS 3 rfl rfl rfl rfl) (tellT (v := .int .i64 3) rfl rfl) ?_
   exact ⟨_, _, rfl, isI, hS.new0⟩
theorem wxsquare {pm : Option Addr} {nm cm p : Nat} {M : List (List Nat)} {w : World} (ht : Tb w) (hm : MS w pm nm M) (hp2 : p < 4294967296) (hs : SmallM M) (hp : MR.Pr p) (hr : RectM M) (h0 : M.length ≠ 0) (hq : M.length = colsM M) :
  Calls Tryd.prog 38 #[.int .u32 ((p : Nat) : Int), .slice pm nm cm] w (Ret (RdT p M) w) := by
 have hS := Sep.init w
 refine went Tryd.func38 rfl (n := 41) rfl rfl ?_
 refine wseq (wreg (wl rfl (oalloc [.int .u64 0, .slice none 0 0, .int .i64 0] hS rfl rfl Tryd.zeroValue63 rfl ?_)))
 clear hS; intro g1 w2 hS
 refine wl rfl (oassign (v := .int .i64 0) rfl rfl evc ?_)
 refine wnil (thenN (wseq (wreg (wl rfl (omove (v := .int .u32 (p : Int)) rfl rfl (ev rfl rfl) ?_)))))
 refine wl rfl (omove (v := .slice pm nm cm) rfl rfl (ev rfl rfl) ?_)
 refine wl rfl (obslice (ps := #[(0, .slice pm nm cm)]) (z := .slice none 0 0) [.slice pm nm cm] hS rfl rfl Tryd.runUnderlying81 Tryd.sizeOf26 Tryd.zeroValue26 (parts1 (ev (v := .slice pm nm cm) rfl rfl)) rfl (by decide) (fill1_1s rfl rfl) ?_)
 clear hS; intro g3 w4 hS
 refine wl rfl (ocall rfl rfl Tryd.call45 rfl (wxall1 (ht.at hS) (hS.blkAt 0 rfl) (hm.at hS) (hp) hp2 (hs) (hr)) (args2 (ev rfl rfl) (ev rfl rfl)) ?_)
 rintro _ w5 ⟨_, _, rfl, ⟨pL, cL, pX, cX, QX, hQX, rfl, rfl⟩, hN⟩
 refine ⟨_, rfl, ?_⟩
 replace hS := hS.news hN; clear hN
 refine wl rfl (omove (v := .tuple #[.slice pL 1 cL, .int .i64 0]) rfl rfl (ev rfl rfl) ?_)
 refine wl rfl (oextract (vs := [.slice pL 1 cL, .int .i64 0]) (v := .slice pL 1 cL) rfl rfl (ev rfl rfl) rfl ?_)
 refine wl rfl (oextract (vs := [.slice pL 1 cL, .int .i64 0]) (v := .int .i64 0) rfl rfl (ev rfl rfl) rfl ?_)
 refine wl rfl (oassign (v := .slice pL 1 cL) rfl rfl (ev rfl rfl) ?_)
 refine wl rfl (oassign (v := .int .i64 0) rfl rfl (ev rfl rfl) ?_)
 refine wnil (thenN (wseq (wseq (wreg (wl rfl (omove (v := .int .i64 0) rfl rfl (ev rfl rfl) ?_))))))
 refine wl rfl (obin (u := .int .i64 0) (v := .int .i64 0) (z := .bool false) rfl rfl (ev rfl rfl) evc (bin_neq (by decide)) ?_)
 refine wnil (thenN ?_)
 refine wF (ev rfl rfl) ?_
 refine wskip (thenN (wseq (wseq ?_)))
 obtain ⟨gl6, hgl6⟩ := hS.lstPtr 1 rfl (by omega)
 refine wstage 18 [19, 20, 21, 22, 23, 24, 25, 26, 27, 28, 29, 30, 31, 32, 33, 34, 35, 36] [[], [0], [1, 0], [2, 0, 1], [3, 0, 1, 2], [4, 0, 1, 2, 3], [5, 0, 1, 2, 3, 4], [6, 0, 1, 2, 3, 4, 5], [6, 7, 0, 1, 2, 3, 4, 5], [6, 8, 0, 1, 2, 3, 4, 5, 7], [6, 9, 0, 1, 2, 3, 4, 5, 7, 8], [6, 10, 0, 1, 2, 3, 4, 5, 7, 8, 9], [6, 0, 1, 2, 3, 4, 5], [6, 12, 0, 1, 2, 3, 4, 5], [6, 13, 0, 1, 2, 3, 4, 5, 12], [6, 14, 0, 1, 2, 3, 4, 5, 12, 13], [6, 11, 15, 0, 1, 2, 3, 4, 5, 7, 8, 9, 10, 12, 13, 14], [6, 16, 0, 1, 2, 3, 4, 5, 7, 8, 9, 10, 11, 12, 13, 14, 15]] [[], [], [], [], [], [], [], [], [], [], [], [], [], [], [], [], [], []] [] [] (fun i9 => ([fun _ => Is (.slice pL 1 cL), fun _ => Is (.pointer (some ⟨gl6, 0, none⟩)), fun _ => Is (.pointer (some ⟨gl6, 1, none⟩)), fun _ => Is (.slice pX M.length cX), fun _ => Is (.int .i64 (M.length : Int)), fun _ => Is (.bool false), fun _ => Is (.bool false), fun _ => Is (.slice pL 1 cL), fun _ => Is (.pointer (some ⟨gl6, 0, none⟩)), fun _ => Is (.pointer (some ⟨gl6, 1, none⟩)), fun _ => Is (.slice pX M.length cX), fun _ => Is (.int .i64 (M.length : Int)), fun _ => Is (.slice pL 1 cL), fun _ => Is (.pointer (some ⟨gl6, 0, none⟩)), fun _ => Is (.pointer (some ⟨gl6, 2, none⟩)), fun _ => Is (.int .i64 (((colsM M : Nat) : Int))), fun _ => Is (.bool false), fun _ => Is (.bool false)] : List (List Value → Tell)).getD i9 (fun _ _ _ => False)) (heldNil) (fun d _ _ _ _ h => (by cases d <;> exact h)) (by kernel_rfl) (by kernel_rfl) (by kernel_rfl) hS ?_ ?_
 ·
  refine stepsCons rfl (fun Q f' w' ρ S ho hT hS hB => ?_) ?_
  ·exact .inl ⟨want_none rfl, omove (v := .slice pL 1 cL) rfl rfl (ev rfl (ho 6 rfl)) ⟨_, _, rfl, isI, New.same _⟩⟩
  refine stepsCons rfl (fun Q f' w' ρ S ho hT hS hB => ?_) ?_
  ·obtain ⟨hv0, hr0⟩ := (hT 0 19 rfl rfl : (Is (.slice pL 1 cL)) _ _)
   obtain hS := hS.flat1 hr0
   exact .inl ⟨want_none rfl, oindex (p := pL) (g := gl6) (off := 0) (m := 1) (k := 0) (j := 0) rfl rfl Tryd.runUnderlying73 Tryd.sizeOf63 (ev rfl hv0) (hgl6) evc (by omega) rfl ⟨_, _, rfl, isI, New.same _⟩⟩
  refine stepsCons rfl (fun Q f' w' ρ S ho hT hS hB => ?_) ?_
  ·obtain ⟨hv1, hr1⟩ := (hT 1 20 rfl rfl : (Is (.pointer (some ⟨gl6, 0, none⟩))) _ _)
   obtain hS := hS.flat1 hr1
   exact .inl ⟨want_none rfl, ofieldAddr (g := gl6) (off := 0) 1 rfl rfl (ev rfl hv1) Tryd.runUnderlying63 rfl Tryd.sizeOf25 rfl ⟨_, _, rfl, isI, New.same _⟩⟩
  refine stepsCons rfl (fun Q f' w' ρ S ho hT hS hB => ?_) ?_
  ·obtain ⟨hv2, hr2⟩ := (hT 2 21 rfl rfl : (Is (.pointer (some ⟨gl6, 1, none⟩))) _ _)
   obtain hS := hS.flat1 hr2
   exact .inl ⟨want_none rfl, oloadc (v := .slice pX M.length cX) (show One Tryd.prog 25 from ⟨Tryd.isAgg25, Tryd.sizeOf25⟩) rfl rfl (ev (v := .pointer (some ⟨gl6, 1, none⟩)) rfl hv2) (hS.lstAt 1 rfl hgl6 0 1 rfl rfl (by omega) rfl) ⟨_, _, rfl, isI, New.same _⟩⟩
  refine stepsCons rfl (fun Q f' w' ρ S ho hT hS hB => ?_) ?_
  ·obtain ⟨hv3, hr3⟩ := (hT 3 22 rfl rfl : (Is (.slice pX M.length cX)) _ _)
   obtain hS := hS.flat1 hr3
   exact .inl ⟨want_none rfl, olen rfl rfl rfl Tryd.runUnderlying25 (p := pX) (k := M.length) (m := cX) (ev rfl hv3) ⟨_, _, rfl, isI, New.same _⟩⟩
  refine stepsCons rfl (fun Q f' w' ρ S ho hT hS hB => ?_) ?_
  ·obtain ⟨hv4, hr4⟩ := (hT 4 23 rfl rfl : (Is (.int .i64 (((M.length : Nat) : Int)))) _ _)
   obtain hS := hS.flat1 hr4
   exact .inl ⟨want_none rfl, obin (u := .int .i64 (M.length : Int)) (v := .int .i64 0) (z := .bool false) rfl rfl (ev rfl hv4) evc (bin_eql (eqF (by omega))) ⟨_, _, rfl, isI, New.same _⟩⟩
  refine stepsCons rfl (fun Q f' w' ρ S ho hT hS hB => ?_) ?_
  ·obtain ⟨hv5, hr5⟩ := (hT 5 24 rfl rfl : (Is (.bool false)) _ _)
   obtain hS := hS.flat1 hr5
   exact .inl ⟨want_none rfl, omove (v := .bool false) rfl rfl (ev rfl hv5) ⟨_, _, rfl, isI, New.same _⟩⟩
  refine stepsCons rfl (fun Q f' w' ρ S ho hT hS hB => ?_) ?_
  ·obtain ⟨hv6, hr6⟩ := (hT 6 25 rfl rfl : (Is (.bool false)) _ _)
   obtain hS := hS.flat1 hr6
   exact .inl ⟨want_on (e := 25) rfl rfl rfl hv6, omove (v := .slice pL 1 cL) rfl rfl (ev rfl (ho 6 rfl)) ⟨_, _, rfl, isI, New.same _⟩⟩
  refine stepsCons rfl (fun Q f' w' ρ S ho hT hS hB => ?_) ?_
  ·obtain ⟨hv6, hr6⟩ := (hT 6 25 rfl rfl : (Is (.bool false)) _ _)
   obtain ⟨hv7, hr7⟩ := (hT 7 26 rfl rfl : (Is (.slice pL 1 cL)) _ _)
   obtain hS := hS.flat2 hr6 hr7
   exact .inl ⟨want_on (e := 25) rfl rfl rfl hv6, oindex (p := pL) (g := gl6) (off := 0) (m := 1) (k := 0) (j := 0) rfl rfl Tryd.runUnderlying73 Tryd.sizeOf63 (ev rfl hv7) (hgl6) evc (by omega) rfl ⟨_, _, rfl, isI, New.same _⟩⟩
  refine stepsCons rfl (fun Q f' w' ρ S ho hT hS hB => ?_) ?_
  ·obtain ⟨hv6, hr6⟩ := (hT 6 25 rfl rfl : (Is (.bool false)) _ _)
   obtain ⟨hv8, hr8⟩ := (hT 8 27 rfl rfl : (Is (.pointer (some ⟨gl6, 0, none⟩))) _ _)
   obtain hS := hS.flat2 hr6 hr8
   exact .inl ⟨want_on (e := 25) rfl rfl rfl hv6, ofieldAddr (g := gl6) (off := 0) 1 rfl rfl (ev rfl hv8) Tryd.runUnderlying63 rfl Tryd.sizeOf25 rfl ⟨_, _, rfl, isI, New.same _⟩⟩
  refine stepsCons rfl (fun Q f' w' ρ S ho hT hS hB => ?_) ?_
  ·obtain ⟨hv6, hr6⟩ := (hT 6 25 rfl rfl : (Is (.bool false)) _ _)
   obtain ⟨hv9, hr9⟩ := (hT 9 28 rfl rfl : (Is (.pointer (some ⟨gl6, 1, none⟩))) _ _)
   obtain hS := hS.flat2 hr6 hr9
   exact .inl ⟨want_on (e := 25) rfl rfl rfl hv6, oloadc (v := .slice pX M.length cX) (show One Tryd.prog 25 from ⟨Tryd.isAgg25, Tryd.sizeOf25⟩) rfl rfl (ev (v := .pointer (some ⟨gl6, 1, none⟩)) rfl hv9) (hS.lstAt 1 rfl hgl6 0 1 rfl rfl (by omega) rfl) ⟨_, _, rfl, isI, New.same _⟩⟩
  refine stepsCons rfl (fun Q f' w' ρ S ho hT hS hB => ?_) ?_
  ·obtain ⟨hv6, hr6⟩ := (hT 6 25 rfl rfl : (Is (.bool false)) _ _)
   obtain ⟨hv10, hr10⟩ := (hT 10 29 rfl rfl : (Is (.slice pX M.length cX)) _ _)
   obtain hS := hS.flat2 hr6 hr10
   exact .inl ⟨want_on (e := 25) rfl rfl rfl hv6, olen rfl rfl rfl Tryd.runUnderlying25 (p := pX) (k := M.length) (m := cX) (ev rfl hv10) ⟨_, _, rfl, isI, New.same _⟩⟩
  refine stepsCons rfl (fun Q f' w' ρ S ho hT hS hB => ?_) ?_
  ·obtain ⟨hv6, hr6⟩ := (hT 6 25 rfl rfl : (Is (.bool false)) _ _)
   obtain hS := hS.flat1 hr6
   exact .inl ⟨want_on (e := 25) rfl rfl rfl hv6, omove (v := .slice pL 1 cL) rfl rfl (ev rfl (ho 6 rfl)) ⟨_, _, rfl, isI, New.same _⟩⟩
  refine stepsCons rfl (fun Q f' w' ρ S ho hT hS hB => ?_) ?_
  ·obtain ⟨hv6, hr6⟩ := (hT 6 25 rfl rfl : (Is (.bool false)) _ _)
   obtain ⟨hv12, hr12⟩ := (hT 12 31 rfl rfl : (Is (.slice pL 1 cL)) _ _)
   obtain hS := hS.flat2 hr6 hr12
   exact .inl ⟨want_on (e := 25) rfl rfl rfl hv6, oindex (p := pL) (g := gl6) (off := 0) (m := 1) (k := 0) (j := 0) rfl rfl Tryd.runUnderlying73 Tryd.sizeOf63 (ev rfl hv12) (hgl6) evc (by omega) rfl ⟨_, _, rfl, isI, New.same _⟩⟩
  refine stepsCons rfl (fun Q f' w' ρ S ho hT hS hB => ?_) ?_
  ·obtain ⟨hv6, hr6⟩ := (hT 6 25 rfl rfl : (Is (.bool false)) _ _)
   obtain ⟨hv13, hr13⟩ := (hT 13 32 rfl rfl : (Is (.pointer (some ⟨gl6, 0, none⟩))) _ _)
   obtain hS := hS.flat2 hr6 hr13
   exact .inl ⟨want_on (e := 25) rfl rfl rfl hv6, ofieldAddr (g := gl6) (off := 0) 2 rfl rfl (ev rfl hv13) Tryd.runUnderlying63 rfl Tryd.sizeOf3 rfl ⟨_, _, rfl, isI, New.same _⟩⟩
  refine stepsCons rfl (fun Q f' w' ρ S ho hT hS hB => ?_) ?_
  ·obtain ⟨hv6, hr6⟩ := (hT 6 25 rfl rfl : (Is (.bool false)) _ _)
   obtain ⟨hv14, hr14⟩ := (hT 14 33 rfl rfl : (Is (.pointer (some ⟨gl6, 2, none⟩))) _ _)
   obtain hS := hS.flat2 hr6 hr14
   exact .inl ⟨want_on (e := 25) rfl rfl rfl hv6, oloadc (v := .int .i64 (((colsM M : Nat) : Int))) oneI rfl rfl (ev (v := .pointer (some ⟨gl6, 2, none⟩)) rfl hv14) (hS.lstAt 1 rfl hgl6 0 2 rfl rfl (by omega) rfl) ⟨_, _, rfl, isI, New.same _⟩⟩
  refine stepsCons rfl (fun Q f' w' ρ S ho hT hS hB => ?_) ?_
  ·obtain ⟨hv6, hr6⟩ := (hT 6 25 rfl rfl : (Is (.bool false)) _ _)
   obtain ⟨hv11, hr11⟩ := (hT 11 30 rfl rfl : (Is (.int .i64 (((M.length : Nat) : Int)))) _ _)
   obtain ⟨hv15, hr15⟩ := (hT 15 34 rfl rfl : (Is (.int .i64 (((colsM M : Nat) : Int)))) _ _)
   obtain hS := hS.flat3 hr6 hr11 hr15
   exact .inl ⟨want_on (e := 25) rfl rfl rfl hv6, obin (u := .int .i64 (M.length : Int)) (v := .int .i64 (((colsM M : Nat) : Int))) (z := .bool false) rfl rfl (ev rfl hv11) (ev rfl hv15) (bin_neq (neF (by omega))) ⟨_, _, rfl, isI, New.same _⟩⟩
  refine stepsCons rfl (fun Q f' w' ρ S ho hT hS hB => ?_) ?_
  ·obtain ⟨hv6, hr6⟩ := (hT 6 25 rfl rfl : (Is (.bool false)) _ _)
   obtain ⟨hv16, hr16⟩ := (hT 16 35 rfl rfl : (Is (.bool false)) _ _)
   obtain hS := hS.flat2 hr6 hr16
   exact .inl ⟨want_none rfl, opick (b := false) (v := .bool false) rfl rfl (ev rfl hv6) (ev rfl hv16) ⟨_, _, rfl, isI, New.same _⟩⟩
  exact stepsNil
 ·
  intro vs ρ w7 f' hf hT hS
  obtain ⟨hv0, hr0⟩ := (hT 0 (by decide) : (Is (.slice pL 1 cL)) _ _)
  obtain ⟨hv1, hr1⟩ := (hT 1 (by decide) : (Is (.pointer (some ⟨gl6, 0, none⟩))) _ _)
  obtain ⟨hv2, hr2⟩ := (hT 2 (by decide) : (Is (.pointer (some ⟨gl6, 1, none⟩))) _ _)
  obtain ⟨hv3, hr3⟩ := (hT 3 (by decide) : (Is (.slice pX M.length cX)) _ _)
  obtain ⟨hv4, hr4⟩ := (hT 4 (by decide) : (Is (.int .i64 (((M.length : Nat) : Int)))) _ _)
  obtain ⟨hv5, hr5⟩ := (hT 5 (by decide) : (Is (.bool false)) _ _)
  obtain ⟨hv6, hr6⟩ := (hT 6 (by decide) : (Is (.bool false)) _ _)
  obtain ⟨hv7, hr7⟩ := (hT 7 (by decide) : (Is (.slice pL 1 cL)) _ _)
  obtain ⟨hv8, hr8⟩ := (hT 8 (by decide) : (Is (.pointer (some ⟨gl6, 0, none⟩))) _ _)
  obtain ⟨hv9, hr9⟩ := (hT 9 (by decide) : (Is (.pointer (some ⟨gl6, 1, none⟩))) _ _)
  obtain ⟨hv10, hr10⟩ := (hT 10 (by decide) : (Is (.slice pX M.length cX)) _ _)
  obtain ⟨hv11, hr11⟩ := (hT 11 (by decide) : (Is (.int .i64 (((M.length : Nat) : Int)))) _ _)
  obtain ⟨hv12, hr12⟩ := (hT 12 (by decide) : (Is (.slice pL 1 cL)) _ _)
  obtain ⟨hv13, hr13⟩ := (hT 13 (by decide) : (Is (.pointer (some ⟨gl6, 0, none⟩))) _ _)
  obtain ⟨hv14, hr14⟩ := (hT 14 (by decide) : (Is (.pointer (some ⟨gl6, 2, none⟩))) _ _)
  obtain ⟨hv15, hr15⟩ := (hT 15 (by decide) : (Is (.int .i64 (((colsM M : Nat) : Int)))) _ _)
  obtain ⟨hv16, hr16⟩ := (hT 16 (by decide) : (Is (.bool false)) _ _)
  obtain ⟨hv17, hr17⟩ := (hT 17 (by decide) : (Is (.bool false)) _ _)
  simp only [pool, if_true, hr0, hr1, hr2, hr3, hr4, hr5, hr6, hr7, hr8, hr9, hr10, hr11, hr12, hr13, hr14, hr15, hr16, hr17, List.nil_append, List.cons_append, List.append_nil] at hS
  simp only [layf, hv0, hv1, hv2, hv3, hv4, hv5, hv6, hv7, hv8, hv9, hv10, hv11, hv12, hv13, hv14, hv15, hv16, hv17] at hf
  subst hf; clear hT hv0 hv1 hv2 hv3 hv4 hv5 hv6 hv7 hv8 hv9 hv10 hv11 hv12 hv13 hv14 hv15 hv16 hv17 hr0 hr1 hr2 hr3 hr4 hr5 hr6 hr7 hr8 hr9 hr10 hr11 hr12 hr13 hr14 hr15 hr16 hr17
  refine wdone rfl ?_
  refine thenN ?_
  refine wF (ev rfl rfl) ?_
  refine wskip (thenN (wseq (wreg (wl rfl (omove (v := .slice pL 1 cL) rfl rfl (ev rfl rfl) ?_)))))
  refine wl rfl (oindex (p := pL) (g := gl6) (off := 0) (m := 1) (k := 0) (j := 0) rfl rfl Tryd.runUnderlying73 Tryd.sizeOf63 (ev rfl rfl) (hgl6) evc (by omega) rfl ?_)
  refine wl rfl (oloadA (vs := [.int .u64 (p : Int), .slice pX M.length cX, .int .i64 (((colsM M : Nat) : Int))]) (show Agg Tryd.prog 63 3 from ⟨Tryd.isAgg63, Tryd.sizeOf63⟩) rfl rfl (ev (v := .pointer (some ⟨gl6, 0, none⟩)) rfl rfl) (hS.lstAtA 1 rfl hgl6 0 rfl (by omega) rfl) rfl ?_)
  refine wl rfl (ostore [.int .u64 (p : Int), .slice pX M.length cX, .int .i64 (((colsM M : Nat) : Int))] [.int .u64 (p : Int), .slice pX M.length cX, .int .i64 (((colsM M : Nat) : Int))] Tryd.sizeOf63 hS 3 rfl rfl (ev rfl rfl) (ev (v := .agg #[.int .u64 (p : Int), .slice pX M.length cX, .int .i64 (((colsM M : Nat) : Int))]) rfl rfl) rfl rfl rfl rfl rfl rfl ?_)
  clear hS; intro w8 hS
  refine wl rfl (oassign (v := .int .i64 0) rfl rfl evc ?_)
  refine wnil (thenN ?_)
  refine wleave ?_
  refine wret2 Tryd.results38 (tellC (cs := [.int .u64 (p : Int), .slice pX M.length cX, .int .i64 (((colsM M : Nat) : Int))]) (show Agg Tryd.prog 63 3 from ⟨Tryd.isAgg63, Tryd.sizeOf63⟩) hS 3 rfl rfl rfl rfl) (tellT (v := .int .i64 0) rfl rfl) ?_
  exact ⟨_, _, rfl, ⟨_, _, _, hQX, rfl, rfl⟩, hS.newR 0 rfl rfl⟩
theorem nat_bne {a : Nat} : (((a : Nat) : Int) != 0) = (a != 0) := by
  by_cases h : a = 0
  · subst h; rfl
  · rw [bne_iff_ne.2 h, bne_iff_ne.2 (by omega)]
theorem wpinv {a p : Nat} {w : World} (hp : MR.Pr p) (hp2 : p < 4294967296) (ha : a < 4294967296) (ht : Tb w) (hd : ¬ p ∣ a) : Calls Tryd.prog 64 #[.int .u32 ((a : Nat) : Int), .int .u32 ((p : Nat) : Int)] w (Ret (Is (.tuple #[.int .u32 ((pinv p a : Nat) : Int), .int .i64 0])) w) := by
  have hS := Sep.init w
  refine went Tryd.func64 rfl (n := 11) rfl rfl ?_
  refine wseq (wreg (wl rfl (oassign (v := .int .u32 0) rfl rfl evc ?_)))
  refine wl rfl (oassign (v := .int .i64 0) rfl rfl evc ?_)
  refine wnil (thenN (wseq (wreg (wl rfl (omove (v := .int .u32 (a : Int)) rfl rfl (ev rfl rfl) ?_)))))
  refine wl rfl (omove (v := .int .u32 (p : Int)) rfl rfl (ev rfl rfl) ?_)
  refine wl rfl (ocall rfl rfl Tryd.call72 rfl ((show Calls _ _ _ _ (Ret (Is (.tuple #[.int .u32 ((pinv p a : Nat) : Int), .int .i64 0])) _) from by have h := wpquo (a := 1) hp hp2 (by omega) ha (ht.at hS) hd; rwa [show 1 * (a ^ (p - 2) % p) % p = pinv p a from by rw [Nat.one_mul, Nat.mod_mod]; rfl] at h)) (args3 evc (ev rfl rfl) (ev rfl rfl)) ?_)
  rintro _ w1 ⟨_, _, rfl, ⟨rfl, rfl⟩, hN⟩
  refine ⟨_, rfl, ?_⟩
  replace hS := hS.news hN; clear hN
  refine wl rfl (oextract (vs := [.int .u32 (((pinv p a : Nat) : Int)), .int .i64 0]) (v := .int .u32 (((pinv p a : Nat) : Int))) rfl rfl (ev rfl rfl) rfl ?_)
  refine wl rfl (oextract (vs := [.int .u32 (((pinv p a : Nat) : Int)), .int .i64 0]) (v := .int .i64 0) rfl rfl (ev rfl rfl) rfl ?_)
  refine wl rfl (oassign (v := .int .u32 (((pinv p a : Nat) : Int))) rfl rfl (ev rfl rfl) ?_)
  refine wl rfl (oassign (v := .int .i64 0) rfl rfl (ev rfl rfl) ?_)
  refine wnil (thenN ?_)
  refine wleave ?_
  refine wret2 Tryd.results64 (tellT (v := .int .u32 (((pinv p a : Nat) : Int))) rfl rfl) (tellT (v := .int .i64 0) rfl rfl) ?_
  exact ⟨_, _, rfl, isI, hS.new0⟩
theorem wxred1 {q : Option Addr} {n cq c gc : Nat} {row : List Nat} {tc : TypeId} {w : World} (hs : Sl w q n cq row) (hb : w.heap[gc]? = some (.cells [.int .i64 ((c : Nat) : Int)].toArray tc)) (hlt : c < n) :
  Calls Tryd.prog 62 #[.slice q n cq, .pointer (some ⟨gc, 0, none⟩)] w (Ret (Is (.bool (nd row c != 0))) w) := by
 have hS := Sep.init w
 refine went Tryd.func62 rfl (n := 9) rfl rfl ?_
 refine wseq (wreg (wl rfl (oassign (v := .bool false) rfl rfl evc ?_)))
 refine wnil (thenN (wseq (wreg (wl rfl (omove (v := .slice q n cq) rfl rfl (ev rfl rfl) ?_)))))
 refine wl rfl (oloadc (v := .int .i64 (c : Int)) oneI rfl rfl (ev (v := .pointer (some ⟨gc, 0, none⟩)) rfl rfl) (hS.cellAt ((box_cells hb) 0 _ rfl)) ?_)
 obtain ⟨bce, oce, hpce, hcce⟩ := hs.el (show c < n by omega)
 refine wl rfl (oindex (p := q) (g := bce) (off := oce) (m := n) (k := c) (j := (oce + c * 1)) rfl rfl Tryd.runUnderlying52 Tryd.sizeOf27 (ev rfl rfl) (hpce) (ev rfl rfl) (by omega) rfl ?_)
 refine wl rfl (oloadc (v := .int .u32 (((nd row c : Nat) : Int))) one32 rfl rfl (ev (v := .pointer (some ⟨bce, (oce + c * 1), none⟩)) rfl rfl) (hS.cellAt (hcce 0 _ rfl)) ?_)
 refine wl rfl (obin (u := .int .u32 (((nd row c : Nat) : Int))) (v := .int .u32 0) (z := .bool ((((nd row c : Nat) : Int) != 0))) rfl rfl (ev rfl rfl) evc (bin_neq (rfl)) ?_)
 refine wl rfl (oassign (v := .bool ((((nd row c : Nat) : Int) != 0))) rfl rfl (ev rfl rfl) ?_)
 refine wnil (thenN ?_)
 refine wleave ?_
 refine wret1 Tryd.results62 (tellT (v := .bool ((((nd row c : Nat) : Int) != 0))) rfl rfl) ?_
 exact ⟨_, _, rfl, ⟨by rw [show ((((nd row c : Nat) : Int)) != 0) = (nd row c != 0) from nat_bne], rfl⟩, hS.new0⟩
def ixz (M : List (List Nat)) (c : Nat) : Int := match firstNZ M c M.length 0 with
  | some j => (j : Int)
  | none => -1
theorem ixz_some {M : List (List Nat)} {c j : Nat} (hj : j < M.length) (h : ∀ l, l < j → nd (M.getD l []) c = 0) (h0 : nd (M.getD j []) c ≠ 0) : ixz M c = (j : Int) := by
  unfold ixz; rw [firstNZ_some (Nat.zero_le _) (by omega) (fun l _ hl => h l hl) h0]
theorem ixz_none {M : List (List Nat)} {c : Nat} (h : ∀ l, l < M.length → nd (M.getD l []) c = 0) : ixz M c = -1 := by
  unfold ixz; rw [firstNZ_none (fun l _ hl => h l (by omega))]
theorem getD_drop (M : List (List Nat)) (r l : Nat) : (M.drop r).getD l [] = M.getD (r + l) [] := by simp [List.getD, List.getElem?_drop]
theorem ixz_drop {M : List (List Nat)} {c r : Nat} : (firstNZ M c (M.length - r) r = none → ixz (M.drop r) c = -1) ∧ ∀ t, firstNZ M c (M.length - r) r = some (r + t) → ixz (M.drop r) c = (t : Int) := by
 refine ⟨fun h => ixz_none fun l hl => ?_, fun t h => ?_⟩
 ·rw [getD_drop]; rw [List.length_drop] at hl; exact firstNZ_zero h _ (by omega) (by omega)
 ·obtain ⟨h1, h2, h3, h4⟩ := firstNZ_is h
  refine ixz_some (by rw [List.length_drop]; omega) (fun l hl => ?_) (by rw [getD_drop]; exact h3)
  rw [getD_drop]; exact h4 _ (by omega) (by omega)
theorem wxindexf {g off n cl c gc : Nat} {tc : TypeId} {M : List (List Nat)} {w : World} (hm : MS w (some ⟨g, off, none⟩) n M) (hb : w.heap[gc]? = some (.cells [.int .i64 ((c : Nat) : Int)].toArray tc)) (hC : ∀ r ∈ M, c < r.length) (hn : n ≤ 2097152) :
  Calls Tryd.prog 61 #[.slice (some ⟨g, off, none⟩) n cl, .func (.func 62) #[] #[.pointer (some ⟨gc, 0, none⟩)]] w (Ret (Is (.int .i64 (ixz M c))) w) := by
 have hS := Sep.init w
 refine went Tryd.func61 rfl (n := 19) rfl rfl ?_
 refine wseq (wreg (wl rfl (oassign (v := .int .i64 0) rfl rfl evc ?_)))
 refine wnil (thenN (wseq (wseq (wreg (wl rfl (omove (v := .slice (some ⟨g, off, none⟩) n cl) rfl rfl (ev rfl rfl) ?_))))))
 refine wl rfl (olen rfl rfl rfl Tryd.runUnderlying25 (p := (some ⟨g, off, none⟩)) (k := n) (m := cl) (ev rfl rfl) ?_)
 refine wl rfl (omove (v := .int .i64 0) rfl rfl evc ?_)
 refine wnil (thenN (wblock ?_))
 refine wloop (σ := Nat) (fun i a9 w' => ∃ (fb : Nat → Value), a9 = act 19 (sets fb [(0, .slice (some ⟨g, off, none⟩) n cl), (1, .func (.func 62) #[] #[.pointer (some ⟨gc, 0, none⟩)]), (7, .int .i64 (n : Int)), (8, .int .i64 (i : Int))]) ∧ Sep w [] w' ∧ (i ≤ n) ∧ (∀ l, l < i → nd (M.getD l []) c = 0)) (fun i => n - i) (0) ⟨_, act_sets (l := [(0, .slice (some ⟨g, off, none⟩) n cl), (1, .func (.func 62) #[] #[.pointer (some ⟨gc, 0, none⟩)]), (7, .int .i64 (n : Int)), (8, .int .i64 0)]) ⟨rfl, rfl, rfl, rfl, trivial⟩, hS, Nat.zero_le _, fun l hl => by omega⟩ ?_
 clear hS; rintro i _ w1 ⟨fb, rfl, hS, hi, hz⟩
 refine wseq (wreg ?_)
 by_cases hlt : i < n
 ·
  refine wl rfl (obin (u := .int .i64 (i : Int)) (v := .int .i64 (n : Int)) (z := .bool true) rfl rfl (ev rfl rfl) (ev rfl rfl) (bin_lss (decide_eq_true (by omega))) ?_)
  refine wnil (thenN (wseq ?_))
  refine wT (ev rfl rfl) ?_
  refine wskip (thenN (wseq (wblock (wseq (wreg (wl rfl (omove (v := .int .i64 (i : Int)) rfl rfl (ev rfl rfl) ?_)))))))
  refine wl rfl (oassign (v := .int .i64 (i : Int)) rfl rfl (ev rfl rfl) ?_)
  refine wnil (thenN (wseq (wreg (wl rfl (omove (v := .func (.func 62) #[] #[.pointer (some ⟨gc, 0, none⟩)]) rfl rfl (ev rfl rfl) ?_)))))
  refine wl rfl (omove (v := .slice (some ⟨g, off, none⟩) n cl) rfl rfl (ev rfl rfl) ?_)
  refine wl rfl (omove (v := .int .i64 (i : Int)) rfl rfl (ev rfl rfl) ?_)
  obtain ⟨xr, hxr⟩ : ∃ r, (M)[i]? = some r := ⟨_, List.getElem?_eq_getElem (by have := hm.1; omega)⟩
  obtain ⟨br, ofr, pr, cr, hpr, hcr, hsr⟩ := hm.2.2 i _ hxr
  refine wl rfl (oindex (p := (some ⟨g, off, none⟩)) (g := br) (off := ofr) (m := n) (k := i) (j := (ofr + i * 1)) rfl rfl Tryd.runUnderlying25 Tryd.sizeOf52 (ev rfl rfl) (hpr) (ev rfl rfl) (by omega) rfl ?_)
  refine wl rfl (oloadc (v := .slice pr xr.length cr) (show One Tryd.prog 52 from ⟨Tryd.isAgg52, Tryd.sizeOf52⟩) rfl rfl (ev (v := .pointer (some ⟨br, (ofr + i * 1), none⟩)) rfl rfl) (hS.cellAt (hcr 0 _ rfl)) ?_)
  refine wl rfl (ocallc (vs := #[.slice pr xr.length cr]) (caps := #[.pointer (some ⟨gc, 0, none⟩)]) rfl rfl (ev (v := .func (.func 62) #[] #[.pointer (some ⟨gc, 0, none⟩)]) rfl rfl) Tryd.call62 rfl (wxred1 (hsr.below hS.below (Nat.le_refl _)) (box_heap hS hb) (hC _ (List.mem_of_getElem? hxr))) (args1 (ev rfl rfl)) ?_)
  rintro _ w2 ⟨_, _, rfl, ⟨rfl, rfl⟩, hN⟩
  refine ⟨_, rfl, ?_⟩
  replace hS := hS.news hN; clear hN
  refine wnil (thenN ?_)
  by_cases hz0 : nd xr c = 0
  ·
   refine wF ((ev (v := .bool (nd xr c != 0)) rfl rfl).trans (congrArg Value.bool (by simp [hz0]))) ?_
   refine wskip (blkN (thenN (wreg (wl rfl (obin (u := .int .i64 (i : Int)) (v := .int .i64 1) (z := .int .i64 (((i + 1 : Nat) : Int))) rfl rfl (ev rfl rfl) evc (bin_add (wrap_i64 (by omega) (by omega))) ?_)))))
   refine wl rfl (omove (v := .int .i64 (((i + 1 : Nat) : Int))) rfl rfl (ev rfl rfl) ?_)
   refine wnil (thenN ?_)
   exact ⟨(i + 1), ⟨_, act_sets (l := [(0, .slice (some ⟨g, off, none⟩) n cl), (1, .func (.func 62) #[] #[.pointer (some ⟨gc, 0, none⟩)]), (7, .int .i64 (n : Int)), (8, .int .i64 (((i + 1 : Nat) : Int)))]) ⟨rfl, rfl, rfl, rfl, trivial⟩, hS.pick [] (by decide) rfl, by omega, fun l hl => (Nat.lt_or_eq_of_le (Nat.lt_succ_iff.1 hl)).elim (hz l) (fun e => by rw [e, getD_get hxr]; exact hz0)⟩, by omega⟩
  ·
   refine wT ((ev (v := .bool (nd xr c != 0)) rfl rfl).trans (congrArg Value.bool (by simp [hz0]))) ?_
   refine wseq (wreg (wl rfl (omove (v := .int .i64 (i : Int)) rfl rfl (ev rfl rfl) ?_)))
   refine wl rfl (oassign (v := .int .i64 (i : Int)) rfl rfl (ev rfl rfl) ?_)
   refine wnil (thenN ?_)
   refine wleave ?_
   refine blkR ?_
   refine thenR ?_
   refine thenR ?_
   refine blkR ?_
   refine thenR ?_
   refine wret1 Tryd.results61 (tellT (v := .int .i64 (i : Int)) rfl rfl) ?_
   exact ⟨_, _, rfl, ⟨by rw [ixz_some (by have := hm.1; omega) hz (by rw [getD_get hxr]; exact hz0)], rfl⟩, hS.new0⟩
 ·
  refine wl rfl (obin (u := .int .i64 (i : Int)) (v := .int .i64 (n : Int)) (z := .bool false) rfl rfl (ev rfl rfl) (ev rfl rfl) (bin_lss (decide_eq_false (by omega))) ?_)
  refine wnil (thenN (wseq ?_))
  refine wF (ev rfl rfl) ?_
  refine wexit ?_
  refine thenE ?_
  refine thenE ?_
  refine blkE ?_
  refine thenN (wseq (wreg (wl rfl (oassign (v := .int .i64 (-1)) rfl rfl evc ?_))))
  refine wnil (thenN ?_)
  refine wleave ?_
  refine wret1 Tryd.results61 (tellT (v := .int .i64 (-1)) rfl rfl) ?_
  exact ⟨_, _, rfl, ⟨by rw [ixz_none (fun l hl => hz l (by have := hm.1; omega))], rfl⟩, hS.new0⟩
end Go.Proofs.YtndilfigdbenoaaDoor
