/-
  Contracts and lemmas, joined in one text.
-/
import Derived.Test.YtndilfigdbenoaaDoorM2
set_option linter.unusedVariables false
set_option linter.unusedSimpArgs false
/-
  modmat's Inverse, Det, Rank, Reduce.
-/
set_option maxRecDepth 100000
set_option maxHeartbeats 16000000
namespace Go.Proofs.YtndilfigdbenoaaDoor
open Go.RowKit
theorem SmallM.cols {M : List (List Nat)} (h : SmallM M) : colsM M ≤ 1048576 := by
  unfold colsM
  cases M with
  | nil => simp
  | cons r M => exact h.2 r (by simp)
def augM (p : Nat) (M : List (List Nat)) : List (List Nat) := besM (modM p M) (idM (colsM M))
theorem augM_shp {p : Nat} {M : List (List Nat)} (hp : 1 < p) (hr : RectM M) (hq : M.length = colsM M) : Shp p (colsM M + colsM M) (augM p M) :=
  besM_shp (hr.shp (by omega)) (idM_shp hp) (by rw [modM_len, hq]; unfold idM; rw [mkM_len])
theorem augM_len (p : Nat) (M : List (List Nat)) : (augM p M).length = M.length := by unfold augM besM; rw [besTo_len, modM_len]
theorem wxdet40 {pm : Option Addr} {nm cm p : Nat} {M : List (List Nat)} {w : World} (ht : Tb w) (hm : MS w pm nm M) (hp2 : p < 4294967296) (hs : SmallM M) (hp : ¬ MR.Pr p) :
  Calls Tryd.prog 22 #[.slice pm nm cm, .int .u32 ((p : Nat) : Int)] w (Ret (Is (.tuple #[.int .u32 0, .int .i64 40])) w) := by
 have hS := Sep.init w
 refine went Tryd.func22 rfl (n := 27) rfl rfl ?_
 refine wseq (wreg (wl rfl (oassign (v := .int .u32 0) rfl rfl evc ?_)))
 refine wl rfl (oassign (v := .int .i64 0) rfl rfl evc ?_)
 refine wnil (thenN (wseq (wreg (wl rfl (omove (v := .int .u32 (p : Int)) rfl rfl (ev rfl rfl) ?_)))))
 refine wl rfl (omove (v := .slice pm nm cm) rfl rfl (ev rfl rfl) ?_)
 refine wl rfl (ocall rfl rfl Tryd.call38 rfl (wxsquare40 (ht.at hS) (hm.at hS) hp2 hs hp) (args2 (ev rfl rfl) (ev rfl rfl)) ?_)
 rintro _ w1 ⟨_, _, rfl, ⟨rfl, rfl⟩, hN⟩
 refine ⟨_, rfl, ?_⟩
 replace hS := hS.news hN; clear hN
 refine wl rfl (omove (v := .tuple #[.agg #[.int .u64 0, .slice none 0 0, .int .i64 0], .int .i64 40]) rfl rfl (ev rfl rfl) ?_)
 refine wl rfl (oextract (vs := [.agg #[.int .u64 0, .slice none 0 0, .int .i64 0], .int .i64 40]) (v := .agg #[.int .u64 0, .slice none 0 0, .int .i64 0]) rfl rfl (ev rfl rfl) rfl ?_)
 refine wl rfl (oextract (vs := [.agg #[.int .u64 0, .slice none 0 0, .int .i64 0], .int .i64 40]) (v := .int .i64 40) rfl rfl (ev rfl rfl) rfl ?_)
 refine wl rfl (oalloc [.int .u64 0, .slice none 0 0, .int .i64 0] hS rfl rfl Tryd.zeroValue63 rfl ?_)
 clear hS; intro g2 w3 hS
 refine wl rfl (ostore [.int .u64 0, .slice none 0 0, .int .i64 0] [.int .u64 0, .slice none 0 0, .int .i64 0] Tryd.sizeOf63 hS 0 rfl rfl (ev rfl rfl) (ev (v := .agg #[.int .u64 0, .slice none 0 0, .int .i64 0]) rfl rfl) rfl rfl rfl rfl rfl rfl ?_)
 clear hS; intro w4 hS
 refine wl rfl (oassign (v := .int .i64 40) rfl rfl (ev rfl rfl) ?_)
 refine wnil (thenN (wseq (wseq (wreg (wl rfl (omove (v := .int .i64 40) rfl rfl (ev rfl rfl) ?_))))))
 refine wl rfl (obin (u := .int .i64 40) (v := .int .i64 0) (z := .bool true) rfl rfl (ev rfl rfl) evc (bin_neq (by decide)) ?_)
 refine wnil (thenN ?_)
 refine wT (ev rfl rfl) ?_
 refine wseq (wreg (wl rfl (omove (v := .int .i64 40) rfl rfl (ev rfl rfl) ?_)))
 refine wl rfl (oassign (v := .int .u32 0) rfl rfl evc ?_)
 refine wl rfl (oassign (v := .int .i64 40) rfl rfl (ev rfl rfl) ?_)
 refine wnil (thenN ?_)
 refine wleave ?_
 refine thenR ?_
 refine wret2 Tryd.results22 (tellT (v := .int .u32 0) rfl rfl) (tellT (v := .int .i64 40) rfl rfl) ?_
 exact ⟨_, _, rfl, isI, hS.new0⟩
theorem wxdet2 {pm : Option Addr} {nm cm p : Nat} {M : List (List Nat)} {w : World} (ht : Tb w) (hm : MS w pm nm M) (hp2 : p < 4294967296) (hs : SmallM M) (hp : MR.Pr p) (hr : ¬ RectM M) :
  Calls Tryd.prog 22 #[.slice pm nm cm, .int .u32 ((p : Nat) : Int)] w (Ret (Is (.tuple #[.int .u32 0, .int .i64 2])) w) := by
 have hS := Sep.init w
 refine went Tryd.func22 rfl (n := 27) rfl rfl ?_
 refine wseq (wreg (wl rfl (oassign (v := .int .u32 0) rfl rfl evc ?_)))
 refine wl rfl (oassign (v := .int .i64 0) rfl rfl evc ?_)
 refine wnil (thenN (wseq (wreg (wl rfl (omove (v := .int .u32 (p : Int)) rfl rfl (ev rfl rfl) ?_)))))
 refine wl rfl (omove (v := .slice pm nm cm) rfl rfl (ev rfl rfl) ?_)
 refine wl rfl (ocall rfl rfl Tryd.call38 rfl (wxsquare2 (ht.at hS) (hm.at hS) hp2 hs hp hr) (args2 (ev rfl rfl) (ev rfl rfl)) ?_)
 rintro _ w1 ⟨_, _, rfl, ⟨rfl, rfl⟩, hN⟩
 refine ⟨_, rfl, ?_⟩
 replace hS := hS.news hN; clear hN
 refine wl rfl (omove (v := .tuple #[.agg #[.int .u64 0, .slice none 0 0, .int .i64 0], .int .i64 2]) rfl rfl (ev rfl rfl) ?_)
 refine wl rfl (oextract (vs := [.agg #[.int .u64 0, .slice none 0 0, .int .i64 0], .int .i64 2]) (v := .agg #[.int .u64 0, .slice none 0 0, .int .i64 0]) rfl rfl (ev rfl rfl) rfl ?_)
 refine wl rfl (oextract (vs := [.agg #[.int .u64 0, .slice none 0 0, .int .i64 0], .int .i64 2]) (v := .int .i64 2) rfl rfl (ev rfl rfl) rfl ?_)
 refine wl rfl (oalloc [.int .u64 0, .slice none 0 0, .int .i64 0] hS rfl rfl Tryd.zeroValue63 rfl ?_)
 clear hS; intro g2 w3 hS
 refine wl rfl (ostore [.int .u64 0, .slice none 0 0, .int .i64 0] [.int .u64 0, .slice none 0 0, .int .i64 0] Tryd.sizeOf63 hS 0 rfl rfl (ev rfl rfl) (ev (v := .agg #[.int .u64 0, .slice none 0 0, .int .i64 0]) rfl rfl) rfl rfl rfl rfl rfl rfl ?_)
 clear hS; intro w4 hS
 refine wl rfl (oassign (v := .int .i64 2) rfl rfl (ev rfl rfl) ?_)
 refine wnil (thenN (wseq (wseq (wreg (wl rfl (omove (v := .int .i64 2) rfl rfl (ev rfl rfl) ?_))))))
 refine wl rfl (obin (u := .int .i64 2) (v := .int .i64 0) (z := .bool true) rfl rfl (ev rfl rfl) evc (bin_neq (by decide)) ?_)
 refine wnil (thenN ?_)
 refine wT (ev rfl rfl) ?_
 refine wseq (wreg (wl rfl (omove (v := .int .i64 2) rfl rfl (ev rfl rfl) ?_)))
 refine wl rfl (oassign (v := .int .u32 0) rfl rfl evc ?_)
 refine wl rfl (oassign (v := .int .i64 2) rfl rfl (ev rfl rfl) ?_)
 refine wnil (thenN ?_)
 refine wleave ?_
 refine thenR ?_
 refine wret2 Tryd.results22 (tellT (v := .int .u32 0) rfl rfl) (tellT (v := .int .i64 2) rfl rfl) ?_
 exact ⟨_, _, rfl, isI, hS.new0⟩
theorem wxdet3 {pm : Option Addr} {nm cm p : Nat} {M : List (List Nat)} {w : World} (ht : Tb w) (hm : MS w pm nm M) (hp2 : p < 4294967296) (hs : SmallM M) (hp : MR.Pr p) (hr : RectM M) (hq : ¬ (M.length ≠ 0 ∧ M.length = colsM M)) :
  Calls Tryd.prog 22 #[.slice pm nm cm, .int .u32 ((p : Nat) : Int)] w (Ret (Is (.tuple #[.int .u32 0, .int .i64 3])) w) := by
 have hS := Sep.init w
 refine went Tryd.func22 rfl (n := 27) rfl rfl ?_
 refine wseq (wreg (wl rfl (oassign (v := .int .u32 0) rfl rfl evc ?_)))
 refine wl rfl (oassign (v := .int .i64 0) rfl rfl evc ?_)
 refine wnil (thenN (wseq (wreg (wl rfl (omove (v := .int .u32 (p : Int)) rfl rfl (ev rfl rfl) ?_)))))
 refine wl rfl (omove (v := .slice pm nm cm) rfl rfl (ev rfl rfl) ?_)
 refine wl rfl (ocall rfl rfl Tryd.call38 rfl (wxsquare3 (ht.at hS) (hm.at hS) hp2 hs hp hr hq) (args2 (ev rfl rfl) (ev rfl rfl)) ?_)
 rintro _ w1 ⟨_, _, rfl, ⟨rfl, rfl⟩, hN⟩
 refine ⟨_, rfl, ?_⟩
 replace hS := hS.news hN; clear hN
 refine wl rfl (omove (v := .tuple #[.agg #[.int .u64 0, .slice none 0 0, .int .i64 0], .int .i64 3]) rfl rfl (ev rfl rfl) ?_)
 refine wl rfl (oextract (vs := [.agg #[.int .u64 0, .slice none 0 0, .int .i64 0], .int .i64 3]) (v := .agg #[.int .u64 0, .slice none 0 0, .int .i64 0]) rfl rfl (ev rfl rfl) rfl ?_)
 refine wl rfl (oextract (vs := [.agg #[.int .u64 0, .slice none 0 0, .int .i64 0], .int .i64 3]) (v := .int .i64 3) rfl rfl (ev rfl rfl) rfl ?_)
 refine wl rfl (oalloc [.int .u64 0, .slice none 0 0, .int .i64 0] hS rfl rfl Tryd.zeroValue63 rfl ?_)
 clear hS; intro g2 w3 hS
 refine wl rfl (ostore [.int .u64 0, .slice none 0 0, .int .i64 0] [.int .u64 0, .slice none 0 0, .int .i64 0] Tryd.sizeOf63 hS 0 rfl rfl (ev rfl rfl) (ev (v := .agg #[.int .u64 0, .slice none 0 0, .int .i64 0]) rfl rfl) rfl rfl rfl rfl rfl rfl ?_)
 clear hS; intro w4 hS
 refine wl rfl (oassign (v := .int .i64 3) rfl rfl (ev rfl rfl) ?_)
 refine wnil (thenN (wseq (wseq (wreg (wl rfl (omove (v := .int .i64 3) rfl rfl (ev rfl rfl) ?_))))))
 refine wl rfl (obin (u := .int .i64 3) (v := .int .i64 0) (z := .bool true) rfl rfl (ev rfl rfl) evc (bin_neq (by decide)) ?_)
 refine wnil (thenN ?_)
 refine wT (ev rfl rfl) ?_
 refine wseq (wreg (wl rfl (omove (v := .int .i64 3) rfl rfl (ev rfl rfl) ?_)))
 refine wl rfl (oassign (v := .int .u32 0) rfl rfl evc ?_)
 refine wl rfl (oassign (v := .int .i64 3) rfl rfl (ev rfl rfl) ?_)
 refine wnil (thenN ?_)
 refine wleave ?_
 refine thenR ?_
 refine wret2 Tryd.results22 (tellT (v := .int .u32 0) rfl rfl) (tellT (v := .int .i64 3) rfl rfl) ?_
 exact ⟨_, _, rfl, isI, hS.new0⟩
theorem wxdet {pm : Option Addr} {nm cm p : Nat} {M : List (List Nat)} {w : World} (ht : Tb w) (hm : MS w pm nm M) (hp2 : p < 4294967296) (hs : SmallM M) (hp : MR.Pr p) (hr : RectM M) (h0 : M.length ≠ 0) (hq : M.length = colsM M)  :
  Calls Tryd.prog 22 #[.slice pm nm cm, .int .u32 ((p : Nat) : Int)] w (Ret (Is (.tuple #[.int .u32 ((detTo p (modM p M) (colsM M) : Nat) : Int), .int .i64 0])) w) := by
 have hcb := hs.cols
 have hnb := hs.1
 have hp1 := hp.1
 have hp0 : 0 < p := by omega
 have hshM := hr.shp hp0
 have hS := Sep.init w
 refine went Tryd.func22 rfl (n := 27) rfl rfl ?_
 refine wseq (wreg (wl rfl (oassign (v := .int .u32 0) rfl rfl evc ?_)))
 refine wl rfl (oassign (v := .int .i64 0) rfl rfl evc ?_)
 refine wnil (thenN (wseq (wreg (wl rfl (omove (v := .int .u32 (p : Int)) rfl rfl (ev rfl rfl) ?_)))))
 refine wl rfl (omove (v := .slice pm nm cm) rfl rfl (ev rfl rfl) ?_)
 refine wl rfl (ocall rfl rfl Tryd.call38 rfl (wxsquare (ht.at hS) (hm.at hS) hp2 hs hp hr h0 hq) (args2 (ev rfl rfl) (ev rfl rfl)) ?_)
 rintro _ w1 ⟨_, _, rfl, ⟨pX, cX, QX, hQX, rfl, rfl⟩, hN⟩
 refine ⟨_, rfl, ?_⟩
 replace hS := hS.news hN; clear hN
 refine wl rfl (omove (v := .tuple #[.agg #[.int .u64 (p : Int), .slice pX M.length cX, .int .i64 (((colsM M : Nat) : Int))], .int .i64 0]) rfl rfl (ev rfl rfl) ?_)
 refine wl rfl (oextract (vs := [.agg #[.int .u64 (p : Int), .slice pX M.length cX, .int .i64 (((colsM M : Nat) : Int))], .int .i64 0]) (v := .agg #[.int .u64 (p : Int), .slice pX M.length cX, .int .i64 (((colsM M : Nat) : Int))]) rfl rfl (ev rfl rfl) rfl ?_)
 refine wl rfl (oextract (vs := [.agg #[.int .u64 (p : Int), .slice pX M.length cX, .int .i64 (((colsM M : Nat) : Int))], .int .i64 0]) (v := .int .i64 0) rfl rfl (ev rfl rfl) rfl ?_)
 refine wl rfl (oalloc [.int .u64 0, .slice none 0 0, .int .i64 0] hS rfl rfl Tryd.zeroValue63 rfl ?_)
 clear hS; intro g2 w3 hS
 refine wl rfl (ostore [.int .u64 (p : Int), .slice pX M.length cX, .int .i64 (((colsM M : Nat) : Int))] [.int .u64 (p : Int), .slice pX M.length cX, .int .i64 (((colsM M : Nat) : Int))] Tryd.sizeOf63 hS 0 rfl rfl (ev rfl rfl) (ev (v := .agg #[.int .u64 (p : Int), .slice pX M.length cX, .int .i64 (((colsM M : Nat) : Int))]) rfl rfl) rfl rfl rfl rfl rfl rfl ?_)
 clear hS; intro w4 hS
 refine wl rfl (oassign (v := .int .i64 0) rfl rfl (ev rfl rfl) ?_)
 refine wnil (thenN (wseq (wseq (wreg (wl rfl (omove (v := .int .i64 0) rfl rfl (ev rfl rfl) ?_))))))
 refine wl rfl (obin (u := .int .i64 0) (v := .int .i64 0) (z := .bool false) rfl rfl (ev rfl rfl) evc (bin_neq (by decide)) ?_)
 refine wnil (thenN ?_)
 refine wF (ev rfl rfl) ?_
 refine wskip (thenN (wseq (wreg (wl rfl (oload (vs := [.int .u64 (p : Int), .slice pX M.length cX, .int .i64 (((colsM M : Nat) : Int))]) (show Agg Tryd.prog 63 3 from ⟨Tryd.isAgg63, Tryd.sizeOf63⟩) hS 0 rfl rfl (ev rfl rfl) rfl rfl rfl ?_)))))
 refine wl rfl (ofieldAddr (g := g2) (off := 0) 2 rfl rfl (ev rfl rfl) Tryd.runUnderlying63 rfl Tryd.sizeOf3 rfl ?_)
 refine wl rfl (oload1 (v := .int .i64 (((colsM M : Nat) : Int))) oneI hS 0 rfl rfl (ev rfl rfl) rfl rfl ?_)
 obtain hS := (show Sep w [.lst 52 1 pX M.length cX (mmE QX), .blk g2 [.int .u64 (((p : Nat) : Int)), .slice pX M.length cX, .int .i64 (((colsM M : Nat) : Int))] 63] w4 from hS.pick [1, 0] (by decide) rfl)
 refine wl rfl (ocall rfl rfl Tryd.call42 rfl (wxreduce ht hp hp2 hS (by rw [hQX]; exact hshM) (by omega) (by omega) (by omega)) (args2 (ev rfl rfl) (ev rfl rfl)) ?_)
 rintro _ w5 ⟨_, _, rfl, ⟨pP, cP, PP, DP, QR, hRR, hDP, rfl, rfl⟩, hN⟩
 refine ⟨_, rfl, ?_⟩
 clear hS; have hS := hN; clear hN
 refine wl rfl (omove (v := .tuple #[.slice pP PP.length cP, .int .u32 (DP : Int)]) rfl rfl (ev rfl rfl) ?_)
 refine wl rfl (oextract (vs := [.slice pP PP.length cP, .int .u32 (DP : Int)]) (v := .slice pP PP.length cP) rfl rfl (ev rfl rfl) rfl ?_)
 refine wl rfl (oextract (vs := [.slice pP PP.length cP, .int .u32 (DP : Int)]) (v := .int .u32 (DP : Int)) rfl rfl (ev rfl rfl) rfl ?_)
 refine wl rfl (oassign (v := .slice pP PP.length cP) rfl rfl (ev rfl rfl) ?_)
 refine wl rfl (oassign (v := .int .u32 (DP : Int)) rfl rfl (ev rfl rfl) ?_)
 refine wnil (thenN (wseq (wreg (wl rfl (omove (v := .int .u32 (DP : Int)) rfl rfl (ev rfl rfl) ?_)))))
 refine wl rfl (oassign (v := .int .u32 (DP : Int)) rfl rfl (ev rfl rfl) ?_)
 refine wl rfl (oassign (v := .int .i64 0) rfl rfl evc ?_)
 refine wnil (thenN ?_)
 refine wleave ?_
 refine wret2 Tryd.results22 (tellT (v := .int .u32 (DP : Int)) rfl rfl) (tellT (v := .int .i64 0) rfl rfl) ?_
 have hd : DP = detTo p (modM p M) (colsM M) := by rw [hDP.2 (by rw [hQX, modM_len]; omega), hQX]
 exact ⟨_, _, rfl, ⟨by rw [hd], rfl⟩, hS.new0⟩
theorem wxinverse {pm : Option Addr} {nm cm p : Nat} {M : List (List Nat)} {w : World} (ht : Tb w) (hm : MS w pm nm M) (hp2 : p < 4294967296) (hs : SmallM M) (hp : MR.Pr p) (hr : RectM M) (h0 : M.length ≠ 0) (hq : M.length = colsM M) (hns : ¬ (redTo p (augM p M) (colsM M)).2.length < colsM M) :
  Calls Tryd.prog 13 #[.slice pm nm cm, .int .u32 ((p : Nat) : Int)] w (Ret (MmE ((redTo p (augM p M) (colsM M)).1.map (·.drop (colsM M))) 0) w) := by
 have hcb := hs.cols
 have hnb := hs.1
 have hp1 := hp.1
 have hp0 : 0 < p := by omega
 have hshM := hr.shp hp0
 have hS := Sep.init w
 refine went Tryd.func13 rfl (n := 62) rfl rfl ?_
 refine wseq (wreg (wl rfl (oassign (v := .slice none 0 0) rfl rfl evc ?_)))
 refine wl rfl (oassign (v := .int .i64 0) rfl rfl evc ?_)
 refine wnil (thenN (wseq (wreg (wl rfl (omove (v := .int .u32 (p : Int)) rfl rfl (ev rfl rfl) ?_)))))
 refine wl rfl (omove (v := .slice pm nm cm) rfl rfl (ev rfl rfl) ?_)
 refine wl rfl (ocall rfl rfl Tryd.call38 rfl (wxsquare (ht.at hS) (hm.at hS) hp2 hs hp hr h0 hq) (args2 (ev rfl rfl) (ev rfl rfl)) ?_)
 rintro _ w1 ⟨_, _, rfl, ⟨pX, cX, QX, hQX, rfl, rfl⟩, hN⟩
 refine ⟨_, rfl, ?_⟩
 replace hS := hS.news hN; clear hN
 refine wl rfl (omove (v := .tuple #[.agg #[.int .u64 (p : Int), .slice pX M.length cX, .int .i64 (((colsM M : Nat) : Int))], .int .i64 0]) rfl rfl (ev rfl rfl) ?_)
 refine wl rfl (oextract (vs := [.agg #[.int .u64 (p : Int), .slice pX M.length cX, .int .i64 (((colsM M : Nat) : Int))], .int .i64 0]) (v := .agg #[.int .u64 (p : Int), .slice pX M.length cX, .int .i64 (((colsM M : Nat) : Int))]) rfl rfl (ev rfl rfl) rfl ?_)
 refine wl rfl (oextract (vs := [.agg #[.int .u64 (p : Int), .slice pX M.length cX, .int .i64 (((colsM M : Nat) : Int))], .int .i64 0]) (v := .int .i64 0) rfl rfl (ev rfl rfl) rfl ?_)
 refine wl rfl (oalloc [.int .u64 0, .slice none 0 0, .int .i64 0] hS rfl rfl Tryd.zeroValue63 rfl ?_)
 clear hS; intro g2 w3 hS
 refine wl rfl (ostore [.int .u64 (p : Int), .slice pX M.length cX, .int .i64 (((colsM M : Nat) : Int))] [.int .u64 (p : Int), .slice pX M.length cX, .int .i64 (((colsM M : Nat) : Int))] Tryd.sizeOf63 hS 0 rfl rfl (ev rfl rfl) (ev (v := .agg #[.int .u64 (p : Int), .slice pX M.length cX, .int .i64 (((colsM M : Nat) : Int))]) rfl rfl) rfl rfl rfl rfl rfl rfl ?_)
 clear hS; intro w4 hS
 refine wl rfl (oassign (v := .int .i64 0) rfl rfl (ev rfl rfl) ?_)
 refine wnil (thenN (wseq (wseq (wreg (wl rfl (omove (v := .int .i64 0) rfl rfl (ev rfl rfl) ?_))))))
 refine wl rfl (obin (u := .int .i64 0) (v := .int .i64 0) (z := .bool false) rfl rfl (ev rfl rfl) evc (bin_neq (by decide)) ?_)
 refine wnil (thenN ?_)
 refine wF (ev rfl rfl) ?_
 refine wskip (thenN (wseq (wreg (wl rfl (ofieldAddr (g := g2) (off := 0) 0 rfl rfl (ev rfl rfl) Tryd.runUnderlying63 rfl Tryd.sizeOf47 rfl ?_)))))
 refine wl rfl (oload1 (v := .int .u64 (p : Int)) (show One Tryd.prog 47 from ⟨Tryd.isAgg47, Tryd.sizeOf47⟩) hS 0 rfl rfl (ev rfl rfl) rfl rfl ?_)
 refine wl rfl (ofieldAddr (g := g2) (off := 0) 2 rfl rfl (ev rfl rfl) Tryd.runUnderlying63 rfl Tryd.sizeOf3 rfl ?_)
 refine wl rfl (oload1 (v := .int .i64 (((colsM M : Nat) : Int))) oneI hS 0 rfl rfl (ev rfl rfl) rfl rfl ?_)
 refine wl rfl (ocall rfl rfl Tryd.call39 rfl (wxone (by omega)) (args2 (ev rfl rfl) (ev rfl rfl)) ?_)
 rintro _ w5 ⟨_, _, rfl, ⟨pI, cI, QI, hQI, rfl, rfl⟩, hN⟩
 refine ⟨_, rfl, ?_⟩
 replace hS := hS.news hN; clear hN
 refine wl rfl (oalloc [.int .u64 0, .slice none 0 0, .int .i64 0] hS rfl rfl Tryd.zeroValue63 rfl ?_)
 clear hS; intro g6 w7 hS
 refine wl rfl (ostore [.int .u64 (p : Int), .slice pI (colsM M) cI, .int .i64 (((colsM M : Nat) : Int))] [.int .u64 (p : Int), .slice pI (colsM M) cI, .int .i64 (((colsM M : Nat) : Int))] Tryd.sizeOf63 hS 0 rfl rfl (ev rfl rfl) (ev (v := .agg #[.int .u64 (p : Int), .slice pI (colsM M) cI, .int .i64 (((colsM M : Nat) : Int))]) rfl rfl) rfl rfl rfl rfl rfl rfl ?_)
 clear hS; intro w8 hS
 refine wnil (thenN (wseq (wreg (wl rfl (oload (vs := [.int .u64 (p : Int), .slice pX M.length cX, .int .i64 (((colsM M : Nat) : Int))]) (show Agg Tryd.prog 63 3 from ⟨Tryd.isAgg63, Tryd.sizeOf63⟩) hS 2 rfl rfl (ev rfl rfl) rfl rfl rfl ?_)))))
 refine wl rfl (omakeFunc (cs := #[.pointer (some ⟨g6, 0, none⟩)]) rfl rfl (args1 (ev rfl rfl)) ?_)
 skip
 obtain hS := (show Sep w [.lst 52 1 pX M.length cX (mmE QX), .lst 52 1 pI (colsM M) cI (mmE QI), .blk g6 [.int .u64 (((p : Nat) : Int)), .slice pI (colsM M) cI, .int .i64 (((colsM M : Nat) : Int))] 63, .blk g2 [.int .u64 (((p : Nat) : Int)), .slice pX M.length cX, .int .i64 (((colsM M : Nat) : Int))] 63] w8 from hS.pick [3, 1, 0, 2] (by decide) rfl)
 refine wl rfl (ocall rfl rfl Tryd.call40 rfl (wxbeside hS (by rw [hQX]; exact hshM) (by rw [hQI]; exact idM_shp (by omega)) (hq) (by omega) (by omega) (by omega) (by omega) (by omega)) (args2 (ev rfl rfl) (ev rfl rfl)) ?_)
 rintro _ w9 ⟨_, _, rfl, ⟨QB, hQB, rfl, rfl⟩, hN⟩
 refine ⟨_, rfl, ?_⟩
 clear hS; have hS := hN; clear hN
 refine wl rfl (ostore [.int .u64 (p : Int), .slice pX M.length cX, .int .i64 (((colsM M : Nat) : Int))] [.int .u64 (p : Int), .slice pX M.length cX, .int .i64 (((colsM M : Nat) : Int))] Tryd.sizeOf63 hS 3 rfl rfl (ev rfl rfl) (ev (v := .agg #[.int .u64 (p : Int), .slice pX M.length cX, .int .i64 (((colsM M : Nat) : Int))]) rfl rfl) rfl rfl rfl rfl rfl rfl ?_)
 clear hS; intro w10 hS
 refine wnil (thenN (wseq (wseq (wreg (wl rfl (oload (vs := [.int .u64 (p : Int), .slice pX M.length cX, .int .i64 (((colsM M : Nat) : Int))]) (show Agg Tryd.prog 63 3 from ⟨Tryd.isAgg63, Tryd.sizeOf63⟩) hS 3 rfl rfl (ev rfl rfl) rfl rfl rfl ?_))))))
 refine wl rfl (ofieldAddr (g := g2) (off := 0) 2 rfl rfl (ev rfl rfl) Tryd.runUnderlying63 rfl Tryd.sizeOf3 rfl ?_)
 refine wl rfl (oload1 (v := .int .i64 (((colsM M : Nat) : Int))) oneI hS 3 rfl rfl (ev rfl rfl) rfl rfl ?_)
 refine wl rfl (ocall rfl rfl Tryd.call42 rfl (wxreduce ht hp hp2 hS (by rw [hQB, hQX, hQI]; exact augM_shp (by omega) hr hq) (by omega) (by omega) (by omega)) (args2 (ev rfl rfl) (ev rfl rfl)) ?_)
 rintro _ w11 ⟨_, _, rfl, ⟨pP, cP, PP, DP, QR, hRR, hDP, rfl, rfl⟩, hN⟩
 refine ⟨_, rfl, ?_⟩
 clear hS; have hS := hN; clear hN
 refine wl rfl (omove (v := .tuple #[.slice pP PP.length cP, .int .u32 (DP : Int)]) rfl rfl (ev rfl rfl) ?_)
 refine wl rfl (oextract (vs := [.slice pP PP.length cP, .int .u32 (DP : Int)]) (v := .slice pP PP.length cP) rfl rfl (ev rfl rfl) rfl ?_)
 refine wl rfl (oextract (vs := [.slice pP PP.length cP, .int .u32 (DP : Int)]) (v := .int .u32 (DP : Int)) rfl rfl (ev rfl rfl) rfl ?_)
 refine wl rfl (oassign (v := .slice pP PP.length cP) rfl rfl (ev rfl rfl) ?_)
 refine wl rfl (oassign (v := .int .u32 (DP : Int)) rfl rfl (ev rfl rfl) ?_)
 refine wnil (thenN (wseq (wreg (wl rfl (omove (v := .slice pP PP.length cP) rfl rfl (ev rfl rfl) ?_)))))
 refine wl rfl (olen rfl rfl rfl Tryd.runUnderlying35 (p := pP) (k := PP.length) (m := cP) (ev rfl rfl) ?_)
 refine wl rfl (ofieldAddr (g := g2) (off := 0) 2 rfl rfl (ev rfl rfl) Tryd.runUnderlying63 rfl Tryd.sizeOf3 rfl ?_)
 refine wl rfl (oload1 (v := .int .i64 (((colsM M : Nat) : Int))) oneI hS 4 rfl rfl (ev rfl rfl) rfl rfl ?_)
 have hAug : nums QB = augM p M := by rw [hQB, hQX, hQI]; rfl
 rw [hAug] at hRR
 obtain ⟨j1, j2, _⟩ := redTo_inv (augM_shp (p := p) (by omega) hr hq) hp0 (colsM M)
 rw [hRR] at j1 j2 hns ⊢
 simp only at j1 j2 hns ⊢
 rw [augM_len] at j1
 refine wl rfl (obin (u := .int .i64 (PP.length : Int)) (v := .int .i64 (((colsM M : Nat) : Int))) (z := .bool false) rfl rfl (ev rfl rfl) (ev rfl rfl) (bin_lss (decide_eq_false (by omega))) ?_)
 refine wnil (thenN ?_)
 refine wF (ev rfl rfl) ?_
 refine wskip (thenN (wseq (wseq (wreg (wl rfl (ofieldAddr (g := g2) (off := 0) 1 rfl rfl (ev rfl rfl) Tryd.runUnderlying63 rfl Tryd.sizeOf25 rfl ?_))))))
 refine wl rfl (oload1 (v := .slice pX M.length cX) (show One Tryd.prog 25 from ⟨Tryd.isAgg25, Tryd.sizeOf25⟩) hS 4 rfl rfl (ev rfl rfl) rfl rfl ?_)
 refine wl rfl (olen rfl rfl rfl Tryd.runUnderlying25 (p := pX) (k := M.length) (m := cX) (ev rfl rfl) ?_)
 refine wl rfl (omove (v := .int .i64 0) rfl rfl evc ?_)
 refine wnil (thenN (wblock ?_))
 refine wloop (σ := Nat) (fun i a9 w' => ∃ (fb : Nat → Value) (Qi : List Rw), a9 = act 62 (sets fb [(4, .slice none 0 0), (5, .int .i64 0), (6, .pointer (some ⟨g2, 0, none⟩)), (43, .slice pX M.length cX), (44, .int .i64 (M.length : Int)), (45, .int .i64 (i : Int))]) ∧ Sep w [.lst 3 1 pP PP.length cP (intE PP), .lst 52 1 pX M.length cX (mmE Qi), .lst 52 1 pI (colsM M) cI (mmE QI), .blk g6 [.int .u64 (p : Int), .slice pI (colsM M) cI, .int .i64 (((colsM M : Nat) : Int))] 63, .blk g2 [.int .u64 (p : Int), .slice pX M.length cX, .int .i64 (((colsM M : Nat) : Int))] 63] w' ∧ (i ≤ M.length) ∧ (nums Qi = dropTo (colsM M) (nums QR) i)) (fun i => M.length - i) (0) ⟨_, QR, act_sets (l := [(4, .slice none 0 0), (5, .int .i64 0), (6, .pointer (some ⟨g2, 0, none⟩)), (43, .slice pX M.length cX), (44, .int .i64 (M.length : Int)), (45, .int .i64 0)]) ⟨rfl, rfl, rfl, rfl, rfl, rfl, trivial⟩, hS, Nat.zero_le _, rfl⟩ ?_
 clear hS; rintro i _ w12 ⟨fb, Qi, rfl, hS, hi, hQi⟩
 refine wseq (wreg ?_)
 by_cases hlt : i < M.length
 ·
  have hQin : Qi.length = M.length := by rw [nums_lenE hQi, dropTo_len]; exact j1
  refine wl rfl (obin (u := .int .i64 (i : Int)) (v := .int .i64 (M.length : Int)) (z := .bool true) rfl rfl (ev rfl rfl) (ev rfl rfl) (bin_lss (decide_eq_true (by omega))) ?_)
  refine wnil (thenN (wseq ?_))
  refine wT (ev rfl rfl) ?_
  refine wskip (thenN (wseq (wblock (wseq (wreg (wl rfl (omove (v := .int .i64 (i : Int)) rfl rfl (ev rfl rfl) ?_)))))))
  obtain ⟨gR, hgR⟩ := hS.lstPtr 1 rfl (by omega)
  obtain ⟨⟨pa, ca, xa⟩, hqa⟩ : ∃ q, (Qi)[i]? = some q := ⟨_, List.getElem?_eq_getElem (by omega)⟩
  have hda : (nums (Qi)).getD i [] = xa := getD_get (nums_get hqa)
  have hna : xa.length = colsM M + colsM M := by rw [← hda, hQi, dropTo_from (Nat.le_refl _)]; exact (j2.at (by omega)).1
  obtain ⟨ga, hga⟩ := hS.mPtr 1 rfl hqa (by show 0 < xa.length; omega)
  refine wl rfl (oindex (p := pX) (g := gR) (off := 0) (m := M.length) (k := i) (j := (0 + i * 1)) rfl rfl Tryd.runUnderlying25 Tryd.sizeOf52 (ev rfl rfl) (hgR) (ev rfl rfl) (by omega) rfl ?_)
  refine wl rfl (oloadc (v := .slice pa ((colsM M + colsM M)) ca) (show One Tryd.prog 52 from ⟨Tryd.isAgg52, Tryd.sizeOf52⟩) rfl rfl (ev (v := .pointer (some ⟨gR, (0 + i * 1), none⟩)) rfl rfl) (hS.mRow 1 rfl hqa hna hgR) ?_)
  refine wl rfl (oassign (v := .int .i64 (i : Int)) rfl rfl (ev rfl rfl) ?_)
  refine wl rfl (oassign (v := .slice pa ((colsM M + colsM M)) ca) rfl rfl (ev rfl rfl) ?_)
  refine wnil (thenN ?_)
  refine wstage 9 [50, 51, 52, 53, 54, 55, 56, 57, 58] [[], [0], [], [], [], [4], [3, 5, 4], [6, 3, 4, 5], [1, 2, 0, 3, 4, 5, 6, 7]] [[], [], [], [], [], [], [], [], []] [] [] (fun i9 => ([fun _ => Is (.pointer (some ⟨g2, 1, none⟩)), fun _ => Is (.slice pX M.length cX), fun _ => Is (.int .i64 (i : Int)), fun _ => Is (.slice pa ((colsM M + colsM M)) ca), fun _ => Is (.pointer (some ⟨g2, 2, none⟩)), fun _ => Is (.int .i64 (((colsM M : Nat) : Int))), fun _ => Is (.slice (some ⟨ga, 0 + (colsM M) * 1, none⟩) (((colsM M + colsM M) - colsM M)) ((ca - colsM M))), fun _ => Nw (xa.drop (colsM M)), fun _ => Is (.pointer (some ⟨gR, (0 + i * 1), none⟩))] : List (List Value → Tell)).getD i9 (fun _ _ _ => False)) (heldNil) (fun d _ _ _ _ h => (by cases d <;> exact h)) (by kernel_rfl) (by kernel_rfl) (by kernel_rfl) hS ?_ ?_
  ·
   refine stepsCons rfl (fun Q f' w' ρ S ho hT hS hB => ?_) ?_
   ·exact .inl ⟨want_none rfl, ofieldAddr (g := g2) (off := 0) 1 rfl rfl (ev rfl (ho 6 rfl)) Tryd.runUnderlying63 rfl Tryd.sizeOf25 rfl ⟨_, _, rfl, isI, New.same _⟩⟩
   refine stepsCons rfl (fun Q f' w' ρ S ho hT hS hB => ?_) ?_
   ·obtain ⟨hv0, hr0⟩ := (hT 0 50 rfl rfl : (Is (.pointer (some ⟨g2, 1, none⟩))) _ _)
    obtain hS := hS.flat1 hr0
    exact .inl ⟨want_none rfl, oload1 (v := .slice pX M.length cX) (show One Tryd.prog 25 from ⟨Tryd.isAgg25, Tryd.sizeOf25⟩) hS 4 rfl rfl (ev rfl hv0) rfl rfl ⟨_, _, rfl, isI, New.same _⟩⟩
   refine stepsCons rfl (fun Q f' w' ρ S ho hT hS hB => ?_) ?_
   ·exact .inl ⟨want_none rfl, omove (v := .int .i64 (i : Int)) rfl rfl (ev rfl (ho 11 rfl)) ⟨_, _, rfl, isI, New.same _⟩⟩
   refine stepsCons rfl (fun Q f' w' ρ S ho hT hS hB => ?_) ?_
   ·exact .inl ⟨want_none rfl, omove (v := .slice pa ((colsM M + colsM M)) ca) rfl rfl (ev rfl (ho 12 rfl)) ⟨_, _, rfl, isI, New.same _⟩⟩
   refine stepsCons rfl (fun Q f' w' ρ S ho hT hS hB => ?_) ?_
   ·exact .inl ⟨want_none rfl, ofieldAddr (g := g2) (off := 0) 2 rfl rfl (ev rfl (ho 6 rfl)) Tryd.runUnderlying63 rfl Tryd.sizeOf3 rfl ⟨_, _, rfl, isI, New.same _⟩⟩
   refine stepsCons rfl (fun Q f' w' ρ S ho hT hS hB => ?_) ?_
   ·obtain ⟨hv4, hr4⟩ := (hT 4 54 rfl rfl : (Is (.pointer (some ⟨g2, 2, none⟩))) _ _)
    obtain hS := hS.flat1 hr4
    exact .inl ⟨want_none rfl, oload1 (v := .int .i64 (((colsM M : Nat) : Int))) oneI hS 4 rfl rfl (ev rfl hv4) rfl rfl ⟨_, _, rfl, isI, New.same _⟩⟩
   refine stepsCons rfl (fun Q f' w' ρ S ho hT hS hB => ?_) ?_
   ·obtain ⟨hv3, hr3⟩ := (hT 3 53 rfl rfl : (Is (.slice pa ((colsM M + colsM M)) ca)) _ _)
    obtain ⟨hv5, hr5⟩ := (hT 5 55 rfl rfl : (Is (.int .i64 (((colsM M : Nat) : Int)))) _ _)
    obtain hS := hS.flat2 hr3 hr5
    exact .inl ⟨want_none rfl, osliceL (g := ga) (off := 0) (l := (colsM M)) (m := ((colsM M + colsM M))) (c := ca) rfl rfl Tryd.underlying52 Tryd.sizeOf27 (ev (v := .slice pa ((colsM M + colsM M)) ca) rfl hv3) hga (ev (v := .int .i64 (((colsM M : Nat) : Int))) rfl hv5) (by omega) (by have h9 := (hS.mFr 1 rfl hqa).sl.le; have := hna; omega) ⟨_, _, rfl, isI, New.same _⟩⟩
   refine stepsCons rfl (fun Q f' w' ρ S ho hT hS hB => ?_) ?_
   ·obtain ⟨hv6, hr6⟩ := (hT 6 56 rfl rfl : (Is (.slice (some ⟨ga, 0 + (colsM M) * 1, none⟩) (((colsM M + colsM M) - colsM M)) ((ca - colsM M)))) _ _)
    obtain hS := hS.flat1 hr6
    exact .inl ⟨want_none rfl, ocall rfl rfl Tryd.call43 rfl (wxclone (Sl.dropR (hS.mFr 1 rfl hqa).sl hga hna (by omega)) (by omega)) (args1 (ev rfl hv6)) callN⟩
   refine stepsCons rfl (fun Q f' w' ρ S ho hT hS hB => ?_) ?_
   ·obtain ⟨hv1, hr1⟩ := (hT 1 51 rfl rfl : (Is (.slice pX M.length cX)) _ _)
    obtain ⟨hv2, hr2⟩ := (hT 2 52 rfl rfl : (Is (.int .i64 (((i : Nat) : Int)))) _ _)
    obtain hS := hS.flat2 hr1 hr2
    exact .inl ⟨want_none rfl, oindex (p := pX) (g := gR) (off := 0) (m := M.length) (k := i) (j := (0 + i * 1)) rfl rfl Tryd.runUnderlying25 Tryd.sizeOf52 (ev rfl hv1) (hgR) (ev rfl hv2) (by omega) rfl ⟨_, _, rfl, isI, New.same _⟩⟩
   exact stepsNil
  ·
   intro vs ρ w13 f' hf hT hS
   obtain ⟨hv0, hr0⟩ := (hT 0 (by decide) : (Is (.pointer (some ⟨g2, 1, none⟩))) _ _)
   obtain ⟨hv1, hr1⟩ := (hT 1 (by decide) : (Is (.slice pX M.length cX)) _ _)
   obtain ⟨hv2, hr2⟩ := (hT 2 (by decide) : (Is (.int .i64 (((i : Nat) : Int)))) _ _)
   obtain ⟨hv3, hr3⟩ := (hT 3 (by decide) : (Is (.slice pa ((colsM M + colsM M)) ca)) _ _)
   obtain ⟨hv4, hr4⟩ := (hT 4 (by decide) : (Is (.pointer (some ⟨g2, 2, none⟩))) _ _)
   obtain ⟨hv5, hr5⟩ := (hT 5 (by decide) : (Is (.int .i64 (((colsM M : Nat) : Int)))) _ _)
   obtain ⟨hv6, hr6⟩ := (hT 6 (by decide) : (Is (.slice (some ⟨ga, 0 + (colsM M) * 1, none⟩) (((colsM M + colsM M) - colsM M)) ((ca - colsM M)))) _ _)
   obtain ⟨pK, nK, cK, hv7, hr7⟩ := (hT 7 (by decide) : (Nw (xa.drop (colsM M))) _ _)
   obtain ⟨hv8, hr8⟩ := (hT 8 (by decide) : (Is (.pointer (some ⟨gR, (0 + i * 1), none⟩))) _ _)
   simp only [pool, if_true, hr0, hr1, hr2, hr3, hr4, hr5, hr6, hr7, hr8, List.nil_append, List.cons_append, List.append_nil] at hS
   simp only [layf, hv0, hv1, hv2, hv3, hv4, hv5, hv6, hv7, hv8] at hf
   subst hf; clear hT hv0 hv1 hv2 hv3 hv4 hv5 hv6 hv7 hv8 hr0 hr1 hr2 hr3 hr4 hr5 hr6 hr7 hr8
   have hKl := (hS.slm 0 rfl).len
   obtain hS := (show Sep w [.rowm pK nK cK (xa.drop (colsM M)), .lst 52 1 pX M.length cX (mmE Qi), .lst 3 1 pP PP.length cP (intE PP), .lst 52 1 pI (colsM M) cI (mmE QI), .blk g6 [.int .u64 (((p : Nat) : Int)), .slice pI (colsM M) cI, .int .i64 (((colsM M : Nat) : Int))] 63, .blk g2 [.int .u64 (((p : Nat) : Int)), .slice pX M.length cX, .int .i64 (((colsM M : Nat) : Int))] 63] w13 from hS.pick [0, 2, 1, 3, 4, 5] (by decide) rfl)
   refine wlate 9 rfl (by kernel_rfl) (ostoreL (i := i) (g := gR) [.slice pK nK cK] [.rowm pK nK cK (xa.drop (colsM M))] Tryd.sizeOf52 hS rfl rfl (ev (v := .pointer (some ⟨gR, (0 + i * 1), none⟩)) rfl rfl) (ev (v := .slice pK nK cK) rfl rfl) (rfl) rfl rfl rfl hgR (by omega) rfl ?_)
   clear hS; intro w14 hS
   refine ⟨heldNil, ?_⟩
   refine wdone rfl ?_
   refine blkN (thenN (wreg ?_))
   rw [setQ hKl] at hS
   refine wl rfl (obin (u := .int .i64 (i : Int)) (v := .int .i64 1) (z := .int .i64 (((i + 1 : Nat) : Int))) rfl rfl (ev rfl rfl) evc (bin_add (wrap_i64 (by omega) (by omega))) ?_)
   refine wl rfl (omove (v := .int .i64 (((i + 1 : Nat) : Int))) rfl rfl (ev rfl rfl) ?_)
   refine wnil (thenN ?_)
   exact ⟨(i + 1), ⟨_, _, act_sets (l := [(4, .slice none 0 0), (5, .int .i64 0), (6, .pointer (some ⟨g2, 0, none⟩)), (43, .slice pX M.length cX), (44, .int .i64 (M.length : Int)), (45, .int .i64 (((i + 1 : Nat) : Int)))]) ⟨rfl, rfl, rfl, rfl, rfl, rfl, trivial⟩, hS.pick [1, 0, 2, 3, 4] (by decide) rfl, by omega, by rw [nums_set, dropTo, ← hQi, hda]⟩, by omega⟩
 ·
  refine wl rfl (obin (u := .int .i64 (i : Int)) (v := .int .i64 (M.length : Int)) (z := .bool false) rfl rfl (ev rfl rfl) (ev rfl rfl) (bin_lss (decide_eq_false (by omega))) ?_)
  refine wnil (thenN (wseq ?_))
  refine wF (ev rfl rfl) ?_
  refine wexit ?_
  refine thenE ?_
  refine thenE ?_
  refine blkE ?_
  refine thenN (wseq (wreg (wl rfl (ofieldAddr (g := g2) (off := 0) 1 rfl rfl (ev rfl rfl) Tryd.runUnderlying63 rfl Tryd.sizeOf25 rfl ?_))))
  refine wl rfl (oload1 (v := .slice pX M.length cX) (show One Tryd.prog 25 from ⟨Tryd.isAgg25, Tryd.sizeOf25⟩) hS 4 rfl rfl (ev rfl rfl) rfl rfl ?_)
  refine wl rfl (oassign (v := .slice pX M.length cX) rfl rfl (ev rfl rfl) ?_)
  refine wl rfl (oassign (v := .int .i64 0) rfl rfl evc ?_)
  refine wnil (thenN ?_)
  refine wleave ?_
  refine wret2 Tryd.results13 (tellT (v := .slice pX M.length cX) rfl rfl) (tellT (v := .int .i64 0) rfl rfl) ?_
  have hin : i = M.length := by omega
  exact ⟨_, _, rfl, ⟨pX, cX, Qi, by rw [hQi, hin, ← j1, dropTo_all], by rw [List.length_map, j1], by rw [List.length_map, j1]⟩, hS.newR 1 rfl rfl⟩
end Go.Proofs.YtndilfigdbenoaaDoor
/-
  The document's Same; what every law of modmat runs last.
-/
namespace Go.Proofs.YtndilfigdbenoaaDoor
open Go.RowKit
theorem fill1_2s {u a b : Value} (hu : u.cells = #[u]) (ha : a.cells = #[a]) (hb : b.cells = #[b]) : Instr.fill (fun i => some (i * 1, 1)) ((Array.range (2 * 1)).map (u.cells[· % u.cells.size]!)) #[(0, a), (1, b)].toList = some [a, b].toArray := by
 rw [hu]
 simp [Instr.fill, ha, hb, Array.range]
 apply Array.ext
 ·simp
 ·intro i h1 h2
  have h3 : i = 0 ∨ i = 1 := by simp at h2; omega
  rcases h3 with rfl | rfl <;> simp
theorem Sl.blk2 {w : World} {g a b : Nat} {t : TypeId} (h : w.heap[g]? = some (.cells [.int .u32 ((a : Nat) : Int), .int .u32 ((b : Nat) : Int)].toArray t)) (ha : a < 4294967296) (hb : b < 4294967296) : Sl w (some ⟨g, 0, none⟩) 2 2 [a, b] := by
  refine ⟨rfl, Nat.le_refl _, by simp [maxLen], lims_pair ha hb, (fun h => by cases h), fun i hi => ⟨g, 0, rfl, ?_⟩⟩
  rw [Nat.zero_add]
  match i, hi with
  | 0, _ => exact (blk_cell h 0).trans rfl
  | 1, _ => exact (blk_cell h 1).trans rfl
theorem MS.lit2 {w : World} {g g1 g2 a b c d : Nat} {t t1 t2 : TypeId} (h : w.heap[g]? = some (.cells [.slice (some ⟨g1, 0, none⟩) 2 2, .slice (some ⟨g2, 0, none⟩) 2 2].toArray t)) (h1 : w.heap[g1]? = some (.cells [.int .u32 ((a : Nat) : Int), .int .u32 ((b : Nat) : Int)].toArray t1)) (h2 : w.heap[g2]? = some (.cells [.int .u32 ((c : Nat) : Int), .int .u32 ((d : Nat) : Int)].toArray t2))
  (ha : a < 4294967296) (hb : b < 4294967296) (hc : c < 4294967296) (hd : d < 4294967296) : MS w (some ⟨g, 0, none⟩) 2 [[a, b], [c, d]] := by
 refine ⟨rfl, by simp [maxLen], fun i row hr => ?_⟩
 have hi : i < 2 := (List.getElem?_eq_some_iff.1 hr).1
 match i, hi with
 | 0, _ =>
  simp at hr; subst hr
  refine ⟨g, 0, some ⟨g1, 0, none⟩, 2, rfl, fun j v hj => ?_, Sl.blk2 h1 ha hb⟩
  have h1 : j = 0 := by have := (List.getElem?_eq_some_iff.1 hj).1; simp at this; omega
  subst h1
  exact (blk_cell h 0).trans hj
 | 1, _ =>
  simp at hr; subst hr
  refine ⟨g, 0, some ⟨g2, 0, none⟩, 2, rfl, fun j v hj => ?_, Sl.blk2 h2 hc hd⟩
  have h1 : j = 0 := by have := (List.getElem?_eq_some_iff.1 hj).1; simp at this; omega
  subst h1
  exact (blk_cell h 1).trans hj
theorem pr7 : MR.Pr 7 := ⟨by decide, fun d hd => by
  have h1 := Nat.le_of_dvd (by decide) hd
  have : d ≠ 0 := fun e => by subst e; exact absurd hd (by decide)
  have : d ≠ 2 := fun e => by subst e; exact absurd hd (by decide)
  have : d ≠ 3 := fun e => by subst e; exact absurd hd (by decide)
  have : d ≠ 4 := fun e => by subst e; exact absurd hd (by decide)
  have : d ≠ 5 := fun e => by subst e; exact absurd hd (by decide)
  have : d ≠ 6 := fun e => by subst e; exact absurd hd (by decide)
  omega⟩
theorem pr5' : MR.Pr 5 := ⟨by decide, fun d hd => by
  have h1 := Nat.le_of_dvd (by decide) hd
  have : d ≠ 0 := fun e => by subst e; exact absurd hd (by decide)
  have : d ≠ 2 := fun e => by subst e; exact absurd hd (by decide)
  have : d ≠ 3 := fun e => by subst e; exact absurd hd (by decide)
  have : d ≠ 4 := fun e => by subst e; exact absurd hd (by decide)
  omega⟩
theorem small2 {a b c d : Nat} : SmallM [[a, b], [c, d]] := ⟨by simp, fun r hr => by simp at hr; rcases hr with rfl | rfl <;> simp⟩
theorem rect2 {a b c d : Nat} : RectM [[a, b], [c, d]] := fun r hr => by simp at hr; rcases hr with rfl | rfl <;> rfl
theorem wxinv_aw {p : Option Addr} {c : Nat} {w : World} (ht : Tb w) (hm : MS w p 2 [[1, 1], [0, 1]]) : Calls Tryd.prog 13 #[.slice p 2 c, .int .u32 7] w (Ret (MmE [[1, 6], [0, 1]] 0) w) := by
  have h := wxinverse (cm := c) (p := 7) ht hm (by decide) small2 pr7 rect2 (by decide) (by decide) (by decide)
  rwa [show (redTo 7 (augM 7 [[1, 1], [0, 1]]) (colsM [[1, 1], [0, 1]])).1.map (·.drop (colsM [[1, 1], [0, 1]])) = [[1, 6], [0, 1]] by decide] at h
theorem wxdet_aw {p : Option Addr} {c : Nat} {w : World} (ht : Tb w) (hm : MS w p 2 [[1, 2], [3, 4]]) : Calls Tryd.prog 22 #[.slice p 2 c, .int .u32 5] w (Ret (Is (.tuple #[.int .u32 3, .int .i64 0])) w) := by
  have h := wxdet (cm := c) (p := 5) ht hm (by decide) small2 pr5' rect2 (by decide) (by decide)
  rwa [show detTo 5 (modM 5 [[1, 2], [3, 4]]) (colsM [[1, 2], [3, 4]]) = 3 by decide] at h
theorem wxsame {pa pb : Option Addr} {na ca nb cb : Nat} {M : List (List Nat)} {w : World} (hA : MS w pa na M) (hB : MS w pb nb M) (hs : SmallM M) :
  Calls Tryd.prog 46 #[.slice pa na ca, .slice pb nb cb] w (Ret (Is (.bool true)) w) := by
 have hna := hA.1
 have hnb := hB.1
 have hsl := hs.1
 have hS := Sep.init w
 refine went Tryd.func46 rfl (n := 53) rfl rfl ?_
 refine wseq (wreg (wl rfl (oassign (v := .bool false) rfl rfl evc ?_)))
 refine wnil (thenN (wseq (wseq (wreg (wl rfl (omove (v := .slice pa na ca) rfl rfl (ev rfl rfl) ?_))))))
 refine wl rfl (olen rfl rfl rfl Tryd.runUnderlying26 (p := pa) (k := na) (m := ca) (ev rfl rfl) ?_)
 refine wl rfl (omove (v := .slice pb nb cb) rfl rfl (ev rfl rfl) ?_)
 refine wl rfl (olen rfl rfl rfl Tryd.runUnderlying26 (p := pb) (k := nb) (m := cb) (ev rfl rfl) ?_)
 refine wl rfl (obin (u := .int .i64 (na : Int)) (v := .int .i64 (nb : Int)) (z := .bool false) rfl rfl (ev rfl rfl) (ev rfl rfl) (bin_neq (neF (by omega))) ?_)
 refine wnil (thenN ?_)
 refine wF (ev rfl rfl) ?_
 refine wskip (thenN (wseq (wseq (wreg (wl rfl (omove (v := .slice pa na ca) rfl rfl (ev rfl rfl) ?_))))))
 refine wl rfl (olen rfl rfl rfl Tryd.runUnderlying26 (p := pa) (k := na) (m := ca) (ev rfl rfl) ?_)
 refine wl rfl (omove (v := .int .i64 0) rfl rfl evc ?_)
 refine wnil (thenN (wblock ?_))
 refine wloop (σ := Nat) (fun i a9 w' => ∃ (fb : Nat → Value), a9 = act 53 (sets fb [(0, .slice pa na ca), (1, .slice pb nb cb), (13, .int .i64 (na : Int)), (14, .int .i64 (i : Int))]) ∧ Sep w [] w' ∧ (i ≤ na)) (fun i => na - i) (0) ⟨_, act_sets (l := [(0, .slice pa na ca), (1, .slice pb nb cb), (13, .int .i64 (na : Int)), (14, .int .i64 0)]) ⟨rfl, rfl, rfl, rfl, trivial⟩, hS, Nat.zero_le _⟩ ?_
 clear hS; rintro i _ w1 ⟨fb, rfl, hS, hi⟩
 refine wseq (wreg ?_)
 by_cases hlt : i < na
 ·
  refine wl rfl (obin (u := .int .i64 (i : Int)) (v := .int .i64 (na : Int)) (z := .bool true) rfl rfl (ev rfl rfl) (ev rfl rfl) (bin_lss (decide_eq_true (by omega))) ?_)
  refine wnil (thenN (wseq ?_))
  refine wT (ev rfl rfl) ?_
  refine wskip (thenN (wseq (wblock (wseq (wreg (wl rfl (omove (v := .int .i64 (i : Int)) rfl rfl (ev rfl rfl) ?_)))))))
  refine wl rfl (oassign (v := .int .i64 (i : Int)) rfl rfl (ev rfl rfl) ?_)
  refine wnil (thenN (wseq (wseq ?_)))
  obtain ⟨x, hx⟩ : ∃ r, M[i]? = some r := ⟨_, List.getElem?_eq_getElem (by omega)⟩
  have hxb := hs.2 x (List.mem_of_getElem? hx)
  obtain ⟨ba, ofa, pra, cra, hpa, hca, hsa⟩ := hA.2.2 i _ hx
  obtain ⟨bb, ofb, prb, crb, hpb, hcb, hsb⟩ := hB.2.2 i _ hx
  refine wstage 11 [17, 18, 19, 20, 21, 22, 23, 24, 25, 26, 27] [[], [], [0, 1], [2, 0, 1], [3, 0, 1, 2], [], [], [5, 6], [7, 5, 6], [8, 5, 6, 7], [4, 9, 0, 1, 2, 3, 5, 6, 7, 8]] [[], [], [], [], [], [], [], [], [], [], []] [] [] (fun i9 => ([fun _ => Is (.slice pa na ca), fun _ => Is (.int .i64 (i : Int)), fun _ => Is (.pointer (some ⟨ba, (ofa + i * 1), none⟩)), fun _ => Is (.slice pra x.length cra), fun _ => Is (.int .i64 (x.length : Int)), fun _ => Is (.slice pb nb cb), fun _ => Is (.int .i64 (i : Int)), fun _ => Is (.pointer (some ⟨bb, (ofb + i * 1), none⟩)), fun _ => Is (.slice prb x.length crb), fun _ => Is (.int .i64 (x.length : Int)), fun _ => Is (.bool false)] : List (List Value → Tell)).getD i9 (fun _ _ _ => False)) (heldNil) (fun d _ _ _ _ h => (by cases d <;> exact h)) (by kernel_rfl) (by kernel_rfl) (by kernel_rfl) hS ?_ ?_
  ·
   refine stepsCons rfl (fun Q f' w' ρ S ho hT hS hB => ?_) ?_
   ·exact .inl ⟨want_none rfl, omove (v := .slice pa na ca) rfl rfl (ev rfl (ho 0 rfl)) ⟨_, _, rfl, isI, New.same _⟩⟩
   refine stepsCons rfl (fun Q f' w' ρ S ho hT hS hB => ?_) ?_
   ·exact .inl ⟨want_none rfl, omove (v := .int .i64 (i : Int)) rfl rfl (ev rfl (ho 5 rfl)) ⟨_, _, rfl, isI, New.same _⟩⟩
   refine stepsCons rfl (fun Q f' w' ρ S ho hT hS hB => ?_) ?_
   ·obtain ⟨hv0, hr0⟩ := (hT 0 17 rfl rfl : (Is (.slice pa na ca)) _ _)
    obtain ⟨hv1, hr1⟩ := (hT 1 18 rfl rfl : (Is (.int .i64 (((i : Nat) : Int)))) _ _)
    obtain hS := hS.flat2 hr0 hr1
    exact .inl ⟨want_none rfl, oindex (p := pa) (g := ba) (off := ofa) (m := na) (k := i) (j := (ofa + i * 1)) rfl rfl Tryd.runUnderlying26 Tryd.sizeOf52 (ev rfl hv0) (hpa) (ev rfl hv1) (by omega) rfl ⟨_, _, rfl, isI, New.same _⟩⟩
   refine stepsCons rfl (fun Q f' w' ρ S ho hT hS hB => ?_) ?_
   ·obtain ⟨hv2, hr2⟩ := (hT 2 19 rfl rfl : (Is (.pointer (some ⟨ba, (ofa + i * 1), none⟩))) _ _)
    obtain hS := hS.flat1 hr2
    exact .inl ⟨want_none rfl, oloadc (v := .slice pra x.length cra) (show One Tryd.prog 52 from ⟨Tryd.isAgg52, Tryd.sizeOf52⟩) rfl rfl (ev (v := .pointer (some ⟨ba, (ofa + i * 1), none⟩)) rfl hv2) (hS.cellAt (hca 0 _ rfl)) ⟨_, _, rfl, isI, New.same _⟩⟩
   refine stepsCons rfl (fun Q f' w' ρ S ho hT hS hB => ?_) ?_
   ·obtain ⟨hv3, hr3⟩ := (hT 3 20 rfl rfl : (Is (.slice pra x.length cra)) _ _)
    obtain hS := hS.flat1 hr3
    exact .inl ⟨want_none rfl, olen rfl rfl rfl Tryd.runUnderlying52 (p := pra) (k := x.length) (m := cra) (ev rfl hv3) ⟨_, _, rfl, isI, New.same _⟩⟩
   refine stepsCons rfl (fun Q f' w' ρ S ho hT hS hB => ?_) ?_
   ·exact .inl ⟨want_none rfl, omove (v := .slice pb nb cb) rfl rfl (ev rfl (ho 1 rfl)) ⟨_, _, rfl, isI, New.same _⟩⟩
   refine stepsCons rfl (fun Q f' w' ρ S ho hT hS hB => ?_) ?_
   ·exact .inl ⟨want_none rfl, omove (v := .int .i64 (i : Int)) rfl rfl (ev rfl (ho 5 rfl)) ⟨_, _, rfl, isI, New.same _⟩⟩
   refine stepsCons rfl (fun Q f' w' ρ S ho hT hS hB => ?_) ?_
   ·obtain ⟨hv5, hr5⟩ := (hT 5 22 rfl rfl : (Is (.slice pb nb cb)) _ _)
    obtain ⟨hv6, hr6⟩ := (hT 6 23 rfl rfl : (Is (.int .i64 (((i : Nat) : Int)))) _ _)
    obtain hS := hS.flat2 hr5 hr6
    exact .inl ⟨want_none rfl, oindex (p := pb) (g := bb) (off := ofb) (m := nb) (k := i) (j := (ofb + i * 1)) rfl rfl Tryd.runUnderlying26 Tryd.sizeOf52 (ev rfl hv5) (hpb) (ev rfl hv6) (by omega) rfl ⟨_, _, rfl, isI, New.same _⟩⟩
   refine stepsCons rfl (fun Q f' w' ρ S ho hT hS hB => ?_) ?_
   ·obtain ⟨hv7, hr7⟩ := (hT 7 24 rfl rfl : (Is (.pointer (some ⟨bb, (ofb + i * 1), none⟩))) _ _)
    obtain hS := hS.flat1 hr7
    exact .inl ⟨want_none rfl, oloadc (v := .slice prb x.length crb) (show One Tryd.prog 52 from ⟨Tryd.isAgg52, Tryd.sizeOf52⟩) rfl rfl (ev (v := .pointer (some ⟨bb, (ofb + i * 1), none⟩)) rfl hv7) (hS.cellAt (hcb 0 _ rfl)) ⟨_, _, rfl, isI, New.same _⟩⟩
   refine stepsCons rfl (fun Q f' w' ρ S ho hT hS hB => ?_) ?_
   ·obtain ⟨hv8, hr8⟩ := (hT 8 25 rfl rfl : (Is (.slice prb x.length crb)) _ _)
    obtain hS := hS.flat1 hr8
    exact .inl ⟨want_none rfl, olen rfl rfl rfl Tryd.runUnderlying52 (p := prb) (k := x.length) (m := crb) (ev rfl hv8) ⟨_, _, rfl, isI, New.same _⟩⟩
   refine stepsCons rfl (fun Q f' w' ρ S ho hT hS hB => ?_) ?_
   ·obtain ⟨hv4, hr4⟩ := (hT 4 21 rfl rfl : (Is (.int .i64 (((x.length : Nat) : Int)))) _ _)
    obtain ⟨hv9, hr9⟩ := (hT 9 26 rfl rfl : (Is (.int .i64 (((x.length : Nat) : Int)))) _ _)
    obtain hS := hS.flat2 hr4 hr9
    exact .inl ⟨want_none rfl, obin (u := .int .i64 (x.length : Int)) (v := .int .i64 (x.length : Int)) (z := .bool false) rfl rfl (ev rfl hv4) (ev rfl hv9) (bin_neq (neF rfl)) ⟨_, _, rfl, isI, New.same _⟩⟩
   exact stepsNil
  ·
   intro vs ρ w2 f' hf hT hS
   obtain ⟨hv0, hr0⟩ := (hT 0 (by decide) : (Is (.slice pa na ca)) _ _)
   obtain ⟨hv1, hr1⟩ := (hT 1 (by decide) : (Is (.int .i64 (((i : Nat) : Int)))) _ _)
   obtain ⟨hv2, hr2⟩ := (hT 2 (by decide) : (Is (.pointer (some ⟨ba, (ofa + i * 1), none⟩))) _ _)
   obtain ⟨hv3, hr3⟩ := (hT 3 (by decide) : (Is (.slice pra x.length cra)) _ _)
   obtain ⟨hv4, hr4⟩ := (hT 4 (by decide) : (Is (.int .i64 (((x.length : Nat) : Int)))) _ _)
   obtain ⟨hv5, hr5⟩ := (hT 5 (by decide) : (Is (.slice pb nb cb)) _ _)
   obtain ⟨hv6, hr6⟩ := (hT 6 (by decide) : (Is (.int .i64 (((i : Nat) : Int)))) _ _)
   obtain ⟨hv7, hr7⟩ := (hT 7 (by decide) : (Is (.pointer (some ⟨bb, (ofb + i * 1), none⟩))) _ _)
   obtain ⟨hv8, hr8⟩ := (hT 8 (by decide) : (Is (.slice prb x.length crb)) _ _)
   obtain ⟨hv9, hr9⟩ := (hT 9 (by decide) : (Is (.int .i64 (((x.length : Nat) : Int)))) _ _)
   obtain ⟨hv10, hr10⟩ := (hT 10 (by decide) : (Is (.bool false)) _ _)
   simp only [pool, if_true, hr0, hr1, hr2, hr3, hr4, hr5, hr6, hr7, hr8, hr9, hr10, List.nil_append, List.cons_append, List.append_nil] at hS
   simp only [layf, hv0, hv1, hv2, hv3, hv4, hv5, hv6, hv7, hv8, hv9, hv10] at hf
   subst hf; clear hT hv0 hv1 hv2 hv3 hv4 hv5 hv6 hv7 hv8 hv9 hv10 hr0 hr1 hr2 hr3 hr4 hr5 hr6 hr7 hr8 hr9 hr10
   refine wdone rfl ?_
   refine thenN ?_
   refine wF (ev rfl rfl) ?_
   refine wskip (thenN (wseq (wreg (wl rfl (omove (v := .slice pa na ca) rfl rfl (ev rfl rfl) ?_)))))
   refine wl rfl (omove (v := .int .i64 (i : Int)) rfl rfl (ev rfl rfl) ?_)
   refine wl rfl (oindex (p := pa) (g := ba) (off := ofa) (m := na) (k := i) (j := (ofa + i * 1)) rfl rfl Tryd.runUnderlying26 Tryd.sizeOf52 (ev rfl rfl) (hpa) (ev rfl rfl) (by omega) rfl ?_)
   refine wl rfl (oloadc (v := .slice pra x.length cra) (show One Tryd.prog 52 from ⟨Tryd.isAgg52, Tryd.sizeOf52⟩) rfl rfl (ev (v := .pointer (some ⟨ba, (ofa + i * 1), none⟩)) rfl rfl) (hS.cellAt (hca 0 _ rfl)) ?_)
   refine wl rfl (olen rfl rfl rfl Tryd.runUnderlying52 (p := pra) (k := x.length) (m := cra) (ev rfl rfl) ?_)
   refine wl rfl (omove (v := .int .i64 0) rfl rfl evc ?_)
   refine wnil (thenN (wblock ?_))
   refine wloop (σ := Nat) (fun k a9 w' => ∃ (fb : Nat → Value), a9 = act 53 (sets fb [(0, .slice pa na ca), (1, .slice pb nb cb), (5, .int .i64 (i : Int)), (13, .int .i64 (na : Int)), (14, .int .i64 (i : Int)), (32, .int .i64 (x.length : Int)), (33, .int .i64 (k : Int))]) ∧ Sep w [] w' ∧ (k ≤ x.length)) (fun k => x.length - k) (0) ⟨_, act_sets (l := [(0, .slice pa na ca), (1, .slice pb nb cb), (5, .int .i64 (i : Int)), (13, .int .i64 (na : Int)), (14, .int .i64 (i : Int)), (32, .int .i64 (x.length : Int)), (33, .int .i64 0)]) ⟨rfl, rfl, rfl, rfl, rfl, rfl, rfl, trivial⟩, hS, Nat.zero_le _⟩ ?_
   clear hS; rintro k _ w3 ⟨fb, rfl, hS, hk⟩
   refine wseq (wreg ?_)
   by_cases hlk : k < x.length
   ·
    refine wl rfl (obin (u := .int .i64 (k : Int)) (v := .int .i64 (x.length : Int)) (z := .bool true) rfl rfl (ev rfl rfl) (ev rfl rfl) (bin_lss (decide_eq_true (by omega))) ?_)
    refine wnil (thenN (wseq ?_))
    refine wT (ev rfl rfl) ?_
    refine wskip (thenN (wseq (wblock (wseq (wreg (wl rfl (omove (v := .int .i64 (k : Int)) rfl rfl (ev rfl rfl) ?_)))))))
    refine wl rfl (oassign (v := .int .i64 (k : Int)) rfl rfl (ev rfl rfl) ?_)
    refine wnil (thenN (wseq ?_))
    obtain ⟨bcca, occa, hpcca, hccca⟩ := hsa.el (show k < x.length by omega)
    obtain ⟨bccb, occb, hpccb, hcccb⟩ := hsb.el (show k < x.length by omega)
    refine wstage 15 [36, 37, 38, 39, 40, 41, 42, 43, 44, 45, 46, 47, 48, 49, 50] [[], [], [0, 1], [2, 0, 1], [], [3, 4, 0, 1, 2], [5, 0, 1, 2, 3, 4], [], [], [7, 8], [9, 7, 8], [], [10, 11, 7, 8, 9], [12, 7, 8, 9, 10, 11], [6, 13, 0, 1, 2, 3, 4, 5, 7, 8, 9, 10, 11, 12]] [[], [], [], [], [], [], [], [], [], [], [], [], [], [], []] [] [] (fun i9 => ([fun _ => Is (.slice pa na ca), fun _ => Is (.int .i64 (i : Int)), fun _ => Is (.pointer (some ⟨ba, (ofa + i * 1), none⟩)), fun _ => Is (.slice pra x.length cra), fun _ => Is (.int .i64 (k : Int)), fun _ => Is (.pointer (some ⟨bcca, (occa + k * 1), none⟩)), fun _ => Is (.int .u32 (((nd x k : Nat) : Int))), fun _ => Is (.slice pb nb cb), fun _ => Is (.int .i64 (i : Int)), fun _ => Is (.pointer (some ⟨bb, (ofb + i * 1), none⟩)), fun _ => Is (.slice prb x.length crb), fun _ => Is (.int .i64 (k : Int)), fun _ => Is (.pointer (some ⟨bccb, (occb + k * 1), none⟩)), fun _ => Is (.int .u32 (((nd x k : Nat) : Int))), fun _ => Is (.bool false)] : List (List Value → Tell)).getD i9 (fun _ _ _ => False)) (heldNil) (fun d _ _ _ _ h => (by cases d <;> exact h)) (by kernel_rfl) (by kernel_rfl) (by kernel_rfl) hS ?_ ?_
    ·
     refine stepsCons rfl (fun Q f' w' ρ S ho hT hS hB => ?_) ?_
     ·exact .inl ⟨want_none rfl, omove (v := .slice pa na ca) rfl rfl (ev rfl (ho 0 rfl)) ⟨_, _, rfl, isI, New.same _⟩⟩
     refine stepsCons rfl (fun Q f' w' ρ S ho hT hS hB => ?_) ?_
     ·exact .inl ⟨want_none rfl, omove (v := .int .i64 (i : Int)) rfl rfl (ev rfl (ho 5 rfl)) ⟨_, _, rfl, isI, New.same _⟩⟩
     refine stepsCons rfl (fun Q f' w' ρ S ho hT hS hB => ?_) ?_
     ·obtain ⟨hv0, hr0⟩ := (hT 0 36 rfl rfl : (Is (.slice pa na ca)) _ _)
      obtain ⟨hv1, hr1⟩ := (hT 1 37 rfl rfl : (Is (.int .i64 (((i : Nat) : Int)))) _ _)
      obtain hS := hS.flat2 hr0 hr1
      exact .inl ⟨want_none rfl, oindex (p := pa) (g := ba) (off := ofa) (m := na) (k := i) (j := (ofa + i * 1)) rfl rfl Tryd.runUnderlying26 Tryd.sizeOf52 (ev rfl hv0) (hpa) (ev rfl hv1) (by omega) rfl ⟨_, _, rfl, isI, New.same _⟩⟩
     refine stepsCons rfl (fun Q f' w' ρ S ho hT hS hB => ?_) ?_
     ·obtain ⟨hv2, hr2⟩ := (hT 2 38 rfl rfl : (Is (.pointer (some ⟨ba, (ofa + i * 1), none⟩))) _ _)
      obtain hS := hS.flat1 hr2
      exact .inl ⟨want_none rfl, oloadc (v := .slice pra x.length cra) (show One Tryd.prog 52 from ⟨Tryd.isAgg52, Tryd.sizeOf52⟩) rfl rfl (ev (v := .pointer (some ⟨ba, (ofa + i * 1), none⟩)) rfl hv2) (hS.cellAt (hca 0 _ rfl)) ⟨_, _, rfl, isI, New.same _⟩⟩
     refine stepsCons rfl (fun Q f' w' ρ S ho hT hS hB => ?_) ?_
     ·exact .inl ⟨want_none rfl, omove (v := .int .i64 (k : Int)) rfl rfl (ev rfl (ho 6 rfl)) ⟨_, _, rfl, isI, New.same _⟩⟩
     refine stepsCons rfl (fun Q f' w' ρ S ho hT hS hB => ?_) ?_
     ·obtain ⟨hv3, hr3⟩ := (hT 3 39 rfl rfl : (Is (.slice pra x.length cra)) _ _)
      obtain ⟨hv4, hr4⟩ := (hT 4 40 rfl rfl : (Is (.int .i64 (((k : Nat) : Int)))) _ _)
      obtain hS := hS.flat2 hr3 hr4
      exact .inl ⟨want_none rfl, oindex (p := pra) (g := bcca) (off := occa) (m := x.length) (k := k) (j := (occa + k * 1)) rfl rfl Tryd.runUnderlying52 Tryd.sizeOf27 (ev rfl hv3) (hpcca) (ev rfl hv4) (by omega) rfl ⟨_, _, rfl, isI, New.same _⟩⟩
     refine stepsCons rfl (fun Q f' w' ρ S ho hT hS hB => ?_) ?_
     ·obtain ⟨hv5, hr5⟩ := (hT 5 41 rfl rfl : (Is (.pointer (some ⟨bcca, (occa + k * 1), none⟩))) _ _)
      obtain hS := hS.flat1 hr5
      exact .inl ⟨want_none rfl, oloadc (v := .int .u32 (((nd x k : Nat) : Int))) one32 rfl rfl (ev (v := .pointer (some ⟨bcca, (occa + k * 1), none⟩)) rfl hv5) (hS.cellAt (hccca 0 _ rfl)) ⟨_, _, rfl, isI, New.same _⟩⟩
     refine stepsCons rfl (fun Q f' w' ρ S ho hT hS hB => ?_) ?_
     ·exact .inl ⟨want_none rfl, omove (v := .slice pb nb cb) rfl rfl (ev rfl (ho 1 rfl)) ⟨_, _, rfl, isI, New.same _⟩⟩
     refine stepsCons rfl (fun Q f' w' ρ S ho hT hS hB => ?_) ?_
     ·exact .inl ⟨want_none rfl, omove (v := .int .i64 (i : Int)) rfl rfl (ev rfl (ho 5 rfl)) ⟨_, _, rfl, isI, New.same _⟩⟩
     refine stepsCons rfl (fun Q f' w' ρ S ho hT hS hB => ?_) ?_
     ·obtain ⟨hv7, hr7⟩ := (hT 7 43 rfl rfl : (Is (.slice pb nb cb)) _ _)
      obtain ⟨hv8, hr8⟩ := (hT 8 44 rfl rfl : (Is (.int .i64 (((i : Nat) : Int)))) _ _)
      obtain hS := hS.flat2 hr7 hr8
      exact .inl ⟨want_none rfl, oindex (p := pb) (g := bb) (off := ofb) (m := nb) (k := i) (j := (ofb + i * 1)) rfl rfl Tryd.runUnderlying26 Tryd.sizeOf52 (ev rfl hv7) (hpb) (ev rfl hv8) (by omega) rfl ⟨_, _, rfl, isI, New.same _⟩⟩
     refine stepsCons rfl (fun Q f' w' ρ S ho hT hS hB => ?_) ?_
     ·obtain ⟨hv9, hr9⟩ := (hT 9 45 rfl rfl : (Is (.pointer (some ⟨bb, (ofb + i * 1), none⟩))) _ _)
      obtain hS := hS.flat1 hr9
      exact .inl ⟨want_none rfl, oloadc (v := .slice prb x.length crb) (show One Tryd.prog 52 from ⟨Tryd.isAgg52, Tryd.sizeOf52⟩) rfl rfl (ev (v := .pointer (some ⟨bb, (ofb + i * 1), none⟩)) rfl hv9) (hS.cellAt (hcb 0 _ rfl)) ⟨_, _, rfl, isI, New.same _⟩⟩
     refine stepsCons rfl (fun Q f' w' ρ S ho hT hS hB => ?_) ?_
     ·exact .inl ⟨want_none rfl, omove (v := .int .i64 (k : Int)) rfl rfl (ev rfl (ho 6 rfl)) ⟨_, _, rfl, isI, New.same _⟩⟩
     refine stepsCons rfl (fun Q f' w' ρ S ho hT hS hB => ?_) ?_
     ·obtain ⟨hv10, hr10⟩ := (hT 10 46 rfl rfl : (Is (.slice prb x.length crb)) _ _)
      obtain ⟨hv11, hr11⟩ := (hT 11 47 rfl rfl : (Is (.int .i64 (((k : Nat) : Int)))) _ _)
      obtain hS := hS.flat2 hr10 hr11
      exact .inl ⟨want_none rfl, oindex (p := prb) (g := bccb) (off := occb) (m := x.length) (k := k) (j := (occb + k * 1)) rfl rfl Tryd.runUnderlying52 Tryd.sizeOf27 (ev rfl hv10) (hpccb) (ev rfl hv11) (by omega) rfl ⟨_, _, rfl, isI, New.same _⟩⟩
     refine stepsCons rfl (fun Q f' w' ρ S ho hT hS hB => ?_) ?_
     ·obtain ⟨hv12, hr12⟩ := (hT 12 48 rfl rfl : (Is (.pointer (some ⟨bccb, (occb + k * 1), none⟩))) _ _)
      obtain hS := hS.flat1 hr12
      exact .inl ⟨want_none rfl, oloadc (v := .int .u32 (((nd x k : Nat) : Int))) one32 rfl rfl (ev (v := .pointer (some ⟨bccb, (occb + k * 1), none⟩)) rfl hv12) (hS.cellAt (hcccb 0 _ rfl)) ⟨_, _, rfl, isI, New.same _⟩⟩
     refine stepsCons rfl (fun Q f' w' ρ S ho hT hS hB => ?_) ?_
     ·obtain ⟨hv6, hr6⟩ := (hT 6 42 rfl rfl : (Is (.int .u32 (((nd x k : Nat) : Int)))) _ _)
      obtain ⟨hv13, hr13⟩ := (hT 13 49 rfl rfl : (Is (.int .u32 (((nd x k : Nat) : Int)))) _ _)
      obtain hS := hS.flat2 hr6 hr13
      exact .inl ⟨want_none rfl, obin (u := .int .u32 (((nd x k : Nat) : Int))) (v := .int .u32 (((nd x k : Nat) : Int))) (z := .bool false) rfl rfl (ev rfl hv6) (ev rfl hv13) (bin_neq (neF rfl)) ⟨_, _, rfl, isI, New.same _⟩⟩
     exact stepsNil
    ·
     intro vs ρ w4 f' hf hT hS
     obtain ⟨hv0, hr0⟩ := (hT 0 (by decide) : (Is (.slice pa na ca)) _ _)
     obtain ⟨hv1, hr1⟩ := (hT 1 (by decide) : (Is (.int .i64 (((i : Nat) : Int)))) _ _)
     obtain ⟨hv2, hr2⟩ := (hT 2 (by decide) : (Is (.pointer (some ⟨ba, (ofa + i * 1), none⟩))) _ _)
     obtain ⟨hv3, hr3⟩ := (hT 3 (by decide) : (Is (.slice pra x.length cra)) _ _)
     obtain ⟨hv4, hr4⟩ := (hT 4 (by decide) : (Is (.int .i64 (((k : Nat) : Int)))) _ _)
     obtain ⟨hv5, hr5⟩ := (hT 5 (by decide) : (Is (.pointer (some ⟨bcca, (occa + k * 1), none⟩))) _ _)
     obtain ⟨hv6, hr6⟩ := (hT 6 (by decide) : (Is (.int .u32 (((nd x k : Nat) : Int)))) _ _)
     obtain ⟨hv7, hr7⟩ := (hT 7 (by decide) : (Is (.slice pb nb cb)) _ _)
     obtain ⟨hv8, hr8⟩ := (hT 8 (by decide) : (Is (.int .i64 (((i : Nat) : Int)))) _ _)
     obtain ⟨hv9, hr9⟩ := (hT 9 (by decide) : (Is (.pointer (some ⟨bb, (ofb + i * 1), none⟩))) _ _)
     obtain ⟨hv10, hr10⟩ := (hT 10 (by decide) : (Is (.slice prb x.length crb)) _ _)
     obtain ⟨hv11, hr11⟩ := (hT 11 (by decide) : (Is (.int .i64 (((k : Nat) : Int)))) _ _)
     obtain ⟨hv12, hr12⟩ := (hT 12 (by decide) : (Is (.pointer (some ⟨bccb, (occb + k * 1), none⟩))) _ _)
     obtain ⟨hv13, hr13⟩ := (hT 13 (by decide) : (Is (.int .u32 (((nd x k : Nat) : Int)))) _ _)
     obtain ⟨hv14, hr14⟩ := (hT 14 (by decide) : (Is (.bool false)) _ _)
     simp only [pool, if_true, hr0, hr1, hr2, hr3, hr4, hr5, hr6, hr7, hr8, hr9, hr10, hr11, hr12, hr13, hr14, List.nil_append, List.cons_append, List.append_nil] at hS
     simp only [layf, hv0, hv1, hv2, hv3, hv4, hv5, hv6, hv7, hv8, hv9, hv10, hv11, hv12, hv13, hv14] at hf
     subst hf; clear hT hv0 hv1 hv2 hv3 hv4 hv5 hv6 hv7 hv8 hv9 hv10 hv11 hv12 hv13 hv14 hr0 hr1 hr2 hr3 hr4 hr5 hr6 hr7 hr8 hr9 hr10 hr11 hr12 hr13 hr14
     refine wdone rfl ?_
     refine thenN ?_
     refine wF (ev rfl rfl) ?_
     refine wskip (blkN (thenN (wreg (wl rfl (obin (u := .int .i64 (k : Int)) (v := .int .i64 1) (z := .int .i64 (((k + 1 : Nat) : Int))) rfl rfl (ev rfl rfl) evc (bin_add (wrap_i64 (by omega) (by omega))) ?_)))))
     refine wl rfl (omove (v := .int .i64 (((k + 1 : Nat) : Int))) rfl rfl (ev rfl rfl) ?_)
     refine wnil (thenN ?_)
     exact ⟨(k + 1), ⟨_, act_sets (l := [(0, .slice pa na ca), (1, .slice pb nb cb), (5, .int .i64 (i : Int)), (13, .int .i64 (na : Int)), (14, .int .i64 (i : Int)), (32, .int .i64 (x.length : Int)), (33, .int .i64 (((k + 1 : Nat) : Int)))]) ⟨rfl, rfl, rfl, rfl, rfl, rfl, rfl, trivial⟩, hS.pick [] (by decide) rfl, by omega⟩, by omega⟩
   ·
    refine wl rfl (obin (u := .int .i64 (k : Int)) (v := .int .i64 (x.length : Int)) (z := .bool false) rfl rfl (ev rfl rfl) (ev rfl rfl) (bin_lss (decide_eq_false (by omega))) ?_)
    refine wnil (thenN (wseq ?_))
    refine wF (ev rfl rfl) ?_
    refine wexit ?_
    refine thenE ?_
    refine thenE ?_
    refine blkE ?_
    refine blkN (thenN (wreg (wl rfl (obin (u := .int .i64 (i : Int)) (v := .int .i64 1) (z := .int .i64 (((i + 1 : Nat) : Int))) rfl rfl (ev rfl rfl) evc (bin_add (wrap_i64 (by omega) (by omega))) ?_))))
    refine wl rfl (omove (v := .int .i64 (((i + 1 : Nat) : Int))) rfl rfl (ev rfl rfl) ?_)
    refine wnil (thenN ?_)
    exact ⟨(i + 1), ⟨_, act_sets (l := [(0, .slice pa na ca), (1, .slice pb nb cb), (13, .int .i64 (na : Int)), (14, .int .i64 (((i + 1 : Nat) : Int)))]) ⟨rfl, rfl, rfl, rfl, trivial⟩, hS.pick [] (by decide) rfl, by omega⟩, by omega⟩
 ·
  refine wl rfl (obin (u := .int .i64 (i : Int)) (v := .int .i64 (na : Int)) (z := .bool false) rfl rfl (ev rfl rfl) (ev rfl rfl) (bin_lss (decide_eq_false (by omega))) ?_)
  refine wnil (thenN (wseq ?_))
  refine wF (ev rfl rfl) ?_
  refine wexit ?_
  refine thenE ?_
  refine thenE ?_
  refine blkE ?_
  refine thenN (wseq (wreg (wl rfl (oassign (v := .bool true) rfl rfl evc ?_))))
  refine wnil (thenN ?_)
  refine wleave ?_
  refine wret1 Tryd.results46 (tellT (v := .bool true) rfl rfl) ?_
  exact ⟨_, _, rfl, isI, hS.new0⟩
theorem wxnum {e : Int} {w : World} :
  Calls Tryd.prog 11 #[.int .i64 e] w (Ret (Is (.int .i64 e)) w) := by
 have hS := Sep.init w
 refine went Tryd.func11 rfl (n := 4) rfl rfl ?_
 refine wseq (wreg (wl rfl (oassign (v := .int .i64 0) rfl rfl evc ?_)))
 refine wnil (thenN (wseq (wreg (wl rfl (omove (v := .int .i64 e) rfl rfl (ev rfl rfl) ?_)))))
 refine wl rfl (oassign (v := .int .i64 e) rfl rfl (ev rfl rfl) ?_)
 refine wnil (thenN ?_)
 refine wleave ?_
 refine wret1 Tryd.results11 (tellT (v := .int .i64 e) rfl rfl) ?_
 exact ⟨_, _, rfl, isI, hS.new0⟩
theorem wxsameL {pa pb : Option Addr} {na ca nb cb : Nat} {M : List (List Nat)} {w : World} (hA : MS w pa na M) (hB : MS w pb nb M) (hs : SmallM M) :
  Calls Tryd.prog 18 #[.slice pa na ca, .slice pb nb cb] w (Ret (Is (.bool true)) w) := by
 have hS := Sep.init w
 refine went Tryd.func18 rfl (n := 8) rfl rfl ?_
 refine wseq (wreg (wl rfl (oassign (v := .bool false) rfl rfl evc ?_)))
 refine wnil (thenN (wseq (wreg (wl rfl (omove (v := .slice pa na ca) rfl rfl (ev rfl rfl) ?_)))))
 refine wl rfl (omove (v := .slice pb nb cb) rfl rfl (ev rfl rfl) ?_)
 refine wl rfl (ocall rfl rfl Tryd.call46 rfl (wxsame (hA.at hS) (hB.at hS) (hs)) (args2 (ev rfl rfl) (ev rfl rfl)) ?_)
 rintro _ w1 ⟨_, _, rfl, ⟨rfl, rfl⟩, hN⟩
 refine ⟨_, rfl, ?_⟩
 replace hS := hS.news hN; clear hN
 refine wl rfl (oassign (v := .bool true) rfl rfl (ev rfl rfl) ?_)
 refine wnil (thenN ?_)
 refine wleave ?_
 refine wret1 Tryd.results18 (tellT (v := .bool true) rfl rfl) ?_
 exact ⟨_, _, rfl, isI, hS.new0⟩
theorem wxawake {w : World} (ht : Tb w) :
  Calls Tryd.prog 12 #[] w (Ret (Is (.bool true)) w) := by
 have hS := Sep.init w
 refine went Tryd.func12 rfl (n := 38) rfl rfl ?_
 refine wseq (wreg (wl rfl (oassign (v := .bool false) rfl rfl evc ?_)))
 refine wnil (thenN (wseq (wreg (wl rfl (obslice (ps := #[(0, .int .u32 1), (1, .int .u32 1)]) (z := .int .u32 0) [.int .u32 1, .int .u32 1] hS rfl rfl Tryd.runUnderlying52 Tryd.sizeOf27 Tryd.zeroValue27 (parts2 (evc (v := .int .u32 1)) (evc (v := .int .u32 1))) rfl (by decide) (fill1_2s rfl rfl rfl) ?_)))))
 clear hS; intro g1 w2 hS
 refine wl rfl (obslice (ps := #[(0, .int .u32 0), (1, .int .u32 1)]) (z := .int .u32 0) [.int .u32 0, .int .u32 1] hS rfl rfl Tryd.runUnderlying52 Tryd.sizeOf27 Tryd.zeroValue27 (parts2 (evc (v := .int .u32 0)) (evc (v := .int .u32 1))) rfl (by decide) (fill1_2s rfl rfl rfl) ?_)
 clear hS; intro g3 w4 hS
 refine wl rfl (obslice (ps := #[(0, .slice (some ⟨g1, 0, none⟩) 2 2), (1, .slice (some ⟨g3, 0, none⟩) 2 2)]) (z := .slice none 0 0) [.slice (some ⟨g1, 0, none⟩) 2 2, .slice (some ⟨g3, 0, none⟩) 2 2] hS rfl rfl Tryd.runUnderlying26 Tryd.sizeOf52 Tryd.zeroValue52 (parts2 (ev (v := .slice (some ⟨g1, 0, none⟩) 2 2) rfl rfl) (ev (v := .slice (some ⟨g3, 0, none⟩) 2 2) rfl rfl)) rfl (by decide) (fill1_2s rfl rfl rfl) ?_)
 clear hS; intro g5 w6 hS
 refine wl rfl (ocall rfl rfl Tryd.call13 rfl (wxinv_aw (ht.at hS) (MS.lit2 (a := 1) (b := 1) (c := 0) (d := 1) (hS.blkAt 0 rfl) (hS.blkAt 2 rfl) (hS.blkAt 1 rfl) (by decide) (by decide) (by decide) (by decide))) (args2 (ev rfl rfl) evc) ?_)
 rintro _ w7 ⟨_, _, rfl, ⟨pV, cV, QV, hQV, rfl, rfl⟩, hN⟩
 refine ⟨_, rfl, ?_⟩
 replace hS := hS.news hN; clear hN
 refine wl rfl (omove (v := .tuple #[.slice pV 2 cV, .int .i64 0]) rfl rfl (ev rfl rfl) ?_)
 refine wl rfl (oextract (vs := [.slice pV 2 cV, .int .i64 0]) (v := .slice pV 2 cV) rfl rfl (ev rfl rfl) rfl ?_)
 refine wl rfl (oextract (vs := [.slice pV 2 cV, .int .i64 0]) (v := .int .i64 0) rfl rfl (ev rfl rfl) rfl ?_)
 refine wl rfl (oassign (v := .slice pV 2 cV) rfl rfl (ev rfl rfl) ?_)
 refine wl rfl (oassign (v := .int .i64 0) rfl rfl (ev rfl rfl) ?_)
 refine wnil (thenN (wseq (wreg (wl rfl (obslice (ps := #[(0, .int .u32 1), (1, .int .u32 2)]) (z := .int .u32 0) [.int .u32 1, .int .u32 2] hS rfl rfl Tryd.runUnderlying52 Tryd.sizeOf27 Tryd.zeroValue27 (parts2 (evc (v := .int .u32 1)) (evc (v := .int .u32 2))) rfl (by decide) (fill1_2s rfl rfl rfl) ?_)))))
 clear hS; intro g8 w9 hS
 refine wl rfl (obslice (ps := #[(0, .int .u32 3), (1, .int .u32 4)]) (z := .int .u32 0) [.int .u32 3, .int .u32 4] hS rfl rfl Tryd.runUnderlying52 Tryd.sizeOf27 Tryd.zeroValue27 (parts2 (evc (v := .int .u32 3)) (evc (v := .int .u32 4))) rfl (by decide) (fill1_2s rfl rfl rfl) ?_)
 clear hS; intro g10 w11 hS
 refine wl rfl (obslice (ps := #[(0, .slice (some ⟨g8, 0, none⟩) 2 2), (1, .slice (some ⟨g10, 0, none⟩) 2 2)]) (z := .slice none 0 0) [.slice (some ⟨g8, 0, none⟩) 2 2, .slice (some ⟨g10, 0, none⟩) 2 2] hS rfl rfl Tryd.runUnderlying26 Tryd.sizeOf52 Tryd.zeroValue52 (parts2 (ev (v := .slice (some ⟨g8, 0, none⟩) 2 2) rfl rfl) (ev (v := .slice (some ⟨g10, 0, none⟩) 2 2) rfl rfl)) rfl (by decide) (fill1_2s rfl rfl rfl) ?_)
 clear hS; intro g12 w13 hS
 refine wl rfl (ocall rfl rfl Tryd.call22 rfl (wxdet_aw (ht.at hS) (MS.lit2 (a := 1) (b := 2) (c := 3) (d := 4) (hS.blkAt 0 rfl) (hS.blkAt 2 rfl) (hS.blkAt 1 rfl) (by decide) (by decide) (by decide) (by decide))) (args2 (ev rfl rfl) evc) ?_)
 rintro _ w14 ⟨_, _, rfl, ⟨rfl, rfl⟩, hN⟩
 refine ⟨_, rfl, ?_⟩
 replace hS := hS.news hN; clear hN
 refine wl rfl (omove (v := .tuple #[.int .u32 3, .int .i64 0]) rfl rfl (ev rfl rfl) ?_)
 refine wl rfl (oextract (vs := [.int .u32 3, .int .i64 0]) (v := .int .u32 3) rfl rfl (ev rfl rfl) rfl ?_)
 refine wl rfl (oextract (vs := [.int .u32 3, .int .i64 0]) (v := .int .i64 0) rfl rfl (ev rfl rfl) rfl ?_)
 refine wl rfl (oassign (v := .int .u32 3) rfl rfl (ev rfl rfl) ?_)
 refine wl rfl (oassign (v := .int .i64 0) rfl rfl (ev rfl rfl) ?_)
 refine wnil (thenN (wseq (wreg (wl rfl (omove (v := .int .i64 0) rfl rfl (ev rfl rfl) ?_)))))
 refine wl rfl (ocall rfl rfl Tryd.call11 rfl (wxnum) (args1 (ev rfl rfl)) ?_)
 rintro _ w15 ⟨_, _, rfl, ⟨rfl, rfl⟩, hN⟩
 refine ⟨_, rfl, ?_⟩
 replace hS := hS.news hN; clear hN
 refine wl rfl (obin (u := .int .i64 0) (v := .int .i64 0) (z := .bool true) rfl rfl (ev rfl rfl) evc (bin_eql (by decide)) ?_)
 refine wl rfl (omove (v := .bool true) rfl rfl (ev rfl rfl) ?_)
 refine wlOn (e := 22) rfl rfl rfl rfl (omove (v := .slice pV 2 cV) rfl rfl (ev rfl rfl) ?_)
 refine wlOn (e := 22) rfl rfl rfl rfl (obslice (ps := #[(0, .int .u32 1), (1, .int .u32 6)]) (z := .int .u32 0) [.int .u32 1, .int .u32 6] hS rfl rfl Tryd.runUnderlying52 Tryd.sizeOf27 Tryd.zeroValue27 (parts2 (evc (v := .int .u32 1)) (evc (v := .int .u32 6))) rfl (by decide) (fill1_2s rfl rfl rfl) ?_)
 clear hS; intro g16 w17 hS
 refine wlOn (e := 22) rfl rfl rfl rfl (obslice (ps := #[(0, .int .u32 0), (1, .int .u32 1)]) (z := .int .u32 0) [.int .u32 0, .int .u32 1] hS rfl rfl Tryd.runUnderlying52 Tryd.sizeOf27 Tryd.zeroValue27 (parts2 (evc (v := .int .u32 0)) (evc (v := .int .u32 1))) rfl (by decide) (fill1_2s rfl rfl rfl) ?_)
 clear hS; intro g18 w19 hS
 refine wlOn (e := 22) rfl rfl rfl rfl (obslice (ps := #[(0, .slice (some ⟨g16, 0, none⟩) 2 2), (1, .slice (some ⟨g18, 0, none⟩) 2 2)]) (z := .slice none 0 0) [.slice (some ⟨g16, 0, none⟩) 2 2, .slice (some ⟨g18, 0, none⟩) 2 2] hS rfl rfl Tryd.runUnderlying26 Tryd.sizeOf52 Tryd.zeroValue52 (parts2 (ev (v := .slice (some ⟨g16, 0, none⟩) 2 2) rfl rfl) (ev (v := .slice (some ⟨g18, 0, none⟩) 2 2) rfl rfl)) rfl (by decide) (fill1_2s rfl rfl rfl) ?_)
 clear hS; intro g20 w21 hS
 refine wlOn (e := 22) rfl rfl rfl rfl (ocall rfl rfl Tryd.call18 rfl (wxsameL (M := [[1, 6], [0, 1]]) (hQV ▸ hS.ms 6 rfl (by simp [maxLen])) (MS.lit2 (a := 1) (b := 6) (c := 0) (d := 1) (hS.blkAt 0 rfl) (hS.blkAt 2 rfl) (hS.blkAt 1 rfl) (by decide) (by decide) (by decide) (by decide)) small2) (args2 (ev rfl rfl) (ev rfl rfl)) ?_)
 rintro _ w22 ⟨_, _, rfl, ⟨rfl, rfl⟩, hN⟩
 refine ⟨_, rfl, ?_⟩
 replace hS := hS.news hN; clear hN
 refine wl rfl (opick (b := true) (v := .bool true) rfl rfl (ev rfl rfl) (ev rfl rfl) ?_)
 refine wl rfl (omove (v := .bool true) rfl rfl (ev rfl rfl) ?_)
 refine wlOn (e := 29) rfl rfl rfl rfl (omove (v := .int .i64 0) rfl rfl (ev rfl rfl) ?_)
 refine wlOn (e := 29) rfl rfl rfl rfl (ocall rfl rfl Tryd.call11 rfl (wxnum) (args1 (ev rfl rfl)) ?_)
 rintro _ w23 ⟨_, _, rfl, ⟨rfl, rfl⟩, hN⟩
 refine ⟨_, rfl, ?_⟩
 replace hS := hS.news hN; clear hN
 refine wlOn (e := 29) rfl rfl rfl rfl (obin (u := .int .i64 0) (v := .int .i64 0) (z := .bool true) rfl rfl (ev rfl rfl) evc (bin_eql (by decide)) ?_)
 refine wl rfl (opick (b := true) (v := .bool true) rfl rfl (ev rfl rfl) (ev rfl rfl) ?_)
 refine wl rfl (omove (v := .bool true) rfl rfl (ev rfl rfl) ?_)
 refine wlOn (e := 34) rfl rfl rfl rfl (omove (v := .int .u32 3) rfl rfl (ev rfl rfl) ?_)
 refine wlOn (e := 34) rfl rfl rfl rfl (obin (u := .int .u32 3) (v := .int .u32 3) (z := .bool true) rfl rfl (ev rfl rfl) evc (bin_eql (by decide)) ?_)
 refine wl rfl (opick (b := true) (v := .bool true) rfl rfl (ev rfl rfl) (ev rfl rfl) ?_)
 refine wl rfl (oassign (v := .bool true) rfl rfl (ev rfl rfl) ?_)
 refine wnil (thenN ?_)
 refine wleave ?_
 refine wret1 Tryd.results12 (tellT (v := .bool true) rfl rfl) ?_
 exact ⟨_, _, rfl, isI, hS.new0⟩
end Go.Proofs.YtndilfigdbenoaaDoor
