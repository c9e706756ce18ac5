
/-
  modmat's Inverse, Det, Rank, Reduce.
-/
import Derived.Test.YtndilfigdbenoaaDoorMm5
set_option linter.unusedVariables false
set_option linter.unusedSimpArgs false
set_option maxRecDepth 100000
set_option maxHeartbeats 16000000
namespace Go.Proofs.YtndilfigdbenoaaDoor
open Go.RowKit
theorem SmallM.cols {M : List (List Nat)} (h : SmallM M) : colsM M ≤ 1048576 := by
  unfold colsM
  cases M with
  | nil => simp
  | cons r M => exact h.2 r (by simp)
def augM (p : Nat) (M : List (List Nat)) : List (List Nat) := besM (modM p M) (idM (colsM M))
theorem augM_shp {p : Nat} {M : List (List Nat)} (hp : 1 < p) (hr : RectM M) (hq : M.length = colsM M) : Shp p (colsM M + colsM M) (augM p M) :=
  besM_shp (hr.shp (by omega)) (idM_shp hp) (by rw [modM_len, hq]; unfold idM; rw [mkM_len])
theorem augM_len (p : Nat) (M : List (List Nat)) : (augM p M).length = M.length := by unfold augM besM; rw [besTo_len, modM_len]
theorem wxinverse40 {pm : Option Addr} {nm cm p : Nat} {M : List (List Nat)} {w : World} (ht : Tb w) (hm : MS w pm nm M) (hp2 : p < 4294967296) (hs : SmallM M) (hp : ¬ MR.Pr p) :
  Calls Tryd.prog 13 #[.slice pm nm cm, .int .u32 ((p : Nat) : Int)] w (Ret (Is (.tuple #[.slice none 0 0, .int .i64 40])) w) := by
 have hS := Sep.init w
 refine went Tryd.func13 rfl (n := 62) rfl rfl ?_
 refine wseq (wreg (wl rfl (oassign (v := .slice none 0 0) rfl rfl evc ?_)))
 refine wl rfl (oassign (v := .int .i64 0) rfl rfl evc ?_)
 refine wnil (thenN (wseq (wreg (wl rfl (omove (v := .int .u32 (p : Int)) rfl rfl (ev rfl rfl) ?_)))))
 refine wl rfl (omove (v := .slice pm nm cm) rfl rfl (ev rfl rfl) ?_)
 refine wl rfl (ocall rfl rfl Tryd.call38 rfl (wxsquare40 (ht.at hS) (hm.at hS) hp2 hs hp) (args2 (ev rfl rfl) (ev rfl rfl)) ?_)
 rintro _ w1 ⟨_, _, rfl, ⟨rfl, rfl⟩, hN⟩
 refine ⟨_, rfl, ?_⟩
 replace hS := hS.news hN; clear hN
 refine wl rfl (omove (v := .tuple #[.agg #[.int .u64 0, .slice none 0 0, .int .i64 0], .int .i64 40]) rfl rfl (ev rfl rfl) ?_)
 refine wl rfl (oextract (vs := [.agg #[.int .u64 0, .slice none 0 0, .int .i64 0], .int .i64 40]) (v := .agg #[.int .u64 0, .slice none 0 0, .int .i64 0]) rfl rfl (ev rfl rfl) rfl ?_)
 refine wl rfl (oextract (vs := [.agg #[.int .u64 0, .slice none 0 0, .int .i64 0], .int .i64 40]) (v := .int .i64 40) rfl rfl (ev rfl rfl) rfl ?_)
 refine wl rfl (oalloc [.int .u64 0, .slice none 0 0, .int .i64 0] hS rfl rfl Tryd.zeroValue63 rfl ?_)
 clear hS; intro g2 w3 hS
 refine wl rfl (ostore [.int .u64 0, .slice none 0 0, .int .i64 0] [.int .u64 0, .slice none 0 0, .int .i64 0] Tryd.sizeOf63 hS 0 rfl rfl (ev rfl rfl) (ev (v := .agg #[.int .u64 0, .slice none 0 0, .int .i64 0]) rfl rfl) rfl rfl rfl rfl rfl rfl ?_)
 clear hS; intro w4 hS
 refine wl rfl (oassign (v := .int .i64 40) rfl rfl (ev rfl rfl) ?_)
 refine wnil (thenN (wseq (wseq (wreg (wl rfl (omove (v := .int .i64 40) rfl rfl (ev rfl rfl) ?_))))))
 refine wl rfl (obin (u := .int .i64 40) (v := .int .i64 0) (z := .bool true) rfl rfl (ev rfl rfl) evc (bin_neq (by decide)) ?_)
 refine wnil (thenN ?_)
 refine wT (ev rfl rfl) ?_
 refine wseq (wreg (wl rfl (omove (v := .int .i64 40) rfl rfl (ev rfl rfl) ?_)))
 refine wl rfl (oassign (v := .slice none 0 0) rfl rfl evc ?_)
 refine wl rfl (oassign (v := .int .i64 40) rfl rfl (ev rfl rfl) ?_)
 refine wnil (thenN ?_)
 refine wleave ?_
 refine thenR ?_
 refine wret2 Tryd.results13 (tellT (v := .slice none 0 0) rfl rfl) (tellT (v := .int .i64 40) rfl rfl) ?_
 exact ⟨_, _, rfl, isI, hS.new0⟩
theorem wxinverse2 {pm : Option Addr} {nm cm p : Nat} {M : List (List Nat)} {w : World} (ht : Tb w) (hm : MS w pm nm M) (hp2 : p < 4294967296) (hs : SmallM M) (hp : MR.Pr p) (hr : ¬ RectM M) :
  Calls Tryd.prog 13 #[.slice pm nm cm, .int .u32 ((p : Nat) : Int)] w (Ret (Is (.tuple #[.slice none 0 0, .int .i64 2])) w) := by
 have hS := Sep.init w
 refine went Tryd.func13 rfl (n := 62) rfl rfl ?_
 refine wseq (wreg (wl rfl (oassign (v := .slice none 0 0) rfl rfl evc ?_)))
 refine wl rfl (oassign (v := .int .i64 0) rfl rfl evc ?_)
 refine wnil (thenN (wseq (wreg (wl rfl (omove (v := .int .u32 (p : Int)) rfl rfl (ev rfl rfl) ?_)))))
 refine wl rfl (omove (v := .slice pm nm cm) rfl rfl (ev rfl rfl) ?_)
 refine wl rfl (ocall rfl rfl Tryd.call38 rfl (wxsquare2 (ht.at hS) (hm.at hS) hp2 hs hp hr) (args2 (ev rfl rfl) (ev rfl rfl)) ?_)
 rintro _ w1 ⟨_, _, rfl, ⟨rfl, rfl⟩, hN⟩
 refine ⟨_, rfl, ?_⟩
 replace hS := hS.news hN; clear hN
 refine wl rfl (omove (v := .tuple #[.agg #[.int .u64 0, .slice none 0 0, .int .i64 0], .int .i64 2]) rfl rfl (ev rfl rfl) ?_)
 refine wl rfl (oextract (vs := [.agg #[.int .u64 0, .slice none 0 0, .int .i64 0], .int .i64 2]) (v := .agg #[.int .u64 0, .slice none 0 0, .int .i64 0]) rfl rfl (ev rfl rfl) rfl ?_)
 refine wl rfl (oextract (vs := [.agg #[.int .u64 0, .slice none 0 0, .int .i64 0], .int .i64 2]) (v := .int .i64 2) rfl rfl (ev rfl rfl) rfl ?_)
 refine wl rfl (oalloc [.int .u64 0, .slice none 0 0, .int .i64 0] hS rfl rfl Tryd.zeroValue63 rfl ?_)
 clear hS; intro g2 w3 hS
 refine wl rfl (ostore [.int .u64 0, .slice none 0 0, .int .i64 0] [.int .u64 0, .slice none 0 0, .int .i64 0] Tryd.sizeOf63 hS 0 rfl rfl (ev rfl rfl) (ev (v := .agg #[.int .u64 0, .slice none 0 0, .int .i64 0]) rfl rfl) rfl rfl rfl rfl rfl rfl ?_)
 clear hS; intro w4 hS
 refine wl rfl (oassign (v := .int .i64 2) rfl rfl (ev rfl rfl) ?_)
 refine wnil (thenN (wseq (wseq (wreg (wl rfl (omove (v := .int .i64 2) rfl rfl (ev rfl rfl) ?_))))))
 refine wl rfl (obin (u := .int .i64 2) (v := .int .i64 0) (z := .bool true) rfl rfl (ev rfl rfl) evc (bin_neq (by decide)) ?_)
 refine wnil (thenN ?_)
 refine wT (ev rfl rfl) ?_
 refine wseq (wreg (wl rfl (omove (v := .int .i64 2) rfl rfl (ev rfl rfl) ?_)))
 refine wl rfl (oassign (v := .slice none 0 0) rfl rfl evc ?_)
 refine wl rfl (oassign (v := .int .i64 2) rfl rfl (ev rfl rfl) ?_)
 refine wnil (thenN ?_)
 refine wleave ?_
 refine thenR ?_
 refine wret2 Tryd.results13 (tellT (v := .slice none 0 0) rfl rfl) (tellT (v := .int .i64 2) rfl rfl) ?_
 exact ⟨_, _, rfl, isI, hS.new0⟩
theorem wxinverse3 {pm : Option Addr} {nm cm p : Nat} {M : List (List Nat)} {w : World} (ht : Tb w) (hm : MS w pm nm M) (hp2 : p < 4294967296) (hs : SmallM M) (hp : MR.Pr p) (hr : RectM M) (hq : ¬ (M.length ≠ 0 ∧ M.length = colsM M)) :
  Calls Tryd.prog 13 #[.slice pm nm cm, .int .u32 ((p : Nat) : Int)] w (Ret (Is (.tuple #[.slice none 0 0, .int .i64 3])) w) := by
 have hS := Sep.init w
 refine went Tryd.func13 rfl (n := 62) rfl rfl ?_
 refine wseq (wreg (wl rfl (oassign (v := .slice none 0 0) rfl rfl evc ?_)))
 refine wl rfl (oassign (v := .int .i64 0) rfl rfl evc ?_)
 refine wnil (thenN (wseq (wreg (wl rfl (omove (v := .int .u32 (p : Int)) rfl rfl (ev rfl rfl) ?_)))))
 refine wl rfl (omove (v := .slice pm nm cm) rfl rfl (ev rfl rfl) ?_)
 refine wl rfl (ocall rfl rfl Tryd.call38 rfl (wxsquare3 (ht.at hS) (hm.at hS) hp2 hs hp hr hq) (args2 (ev rfl rfl) (ev rfl rfl)) ?_)
 rintro _ w1 ⟨_, _, rfl, ⟨rfl, rfl⟩, hN⟩
 refine ⟨_, rfl, ?_⟩
 replace hS := hS.news hN; clear hN
 refine wl rfl (omove (v := .tuple #[.agg #[.int .u64 0, .slice none 0 0, .int .i64 0], .int .i64 3]) rfl rfl (ev rfl rfl) ?_)
 refine wl rfl (oextract (vs := [.agg #[.int .u64 0, .slice none 0 0, .int .i64 0], .int .i64 3]) (v := .agg #[.int .u64 0, .slice none 0 0, .int .i64 0]) rfl rfl (ev rfl rfl) rfl ?_)
 refine wl rfl (oextract (vs := [.agg #[.int .u64 0, .slice none 0 0, .int .i64 0], .int .i64 3]) (v := .int .i64 3) rfl rfl (ev rfl rfl) rfl ?_)
 refine wl rfl (oalloc [.int .u64 0, .slice none 0 0, .int .i64 0] hS rfl rfl Tryd.zeroValue63 rfl ?_)
 clear hS; intro g2 w3 hS
 refine wl rfl (ostore [.int .u64 0, .slice none 0 0, .int .i64 0] [.int .u64 0, .slice none 0 0, .int .i64 0] Tryd.sizeOf63 hS 0 rfl rfl (ev rfl rfl) (ev (v := .agg #[.int .u64 0, .slice none 0 0, .int .i64 0]) rfl rfl) rfl rfl rfl rfl rfl rfl ?_)
 clear hS; intro w4 hS
 refine wl rfl (oassign (v := .int .i64 3) rfl rfl (ev rfl rfl) ?_)
 refine wnil (thenN (wseq (wseq (wreg (wl rfl (omove (v := .int .i64 3) rfl rfl (ev rfl rfl) ?_))))))
 refine wl rfl (obin (u := .int .i64 3) (v := .int .i64 0) (z := .bool true) rfl rfl (ev rfl rfl) evc (bin_neq (by decide)) ?_)
 refine wnil (thenN ?_)
 refine wT (ev rfl rfl) ?_
 refine wseq (wreg (wl rfl (omove (v := .int .i64 3) rfl rfl (ev rfl rfl) ?_)))
 refine wl rfl (oassign (v := .slice none 0 0) rfl rfl evc ?_)
 refine wl rfl (oassign (v := .int .i64 3) rfl rfl (ev rfl rfl) ?_)
 refine wnil (thenN ?_)
 refine wleave ?_
 refine thenR ?_
 refine wret2 Tryd.results13 (tellT (v := .slice none 0 0) rfl rfl) (tellT (v := .int .i64 3) rfl rfl) ?_
 exact ⟨_, _, rfl, isI, hS.new0⟩
theorem wxdet40 {pm : Option Addr} {nm cm p : Nat} {M : List (List Nat)} {w : World} (ht : Tb w) (hm : MS w pm nm M) (hp2 : p < 4294967296) (hs : SmallM M) (hp : ¬ MR.Pr p) :
  Calls Tryd.prog 22 #[.slice pm nm cm, .int .u32 ((p : Nat) : Int)] w (Ret (Is (.tuple #[.int .u32 0, .int .i64 40])) w) := by
 have hS := Sep.init w
 refine went Tryd.func22 rfl (n := 27) rfl rfl ?_
 refine wseq (wreg (wl rfl (oassign (v := .int .u32 0) rfl rfl evc ?_)))
 refine wl rfl (oassign (v := .int .i64 0) rfl rfl evc ?_)
 refine wnil (thenN (wseq (wreg (wl rfl (omove (v := .int .u32 (p : Int)) rfl rfl (ev rfl rfl) ?_)))))
 refine wl rfl (omove (v := .slice pm nm cm) rfl rfl (ev rfl rfl) ?_)
 refine wl rfl (ocall rfl rfl Tryd.call38 rfl (wxsquare40 (ht.at hS) (hm.at hS) hp2 hs hp) (args2 (ev rfl rfl) (ev rfl rfl)) ?_)
 rintro _ w1 ⟨_, _, rfl, ⟨rfl, rfl⟩, hN⟩
 refine ⟨_, rfl, ?_⟩
 replace hS := hS.news hN; clear hN
 refine wl rfl (omove (v := .tuple #[.agg #[.int .u64 0, .slice none 0 0, .int .i64 0], .int .i64 40]) rfl rfl (ev rfl rfl) ?_)
 refine wl rfl (oextract (vs := [.agg #[.int .u64 0, .slice none 0 0, .int .i64 0], .int .i64 40]) (v := .agg #[.int .u64 0, .slice none 0 0, .int .i64 0]) rfl rfl (ev rfl rfl) rfl ?_)
 refine wl rfl (oextract (vs := [.agg #[.int .u64 0, .slice none 0 0, .int .i64 0], .int .i64 40]) (v := .int .i64 40) rfl rfl (ev rfl rfl) rfl ?_)
 refine wl rfl (oalloc [.int .u64 0, .slice none 0 0, .int .i64 0] hS rfl rfl Tryd.zeroValue63 rfl ?_)
 clear hS; intro g2 w3 hS
 refine wl rfl (ostore [.int .u64 0, .slice none 0 0, .int .i64 0] [.int .u64 0, .slice none 0 0, .int .i64 0] Tryd.sizeOf63 hS 0 rfl rfl (ev rfl rfl) (ev (v := .agg #[.int .u64 0, .slice none 0 0, .int .i64 0]) rfl rfl) rfl rfl rfl rfl rfl rfl ?_)
 clear hS; intro w4 hS
 refine wl rfl (oassign (v := .int .i64 40) rfl rfl (ev rfl rfl) ?_)
 refine wnil (thenN (wseq (wseq (wreg (wl rfl (omove (v := .int .i64 40) rfl rfl (ev rfl rfl) ?_))))))
 refine wl rfl (obin (u := .int .i64 40) (v := .int .i64 0) (z := .bool true) rfl rfl (ev rfl rfl) evc (bin_neq (by decide)) ?_)
 refine wnil (thenN ?_)
 refine wT (ev rfl rfl) ?_
 refine wseq (wreg (wl rfl (omove (v := .int .i64 40) rfl rfl (ev rfl rfl) ?_)))
 refine wl rfl (oassign (v := .int .u32 0) rfl rfl evc ?_)
 refine wl rfl (oassign (v := .int .i64 40) rfl rfl (ev rfl rfl) ?_)
 refine wnil (thenN ?_)
 refine wleave ?_
 refine thenR ?_
 refine wret2 Tryd.results22 (tellT (v := .int .u32 0) rfl rfl) (tellT (v := .int .i64 40) rfl rfl) ?_
 exact ⟨_, _, rfl, isI, hS.new0⟩
theorem wxdet2 {pm : Option Addr} {nm cm p : Nat} {M : List (List Nat)} {w : World} (ht : Tb w) (hm : MS w pm nm M) (hp2 : p < 4294967296) (hs : SmallM M) (hp : MR.Pr p) (hr : ¬ RectM M) :
  Calls Tryd.prog 22 #[.slice pm nm cm, .int .u32 ((p : Nat) : Int)] w (Ret (Is (.tuple #[.int .u32 0, .int .i64 2])) w) := by
 have hS := Sep.init w
 refine went Tryd.func22 rfl (n := 27) rfl rfl ?_
 refine wseq (wreg (wl rfl (oassign (v := .int .u32 0) rfl rfl evc ?_)))
 refine wl rfl (oassign (v := .int .i64 0) rfl rfl evc ?_)
 refine wnil (thenN (wseq (wreg (wl rfl (omove (v := .int .u32 (p : Int)) rfl rfl (ev rfl rfl) ?_)))))
 refine wl rfl (omove (v := .slice pm nm cm) rfl rfl (ev rfl rfl) ?_)
 refine wl rfl (ocall rfl rfl Tryd.call38 rfl (wxsquare2 (ht.at hS) (hm.at hS) hp2 hs hp hr) (args2 (ev rfl rfl) (ev rfl rfl)) ?_)
 rintro _ w1 ⟨_, _, rfl, ⟨rfl, rfl⟩, hN⟩
 refine ⟨_, rfl, ?_⟩
 replace hS := hS.news hN; clear hN
 refine wl rfl (omove (v := .tuple #[.agg #[.int .u64 0, .slice none 0 0, .int .i64 0], .int .i64 2]) rfl rfl (ev rfl rfl) ?_)
 refine wl rfl (oextract (vs := [.agg #[.int .u64 0, .slice none 0 0, .int .i64 0], .int .i64 2]) (v := .agg #[.int .u64 0, .slice none 0 0, .int .i64 0]) rfl rfl (ev rfl rfl) rfl ?_)
 refine wl rfl (oextract (vs := [.agg #[.int .u64 0, .slice none 0 0, .int .i64 0], .int .i64 2]) (v := .int .i64 2) rfl rfl (ev rfl rfl) rfl ?_)
 refine wl rfl (oalloc [.int .u64 0, .slice none 0 0, .int .i64 0] hS rfl rfl Tryd.zeroValue63 rfl ?_)
 clear hS; intro g2 w3 hS
 refine wl rfl (ostore [.int .u64 0, .slice none 0 0, .int .i64 0] [.int .u64 0, .slice none 0 0, .int .i64 0] Tryd.sizeOf63 hS 0 rfl rfl (ev rfl rfl) (ev (v := .agg #[.int .u64 0, .slice none 0 0, .int .i64 0]) rfl rfl) rfl rfl rfl rfl rfl rfl ?_)
 clear hS; intro w4 hS
 refine wl rfl (oassign (v := .int .i64 2) rfl rfl (ev rfl rfl) ?_)
 refine wnil (thenN (wseq (wseq (wreg (wl rfl (omove (v := .int .i64 2) rfl rfl (ev rfl rfl) ?_))))))
 refine wl rfl (obin (u := .int .i64 2) (v := .int .i64 0) (z := .bool true) rfl rfl (ev rfl rfl) evc (bin_neq (by decide)) ?_)
 refine wnil (thenN ?_)
 refine wT (ev rfl rfl) ?_
 refine wseq (wreg (wl rfl (omove (v := .int .i64 2) rfl rfl (ev rfl rfl) ?_)))
 refine wl rfl (oassign (v := .int .u32 0) rfl rfl evc ?_)
 refine wl rfl (oassign (v := .int .i64 2) rfl rfl (ev rfl rfl) ?_)
 refine wnil (thenN ?_)
 refine wleave ?_
 refine thenR ?_
 refine wret2 Tryd.results22 (tellT (v := .int .u32 0) rfl rfl) (tellT (v := .int .i64 2) rfl rfl) ?_
 exact ⟨_, _, rfl, isI, hS.new0⟩
theorem wxdet3 {pm : Option Addr} {nm cm p : Nat} {M : List (List Nat)} {w : World} (ht : Tb w) (hm : MS w pm nm M) (hp2 : p < 4294967296) (hs : SmallM M) (hp : MR.Pr p) (hr : RectM M) (hq : ¬ (M.length ≠ 0 ∧ M.length = colsM M)) :
  Calls Tryd.prog 22 #[.slice pm nm cm, .int .u32 ((p : Nat) : Int)] w (Ret (Is (.tuple #[.int .u32 0, .int .i64 3])) w) := by
 have hS := Sep.init w
 refine went Tryd.func22 rfl (n := 27) rfl rfl ?_
 refine wseq (wreg (wl rfl (oassign (v := .int .u32 0) rfl rfl evc ?_)))
 refine wl rfl (oassign (v := .int .i64 0) rfl rfl evc ?_)
 refine wnil (thenN (wseq (wreg (wl rfl (omove (v := .int .u32 (p : Int)) rfl rfl (ev rfl rfl) ?_)))))
 refine wl rfl (omove (v := .slice pm nm cm) rfl rfl (ev rfl rfl) ?_)
 refine wl rfl (ocall rfl rfl Tryd.call38 rfl (wxsquare3 (ht.at hS) (hm.at hS) hp2 hs hp hr hq) (args2 (ev rfl rfl) (ev rfl rfl)) ?_)
 rintro _ w1 ⟨_, _, rfl, ⟨rfl, rfl⟩, hN⟩
 refine ⟨_, rfl, ?_⟩
 replace hS := hS.news hN; clear hN
 refine wl rfl (omove (v := .tuple #[.agg #[.int .u64 0, .slice none 0 0, .int .i64 0], .int .i64 3]) rfl rfl (ev rfl rfl) ?_)
 refine wl rfl (oextract (vs := [.agg #[.int .u64 0, .slice none 0 0, .int .i64 0], .int .i64 3]) (v := .agg #[.int .u64 0, .slice none 0 0, .int .i64 0]) rfl rfl (ev rfl rfl) rfl ?_)
 refine wl rfl (oextract (vs := [.agg #[.int .u64 0, .slice none 0 0, .int .i64 0], .int .i64 3]) (v := .int .i64 3) rfl rfl (ev rfl rfl) rfl ?_)
 refine wl rfl (oalloc [.int .u64 0, .slice none 0 0, .int .i64 0] hS rfl rfl Tryd.zeroValue63 rfl ?_)
 clear hS; intro g2 w3 hS
 refine wl rfl (ostore [.int .u64 0, .slice none 0 0, .int .i64 0] [.int .u64 0, .slice none 0 0, .int .i64 0] Tryd.sizeOf63 hS 0 rfl rfl (ev rfl rfl) (ev (v := .agg #[.int .u64 0, .slice none 0 0, .int .i64 0]) rfl rfl) rfl rfl rfl rfl rfl rfl ?_)
 clear hS; intro w4 hS
 refine wl rfl (oassign (v := .int .i64 3) rfl rfl (ev rfl rfl) ?_)
 refine wnil (thenN (wseq (wseq (wreg (wl rfl (omove (v := .int .i64 3) rfl rfl (ev rfl rfl) ?_))))))
 refine wl rfl (obin (u := .int .i64 3) (v := .int .i64 0) (z := .bool true) rfl rfl (ev rfl rfl) evc (bin_neq (by decide)) ?_)
 refine wnil (thenN ?_)
 refine wT (ev rfl rfl) ?_
 refine wseq (wreg (wl rfl (omove (v := .int .i64 3) rfl rfl (ev rfl rfl) ?_)))
 refine wl rfl (oassign (v := .int .u32 0) rfl rfl evc ?_)
 refine wl rfl (oassign (v := .int .i64 3) rfl rfl (ev rfl rfl) ?_)
 refine wnil (thenN ?_)
 refine wleave ?_
 refine thenR ?_
 refine wret2 Tryd.results22 (tellT (v := .int .u32 0) rfl rfl) (tellT (v := .int .i64 3) rfl rfl) ?_
 exact ⟨_, _, rfl, isI, hS.new0⟩
theorem wxdet {pm : Option Addr} {nm cm p : Nat} {M : List (List Nat)} {w : World} (ht : Tb w) (hm : MS w pm nm M) (hp2 : p < 4294967296) (hs : SmallM M) (hp : MR.Pr p) (hr : RectM M) (h0 : M.length ≠ 0) (hq : M.length = colsM M)  :
  Calls Tryd.prog 22 #[.slice pm nm cm, .int .u32 ((p : Nat) : Int)] w (Ret (Is (.tuple #[.int .u32 ((detTo p (modM p M) (colsM M) : Nat) : Int), .int .i64 0])) w) := by
 have hcb := hs.cols
 have hnb := hs.1
 have hp1 := hp.1
 have hp0 : 0 < p := by omega
 have hshM := hr.shp hp0
 have hS := Sep.init w
 refine went Tryd.func22 rfl (n := 27) rfl rfl ?_
 refine wseq (wreg (wl rfl (oassign (v := .int .u32 0) rfl rfl evc ?_)))
 refine wl rfl (oassign (v := .int .i64 0) rfl rfl evc ?_)
 refine wnil (thenN (wseq (wreg (wl rfl (omove (v := .int .u32 (p : Int)) rfl rfl (ev rfl rfl) ?_)))))
 refine wl rfl (omove (v := .slice pm nm cm) rfl rfl (ev rfl rfl) ?_)
 refine wl rfl (ocall rfl rfl Tryd.call38 rfl (wxsquare (ht.at hS) (hm.at hS) hp2 hs hp hr h0 hq) (args2 (ev rfl rfl) (ev rfl rfl)) ?_)
 rintro _ w1 ⟨_, _, rfl, ⟨pX, cX, QX, hQX, rfl, rfl⟩, hN⟩
 refine ⟨_, rfl, ?_⟩
 replace hS := hS.news hN; clear hN
 refine wl rfl (omove (v := .tuple #[.agg #[.int .u64 (p : Int), .slice pX M.length cX, .int .i64 (((colsM M : Nat) : Int))], .int .i64 0]) rfl rfl (ev rfl rfl) ?_)
 refine wl rfl (oextract (vs := [.agg #[.int .u64 (p : Int), .slice pX M.length cX, .int .i64 (((colsM M : Nat) : Int))], .int .i64 0]) (v := .agg #[.int .u64 (p : Int), .slice pX M.length cX, .int .i64 (((colsM M : Nat) : Int))]) rfl rfl (ev rfl rfl) rfl ?_)
 refine wl rfl (oextract (vs := [.agg #[.int .u64 (p : Int), .slice pX M.length cX, .int .i64 (((colsM M : Nat) : Int))], .int .i64 0]) (v := .int .i64 0) rfl rfl (ev rfl rfl) rfl ?_)
 refine wl rfl (oalloc [.int .u64 0, .slice none 0 0, .int .i64 0] hS rfl rfl Tryd.zeroValue63 rfl ?_)
 clear hS; intro g2 w3 hS
 refine wl rfl (ostore [.int .u64 (p : Int), .slice pX M.length cX, .int .i64 (((colsM M : Nat) : Int))] [.int .u64 (p : Int), .slice pX M.length cX, .int .i64 (((colsM M : Nat) : Int))] Tryd.sizeOf63 hS 0 rfl rfl (ev rfl rfl) (ev (v := .agg #[.int .u64 (p : Int), .slice pX M.length cX, .int .i64 (((colsM M : Nat) : Int))]) rfl rfl) rfl rfl rfl rfl rfl rfl ?_)
 clear hS; intro w4 hS
 refine wl rfl (oassign (v := .int .i64 0) rfl rfl (ev rfl rfl) ?_)
 refine wnil (thenN (wseq (wseq (wreg (wl rfl (omove (v := .int .i64 0) rfl rfl (ev rfl rfl) ?_))))))
 refine wl rfl (obin (u := .int .i64 0) (v := .int .i64 0) (z := .bool false) rfl rfl (ev rfl rfl) evc (bin_neq (by decide)) ?_)
 refine wnil (thenN ?_)
 refine wF (ev rfl rfl) ?_
 refine wskip (thenN (wseq (wreg (wl rfl (oload (vs := [.int .u64 (p : Int), .slice pX M.length cX, .int .i64 (((colsM M : Nat) : Int))]) (show Agg Tryd.prog 63 3 from ⟨Tryd.isAgg63, Tryd.sizeOf63⟩) hS 0 rfl rfl (ev rfl rfl) rfl rfl rfl ?_)))))
 refine wl rfl (ofieldAddr (g := g2) (off := 0) 2 rfl rfl (ev rfl rfl) Tryd.runUnderlying63 rfl Tryd.sizeOf3 rfl ?_)
 refine wl rfl (oload1 (v := .int .i64 (((colsM M : Nat) : Int))) oneI hS 0 rfl rfl (ev rfl rfl) rfl rfl ?_)
 obtain hS := (show Sep w [.lst 52 1 pX M.length cX (mmE QX), .blk g2 [.int .u64 (((p : Nat) : Int)), .slice pX M.length cX, .int .i64 (((colsM M : Nat) : Int))] 63] w4 from hS.pick [1, 0] (by decide) rfl)
 refine wl rfl (ocall rfl rfl Tryd.call42 rfl (wxreduce ht hp hp2 hS (by rw [hQX]; exact hshM) (by omega) (by omega) (by omega)) (args2 (ev rfl rfl) (ev rfl rfl)) ?_)
 rintro _ w5 ⟨_, _, rfl, ⟨pP, cP, PP, DP, QR, hRR, hDP, rfl, rfl⟩, hN⟩
 refine ⟨_, rfl, ?_⟩
 clear hS; have hS := hN; clear hN
 refine wl rfl (omove (v := .tuple #[.slice pP PP.length cP, .int .u32 (DP : Int)]) rfl rfl (ev rfl rfl) ?_)
 refine wl rfl (oextract (vs := [.slice pP PP.length cP, .int .u32 (DP : Int)]) (v := .slice pP PP.length cP) rfl rfl (ev rfl rfl) rfl ?_)
 refine wl rfl (oextract (vs := [.slice pP PP.length cP, .int .u32 (DP : Int)]) (v := .int .u32 (DP : Int)) rfl rfl (ev rfl rfl) rfl ?_)
 refine wl rfl (oassign (v := .slice pP PP.length cP) rfl rfl (ev rfl rfl) ?_)
 refine wl rfl (oassign (v := .int .u32 (DP : Int)) rfl rfl (ev rfl rfl) ?_)
 refine wnil (thenN (wseq (wreg (wl rfl (omove (v := .int .u32 (DP : Int)) rfl rfl (ev rfl rfl) ?_)))))
 refine wl rfl (oassign (v := .int .u32 (DP : Int)) rfl rfl (ev rfl rfl) ?_)
 refine wl rfl (oassign (v := .int .i64 0) rfl rfl evc ?_)
 refine wnil (thenN ?_)
 refine wleave ?_
 refine wret2 Tryd.results22 (tellT (v := .int .u32 (DP : Int)) rfl rfl) (tellT (v := .int .i64 0) rfl rfl) ?_
 have hd : DP = detTo p (modM p M) (colsM M) := by rw [hDP.2 (by rw [hQX, modM_len]; omega), hQX]
 exact ⟨_, _, rfl, ⟨by rw [hd], rfl⟩, hS.new0⟩
theorem wxinverse7 {pm : Option Addr} {nm cm p : Nat} {M : List (List Nat)} {w : World} (ht : Tb w) (hm : MS w pm nm M) (hp2 : p < 4294967296) (hs : SmallM M) (hp : MR.Pr p) (hr : RectM M) (h0 : M.length ≠ 0) (hq : M.length = colsM M) (hns : (redTo p (augM p M) (colsM M)).2.length < colsM M) :
  Calls Tryd.prog 13 #[.slice pm nm cm, .int .u32 ((p : Nat) : Int)] w (Ret (Is (.tuple #[.slice none 0 0, .int .i64 7])) w) := by
 have hcb := hs.cols
 have hnb := hs.1
 have hp1 := hp.1
 have hp0 : 0 < p := by omega
 have hshM := hr.shp hp0
 have hS := Sep.init w
 refine went Tryd.func13 rfl (n := 62) rfl rfl ?_
 refine wseq (wreg (wl rfl (oassign (v := .slice none 0 0) rfl rfl evc ?_)))
 refine wl rfl (oassign (v := .int .i64 0) rfl rfl evc ?_)
 refine wnil (thenN (wseq (wreg (wl rfl (omove (v := .int .u32 (p : Int)) rfl rfl (ev rfl rfl) ?_)))))
 refine wl rfl (omove (v := .slice pm nm cm) rfl rfl (ev rfl rfl) ?_)
 refine wl rfl (ocall rfl rfl Tryd.call38 rfl (wxsquare (ht.at hS) (hm.at hS) hp2 hs hp hr h0 hq) (args2 (ev rfl rfl) (ev rfl rfl)) ?_)
 rintro _ w1 ⟨_, _, rfl, ⟨pX, cX, QX, hQX, rfl, rfl⟩, hN⟩
 refine ⟨_, rfl, ?_⟩
 replace hS := hS.news hN; clear hN
 refine wl rfl (omove (v := .tuple #[.agg #[.int .u64 (p : Int), .slice pX M.length cX, .int .i64 (((colsM M : Nat) : Int))], .int .i64 0]) rfl rfl (ev rfl rfl) ?_)
 refine wl rfl (oextract (vs := [.agg #[.int .u64 (p : Int), .slice pX M.length cX, .int .i64 (((colsM M : Nat) : Int))], .int .i64 0]) (v := .agg #[.int .u64 (p : Int), .slice pX M.length cX, .int .i64 (((colsM M : Nat) : Int))]) rfl rfl (ev rfl rfl) rfl ?_)
 refine wl rfl (oextract (vs := [.agg #[.int .u64 (p : Int), .slice pX M.length cX, .int .i64 (((colsM M : Nat) : Int))], .int .i64 0]) (v := .int .i64 0) rfl rfl (ev rfl rfl) rfl ?_)
 refine wl rfl (oalloc [.int .u64 0, .slice none 0 0, .int .i64 0] hS rfl rfl Tryd.zeroValue63 rfl ?_)
 clear hS; intro g2 w3 hS
 refine wl rfl (ostore [.int .u64 (p : Int), .slice pX M.length cX, .int .i64 (((colsM M : Nat) : Int))] [.int .u64 (p : Int), .slice pX M.length cX, .int .i64 (((colsM M : Nat) : Int))] Tryd.sizeOf63 hS 0 rfl rfl (ev rfl rfl) (ev (v := .agg #[.int .u64 (p : Int), .slice pX M.length cX, .int .i64 (((colsM M : Nat) : Int))]) rfl rfl) rfl rfl rfl rfl rfl rfl ?_)
 clear hS; intro w4 hS
 refine wl rfl (oassign (v := .int .i64 0) rfl rfl (ev rfl rfl) ?_)
 refine wnil (thenN (wseq (wseq (wreg (wl rfl (omove (v := .int .i64 0) rfl rfl (ev rfl rfl) ?_))))))
 refine wl rfl (obin (u := .int .i64 0) (v := .int .i64 0) (z := .bool false) rfl rfl (ev rfl rfl) evc (bin_neq (by decide)) ?_)
 refine wnil (thenN ?_)
 refine wF (ev rfl rfl) ?_
 refine wskip (thenN (wseq (wreg (wl rfl (ofieldAddr (g := g2) (off := 0) 0 rfl rfl (ev rfl rfl) Tryd.runUnderlying63 rfl Tryd.sizeOf47 rfl ?_)))))
 refine wl rfl (oload1 (v := .int .u64 (p : Int)) (show One Tryd.prog 47 from ⟨Tryd.isAgg47, Tryd.sizeOf47⟩) hS 0 rfl rfl (ev rfl rfl) rfl rfl ?_)
 refine wl rfl (ofieldAddr (g := g2) (off := 0) 2 rfl rfl (ev rfl rfl) Tryd.runUnderlying63 rfl Tryd.sizeOf3 rfl ?_)
 refine wl rfl (oload1 (v := .int .i64 (((colsM M : Nat) : Int))) oneI hS 0 rfl rfl (ev rfl rfl) rfl rfl ?_)
 refine wl rfl (ocall rfl rfl Tryd.call39 rfl (wxone (by omega)) (args2 (ev rfl rfl) (ev rfl rfl)) ?_)
 rintro _ w5 ⟨_, _, rfl, ⟨pI, cI, QI, hQI, rfl, rfl⟩, hN⟩
 refine ⟨_, rfl, ?_⟩
 replace hS := hS.news hN; clear hN
 refine wl rfl (oalloc [.int .u64 0, .slice none 0 0, .int .i64 0] hS rfl rfl Tryd.zeroValue63 rfl ?_)
 clear hS; intro g6 w7 hS
 refine wl rfl (ostore [.int .u64 (p : Int), .slice pI (colsM M) cI, .int .i64 (((colsM M : Nat) : Int))] [.int .u64 (p : Int), .slice pI (colsM M) cI, .int .i64 (((colsM M : Nat) : Int))] Tryd.sizeOf63 hS 0 rfl rfl (ev rfl rfl) (ev (v := .agg #[.int .u64 (p : Int), .slice pI (colsM M) cI, .int .i64 (((colsM M : Nat) : Int))]) rfl rfl) rfl rfl rfl rfl rfl rfl ?_)
 clear hS; intro w8 hS
 refine wnil (thenN (wseq (wreg (wl rfl (oload (vs := [.int .u64 (p : Int), .slice pX M.length cX, .int .i64 (((colsM M : Nat) : Int))]) (show Agg Tryd.prog 63 3 from ⟨Tryd.isAgg63, Tryd.sizeOf63⟩) hS 2 rfl rfl (ev rfl rfl) rfl rfl rfl ?_)))))
 refine wl rfl (omakeFunc (cs := #[.pointer (some ⟨g6, 0, none⟩)]) rfl rfl (args1 (ev rfl rfl)) ?_)
 skip
 obtain hS := (show Sep w [.lst 52 1 pX M.length cX (mmE QX), .lst 52 1 pI (colsM M) cI (mmE QI), .blk g6 [.int .u64 (((p : Nat) : Int)), .slice pI (colsM M) cI, .int .i64 (((colsM M : Nat) : Int))] 63, .blk g2 [.int .u64 (((p : Nat) : Int)), .slice pX M.length cX, .int .i64 (((colsM M : Nat) : Int))] 63] w8 from hS.pick [3, 1, 0, 2] (by decide) rfl)
 refine wl rfl (ocall rfl rfl Tryd.call40 rfl (wxbeside hS (by rw [hQX]; exact hshM) (by rw [hQI]; exact idM_shp (by omega)) (hq) (by omega) (by omega) (by omega) (by omega) (by omega)) (args2 (ev rfl rfl) (ev rfl rfl)) ?_)
 rintro _ w9 ⟨_, _, rfl, ⟨QB, hQB, rfl, rfl⟩, hN⟩
 refine ⟨_, rfl, ?_⟩
 clear hS; have hS := hN; clear hN
 refine wl rfl (ostore [.int .u64 (p : Int), .slice pX M.length cX, .int .i64 (((colsM M : Nat) : Int))] [.int .u64 (p : Int), .slice pX M.length cX, .int .i64 (((colsM M : Nat) : Int))] Tryd.sizeOf63 hS 3 rfl rfl (ev rfl rfl) (ev (v := .agg #[.int .u64 (p : Int), .slice pX M.length cX, .int .i64 (((colsM M : Nat) : Int))]) rfl rfl) rfl rfl rfl rfl rfl rfl ?_)
 clear hS; intro w10 hS
 refine wnil (thenN (wseq (wseq (wreg (wl rfl (oload (vs := [.int .u64 (p : Int), .slice pX M.length cX, .int .i64 (((colsM M : Nat) : Int))]) (show Agg Tryd.prog 63 3 from ⟨Tryd.isAgg63, Tryd.sizeOf63⟩) hS 3 rfl rfl (ev rfl rfl) rfl rfl rfl ?_))))))
 refine wl rfl (ofieldAddr (g := g2) (off := 0) 2 rfl rfl (ev rfl rfl) Tryd.runUnderlying63 rfl Tryd.sizeOf3 rfl ?_)
 refine wl rfl (oload1 (v := .int .i64 (((colsM M : Nat) : Int))) oneI hS 3 rfl rfl (ev rfl rfl) rfl rfl ?_)
 refine wl rfl (ocall rfl rfl Tryd.call42 rfl (wxreduce ht hp hp2 hS (by rw [hQB, hQX, hQI]; exact augM_shp (by omega) hr hq) (by omega) (by omega) (by omega)) (args2 (ev rfl rfl) (ev rfl rfl)) ?_)
 rintro _ w11 ⟨_, _, rfl, ⟨pP, cP, PP, DP, QR, hRR, hDP, rfl, rfl⟩, hN⟩
 refine ⟨_, rfl, ?_⟩
 clear hS; have hS := hN; clear hN
 refine wl rfl (omove (v := .tuple #[.slice pP PP.length cP, .int .u32 (DP : Int)]) rfl rfl (ev rfl rfl) ?_)
 refine wl rfl (oextract (vs := [.slice pP PP.length cP, .int .u32 (DP : Int)]) (v := .slice pP PP.length cP) rfl rfl (ev rfl rfl) rfl ?_)
 refine wl rfl (oextract (vs := [.slice pP PP.length cP, .int .u32 (DP : Int)]) (v := .int .u32 (DP : Int)) rfl rfl (ev rfl rfl) rfl ?_)
 refine wl rfl (oassign (v := .slice pP PP.length cP) rfl rfl (ev rfl rfl) ?_)
 refine wl rfl (oassign (v := .int .u32 (DP : Int)) rfl rfl (ev rfl rfl) ?_)
 refine wnil (thenN (wseq (wreg (wl rfl (omove (v := .slice pP PP.length cP) rfl rfl (ev rfl rfl) ?_)))))
 refine wl rfl (olen rfl rfl rfl Tryd.runUnderlying35 (p := pP) (k := PP.length) (m := cP) (ev rfl rfl) ?_)
 refine wl rfl (ofieldAddr (g := g2) (off := 0) 2 rfl rfl (ev rfl rfl) Tryd.runUnderlying63 rfl Tryd.sizeOf3 rfl ?_)
 refine wl rfl (oload1 (v := .int .i64 (((colsM M : Nat) : Int))) oneI hS 4 rfl rfl (ev rfl rfl) rfl rfl ?_)
 have hAug : nums QB = augM p M := by rw [hQB, hQX, hQI]; rfl
 rw [hAug] at hRR
 rw [hRR] at hns
 refine wl rfl (obin (u := .int .i64 (PP.length : Int)) (v := .int .i64 (((colsM M : Nat) : Int))) (z := .bool true) rfl rfl (ev rfl rfl) (ev rfl rfl) (bin_lss (decide_eq_true (by simp only at hns; omega))) ?_)
 refine wnil (thenN ?_)
 refine wT (ev rfl rfl) ?_
 refine wseq (wreg (wl rfl (oassign (v := .slice none 0 0) rfl rfl evc ?_)))
 refine wl rfl (oassign (v := .int .i64 7) rfl rfl evc ?_)
 refine wnil (thenN ?_)
 refine wleave ?_
 refine thenR ?_
 refine wret2 Tryd.results13 (tellT (v := .slice none 0 0) rfl rfl) (tellT (v := .int .i64 7) rfl rfl) ?_
 exact ⟨_, _, rfl, isI, hS.new0⟩
theorem wxinverse {pm : Option Addr} {nm cm p : Nat} {M : List (List Nat)} {w : World} (ht : Tb w) (hm : MS w pm nm M) (hp2 : p < 4294967296) (hs : SmallM M) (hp : MR.Pr p) (hr : RectM M) (h0 : M.length ≠ 0) (hq : M.length = colsM M) (hns : ¬ (redTo p (augM p M) (colsM M)).2.length < colsM M) :
  Calls Tryd.prog 13 #[.slice pm nm cm, .int .u32 ((p : Nat) : Int)] w (Ret (MmE ((redTo p (augM p M) (colsM M)).1.map (·.drop (colsM M))) 0) w) := by
 have hcb := hs.cols
 have hnb := hs.1
 have hp1 := hp.1
 have hp0 : 0 < p := by omega
 have hshM := hr.shp hp0
 have hS := Sep.init w
 refine went Tryd.func13 rfl (n := 62) rfl rfl ?_
 refine wseq (wreg (wl rfl (oassign (v := .slice none 0 0) rfl rfl evc ?_)))
 refine wl rfl (oassign (v := .int .i64 0) rfl rfl evc ?_)
 refine wnil (thenN (wseq (wreg (wl rfl (omove (v := .int .u32 (p : Int)) rfl rfl (ev rfl rfl) ?_)))))
 refine wl rfl (omove (v := .slice pm nm cm) rfl rfl (ev rfl rfl) ?_)
 refine wl rfl (ocall rfl rfl Tryd.call38 rfl (wxsquare (ht.at hS) (hm.at hS) hp2 hs hp hr h0 hq) (args2 (ev rfl rfl) (ev rfl rfl)) ?_)
 rintro _ w1 ⟨_, _, rfl, ⟨pX, cX, QX, hQX, rfl, rfl⟩, hN⟩
 refine ⟨_, rfl, ?_⟩
 replace hS := hS.news hN; clear hN
 refine wl rfl (omove (v := .tuple #[.agg #[.int .u64 (p : Int), .slice pX M.length cX, .int .i64 (((colsM M : Nat) : Int))], .int .i64 0]) rfl rfl (ev rfl rfl) ?_)
 refine wl rfl (oextract (vs := [.agg #[.int .u64 (p : Int), .slice pX M.length cX, .int .i64 (((colsM M : Nat) : Int))], .int .i64 0]) (v := .agg #[.int .u64 (p : Int), .slice pX M.length cX, .int .i64 (((colsM M : Nat) : Int))]) rfl rfl (ev rfl rfl) rfl ?_)
 refine wl rfl (oextract (vs := [.agg #[.int .u64 (p : Int), .slice pX M.length cX, .int .i64 (((colsM M : Nat) : Int))], .int .i64 0]) (v := .int .i64 0) rfl rfl (ev rfl rfl) rfl ?_)
 refine wl rfl (oalloc [.int .u64 0, .slice none 0 0, .int .i64 0] hS rfl rfl Tryd.zeroValue63 rfl ?_)
 clear hS; intro g2 w3 hS
 refine wl rfl (ostore [.int .u64 (p : Int), .slice pX M.length cX, .int .i64 (((colsM M : Nat) : Int))] [.int .u64 (p : Int), .slice pX M.length cX, .int .i64 (((colsM M : Nat) : Int))] Tryd.sizeOf63 hS 0 rfl rfl (ev rfl rfl) (ev (v := .agg #[.int .u64 (p : Int), .slice pX M.length cX, .int .i64 (((colsM M : Nat) : Int))]) rfl rfl) rfl rfl rfl rfl rfl rfl ?_)
 clear hS; intro w4 hS
 refine wl rfl (oassign (v := .int .i64 0) rfl rfl (ev rfl rfl) ?_)
 refine wnil (thenN (wseq (wseq (wreg (wl rfl (omove (v := .int .i64 0) rfl rfl (ev rfl rfl) ?_))))))
 refine wl rfl (obin (u := .int .i64 0) (v := .int .i64 0) (z := .bool false) rfl rfl (ev rfl rfl) evc (bin_neq (by decide)) ?_)
 refine wnil (thenN ?_)
 refine wF (ev rfl rfl) ?_
 refine wskip (thenN (wseq (wreg (wl rfl (ofieldAddr (g := g2) (off := 0) 0 rfl rfl (ev rfl rfl) Tryd.runUnderlying63 rfl Tryd.sizeOf47 rfl ?_)))))
 refine wl rfl (oload1 (v := .int .u64 (p : Int)) (show One Tryd.prog 47 from ⟨Tryd.isAgg47, Tryd.sizeOf47⟩) hS 0 rfl rfl (ev rfl rfl) rfl rfl ?_)
 refine wl rfl (ofieldAddr (g := g2) (off := 0) 2 rfl rfl (ev rfl rfl) Tryd.runUnderlying63 rfl Tryd.sizeOf3 rfl ?_)
 refine wl rfl (oload1 (v := .int .i64 (((colsM M : Nat) : Int))) oneI hS 0 rfl rfl (ev rfl rfl) rfl rfl ?_)
 refine wl rfl (ocall rfl rfl Tryd.call39 rfl (wxone (by omega)) (args2 (ev rfl rfl) (ev rfl rfl)) ?_)
 rintro _ w5 ⟨_, _, rfl, ⟨pI, cI, QI, hQI, rfl, rfl⟩, hN⟩
 refine ⟨_, rfl, ?_⟩
 replace hS := hS.news hN; clear hN
 refine wl rfl (oalloc [.int .u64 0, .slice none 0 0, .int .i64 0] hS rfl rfl Tryd.zeroValue63 rfl ?_)
 clear hS; intro g6 w7 hS
 refine wl rfl (ostore [.int .u64 (p : Int), .slice pI (colsM M) cI, .int .i64 (((colsM M : Nat) : Int))] [.int .u64 (p : Int), .slice pI (colsM M) cI, .int .i64 (((colsM M : Nat) : Int))] Tryd.sizeOf63 hS 0 rfl rfl (ev rfl rfl) (ev (v := .agg #[.int .u64 (p : Int), .slice pI (colsM M) cI, .int .i64 (((colsM M : Nat) : Int))]) rfl rfl) rfl rfl rfl rfl rfl rfl ?_)
 clear hS; intro w8 hS
 refine wnil (thenN (wseq (wreg (wl rfl (oload (vs := [.int .u64 (p : Int), .slice pX M.length cX, .int .i64 (((colsM M : Nat) : Int))]) (show Agg Tryd.prog 63 3 from ⟨Tryd.isAgg63, Tryd.sizeOf63⟩) hS 2 rfl rfl (ev rfl rfl) rfl rfl rfl ?_)))))
 refine wl rfl (omakeFunc (cs := #[.pointer (some ⟨g6, 0, none⟩)]) rfl rfl (args1 (ev rfl rfl)) ?_)
 skip
 obtain hS := (show Sep w [.lst 52 1 pX M.length cX (mmE QX), .lst 52 1 pI (colsM M) cI (mmE QI), .blk g6 [.int .u64 (((p : Nat) : Int)), .slice pI (colsM M) cI, .int .i64 (((colsM M : Nat) : Int))] 63, .blk g2 [.int .u64 (((p : Nat) : Int)), .slice pX M.length cX, .int .i64 (((colsM M : Nat) : Int))] 63] w8 from hS.pick [3, 1, 0, 2] (by decide) rfl)
 refine wl rfl (ocall rfl rfl Tryd.call40 rfl (wxbeside hS (by rw [hQX]; exact hshM) (by rw [hQI]; exact idM_shp (by omega)) (hq) (by omega) (by omega) (by omega) (by omega) (by omega)) (args2 (ev rfl rfl) (ev rfl rfl)) ?_)
 rintro _ w9 ⟨_, _, rfl, ⟨QB, hQB, rfl, rfl⟩, hN⟩
 refine ⟨_, rfl, ?_⟩
 clear hS; have hS := hN; clear hN
 refine wl rfl (ostore [.int .u64 (p : Int), .slice pX M.length cX, .int .i64 (((colsM M : Nat) : Int))] [.int .u64 (p : Int), .slice pX M.length cX, .int .i64 (((colsM M : Nat) : Int))] Tryd.sizeOf63 hS 3 rfl rfl (ev rfl rfl) (ev (v := .agg #[.int .u64 (p : Int), .slice pX M.length cX, .int .i64 (((colsM M : Nat) : Int))]) rfl rfl) rfl rfl rfl rfl rfl rfl ?_)
 clear hS; intro w10 hS
 refine wnil (thenN (wseq (wseq (wreg (wl rfl (oload (vs := [.int .u64 (p : Int), .slice pX M.length cX, .int .i64 (((colsM M : Nat) : Int))]) (show Agg Tryd.prog 63 3 from ⟨Tryd.isAgg63, Tryd.sizeOf63⟩) hS 3 rfl rfl (ev rfl rfl) rfl rfl rfl ?_))))))
 refine wl rfl (ofieldAddr (g := g2) (off := 0) 2 rfl rfl (ev rfl rfl) Tryd.runUnderlying63 rfl Tryd.sizeOf3 rfl ?_)
 refine wl rfl (oload1 (v := .int .i64 (((colsM M : Nat) : Int))) oneI hS 3 rfl rfl (ev rfl rfl) rfl rfl ?_)
 refine wl rfl (ocall rfl rfl Tryd.call42 rfl (wxreduce ht hp hp2 hS (by rw [hQB, hQX, hQI]; exact augM_shp (by omega) hr hq) (by omega) (by omega) (by omega)) (args2 (ev rfl rfl) (ev rfl rfl)) ?_)
 rintro _ w11 ⟨_, _, rfl, ⟨pP, cP, PP, DP, QR, hRR, hDP, rfl, rfl⟩, hN⟩
 refine ⟨_, rfl, ?_⟩
 clear hS; have hS := hN; clear hN
 refine wl rfl (omove (v := .tuple #[.slice pP PP.length cP, .int .u32 (DP : Int)]) rfl rfl (ev rfl rfl) ?_)
 refine wl rfl (oextract (vs := [.slice pP PP.length cP, .int .u32 (DP : Int)]) (v := .slice pP PP.length cP) rfl rfl (ev rfl rfl) rfl ?_)
 refine wl rfl (oextract (vs := [.slice pP PP.length cP, .int .u32 (DP : Int)]) (v := .int .u32 (DP : Int)) rfl rfl (ev rfl rfl) rfl ?_)
 refine wl rfl (oassign (v := .slice pP PP.length cP) rfl rfl (ev rfl rfl) ?_)
 refine wl rfl (oassign (v := .int .u32 (DP : Int)) rfl rfl (ev rfl rfl) ?_)
 refine wnil (thenN (wseq (wreg (wl rfl (omove (v := .slice pP PP.length cP) rfl rfl (ev rfl rfl) ?_)))))
 refine wl rfl (olen rfl rfl rfl Tryd.runUnderlying35 (p := pP) (k := PP.length) (m := cP) (ev rfl rfl) ?_)
 refine wl rfl (ofieldAddr (g := g2) (off := 0) 2 rfl rfl (ev rfl rfl) Tryd.runUnderlying63 rfl Tryd.sizeOf3 rfl ?_)
 refine wl rfl (oload1 (v := .int .i64 (((colsM M : Nat) : Int))) oneI hS 4 rfl rfl (ev rfl rfl) rfl rfl ?_)
 have hAug : nums QB = augM p M := by rw [hQB, hQX, hQI]; rfl
 rw [hAug] at hRR
 obtain ⟨j1, j2, _⟩ := redTo_inv (augM_shp (p := p) (by omega) hr hq) hp0 (colsM M)
 rw [hRR] at j1 j2 hns ⊢
 simp only at j1 j2 hns ⊢
 rw [augM_len] at j1
 refine wl rfl (obin (u := .int .i64 (PP.length : Int)) (v := .int .i64 (((colsM M : Nat) : Int))) (z := .bool false) rfl rfl (ev rfl rfl) (ev rfl rfl) (bin_lss (decide_eq_false (by omega))) ?_)
 refine wnil (thenN ?_)
 refine wF (ev rfl rfl) ?_
 refine wskip (thenN (wseq (wseq (wreg (wl rfl (ofieldAddr (g := g2) (off := 0) 1 rfl rfl (ev rfl rfl) Tryd.runUnderlying63 rfl Tryd.sizeOf25 rfl ?_))))))
 refine wl rfl (oload1 (v := .slice pX M.length cX) (show One Tryd.prog 25 from ⟨Tryd.isAgg25, Tryd.sizeOf25⟩) hS 4 rfl rfl (ev rfl rfl) rfl rfl ?_)
 refine wl rfl (olen rfl rfl rfl Tryd.runUnderlying25 (p := pX) (k := M.length) (m := cX) (ev rfl rfl) ?_)
 refine wl rfl (omove (v := .int .i64 0) rfl rfl evc ?_)
 refine wnil (thenN (wblock ?_))
 refine wloop (σ := Nat) (fun i a9 w' => ∃ (fb : Nat → Value) (Qi : List Rw), a9 = act 62 (sets fb [(4, .slice none 0 0), (5, .int .i64 0), (6, .pointer (some ⟨g2, 0, none⟩)), (43, .slice pX M.length cX), (44, .int .i64 (M.length : Int)), (45, .int .i64 (i : Int))]) ∧ Sep w [.lst 3 1 pP PP.length cP (intE PP), .lst 52 1 pX M.length cX (mmE Qi), .lst 52 1 pI (colsM M) cI (mmE QI), .blk g6 [.int .u64 (p : Int), .slice pI (colsM M) cI, .int .i64 (((colsM M : Nat) : Int))] 63, .blk g2 [.int .u64 (p : Int), .slice pX M.length cX, .int .i64 (((colsM M : Nat) : Int))] 63] w' ∧ (i ≤ M.length) ∧ (nums Qi = dropTo (colsM M) (nums QR) i)) (fun i => M.length - i) (0) ⟨_, QR, act_sets (l := [(4, .slice none 0 0), (5, .int .i64 0), (6, .pointer (some ⟨g2, 0, none⟩)), (43, .slice pX M.length cX), (44, .int .i64 (M.length : Int)), (45, .int .i64 0)]) ⟨rfl, rfl, rfl, rfl, rfl, rfl, trivial⟩, hS, Nat.zero_le _, rfl⟩ ?_
 clear hS; rintro i _ w12 ⟨fb, Qi, rfl, hS, hi, hQi⟩
 refine wseq (wreg ?_)
 by_cases hlt : i < M.length
 ·
  have hQin : Qi.length = M.length := by rw [nums_lenE hQi, dropTo_len]; exact j1
  refine wl rfl (obin (u := .int .i64 (i : Int)) (v := .int .i64 (M.length : Int)) (z := .bool true) rfl rfl (ev rfl rfl) (ev rfl rfl) (bin_lss (decide_eq_true (by omega))) ?_)
  refine wnil (thenN (wseq ?_))
  refine wT (ev rfl rfl) ?_
  refine wskip (thenN (wseq (wblock (wseq (wreg (wl rfl (omove (v := .int .i64 (i : Int)) rfl rfl (ev rfl rfl) ?_)))))))
  obtain ⟨gR, hgR⟩ := hS.lstPtr 1 rfl (by omega)
  obtain ⟨⟨pa, ca, xa⟩, hqa⟩ : ∃ q, (Qi)[i]? = some q := ⟨_, List.getElem?_eq_getElem (by omega)⟩
  have hda : (nums (Qi)).getD i [] = xa := getD_get (nums_get hqa)
  have hna : xa.length = colsM M + colsM M := by rw [← hda, hQi, dropTo_from (Nat.le_refl _)]; exact (j2.at (by omega)).1
  obtain ⟨ga, hga⟩ := hS.mPtr 1 rfl hqa (by show 0 < xa.length; omega)
  refine wl rfl (oindex (p := pX) (g := gR) (off := 0) (m := M.length) (k := i) (j := (0 + i * 1)) rfl rfl Tryd.runUnderlying25 Tryd.sizeOf52 (ev rfl rfl) (hgR) (ev rfl rfl) (by omega) rfl ?_)
  refine wl rfl (oloadc (v := .slice pa ((colsM M + colsM M)) ca) (show One Tryd.prog 52 from ⟨Tryd.isAgg52, Tryd.sizeOf52⟩) rfl rfl (ev (v := .pointer (some ⟨gR, (0 + i * 1), none⟩)) rfl rfl) (hS.mRow 1 rfl hqa hna hgR) ?_)
  refine wl rfl (oassign (v := .int .i64 (i : Int)) rfl rfl (ev rfl rfl) ?_)
  refine wl rfl (oassign (v := .slice pa ((colsM M + colsM M)) ca) rfl rfl (ev rfl rfl) ?_)
  refine wnil (thenN ?_)
  refine wstage 9 [50, 51, 52, 53, 54, 55, 56, 57, 58] [[], [0], [], [], [], [4], [3, 5, 4], [6, 3, 4, 5], [1, 2, 0, 3, 4, 5, 6, 7]] [[], [], [], [], [], [], [], [], []] [] [] (fun i9 => ([fun _ => Is (.pointer (some ⟨g2, 1, none⟩)), fun _ => Is (.slice pX M.length cX), fun _ => Is (.int .i64 (i : Int)), fun _ => Is (.slice pa ((colsM M + colsM M)) ca), fun _ => Is (.pointer (some ⟨g2, 2, none⟩)), fun _ => Is (.int .i64 (((colsM M : Nat) : Int))), fun _ => Is (.slice (some ⟨ga, 0 + (colsM M) * 1, none⟩) (((colsM M + colsM M) - colsM M)) ((ca - colsM M))), fun _ => Nw (xa.drop (colsM M)), fun _ => Is (.pointer (some ⟨gR, (0 + i * 1), none⟩))] : List (List Value → Tell)).getD i9 (fun _ _ _ => False)) (heldNil) (fun d _ _ _ _ h => (by cases d <;> exact h)) (by kernel_rfl) (by kernel_rfl) (by kernel_rfl) hS ?_ ?_
  ·
   refine stepsCons rfl (fun Q f' w' ρ S ho hT hS hB => ?_) ?_
   ·exact .inl ⟨want_none rfl, ofieldAddr (g := g2) (off := 0) 1 rfl rfl (ev rfl (ho 6 rfl)) Tryd.runUnderlying63 rfl Tryd.sizeOf25 rfl ⟨_, _, rfl, isI, New.same _⟩⟩
   refine stepsCons rfl (fun Q f' w' ρ S ho hT hS hB => ?_) ?_
   ·obtain ⟨hv0, hr0⟩ := (hT 0 50 rfl rfl : (Is (.pointer (some ⟨g2, 1, none⟩))) _ _)
    obtain hS := hS.flat1 hr0
    exact .inl ⟨want_none rfl, oload1 (v := .slice pX M.length cX) (show One Tryd.prog 25 from ⟨Tryd.isAgg25, Tryd.sizeOf25⟩) hS 4 rfl rfl (ev rfl hv0) rfl rfl ⟨_, _, rfl, isI, New.same _⟩⟩
   refine stepsCons rfl (fun Q f' w' ρ S ho hT hS hB => ?_) ?_
   ·exact .inl ⟨want_none rfl, omove (v := .int .i64 (i : Int)) rfl rfl (ev rfl (ho 11 rfl)) ⟨_, _, rfl, isI, New.same _⟩⟩
   refine stepsCons rfl (fun Q f' w' ρ S ho hT hS hB => ?_) ?_
   ·exact .inl ⟨want_none rfl, omove (v := .slice pa ((colsM M + colsM M)) ca) rfl rfl (ev rfl (ho 12 rfl)) ⟨_, _, rfl, isI, New.same _⟩⟩
   refine stepsCons rfl (fun Q f' w' ρ S ho hT hS hB => ?_) ?_
   ·exact .inl ⟨want_none rfl, ofieldAddr (g := g2) (off := 0) 2 rfl rfl (ev rfl (ho 6 rfl)) Tryd.runUnderlying63 rfl Tryd.sizeOf3 rfl ⟨_, _, rfl, isI, New.same _⟩⟩
   refine stepsCons rfl (fun Q f' w' ρ S ho hT hS hB => ?_) ?_
   ·obtain ⟨hv4, hr4⟩ := (hT 4 54 rfl rfl : (Is (.pointer (some ⟨g2, 2, none⟩))) _ _)
    obtain hS := hS.flat1 hr4
    exact .inl ⟨want_none rfl, oload1 (v := .int .i64 (((colsM M : Nat) : Int))) oneI hS 4 rfl rfl (ev rfl hv4) rfl rfl ⟨_, _, rfl, isI, New.same _⟩⟩
   refine stepsCons rfl (fun Q f' w' ρ S ho hT hS hB => ?_) ?_
   ·obtain ⟨hv3, hr3⟩ := (hT 3 53 rfl rfl : (Is (.slice pa ((colsM M + colsM M)) ca)) _ _)
    obtain ⟨hv5, hr5⟩ := (hT 5 55 rfl rfl : (Is (.int .i64 (((colsM M : Nat) : Int)))) _ _)
    obtain hS := hS.flat2 hr3 hr5
    exact .inl ⟨want_none rfl, osliceL (g := ga) (off := 0) (l := (colsM M)) (m := ((colsM M + colsM M))) (c := ca) rfl rfl Tryd.underlying52 Tryd.sizeOf27 (ev (v := .slice pa ((colsM M + colsM M)) ca) rfl hv3) hga (ev (v := .int .i64 (((colsM M : Nat) : Int))) rfl hv5) (by omega) (by have h9 := (hS.mFr 1 rfl hqa).sl.le; have := hna; omega) ⟨_, _, rfl, isI, New.same _⟩⟩
   refine stepsCons rfl (fun Q f' w' ρ S ho hT hS hB => ?_) ?_
   ·obtain ⟨hv6, hr6⟩ := (hT 6 56 rfl rfl : (Is (.slice (some ⟨ga, 0 + (colsM M) * 1, none⟩) (((colsM M + colsM M) - colsM M)) ((ca - colsM M)))) _ _)
    obtain hS := hS.flat1 hr6
    exact .inl ⟨want_none rfl, ocall rfl rfl Tryd.call43 rfl (wxclone (Sl.dropR (hS.mFr 1 rfl hqa).sl hga hna (by omega)) (by omega)) (args1 (ev rfl hv6)) callN⟩
   refine stepsCons rfl (fun Q f' w' ρ S ho hT hS hB => ?_) ?_
   ·obtain ⟨hv1, hr1⟩ := (hT 1 51 rfl rfl : (Is (.slice pX M.length cX)) _ _)
    obtain ⟨hv2, hr2⟩ := (hT 2 52 rfl rfl : (Is (.int .i64 (((i : Nat) : Int)))) _ _)
    obtain hS := hS.flat2 hr1 hr2
    exact .inl ⟨want_none rfl, oindex (p := pX) (g := gR) (off := 0) (m := M.length) (k := i) (j := (0 + i * 1)) rfl rfl Tryd.runUnderlying25 Tryd.sizeOf52 (ev rfl hv1) (hgR) (ev rfl hv2) (by omega) rfl ⟨_, _, rfl, isI, New.same _⟩⟩
   exact stepsNil
  ·
   intro vs ρ w13 f' hf hT hS
   obtain ⟨hv0, hr0⟩ := (hT 0 (by decide) : (Is (.pointer (some ⟨g2, 1, none⟩))) _ _)
   obtain ⟨hv1, hr1⟩ := (hT 1 (by decide) : (Is (.slice pX M.length cX)) _ _)
   obtain ⟨hv2, hr2⟩ := (hT 2 (by decide) : (Is (.int .i64 (((i : Nat) : Int)))) _ _)
   obtain ⟨hv3, hr3⟩ := (hT 3 (by decide) : (Is (.slice pa ((colsM M + colsM M)) ca)) _ _)
   obtain ⟨hv4, hr4⟩ := (hT 4 (by decide) : (Is (.pointer (some ⟨g2, 2, none⟩))) _ _)
   obtain ⟨hv5, hr5⟩ := (hT 5 (by decide) : (Is (.int .i64 (((colsM M : Nat) : Int)))) _ _)
   obtain ⟨hv6, hr6⟩ := (hT 6 (by decide) : (Is (.slice (some ⟨ga, 0 + (colsM M) * 1, none⟩) (((colsM M + colsM M) - colsM M)) ((ca - colsM M)))) _ _)
   obtain ⟨pK, nK, cK, hv7, hr7⟩ := (hT 7 (by decide) : (Nw (xa.drop (colsM M))) _ _)
   obtain ⟨hv8, hr8⟩ := (hT 8 (by decide) : (Is (.pointer (some ⟨gR, (0 + i * 1), none⟩))) _ _)
   simp only [pool, if_true, hr0, hr1, hr2, hr3, hr4, hr5, hr6, hr7, hr8, List.nil_append, List.cons_append, List.append_nil] at hS
   simp only [layf, hv0, hv1, hv2, hv3, hv4, hv5, hv6, hv7, hv8] at hf
   subst hf; clear hT hv0 hv1 hv2 hv3 hv4 hv5 hv6 hv7 hv8 hr0 hr1 hr2 hr3 hr4 hr5 hr6 hr7 hr8
   have hKl := (hS.slm 0 rfl).len
   obtain hS := (show Sep w [.rowm pK nK cK (xa.drop (colsM M)), .lst 52 1 pX M.length cX (mmE Qi), .lst 3 1 pP PP.length cP (intE PP), .lst 52 1 pI (colsM M) cI (mmE QI), .blk g6 [.int .u64 (((p : Nat) : Int)), .slice pI (colsM M) cI, .int .i64 (((colsM M : Nat) : Int))] 63, .blk g2 [.int .u64 (((p : Nat) : Int)), .slice pX M.length cX, .int .i64 (((colsM M : Nat) : Int))] 63] w13 from hS.pick [0, 2, 1, 3, 4, 5] (by decide) rfl)
   refine wlate 9 rfl (by kernel_rfl) (ostoreL (i := i) (g := gR) [.slice pK nK cK] [.rowm pK nK cK (xa.drop (colsM M))] Tryd.sizeOf52 hS rfl rfl (ev (v := .pointer (some ⟨gR, (0 + i * 1), none⟩)) rfl rfl) (ev (v := .slice pK nK cK) rfl rfl) (rfl) rfl rfl rfl hgR (by omega) rfl ?_)
   clear hS; intro w14 hS
   refine ⟨heldNil, ?_⟩
   refine wdone rfl ?_
   refine blkN (thenN (wreg ?_))
   rw [setQ hKl] at hS
   refine wl rfl (obin (u := .int .i64 (i : Int)) (v := .int .i64 1) (z := .int .i64 (((i + 1 : Nat) : Int))) rfl rfl (ev rfl rfl) evc (bin_add (wrap_i64 (by omega) (by omega))) ?_)
   refine wl rfl (omove (v := .int .i64 (((i + 1 : Nat) : Int))) rfl rfl (ev rfl rfl) ?_)
   refine wnil (thenN ?_)
   exact ⟨(i + 1), ⟨_, _, act_sets (l := [(4, .slice none 0 0), (5, .int .i64 0), (6, .pointer (some ⟨g2, 0, none⟩)), (43, .slice pX M.length cX), (44, .int .i64 (M.length : Int)), (45, .int .i64 (((i + 1 : Nat) : Int)))]) ⟨rfl, rfl, rfl, rfl, rfl, rfl, trivial⟩, hS.pick [1, 0, 2, 3, 4] (by decide) rfl, by omega, by rw [nums_set, dropTo, ← hQi, hda]⟩, by omega⟩
 ·
  refine wl rfl (obin (u := .int .i64 (i : Int)) (v := .int .i64 (M.length : Int)) (z := .bool false) rfl rfl (ev rfl rfl) (ev rfl rfl) (bin_lss (decide_eq_false (by omega))) ?_)
  refine wnil (thenN (wseq ?_))
  refine wF (ev rfl rfl) ?_
  refine wexit ?_
  refine thenE ?_
  refine thenE ?_
  refine blkE ?_
  refine thenN (wseq (wreg (wl rfl (ofieldAddr (g := g2) (off := 0) 1 rfl rfl (ev rfl rfl) Tryd.runUnderlying63 rfl Tryd.sizeOf25 rfl ?_))))
  refine wl rfl (oload1 (v := .slice pX M.length cX) (show One Tryd.prog 25 from ⟨Tryd.isAgg25, Tryd.sizeOf25⟩) hS 4 rfl rfl (ev rfl rfl) rfl rfl ?_)
  refine wl rfl (oassign (v := .slice pX M.length cX) rfl rfl (ev rfl rfl) ?_)
  refine wl rfl (oassign (v := .int .i64 0) rfl rfl evc ?_)
  refine wnil (thenN ?_)
  refine wleave ?_
  refine wret2 Tryd.results13 (tellT (v := .slice pX M.length cX) rfl rfl) (tellT (v := .int .i64 0) rfl rfl) ?_
  have hin : i = M.length := by omega
  exact ⟨_, _, rfl, ⟨pX, cX, Qi, by rw [hQi, hin, ← j1, dropTo_all], by rw [List.length_map, j1], by rw [List.length_map, j1]⟩, hS.newR 1 rfl rfl⟩
end Go.Proofs.YtndilfigdbenoaaDoor
