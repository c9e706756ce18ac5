
/-
  modmat's square, and slices.IndexFunc over rows.
-/
import Derived.Test.YtndilfigdbenoaaDoorMm1
set_option linter.unusedVariables false
set_option linter.unusedSimpArgs false
set_option maxRecDepth 100000
set_option maxHeartbeats 16000000
namespace Go.Proofs.YtndilfigdbenoaaDoor
open Go.RowKit
theorem wxsquare40 {pm : Option Addr} {nm cm p : Nat} {M : List (List Nat)} {w : World} (ht : Tb w) (hm : MS w pm nm M) (hp2 : p < 4294967296) (hs : SmallM M) (hp : ¬ MR.Pr p) :
  Calls Tryd.prog 38 #[.int .u32 ((p : Nat) : Int), .slice pm nm cm] w (Ret (Is (.tuple #[.agg #[.int .u64 0, .slice none 0 0, .int .i64 0], .int .i64 40])) w) := by
 have hS := Sep.init w
 refine went Tryd.func38 rfl (n := 41) rfl rfl ?_
 refine wseq (wreg (wl rfl (oalloc [.int .u64 0, .slice none 0 0, .int .i64 0] hS rfl rfl Tryd.zeroValue63 rfl ?_)))
 clear hS; intro g1 w2 hS
 refine wl rfl (oassign (v := .int .i64 0) rfl rfl evc ?_)
 refine wnil (thenN (wseq (wreg (wl rfl (omove (v := .int .u32 (p : Int)) rfl rfl (ev rfl rfl) ?_)))))
 refine wl rfl (omove (v := .slice pm nm cm) rfl rfl (ev rfl rfl) ?_)
 refine wl rfl (obslice (ps := #[(0, .slice pm nm cm)]) (z := .slice none 0 0) [.slice pm nm cm] hS rfl rfl Tryd.runUnderlying81 Tryd.sizeOf26 Tryd.zeroValue26 (parts1 (ev (v := .slice pm nm cm) rfl rfl)) rfl (by decide) (fill1_1s rfl rfl) ?_)
 clear hS; intro g3 w4 hS
 refine wl rfl (ocall rfl rfl Tryd.call45 rfl (wxall40 (ht.at hS) (LMS.one (hS.blkAt 0 rfl) (hm.at hS)) hp2 (by omega) (fun N h => by rw [List.mem_singleton.1 h]; exact hs) (hp)) (args2 (ev rfl rfl) (ev rfl rfl)) ?_)
 rintro _ w5 ⟨_, _, rfl, ⟨rfl, rfl⟩, hN⟩
 refine ⟨_, rfl, ?_⟩
 replace hS := hS.news hN; clear hN
 refine wl rfl (omove (v := .tuple #[.slice none 0 0, .int .i64 40]) rfl rfl (ev rfl rfl) ?_)
 refine wl rfl (oextract (vs := [.slice none 0 0, .int .i64 40]) (v := .slice none 0 0) rfl rfl (ev rfl rfl) rfl ?_)
 refine wl rfl (oextract (vs := [.slice none 0 0, .int .i64 40]) (v := .int .i64 40) rfl rfl (ev rfl rfl) rfl ?_)
 refine wl rfl (oassign (v := .slice none 0 0) rfl rfl (ev rfl rfl) ?_)
 refine wl rfl (oassign (v := .int .i64 40) rfl rfl (ev rfl rfl) ?_)
 refine wnil (thenN (wseq (wseq (wreg (wl rfl (omove (v := .int .i64 40) rfl rfl (ev rfl rfl) ?_))))))
 refine wl rfl (obin (u := .int .i64 40) (v := .int .i64 0) (z := .bool true) rfl rfl (ev rfl rfl) evc (bin_neq (by decide)) ?_)
 refine wnil (thenN ?_)
 refine wT (ev rfl rfl) ?_
 refine wseq (wreg (wl rfl (obuild (ps := #[]) (v := .agg #[.int .u64 0, .slice none 0 0, .int .i64 0]) rfl rfl (parts0) (fun w => by simp [go_sem, Instr.build, Instr.fill]) ?_)))
 refine wl rfl (omove (v := .int .i64 40) rfl rfl (ev rfl rfl) ?_)
 refine wl rfl (ostore [.int .u64 0, .slice none 0 0, .int .i64 0] [.int .u64 0, .slice none 0 0, .int .i64 0] Tryd.sizeOf63 hS 1 rfl rfl (ev rfl rfl) (ev (v := .agg #[.int .u64 0, .slice none 0 0, .int .i64 0]) rfl rfl) rfl rfl rfl rfl rfl rfl ?_)
 clear hS; intro w6 hS
 refine wl rfl (oassign (v := .int .i64 40) rfl rfl (ev rfl rfl) ?_)
 refine wnil (thenN ?_)
 refine wleave ?_
 refine thenR ?_
 refine wret2 Tryd.results38 (tellC (cs := [.int .u64 0, .slice none 0 0, .int .i64 0]) (show Agg Tryd.prog 63 3 from ⟨Tryd.isAgg63, Tryd.sizeOf63⟩) hS 1 rfl rfl rfl rfl) (tellT (v := .int .i64 40) rfl rfl) ?_
 exact ⟨_, _, rfl, isI, hS.new0⟩
theorem wxsquare2 {pm : Option Addr} {nm cm p : Nat} {M : List (List Nat)} {w : World} (ht : Tb w) (hm : MS w pm nm M) (hp2 : p < 4294967296) (hs : SmallM M) (hp : MR.Pr p) (hr : ¬ RectM M) :
  Calls Tryd.prog 38 #[.int .u32 ((p : Nat) : Int), .slice pm nm cm] w (Ret (Is (.tuple #[.agg #[.int .u64 0, .slice none 0 0, .int .i64 0], .int .i64 2])) w) := by
 have hS := Sep.init w
 refine went Tryd.func38 rfl (n := 41) rfl rfl ?_
 refine wseq (wreg (wl rfl (oalloc [.int .u64 0, .slice none 0 0, .int .i64 0] hS rfl rfl Tryd.zeroValue63 rfl ?_)))
 clear hS; intro g1 w2 hS
 refine wl rfl (oassign (v := .int .i64 0) rfl rfl evc ?_)
 refine wnil (thenN (wseq (wreg (wl rfl (omove (v := .int .u32 (p : Int)) rfl rfl (ev rfl rfl) ?_)))))
 refine wl rfl (omove (v := .slice pm nm cm) rfl rfl (ev rfl rfl) ?_)
 refine wl rfl (obslice (ps := #[(0, .slice pm nm cm)]) (z := .slice none 0 0) [.slice pm nm cm] hS rfl rfl Tryd.runUnderlying81 Tryd.sizeOf26 Tryd.zeroValue26 (parts1 (ev (v := .slice pm nm cm) rfl rfl)) rfl (by decide) (fill1_1s rfl rfl) ?_)
 clear hS; intro g3 w4 hS
 refine wl rfl (ocall rfl rfl Tryd.call45 rfl (wxallE (ht.at hS) (LMS.one (hS.blkAt 0 rfl) (hm.at hS)) hp2 (by omega) (fun N h => by rw [List.mem_singleton.1 h]; exact hs) (hp) (fun h => hr (h M (by simp)))) (args2 (ev rfl rfl) (ev rfl rfl)) ?_)
 rintro _ w5 ⟨_, _, rfl, ⟨rfl, rfl⟩, hN⟩
 refine ⟨_, rfl, ?_⟩
 replace hS := hS.news hN; clear hN
 refine wl rfl (omove (v := .tuple #[.slice none 0 0, .int .i64 2]) rfl rfl (ev rfl rfl) ?_)
 refine wl rfl (oextract (vs := [.slice none 0 0, .int .i64 2]) (v := .slice none 0 0) rfl rfl (ev rfl rfl) rfl ?_)
 refine wl rfl (oextract (vs := [.slice none 0 0, .int .i64 2]) (v := .int .i64 2) rfl rfl (ev rfl rfl) rfl ?_)
 refine wl rfl (oassign (v := .slice none 0 0) rfl rfl (ev rfl rfl) ?_)
 refine wl rfl (oassign (v := .int .i64 2) rfl rfl (ev rfl rfl) ?_)
 refine wnil (thenN (wseq (wseq (wreg (wl rfl (omove (v := .int .i64 2) rfl rfl (ev rfl rfl) ?_))))))
 refine wl rfl (obin (u := .int .i64 2) (v := .int .i64 0) (z := .bool true) rfl rfl (ev rfl rfl) evc (bin_neq (by decide)) ?_)
 refine wnil (thenN ?_)
 refine wT (ev rfl rfl) ?_
 refine wseq (wreg (wl rfl (obuild (ps := #[]) (v := .agg #[.int .u64 0, .slice none 0 0, .int .i64 0]) rfl rfl (parts0) (fun w => by simp [go_sem, Instr.build, Instr.fill]) ?_)))
 refine wl rfl (omove (v := .int .i64 2) rfl rfl (ev rfl rfl) ?_)
 refine wl rfl (ostore [.int .u64 0, .slice none 0 0, .int .i64 0] [.int .u64 0, .slice none 0 0, .int .i64 0] Tryd.sizeOf63 hS 1 rfl rfl (ev rfl rfl) (ev (v := .agg #[.int .u64 0, .slice none 0 0, .int .i64 0]) rfl rfl) rfl rfl rfl rfl rfl rfl ?_)
 clear hS; intro w6 hS
 refine wl rfl (oassign (v := .int .i64 2) rfl rfl (ev rfl rfl) ?_)
 refine wnil (thenN ?_)
 refine wleave ?_
 refine thenR ?_
 refine wret2 Tryd.results38 (tellC (cs := [.int .u64 0, .slice none 0 0, .int .i64 0]) (show Agg Tryd.prog 63 3 from ⟨Tryd.isAgg63, Tryd.sizeOf63⟩) hS 1 rfl rfl rfl rfl) (tellT (v := .int .i64 2) rfl rfl) ?_
 exact ⟨_, _, rfl, isI, hS.new0⟩
theorem wxsquare3 {pm : Option Addr} {nm cm p : Nat} {M : List (List Nat)} {w : World} (ht : Tb w) (hm : MS w pm nm M) (hp2 : p < 4294967296) (hs : SmallM M) (hp : MR.Pr p) (hr : RectM M) (hq : ¬ (M.length ≠ 0 ∧ M.length = colsM M)) :
  Calls Tryd.prog 38 #[.int .u32 ((p : Nat) : Int), .slice pm nm cm] w (Ret (Is (.tuple #[.agg #[.int .u64 0, .slice none 0 0, .int .i64 0], .int .i64 3])) w) := by
 have hS := Sep.init w
 refine went Tryd.func38 rfl (n := 41) rfl rfl ?_
 refine wseq (wreg (wl rfl (oalloc [.int .u64 0, .slice none 0 0, .int .i64 0] hS rfl rfl Tryd.zeroValue63 rfl ?_)))
 clear hS; intro g1 w2 hS
 refine wl rfl (oassign (v := .int .i64 0) rfl rfl evc ?_)
 refine wnil (thenN (wseq (wreg (wl rfl (omove (v := .int .u32 (p : Int)) rfl rfl (ev rfl rfl) ?_)))))
 refine wl rfl (omove (v := .slice pm nm cm) rfl rfl (ev rfl rfl) ?_)
 refine wl rfl (obslice (ps := #[(0, .slice pm nm cm)]) (z := .slice none 0 0) [.slice pm nm cm] hS rfl rfl Tryd.runUnderlying81 Tryd.sizeOf26 Tryd.zeroValue26 (parts1 (ev (v := .slice pm nm cm) rfl rfl)) rfl (by decide) (fill1_1s rfl rfl) ?_)
 clear hS; intro g3 w4 hS
 refine wl rfl (ocall rfl rfl Tryd.call45 rfl (wxall1 (ht.at hS) (hS.blkAt 0 rfl) (hm.at hS) (hp) hp2 (hs) (hr)) (args2 (ev rfl rfl) (ev rfl rfl)) ?_)
 rintro _ w5 ⟨_, _, rfl, ⟨pL, cL, pX, cX, QX, hQX, rfl, rfl⟩, hN⟩
 refine ⟨_, rfl, ?_⟩
 replace hS := hS.news hN; clear hN
 refine wl rfl (omove (v := .tuple #[.slice pL 1 cL, .int .i64 0]) rfl rfl (ev rfl rfl) ?_)
 refine wl rfl (oextract (vs := [.slice pL 1 cL, .int .i64 0]) (v := .slice pL 1 cL) rfl rfl (ev rfl rfl) rfl ?_)
 refine wl rfl (oextract (vs := [.slice pL 1 cL, .int .i64 0]) (v := .int .i64 0) rfl rfl (ev rfl rfl) rfl ?_)
 refine wl rfl (oassign (v := .slice pL 1 cL) rfl rfl (ev rfl rfl) ?_)
 refine wl rfl (oassign (v := .int .i64 0) rfl rfl (ev rfl rfl) ?_)
 refine wnil (thenN (wseq (wseq (wreg (wl rfl (omove (v := .int .i64 0) rfl rfl (ev rfl rfl) ?_))))))
 refine wl rfl (obin (u := .int .i64 0) (v := .int .i64 0) (z := .bool false) rfl rfl (ev rfl rfl) evc (bin_neq (by decide)) ?_)
 refine wnil (thenN ?_)
 refine wF (ev rfl rfl) ?_
 refine wskip (thenN (wseq (wseq ?_)))
 obtain ⟨gl6, hgl6⟩ := hS.lstPtr 1 rfl (by omega)
 by_cases h0 : M.length = 0
 ·
  refine wstage 18 [19, 20, 21, 22, 23, 24, 25, 26, 27, 28, 29, 30, 31, 32, 33, 34, 35, 36] [[], [0], [1, 0], [2, 0, 1], [3, 0, 1, 2], [4, 0, 1, 2, 3], [5, 0, 1, 2, 3, 4], [6, 0, 1, 2, 3, 4, 5], [6, 7, 0, 1, 2, 3, 4, 5], [6, 8, 0, 1, 2, 3, 4, 5, 7], [6, 9, 0, 1, 2, 3, 4, 5, 7, 8], [6, 10, 0, 1, 2, 3, 4, 5, 7, 8, 9], [6, 0, 1, 2, 3, 4, 5], [6, 12, 0, 1, 2, 3, 4, 5], [6, 13, 0, 1, 2, 3, 4, 5, 12], [6, 14, 0, 1, 2, 3, 4, 5, 12, 13], [6, 11, 15, 0, 1, 2, 3, 4, 5, 7, 8, 9, 10, 12, 13, 14], [6, 16, 0, 1, 2, 3, 4, 5, 7, 8, 9, 10, 11, 12, 13, 14, 15]] [[], [], [], [], [], [], [], [], [], [], [], [], [], [], [], [], [], []] [] [] (fun i9 => ([fun _ => Is (.slice pL 1 cL), fun _ => Is (.pointer (some ⟨gl6, 0, none⟩)), fun _ => Is (.pointer (some ⟨gl6, 1, none⟩)), fun _ => Is (.slice pX M.length cX), fun _ => Is (.int .i64 (M.length : Int)), fun _ => Is (.bool true), fun _ => Is (.bool true), fun _ => Is undef, fun _ => Is undef, fun _ => Is undef, fun _ => Is undef, fun _ => Is undef, fun _ => Is undef, fun _ => Is undef, fun _ => Is undef, fun _ => Is undef, fun _ => Is undef, fun _ => Is (.bool true)] : List (List Value → Tell)).getD i9 (fun _ _ _ => False)) (heldNil) (fun d _ _ _ _ h => (by cases d <;> exact h)) (by kernel_rfl) (by kernel_rfl) (by kernel_rfl) hS ?_ ?_
  ·
   refine stepsCons rfl (fun Q f' w' ρ S ho hT hS hB => ?_) ?_
   ·exact .inl ⟨want_none rfl, omove (v := .slice pL 1 cL) rfl rfl (ev rfl (ho 6 rfl)) ⟨_, _, rfl, isI, New.same _⟩⟩
   refine stepsCons rfl (fun Q f' w' ρ S ho hT hS hB => ?_) ?_
   ·obtain ⟨hv0, hr0⟩ := (hT 0 19 rfl rfl : (Is (.slice pL 1 cL)) _ _)
    obtain hS := hS.flat1 hr0
    exact .inl ⟨want_none rfl, oindex (p := pL) (g := gl6) (off := 0) (m := 1) (k := 0) (j := 0) rfl rfl Tryd.runUnderlying73 Tryd.sizeOf63 (ev rfl hv0) (hgl6) evc (by omega) rfl ⟨_, _, rfl, isI, New.same _⟩⟩
   refine stepsCons rfl (fun Q f' w' ρ S ho hT hS hB => ?_) ?_
   ·obtain ⟨hv1, hr1⟩ := (hT 1 20 rfl rfl : (Is (.pointer (some ⟨gl6, 0, none⟩))) _ _)
    obtain hS := hS.flat1 hr1
    exact .inl ⟨want_none rfl, ofieldAddr (g := gl6) (off := 0) 1 rfl rfl (ev rfl hv1) Tryd.runUnderlying63 rfl Tryd.sizeOf25 rfl ⟨_, _, rfl, isI, New.same _⟩⟩
   refine stepsCons rfl (fun Q f' w' ρ S ho hT hS hB => ?_) ?_
   ·obtain ⟨hv2, hr2⟩ := (hT 2 21 rfl rfl : (Is (.pointer (some ⟨gl6, 1, none⟩))) _ _)
    obtain hS := hS.flat1 hr2
    exact .inl ⟨want_none rfl, oloadc (v := .slice pX M.length cX) (show One Tryd.prog 25 from ⟨Tryd.isAgg25, Tryd.sizeOf25⟩) rfl rfl (ev (v := .pointer (some ⟨gl6, 1, none⟩)) rfl hv2) (hS.lstAt 1 rfl hgl6 0 1 rfl rfl (by omega) rfl) ⟨_, _, rfl, isI, New.same _⟩⟩
   refine stepsCons rfl (fun Q f' w' ρ S ho hT hS hB => ?_) ?_
   ·obtain ⟨hv3, hr3⟩ := (hT 3 22 rfl rfl : (Is (.slice pX M.length cX)) _ _)
    obtain hS := hS.flat1 hr3
    exact .inl ⟨want_none rfl, olen rfl rfl rfl Tryd.runUnderlying25 (p := pX) (k := M.length) (m := cX) (ev rfl hv3) ⟨_, _, rfl, isI, New.same _⟩⟩
   refine stepsCons rfl (fun Q f' w' ρ S ho hT hS hB => ?_) ?_
   ·obtain ⟨hv4, hr4⟩ := (hT 4 23 rfl rfl : (Is (.int .i64 (((M.length : Nat) : Int)))) _ _)
    obtain hS := hS.flat1 hr4
    exact .inl ⟨want_none rfl, obin (u := .int .i64 (M.length : Int)) (v := .int .i64 0) (z := .bool true) rfl rfl (ev rfl hv4) evc (bin_eql (eqT (by omega))) ⟨_, _, rfl, isI, New.same _⟩⟩
   refine stepsCons rfl (fun Q f' w' ρ S ho hT hS hB => ?_) ?_
   ·obtain ⟨hv5, hr5⟩ := (hT 5 24 rfl rfl : (Is (.bool true)) _ _)
    obtain hS := hS.flat1 hr5
    exact .inl ⟨want_none rfl, omove (v := .bool true) rfl rfl (ev rfl hv5) ⟨_, _, rfl, isI, New.same _⟩⟩
   refine stepsCons rfl (fun Q f' w' ρ S ho hT hS hB => ?_) ?_
   ·obtain ⟨hv6, hr6⟩ := (hT 6 25 rfl rfl : (Is (.bool true)) _ _)
    obtain hS := hS.flat1 hr6
    exact .inr ⟨want_off (e := 25) (b' := true) rfl rfl rfl hv6 rfl, isI⟩
   refine stepsCons rfl (fun Q f' w' ρ S ho hT hS hB => ?_) ?_
   ·obtain ⟨hv6, hr6⟩ := (hT 6 25 rfl rfl : (Is (.bool true)) _ _)
    obtain ⟨hv7, hr7⟩ := (hT 7 26 rfl rfl : (Is undef) _ _)
    obtain hS := hS.flat2 hr6 hr7
    exact .inr ⟨want_off (e := 25) (b' := true) rfl rfl rfl hv6 rfl, isI⟩
   refine stepsCons rfl (fun Q f' w' ρ S ho hT hS hB => ?_) ?_
   ·obtain ⟨hv6, hr6⟩ := (hT 6 25 rfl rfl : (Is (.bool true)) _ _)
    obtain ⟨hv8, hr8⟩ := (hT 8 27 rfl rfl : (Is undef) _ _)
    obtain hS := hS.flat2 hr6 hr8
    exact .inr ⟨want_off (e := 25) (b' := true) rfl rfl rfl hv6 rfl, isI⟩
   refine stepsCons rfl (fun Q f' w' ρ S ho hT hS hB => ?_) ?_
   ·obtain ⟨hv6, hr6⟩ := (hT 6 25 rfl rfl : (Is (.bool true)) _ _)
    obtain ⟨hv9, hr9⟩ := (hT 9 28 rfl rfl : (Is undef) _ _)
    obtain hS := hS.flat2 hr6 hr9
    exact .inr ⟨want_off (e := 25) (b' := true) rfl rfl rfl hv6 rfl, isI⟩
   refine stepsCons rfl (fun Q f' w' ρ S ho hT hS hB => ?_) ?_
   ·obtain ⟨hv6, hr6⟩ := (hT 6 25 rfl rfl : (Is (.bool true)) _ _)
    obtain ⟨hv10, hr10⟩ := (hT 10 29 rfl rfl : (Is undef) _ _)
    obtain hS := hS.flat2 hr6 hr10
    exact .inr ⟨want_off (e := 25) (b' := true) rfl rfl rfl hv6 rfl, isI⟩
   refine stepsCons rfl (fun Q f' w' ρ S ho hT hS hB => ?_) ?_
   ·obtain ⟨hv6, hr6⟩ := (hT 6 25 rfl rfl : (Is (.bool true)) _ _)
    obtain hS := hS.flat1 hr6
    exact .inr ⟨want_off (e := 25) (b' := true) rfl rfl rfl hv6 rfl, isI⟩
   refine stepsCons rfl (fun Q f' w' ρ S ho hT hS hB => ?_) ?_
   ·obtain ⟨hv6, hr6⟩ := (hT 6 25 rfl rfl : (Is (.bool true)) _ _)
    obtain ⟨hv12, hr12⟩ := (hT 12 31 rfl rfl : (Is undef) _ _)
    obtain hS := hS.flat2 hr6 hr12
    exact .inr ⟨want_off (e := 25) (b' := true) rfl rfl rfl hv6 rfl, isI⟩
   refine stepsCons rfl (fun Q f' w' ρ S ho hT hS hB => ?_) ?_
   ·obtain ⟨hv6, hr6⟩ := (hT 6 25 rfl rfl : (Is (.bool true)) _ _)
    obtain ⟨hv13, hr13⟩ := (hT 13 32 rfl rfl : (Is undef) _ _)
    obtain hS := hS.flat2 hr6 hr13
    exact .inr ⟨want_off (e := 25) (b' := true) rfl rfl rfl hv6 rfl, isI⟩
   refine stepsCons rfl (fun Q f' w' ρ S ho hT hS hB => ?_) ?_
   ·obtain ⟨hv6, hr6⟩ := (hT 6 25 rfl rfl : (Is (.bool true)) _ _)
    obtain ⟨hv14, hr14⟩ := (hT 14 33 rfl rfl : (Is undef) _ _)
    obtain hS := hS.flat2 hr6 hr14
    exact .inr ⟨want_off (e := 25) (b' := true) rfl rfl rfl hv6 rfl, isI⟩
   refine stepsCons rfl (fun Q f' w' ρ S ho hT hS hB => ?_) ?_
   ·obtain ⟨hv6, hr6⟩ := (hT 6 25 rfl rfl : (Is (.bool true)) _ _)
    obtain ⟨hv11, hr11⟩ := (hT 11 30 rfl rfl : (Is undef) _ _)
    obtain ⟨hv15, hr15⟩ := (hT 15 34 rfl rfl : (Is undef) _ _)
    obtain hS := hS.flat3 hr6 hr11 hr15
    exact .inr ⟨want_off (e := 25) (b' := true) rfl rfl rfl hv6 rfl, isI⟩
   refine stepsCons rfl (fun Q f' w' ρ S ho hT hS hB => ?_) ?_
   ·obtain ⟨hv6, hr6⟩ := (hT 6 25 rfl rfl : (Is (.bool true)) _ _)
    obtain ⟨hv16, hr16⟩ := (hT 16 35 rfl rfl : (Is undef) _ _)
    obtain hS := hS.flat2 hr6 hr16
    exact .inl ⟨want_none rfl, opick (b := true) (v := .bool true) rfl rfl (ev rfl hv6) evc ⟨_, _, rfl, isI, New.same _⟩⟩
   exact stepsNil
  ·
   intro vs ρ w7 f' hf hT hS
   obtain ⟨hv0, hr0⟩ := (hT 0 (by decide) : (Is (.slice pL 1 cL)) _ _)
   obtain ⟨hv1, hr1⟩ := (hT 1 (by decide) : (Is (.pointer (some ⟨gl6, 0, none⟩))) _ _)
   obtain ⟨hv2, hr2⟩ := (hT 2 (by decide) : (Is (.pointer (some ⟨gl6, 1, none⟩))) _ _)
   obtain ⟨hv3, hr3⟩ := (hT 3 (by decide) : (Is (.slice pX M.length cX)) _ _)
   obtain ⟨hv4, hr4⟩ := (hT 4 (by decide) : (Is (.int .i64 (((M.length : Nat) : Int)))) _ _)
   obtain ⟨hv5, hr5⟩ := (hT 5 (by decide) : (Is (.bool true)) _ _)
   obtain ⟨hv6, hr6⟩ := (hT 6 (by decide) : (Is (.bool true)) _ _)
   obtain ⟨hv7, hr7⟩ := (hT 7 (by decide) : (Is undef) _ _)
   obtain ⟨hv8, hr8⟩ := (hT 8 (by decide) : (Is undef) _ _)
   obtain ⟨hv9, hr9⟩ := (hT 9 (by decide) : (Is undef) _ _)
   obtain ⟨hv10, hr10⟩ := (hT 10 (by decide) : (Is undef) _ _)
   obtain ⟨hv11, hr11⟩ := (hT 11 (by decide) : (Is undef) _ _)
   obtain ⟨hv12, hr12⟩ := (hT 12 (by decide) : (Is undef) _ _)
   obtain ⟨hv13, hr13⟩ := (hT 13 (by decide) : (Is undef) _ _)
   obtain ⟨hv14, hr14⟩ := (hT 14 (by decide) : (Is undef) _ _)
   obtain ⟨hv15, hr15⟩ := (hT 15 (by decide) : (Is undef) _ _)
   obtain ⟨hv16, hr16⟩ := (hT 16 (by decide) : (Is undef) _ _)
   obtain ⟨hv17, hr17⟩ := (hT 17 (by decide) : (Is (.bool true)) _ _)
   simp only [pool, if_true, hr0, hr1, hr2, hr3, hr4, hr5, hr6, hr7, hr8, hr9, hr10, hr11, hr12, hr13, hr14, hr15, hr16, hr17, List.nil_append, List.cons_append, List.append_nil] at hS
   simp only [layf, hv0, hv1, hv2, hv3, hv4, hv5, hv6, hv7, hv8, hv9, hv10, hv11, hv12, hv13, hv14, hv15, hv16, hv17] at hf
   subst hf; clear hT hv0 hv1 hv2 hv3 hv4 hv5 hv6 hv7 hv8 hv9 hv10 hv11 hv12 hv13 hv14 hv15 hv16 hv17 hr0 hr1 hr2 hr3 hr4 hr5 hr6 hr7 hr8 hr9 hr10 hr11 hr12 hr13 hr14 hr15 hr16 hr17
   refine wdone rfl ?_
   refine thenN ?_
   refine wT (ev rfl rfl) ?_
   refine wseq (wreg (wl rfl (obuild (ps := #[]) (v := .agg #[.int .u64 0, .slice none 0 0, .int .i64 0]) rfl rfl (parts0) (fun w => by simp [go_sem, Instr.build, Instr.fill]) ?_)))
   refine wl rfl (ostore [.int .u64 0, .slice none 0 0, .int .i64 0] [.int .u64 0, .slice none 0 0, .int .i64 0] Tryd.sizeOf63 hS 3 rfl rfl (ev rfl rfl) (ev (v := .agg #[.int .u64 0, .slice none 0 0, .int .i64 0]) rfl rfl) rfl rfl rfl rfl rfl rfl ?_)
   clear hS; intro w8 hS
   refine wl rfl (oassign (v := .int .i64 3) rfl rfl evc ?_)
   refine wnil (thenN ?_)
   refine wleave ?_
   refine thenR ?_
   refine wret2 Tryd.results38 (tellC (cs := [.int .u64 0, .slice none 0 0, .int .i64 0]) (show Agg Tryd.prog 63 3 from ⟨Tryd.isAgg63, Tryd.sizeOf63⟩) hS 3 rfl rfl rfl rfl) (tellT (v := .int .i64 3) rfl rfl) ?_
   exact ⟨_, _, rfl, isI, hS.new0⟩
 ·
  refine wstage 18 [19, 20, 21, 22, 23, 24, 25, 26, 27, 28, 29, 30, 31, 32, 33, 34, 35, 36] [[], [0], [1, 0], [2, 0, 1], [3, 0, 1, 2], [4, 0, 1, 2, 3], [5, 0, 1, 2, 3, 4], [6, 0, 1, 2, 3, 4, 5], [6, 7, 0, 1, 2, 3, 4, 5], [6, 8, 0, 1, 2, 3, 4, 5, 7], [6, 9, 0, 1, 2, 3, 4, 5, 7, 8], [6, 10, 0, 1, 2, 3, 4, 5, 7, 8, 9], [6, 0, 1, 2, 3, 4, 5], [6, 12, 0, 1, 2, 3, 4, 5], [6, 13, 0, 1, 2, 3, 4, 5, 12], [6, 14, 0, 1, 2, 3, 4, 5, 12, 13], [6, 11, 15, 0, 1, 2, 3, 4, 5, 7, 8, 9, 10, 12, 13, 14], [6, 16, 0, 1, 2, 3, 4, 5, 7, 8, 9, 10, 11, 12, 13, 14, 15]] [[], [], [], [], [], [], [], [], [], [], [], [], [], [], [], [], [], []] [] [] (fun i9 => ([fun _ => Is (.slice pL 1 cL), fun _ => Is (.pointer (some ⟨gl6, 0, none⟩)), fun _ => Is (.pointer (some ⟨gl6, 1, none⟩)), fun _ => Is (.slice pX M.length cX), fun _ => Is (.int .i64 (M.length : Int)), fun _ => Is (.bool false), fun _ => Is (.bool false), fun _ => Is (.slice pL 1 cL), fun _ => Is (.pointer (some ⟨gl6, 0, none⟩)), fun _ => Is (.pointer (some ⟨gl6, 1, none⟩)), fun _ => Is (.slice pX M.length cX), fun _ => Is (.int .i64 (M.length : Int)), fun _ => Is (.slice pL 1 cL), fun _ => Is (.pointer (some ⟨gl6, 0, none⟩)), fun _ => Is (.pointer (some ⟨gl6, 2, none⟩)), fun _ => Is (.int .i64 (((colsM M : Nat) : Int))), fun _ => Is (.bool true), fun _ => Is (.bool true)] : List (List Value → Tell)).getD i9 (fun _ _ _ => False)) (heldNil) (fun d _ _ _ _ h => (by cases d <;> exact h)) (by kernel_rfl) (by kernel_rfl) (by kernel_rfl) hS ?_ ?_
  ·
   refine stepsCons rfl (fun Q f' w' ρ S ho hT hS hB => ?_) ?_
   ·exact .inl ⟨want_none rfl, omove (v := .slice pL 1 cL) rfl rfl (ev rfl (ho 6 rfl)) ⟨_, _, rfl, isI, New.same _⟩⟩
   refine stepsCons rfl (fun Q f' w' ρ S ho hT hS hB => ?_) ?_
   ·obtain ⟨hv0, hr0⟩ := (hT 0 19 rfl rfl : (Is (.slice pL 1 cL)) _ _)
    obtain hS := hS.flat1 hr0
    exact .inl ⟨want_none rfl, oindex (p := pL) (g := gl6) (off := 0) (m := 1) (k := 0) (j := 0) rfl rfl Tryd.runUnderlying73 Tryd.sizeOf63 (ev rfl hv0) (hgl6) evc (by omega) rfl ⟨_, _, rfl, isI, New.same _⟩⟩
   refine stepsCons rfl (fun Q f' w' ρ S ho hT hS hB => ?_) ?_
   ·obtain ⟨hv1, hr1⟩ := (hT 1 20 rfl rfl : (Is (.pointer (some ⟨gl6, 0, none⟩))) _ _)
    obtain hS := hS.flat1 hr1
    exact .inl ⟨want_none rfl, ofieldAddr (g := gl6) (off := 0) 1 rfl rfl (ev rfl hv1) Tryd.runUnderlying63 rfl Tryd.sizeOf25 rfl ⟨_, _, rfl, isI, New.same _⟩⟩
   refine stepsCons rfl (fun Q f' w' ρ S ho hT hS hB => ?_) ?_
   ·obtain ⟨hv2, hr2⟩ := (hT 2 21 rfl rfl : (Is (.pointer (some ⟨gl6, 1, none⟩))) _ _)
    obtain hS := hS.flat1 hr2
    exact .inl ⟨want_none rfl, oloadc (v := .slice pX M.length cX) (show One Tryd.prog 25 from ⟨Tryd.isAgg25, Tryd.sizeOf25⟩) rfl rfl (ev (v := .pointer (some ⟨gl6, 1, none⟩)) rfl hv2) (hS.lstAt 1 rfl hgl6 0 1 rfl rfl (by omega) rfl) ⟨_, _, rfl, isI, New.same _⟩⟩
   refine stepsCons rfl (fun Q f' w' ρ S ho hT hS hB => ?_) ?_
   ·obtain ⟨hv3, hr3⟩ := (hT 3 22 rfl rfl : (Is (.slice pX M.length cX)) _ _)
    obtain hS := hS.flat1 hr3
    exact .inl ⟨want_none rfl, olen rfl rfl rfl Tryd.runUnderlying25 (p := pX) (k := M.length) (m := cX) (ev rfl hv3) ⟨_, _, rfl, isI, New.same _⟩⟩
   refine stepsCons rfl (fun Q f' w' ρ S ho hT hS hB => ?_) ?_
   ·obtain ⟨hv4, hr4⟩ := (hT 4 23 rfl rfl : (Is (.int .i64 (((M.length : Nat) : Int)))) _ _)
    obtain hS := hS.flat1 hr4
    exact .inl ⟨want_none rfl, obin (u := .int .i64 (M.length : Int)) (v := .int .i64 0) (z := .bool false) rfl rfl (ev rfl hv4) evc (bin_eql (eqF (by omega))) ⟨_, _, rfl, isI, New.same _⟩⟩
   refine stepsCons rfl (fun Q f' w' ρ S ho hT hS hB => ?_) ?_
   ·obtain ⟨hv5, hr5⟩ := (hT 5 24 rfl rfl : (Is (.bool false)) _ _)
    obtain hS := hS.flat1 hr5
    exact .inl ⟨want_none rfl, omove (v := .bool false) rfl rfl (ev rfl hv5) ⟨_, _, rfl, isI, New.same _⟩⟩
   refine stepsCons rfl (fun Q f' w' ρ S ho hT hS hB => ?_) ?_
   ·obtain ⟨hv6, hr6⟩ := (hT 6 25 rfl rfl : (Is (.bool false)) _ _)
    obtain hS := hS.flat1 hr6
    exact .inl ⟨want_on (e := 25) rfl rfl rfl hv6, omove (v := .slice pL 1 cL) rfl rfl (ev rfl (ho 6 rfl)) ⟨_, _, rfl, isI, New.same _⟩⟩
   refine stepsCons rfl (fun Q f' w' ρ S ho hT hS hB => ?_) ?_
   ·obtain ⟨hv6, hr6⟩ := (hT 6 25 rfl rfl : (Is (.bool false)) _ _)
    obtain ⟨hv7, hr7⟩ := (hT 7 26 rfl rfl : (Is (.slice pL 1 cL)) _ _)
    obtain hS := hS.flat2 hr6 hr7
    exact .inl ⟨want_on (e := 25) rfl rfl rfl hv6, oindex (p := pL) (g := gl6) (off := 0) (m := 1) (k := 0) (j := 0) rfl rfl Tryd.runUnderlying73 Tryd.sizeOf63 (ev rfl hv7) (hgl6) evc (by omega) rfl ⟨_, _, rfl, isI, New.same _⟩⟩
   refine stepsCons rfl (fun Q f' w' ρ S ho hT hS hB => ?_) ?_
   ·obtain ⟨hv6, hr6⟩ := (hT 6 25 rfl rfl : (Is (.bool false)) _ _)
    obtain ⟨hv8, hr8⟩ := (hT 8 27 rfl rfl : (Is (.pointer (some ⟨gl6, 0, none⟩))) _ _)
    obtain hS := hS.flat2 hr6 hr8
    exact .inl ⟨want_on (e := 25) rfl rfl rfl hv6, ofieldAddr (g := gl6) (off := 0) 1 rfl rfl (ev rfl hv8) Tryd.runUnderlying63 rfl Tryd.sizeOf25 rfl ⟨_, _, rfl, isI, New.same _⟩⟩
   refine stepsCons rfl (fun Q f' w' ρ S ho hT hS hB => ?_) ?_
   ·obtain ⟨hv6, hr6⟩ := (hT 6 25 rfl rfl : (Is (.bool false)) _ _)
    obtain ⟨hv9, hr9⟩ := (hT 9 28 rfl rfl : (Is (.pointer (some ⟨gl6, 1, none⟩))) _ _)
    obtain hS := hS.flat2 hr6 hr9
    exact .inl ⟨want_on (e := 25) rfl rfl rfl hv6, oloadc (v := .slice pX M.length cX) (show One Tryd.prog 25 from ⟨Tryd.isAgg25, Tryd.sizeOf25⟩) rfl rfl (ev (v := .pointer (some ⟨gl6, 1, none⟩)) rfl hv9) (hS.lstAt 1 rfl hgl6 0 1 rfl rfl (by omega) rfl) ⟨_, _, rfl, isI, New.same _⟩⟩
   refine stepsCons rfl (fun Q f' w' ρ S ho hT hS hB => ?_) ?_
   ·obtain ⟨hv6, hr6⟩ := (hT 6 25 rfl rfl : (Is (.bool false)) _ _)
    obtain ⟨hv10, hr10⟩ := (hT 10 29 rfl rfl : (Is (.slice pX M.length cX)) _ _)
    obtain hS := hS.flat2 hr6 hr10
    exact .inl ⟨want_on (e := 25) rfl rfl rfl hv6, olen rfl rfl rfl Tryd.runUnderlying25 (p := pX) (k := M.length) (m := cX) (ev rfl hv10) ⟨_, _, rfl, isI, New.same _⟩⟩
   refine stepsCons rfl (fun Q f' w' ρ S ho hT hS hB => ?_) ?_
   ·obtain ⟨hv6, hr6⟩ := (hT 6 25 rfl rfl : (Is (.bool false)) _ _)
    obtain hS := hS.flat1 hr6
    exact .inl ⟨want_on (e := 25) rfl rfl rfl hv6, omove (v := .slice pL 1 cL) rfl rfl (ev rfl (ho 6 rfl)) ⟨_, _, rfl, isI, New.same _⟩⟩
   refine stepsCons rfl (fun Q f' w' ρ S ho hT hS hB => ?_) ?_
   ·obtain ⟨hv6, hr6⟩ := (hT 6 25 rfl rfl : (Is (.bool false)) _ _)
    obtain ⟨hv12, hr12⟩ := (hT 12 31 rfl rfl : (Is (.slice pL 1 cL)) _ _)
    obtain hS := hS.flat2 hr6 hr12
    exact .inl ⟨want_on (e := 25) rfl rfl rfl hv6, oindex (p := pL) (g := gl6) (off := 0) (m := 1) (k := 0) (j := 0) rfl rfl Tryd.runUnderlying73 Tryd.sizeOf63 (ev rfl hv12) (hgl6) evc (by omega) rfl ⟨_, _, rfl, isI, New.same _⟩⟩
   refine stepsCons rfl (fun Q f' w' ρ S ho hT hS hB => ?_) ?_
   ·obtain ⟨hv6, hr6⟩ := (hT 6 25 rfl rfl : (Is (.bool false)) _ _)
    obtain ⟨hv13, hr13⟩ := (hT 13 32 rfl rfl : (Is (.pointer (some ⟨gl6, 0, none⟩))) _ _)
    obtain hS := hS.flat2 hr6 hr13
    exact .inl ⟨want_on (e := 25) rfl rfl rfl hv6, ofieldAddr (g := gl6) (off := 0) 2 rfl rfl (ev rfl hv13) Tryd.runUnderlying63 rfl Tryd.sizeOf3 rfl ⟨_, _, rfl, isI, New.same _⟩⟩
   refine stepsCons rfl (fun Q f' w' ρ S ho hT hS hB => ?_) ?_
   ·obtain ⟨hv6, hr6⟩ := (hT 6 25 rfl rfl : (Is (.bool false)) _ _)
    obtain ⟨hv14, hr14⟩ := (hT 14 33 rfl rfl : (Is (.pointer (some ⟨gl6, 2, none⟩))) _ _)
    obtain hS := hS.flat2 hr6 hr14
    exact .inl ⟨want_on (e := 25) rfl rfl rfl hv6, oloadc (v := .int .i64 (((colsM M : Nat) : Int))) oneI rfl rfl (ev (v := .pointer (some ⟨gl6, 2, none⟩)) rfl hv14) (hS.lstAt 1 rfl hgl6 0 2 rfl rfl (by omega) rfl) ⟨_, _, rfl, isI, New.same _⟩⟩
   refine stepsCons rfl (fun Q f' w' ρ S ho hT hS hB => ?_) ?_
   ·obtain ⟨hv6, hr6⟩ := (hT 6 25 rfl rfl : (Is (.bool false)) _ _)
    obtain ⟨hv11, hr11⟩ := (hT 11 30 rfl rfl : (Is (.int .i64 (((M.length : Nat) : Int)))) _ _)
    obtain ⟨hv15, hr15⟩ := (hT 15 34 rfl rfl : (Is (.int .i64 (((colsM M : Nat) : Int)))) _ _)
    obtain hS := hS.flat3 hr6 hr11 hr15
    exact .inl ⟨want_on (e := 25) rfl rfl rfl hv6, obin (u := .int .i64 (M.length : Int)) (v := .int .i64 (((colsM M : Nat) : Int))) (z := .bool true) rfl rfl (ev rfl hv11) (ev rfl hv15) (bin_neq (neT (by omega))) ⟨_, _, rfl, isI, New.same _⟩⟩
   refine stepsCons rfl (fun Q f' w' ρ S ho hT hS hB => ?_) ?_
   ·obtain ⟨hv6, hr6⟩ := (hT 6 25 rfl rfl : (Is (.bool false)) _ _)
    obtain ⟨hv16, hr16⟩ := (hT 16 35 rfl rfl : (Is (.bool true)) _ _)
    obtain hS := hS.flat2 hr6 hr16
    exact .inl ⟨want_none rfl, opick (b := false) (v := .bool true) rfl rfl (ev rfl hv6) (ev rfl hv16) ⟨_, _, rfl, isI, New.same _⟩⟩
   exact stepsNil
  ·
   intro vs ρ w7 f' hf hT hS
   obtain ⟨hv0, hr0⟩ := (hT 0 (by decide) : (Is (.slice pL 1 cL)) _ _)
   obtain ⟨hv1, hr1⟩ := (hT 1 (by decide) : (Is (.pointer (some ⟨gl6, 0, none⟩))) _ _)
   obtain ⟨hv2, hr2⟩ := (hT 2 (by decide) : (Is (.pointer (some ⟨gl6, 1, none⟩))) _ _)
   obtain ⟨hv3, hr3⟩ := (hT 3 (by decide) : (Is (.slice pX M.length cX)) _ _)
   obtain ⟨hv4, hr4⟩ := (hT 4 (by decide) : (Is (.int .i64 (((M.length : Nat) : Int)))) _ _)
   obtain ⟨hv5, hr5⟩ := (hT 5 (by decide) : (Is (.bool false)) _ _)
   obtain ⟨hv6, hr6⟩ := (hT 6 (by decide) : (Is (.bool false)) _ _)
   obtain ⟨hv7, hr7⟩ := (hT 7 (by decide) : (Is (.slice pL 1 cL)) _ _)
   obtain ⟨hv8, hr8⟩ := (hT 8 (by decide) : (Is (.pointer (some ⟨gl6, 0, none⟩))) _ _)
   obtain ⟨hv9, hr9⟩ := (hT 9 (by decide) : (Is (.pointer (some ⟨gl6, 1, none⟩))) _ _)
   obtain ⟨hv10, hr10⟩ := (hT 10 (by decide) : (Is (.slice pX M.length cX)) _ _)
   obtain ⟨hv11, hr11⟩ := (hT 11 (by decide) : (Is (.int .i64 (((M.length : Nat) : Int)))) _ _)
   obtain ⟨hv12, hr12⟩ := (hT 12 (by decide) : (Is (.slice pL 1 cL)) _ _)
   obtain ⟨hv13, hr13⟩ := (hT 13 (by decide) : (Is (.pointer (some ⟨gl6, 0, none⟩))) _ _)
   obtain ⟨hv14, hr14⟩ := (hT 14 (by decide) : (Is (.pointer (some ⟨gl6, 2, none⟩))) _ _)
   obtain ⟨hv15, hr15⟩ := (hT 15 (by decide) : (Is (.int .i64 (((colsM M : Nat) : Int)))) _ _)
   obtain ⟨hv16, hr16⟩ := (hT 16 (by decide) : (Is (.bool true)) _ _)
   obtain ⟨hv17, hr17⟩ := (hT 17 (by decide) : (Is (.bool true)) _ _)
   simp only [pool, if_true, hr0, hr1, hr2, hr3, hr4, hr5, hr6, hr7, hr8, hr9, hr10, hr11, hr12, hr13, hr14, hr15, hr16, hr17, List.nil_append, List.cons_append, List.append_nil] at hS
   simp only [layf, hv0, hv1, hv2, hv3, hv4, hv5, hv6, hv7, hv8, hv9, hv10, hv11, hv12, hv13, hv14, hv15, hv16, hv17] at hf
   subst hf; clear hT hv0 hv1 hv2 hv3 hv4 hv5 hv6 hv7 hv8 hv9 hv10 hv11 hv12 hv13 hv14 hv15 hv16 hv17 hr0 hr1 hr2 hr3 hr4 hr5 hr6 hr7 hr8 hr9 hr10 hr11 hr12 hr13 hr14 hr15 hr16 hr17
   refine wdone rfl ?_
   refine thenN ?_
   refine wT (ev rfl rfl) ?_
   refine wseq (wreg (wl rfl (obuild (ps := #[]) (v := .agg #[.int .u64 0, .slice none 0 0, .int .i64 0]) rfl rfl (parts0) (fun w => by simp [go_sem, Instr.build, Instr.fill]) ?_)))
   refine wl rfl (ostore [.int .u64 0, .slice none 0 0, .int .i64 0] [.int .u64 0, .slice none 0 0, .int .i64 0] Tryd.sizeOf63 hS 3 rfl rfl (ev rfl rfl) (ev (v := .agg #[.int .u64 0, .slice none 0 0, .int .i64 0]) rfl rfl) rfl rfl rfl rfl rfl rfl ?_)
   clear hS; intro w8 hS
   refine wl rfl (oassign (v := .int .i64 3) rfl rfl evc ?_)
   refine wnil (thenN ?_)
   refine wleave ?_
   refine thenR ?_
   refine wret2 Tryd.results38 (tellC (cs := [.int .u64 0, .slice none 0 0, .int .i64 0]) (show Agg Tryd.prog 63 3 from ⟨Tryd.isAgg63, Tryd.sizeOf63⟩) hS 3 rfl rfl rfl rfl) (tellT (v := .int .i64 3) rfl rfl) ?_
   exact ⟨_, _, rfl, isI, hS.new0⟩
theorem wxsquare {pm : Option Addr} {nm cm p : Nat} {M : List (List Nat)} {w : World} (ht : Tb w) (hm : MS w pm nm M) (hp2 : p < 4294967296) (hs : SmallM M) (hp : MR.Pr p) (hr : RectM M) (h0 : M.length ≠ 0) (hq : M.length = colsM M) :
  Calls Tryd.prog 38 #[.int .u32 ((p : Nat) : Int), .slice pm nm cm] w (Ret (RdT p M) w) := by
 have hS := Sep.init w
 refine went Tryd.func38 rfl (n := 41) rfl rfl ?_
 refine wseq (wreg (wl rfl (oalloc [.int .u64 0, .slice none 0 0, .int .i64 0] hS rfl rfl Tryd.zeroValue63 rfl ?_)))
 clear hS; intro g1 w2 hS
 refine wl rfl (oassign (v := .int .i64 0) rfl rfl evc ?_)
 refine wnil (thenN (wseq (wreg (wl rfl (omove (v := .int .u32 (p : Int)) rfl rfl (ev rfl rfl) ?_)))))
 refine wl rfl (omove (v := .slice pm nm cm) rfl rfl (ev rfl rfl) ?_)
 refine wl rfl (obslice (ps := #[(0, .slice pm nm cm)]) (z := .slice none 0 0) [.slice pm nm cm] hS rfl rfl Tryd.runUnderlying81 Tryd.sizeOf26 Tryd.zeroValue26 (parts1 (ev (v := .slice pm nm cm) rfl rfl)) rfl (by decide) (fill1_1s rfl rfl) ?_)
 clear hS; intro g3 w4 hS
 refine wl rfl (ocall rfl rfl Tryd.call45 rfl (wxall1 (ht.at hS) (hS.blkAt 0 rfl) (hm.at hS) (hp) hp2 (hs) (hr)) (args2 (ev rfl rfl) (ev rfl rfl)) ?_)
 rintro _ w5 ⟨_, _, rfl, ⟨pL, cL, pX, cX, QX, hQX, rfl, rfl⟩, hN⟩
 refine ⟨_, rfl, ?_⟩
 replace hS := hS.news hN; clear hN
 refine wl rfl (omove (v := .tuple #[.slice pL 1 cL, .int .i64 0]) rfl rfl (ev rfl rfl) ?_)
 refine wl rfl (oextract (vs := [.slice pL 1 cL, .int .i64 0]) (v := .slice pL 1 cL) rfl rfl (ev rfl rfl) rfl ?_)
 refine wl rfl (oextract (vs := [.slice pL 1 cL, .int .i64 0]) (v := .int .i64 0) rfl rfl (ev rfl rfl) rfl ?_)
 refine wl rfl (oassign (v := .slice pL 1 cL) rfl rfl (ev rfl rfl) ?_)
 refine wl rfl (oassign (v := .int .i64 0) rfl rfl (ev rfl rfl) ?_)
 refine wnil (thenN (wseq (wseq (wreg (wl rfl (omove (v := .int .i64 0) rfl rfl (ev rfl rfl) ?_))))))
 refine wl rfl (obin (u := .int .i64 0) (v := .int .i64 0) (z := .bool false) rfl rfl (ev rfl rfl) evc (bin_neq (by decide)) ?_)
 refine wnil (thenN ?_)
 refine wF (ev rfl rfl) ?_
 refine wskip (thenN (wseq (wseq ?_)))
 obtain ⟨gl6, hgl6⟩ := hS.lstPtr 1 rfl (by omega)
 refine wstage 18 [19, 20, 21, 22, 23, 24, 25, 26, 27, 28, 29, 30, 31, 32, 33, 34, 35, 36] [[], [0], [1, 0], [2, 0, 1], [3, 0, 1, 2], [4, 0, 1, 2, 3], [5, 0, 1, 2, 3, 4], [6, 0, 1, 2, 3, 4, 5], [6, 7, 0, 1, 2, 3, 4, 5], [6, 8, 0, 1, 2, 3, 4, 5, 7], [6, 9, 0, 1, 2, 3, 4, 5, 7, 8], [6, 10, 0, 1, 2, 3, 4, 5, 7, 8, 9], [6, 0, 1, 2, 3, 4, 5], [6, 12, 0, 1, 2, 3, 4, 5], [6, 13, 0, 1, 2, 3, 4, 5, 12], [6, 14, 0, 1, 2, 3, 4, 5, 12, 13], [6, 11, 15, 0, 1, 2, 3, 4, 5, 7, 8, 9, 10, 12, 13, 14], [6, 16, 0, 1, 2, 3, 4, 5, 7, 8, 9, 10, 11, 12, 13, 14, 15]] [[], [], [], [], [], [], [], [], [], [], [], [], [], [], [], [], [], []] [] [] (fun i9 => ([fun _ => Is (.slice pL 1 cL), fun _ => Is (.pointer (some ⟨gl6, 0, none⟩)), fun _ => Is (.pointer (some ⟨gl6, 1, none⟩)), fun _ => Is (.slice pX M.length cX), fun _ => Is (.int .i64 (M.length : Int)), fun _ => Is (.bool false), fun _ => Is (.bool false), fun _ => Is (.slice pL 1 cL), fun _ => Is (.pointer (some ⟨gl6, 0, none⟩)), fun _ => Is (.pointer (some ⟨gl6, 1, none⟩)), fun _ => Is (.slice pX M.length cX), fun _ => Is (.int .i64 (M.length : Int)), fun _ => Is (.slice pL 1 cL), fun _ => Is (.pointer (some ⟨gl6, 0, none⟩)), fun _ => Is (.pointer (some ⟨gl6, 2, none⟩)), fun _ => Is (.int .i64 (((colsM M : Nat) : Int))), fun _ => Is (.bool false), fun _ => Is (.bool false)] : List (List Value → Tell)).getD i9 (fun _ _ _ => False)) (heldNil) (fun d _ _ _ _ h => (by cases d <;> exact h)) (by kernel_rfl) (by kernel_rfl) (by kernel_rfl) hS ?_ ?_
 ·
  refine stepsCons rfl (fun Q f' w' ρ S ho hT hS hB => ?_) ?_
  ·exact .inl ⟨want_none rfl, omove (v := .slice pL 1 cL) rfl rfl (ev rfl (ho 6 rfl)) ⟨_, _, rfl, isI, New.same _⟩⟩
  refine stepsCons rfl (fun Q f' w' ρ S ho hT hS hB => ?_) ?_
  ·obtain ⟨hv0, hr0⟩ := (hT 0 19 rfl rfl : (Is (.slice pL 1 cL)) _ _)
   obtain hS := hS.flat1 hr0
   exact .inl ⟨want_none rfl, oindex (p := pL) (g := gl6) (off := 0) (m := 1) (k := 0) (j := 0) rfl rfl Tryd.runUnderlying73 Tryd.sizeOf63 (ev rfl hv0) (hgl6) evc (by omega) rfl ⟨_, _, rfl, isI, New.same _⟩⟩
  refine stepsCons rfl (fun Q f' w' ρ S ho hT hS hB => ?_) ?_
  ·obtain ⟨hv1, hr1⟩ := (hT 1 20 rfl rfl : (Is (.pointer (some ⟨gl6, 0, none⟩))) _ _)
   obtain hS := hS.flat1 hr1
   exact .inl ⟨want_none rfl, ofieldAddr (g := gl6) (off := 0) 1 rfl rfl (ev rfl hv1) Tryd.runUnderlying63 rfl Tryd.sizeOf25 rfl ⟨_, _, rfl, isI, New.same _⟩⟩
  refine stepsCons rfl (fun Q f' w' ρ S ho hT hS hB => ?_) ?_
  ·obtain ⟨hv2, hr2⟩ := (hT 2 21 rfl rfl : (Is (.pointer (some ⟨gl6, 1, none⟩))) _ _)
   obtain hS := hS.flat1 hr2
   exact .inl ⟨want_none rfl, oloadc (v := .slice pX M.length cX) (show One Tryd.prog 25 from ⟨Tryd.isAgg25, Tryd.sizeOf25⟩) rfl rfl (ev (v := .pointer (some ⟨gl6, 1, none⟩)) rfl hv2) (hS.lstAt 1 rfl hgl6 0 1 rfl rfl (by omega) rfl) ⟨_, _, rfl, isI, New.same _⟩⟩
  refine stepsCons rfl (fun Q f' w' ρ S ho hT hS hB => ?_) ?_
  ·obtain ⟨hv3, hr3⟩ := (hT 3 22 rfl rfl : (Is (.slice pX M.length cX)) _ _)
   obtain hS := hS.flat1 hr3
   exact .inl ⟨want_none rfl, olen rfl rfl rfl Tryd.runUnderlying25 (p := pX) (k := M.length) (m := cX) (ev rfl hv3) ⟨_, _, rfl, isI, New.same _⟩⟩
  refine stepsCons rfl (fun Q f' w' ρ S ho hT hS hB => ?_) ?_
  ·obtain ⟨hv4, hr4⟩ := (hT 4 23 rfl rfl : (Is (.int .i64 (((M.length : Nat) : Int)))) _ _)
   obtain hS := hS.flat1 hr4
   exact .inl ⟨want_none rfl, obin (u := .int .i64 (M.length : Int)) (v := .int .i64 0) (z := .bool false) rfl rfl (ev rfl hv4) evc (bin_eql (eqF (by omega))) ⟨_, _, rfl, isI, New.same _⟩⟩
  refine stepsCons rfl (fun Q f' w' ρ S ho hT hS hB => ?_) ?_
  ·obtain ⟨hv5, hr5⟩ := (hT 5 24 rfl rfl : (Is (.bool false)) _ _)
   obtain hS := hS.flat1 hr5
   exact .inl ⟨want_none rfl, omove (v := .bool false) rfl rfl (ev rfl hv5) ⟨_, _, rfl, isI, New.same _⟩⟩
  refine stepsCons rfl (fun Q f' w' ρ S ho hT hS hB => ?_) ?_
  ·obtain ⟨hv6, hr6⟩ := (hT 6 25 rfl rfl : (Is (.bool false)) _ _)
   obtain hS := hS.flat1 hr6
   exact .inl ⟨want_on (e := 25) rfl rfl rfl hv6, omove (v := .slice pL 1 cL) rfl rfl (ev rfl (ho 6 rfl)) ⟨_, _, rfl, isI, New.same _⟩⟩
  refine stepsCons rfl (fun Q f' w' ρ S ho hT hS hB => ?_) ?_
  ·obtain ⟨hv6, hr6⟩ := (hT 6 25 rfl rfl : (Is (.bool false)) _ _)
   obtain ⟨hv7, hr7⟩ := (hT 7 26 rfl rfl : (Is (.slice pL 1 cL)) _ _)
   obtain hS := hS.flat2 hr6 hr7
   exact .inl ⟨want_on (e := 25) rfl rfl rfl hv6, oindex (p := pL) (g := gl6) (off := 0) (m := 1) (k := 0) (j := 0) rfl rfl Tryd.runUnderlying73 Tryd.sizeOf63 (ev rfl hv7) (hgl6) evc (by omega) rfl ⟨_, _, rfl, isI, New.same _⟩⟩
  refine stepsCons rfl (fun Q f' w' ρ S ho hT hS hB => ?_) ?_
  ·obtain ⟨hv6, hr6⟩ := (hT 6 25 rfl rfl : (Is (.bool false)) _ _)
   obtain ⟨hv8, hr8⟩ := (hT 8 27 rfl rfl : (Is (.pointer (some ⟨gl6, 0, none⟩))) _ _)
   obtain hS := hS.flat2 hr6 hr8
   exact .inl ⟨want_on (e := 25) rfl rfl rfl hv6, ofieldAddr (g := gl6) (off := 0) 1 rfl rfl (ev rfl hv8) Tryd.runUnderlying63 rfl Tryd.sizeOf25 rfl ⟨_, _, rfl, isI, New.same _⟩⟩
  refine stepsCons rfl (fun Q f' w' ρ S ho hT hS hB => ?_) ?_
  ·obtain ⟨hv6, hr6⟩ := (hT 6 25 rfl rfl : (Is (.bool false)) _ _)
   obtain ⟨hv9, hr9⟩ := (hT 9 28 rfl rfl : (Is (.pointer (some ⟨gl6, 1, none⟩))) _ _)
   obtain hS := hS.flat2 hr6 hr9
   exact .inl ⟨want_on (e := 25) rfl rfl rfl hv6, oloadc (v := .slice pX M.length cX) (show One Tryd.prog 25 from ⟨Tryd.isAgg25, Tryd.sizeOf25⟩) rfl rfl (ev (v := .pointer (some ⟨gl6, 1, none⟩)) rfl hv9) (hS.lstAt 1 rfl hgl6 0 1 rfl rfl (by omega) rfl) ⟨_, _, rfl, isI, New.same _⟩⟩
  refine stepsCons rfl (fun Q f' w' ρ S ho hT hS hB => ?_) ?_
  ·obtain ⟨hv6, hr6⟩ := (hT 6 25 rfl rfl : (Is (.bool false)) _ _)
   obtain ⟨hv10, hr10⟩ := (hT 10 29 rfl rfl : (Is (.slice pX M.length cX)) _ _)
   obtain hS := hS.flat2 hr6 hr10
   exact .inl ⟨want_on (e := 25) rfl rfl rfl hv6, olen rfl rfl rfl Tryd.runUnderlying25 (p := pX) (k := M.length) (m := cX) (ev rfl hv10) ⟨_, _, rfl, isI, New.same _⟩⟩
  refine stepsCons rfl (fun Q f' w' ρ S ho hT hS hB => ?_) ?_
  ·obtain ⟨hv6, hr6⟩ := (hT 6 25 rfl rfl : (Is (.bool false)) _ _)
   obtain hS := hS.flat1 hr6
   exact .inl ⟨want_on (e := 25) rfl rfl rfl hv6, omove (v := .slice pL 1 cL) rfl rfl (ev rfl (ho 6 rfl)) ⟨_, _, rfl, isI, New.same _⟩⟩
  refine stepsCons rfl (fun Q f' w' ρ S ho hT hS hB => ?_) ?_
  ·obtain ⟨hv6, hr6⟩ := (hT 6 25 rfl rfl : (Is (.bool false)) _ _)
   obtain ⟨hv12, hr12⟩ := (hT 12 31 rfl rfl : (Is (.slice pL 1 cL)) _ _)
   obtain hS := hS.flat2 hr6 hr12
   exact .inl ⟨want_on (e := 25) rfl rfl rfl hv6, oindex (p := pL) (g := gl6) (off := 0) (m := 1) (k := 0) (j := 0) rfl rfl Tryd.runUnderlying73 Tryd.sizeOf63 (ev rfl hv12) (hgl6) evc (by omega) rfl ⟨_, _, rfl, isI, New.same _⟩⟩
  refine stepsCons rfl (fun Q f' w' ρ S ho hT hS hB => ?_) ?_
  ·obtain ⟨hv6, hr6⟩ := (hT 6 25 rfl rfl : (Is (.bool false)) _ _)
   obtain ⟨hv13, hr13⟩ := (hT 13 32 rfl rfl : (Is (.pointer (some ⟨gl6, 0, none⟩))) _ _)
   obtain hS := hS.flat2 hr6 hr13
   exact .inl ⟨want_on (e := 25) rfl rfl rfl hv6, ofieldAddr (g := gl6) (off := 0) 2 rfl rfl (ev rfl hv13) Tryd.runUnderlying63 rfl Tryd.sizeOf3 rfl ⟨_, _, rfl, isI, New.same _⟩⟩
  refine stepsCons rfl (fun Q f' w' ρ S ho hT hS hB => ?_) ?_
  ·obtain ⟨hv6, hr6⟩ := (hT 6 25 rfl rfl : (Is (.bool false)) _ _)
   obtain ⟨hv14, hr14⟩ := (hT 14 33 rfl rfl : (Is (.pointer (some ⟨gl6, 2, none⟩))) _ _)
   obtain hS := hS.flat2 hr6 hr14
   exact .inl ⟨want_on (e := 25) rfl rfl rfl hv6, oloadc (v := .int .i64 (((colsM M : Nat) : Int))) oneI rfl rfl (ev (v := .pointer (some ⟨gl6, 2, none⟩)) rfl hv14) (hS.lstAt 1 rfl hgl6 0 2 rfl rfl (by omega) rfl) ⟨_, _, rfl, isI, New.same _⟩⟩
  refine stepsCons rfl (fun Q f' w' ρ S ho hT hS hB => ?_) ?_
  ·obtain ⟨hv6, hr6⟩ := (hT 6 25 rfl rfl : (Is (.bool false)) _ _)
   obtain ⟨hv11, hr11⟩ := (hT 11 30 rfl rfl : (Is (.int .i64 (((M.length : Nat) : Int)))) _ _)
   obtain ⟨hv15, hr15⟩ := (hT 15 34 rfl rfl : (Is (.int .i64 (((colsM M : Nat) : Int)))) _ _)
   obtain hS := hS.flat3 hr6 hr11 hr15
   exact .inl ⟨want_on (e := 25) rfl rfl rfl hv6, obin (u := .int .i64 (M.length : Int)) (v := .int .i64 (((colsM M : Nat) : Int))) (z := .bool false) rfl rfl (ev rfl hv11) (ev rfl hv15) (bin_neq (neF (by omega))) ⟨_, _, rfl, isI, New.same _⟩⟩
  refine stepsCons rfl (fun Q f' w' ρ S ho hT hS hB => ?_) ?_
  ·obtain ⟨hv6, hr6⟩ := (hT 6 25 rfl rfl : (Is (.bool false)) _ _)
   obtain ⟨hv16, hr16⟩ := (hT 16 35 rfl rfl : (Is (.bool false)) _ _)
   obtain hS := hS.flat2 hr6 hr16
   exact .inl ⟨want_none rfl, opick (b := false) (v := .bool false) rfl rfl (ev rfl hv6) (ev rfl hv16) ⟨_, _, rfl, isI, New.same _⟩⟩
  exact stepsNil
 ·
  intro vs ρ w7 f' hf hT hS
  obtain ⟨hv0, hr0⟩ := (hT 0 (by decide) : (Is (.slice pL 1 cL)) _ _)
  obtain ⟨hv1, hr1⟩ := (hT 1 (by decide) : (Is (.pointer (some ⟨gl6, 0, none⟩))) _ _)
  obtain ⟨hv2, hr2⟩ := (hT 2 (by decide) : (Is (.pointer (some ⟨gl6, 1, none⟩))) _ _)
  obtain ⟨hv3, hr3⟩ := (hT 3 (by decide) : (Is (.slice pX M.length cX)) _ _)
  obtain ⟨hv4, hr4⟩ := (hT 4 (by decide) : (Is (.int .i64 (((M.length : Nat) : Int)))) _ _)
  obtain ⟨hv5, hr5⟩ := (hT 5 (by decide) : (Is (.bool false)) _ _)
  obtain ⟨hv6, hr6⟩ := (hT 6 (by decide) : (Is (.bool false)) _ _)
  obtain ⟨hv7, hr7⟩ := (hT 7 (by decide) : (Is (.slice pL 1 cL)) _ _)
  obtain ⟨hv8, hr8⟩ := (hT 8 (by decide) : (Is (.pointer (some ⟨gl6, 0, none⟩))) _ _)
  obtain ⟨hv9, hr9⟩ := (hT 9 (by decide) : (Is (.pointer (some ⟨gl6, 1, none⟩))) _ _)
  obtain ⟨hv10, hr10⟩ := (hT 10 (by decide) : (Is (.slice pX M.length cX)) _ _)
  obtain ⟨hv11, hr11⟩ := (hT 11 (by decide) : (Is (.int .i64 (((M.length : Nat) : Int)))) _ _)
  obtain ⟨hv12, hr12⟩ := (hT 12 (by decide) : (Is (.slice pL 1 cL)) _ _)
  obtain ⟨hv13, hr13⟩ := (hT 13 (by decide) : (Is (.pointer (some ⟨gl6, 0, none⟩))) _ _)
  obtain ⟨hv14, hr14⟩ := (hT 14 (by decide) : (Is (.pointer (some ⟨gl6, 2, none⟩))) _ _)
  obtain ⟨hv15, hr15⟩ := (hT 15 (by decide) : (Is (.int .i64 (((colsM M : Nat) : Int)))) _ _)
  obtain ⟨hv16, hr16⟩ := (hT 16 (by decide) : (Is (.bool false)) _ _)
  obtain ⟨hv17, hr17⟩ := (hT 17 (by decide) : (Is (.bool false)) _ _)
  simp only [pool, if_true, hr0, hr1, hr2, hr3, hr4, hr5, hr6, hr7, hr8, hr9, hr10, hr11, hr12, hr13, hr14, hr15, hr16, hr17, List.nil_append, List.cons_append, List.append_nil] at hS
  simp only [layf, hv0, hv1, hv2, hv3, hv4, hv5, hv6, hv7, hv8, hv9, hv10, hv11, hv12, hv13, hv14, hv15, hv16, hv17] at hf
  subst hf; clear hT hv0 hv1 hv2 hv3 hv4 hv5 hv6 hv7 hv8 hv9 hv10 hv11 hv12 hv13 hv14 hv15 hv16 hv17 hr0 hr1 hr2 hr3 hr4 hr5 hr6 hr7 hr8 hr9 hr10 hr11 hr12 hr13 hr14 hr15 hr16 hr17
  refine wdone rfl ?_
  refine thenN ?_
  refine wF (ev rfl rfl) ?_
  refine wskip (thenN (wseq (wreg (wl rfl (omove (v := .slice pL 1 cL) rfl rfl (ev rfl rfl) ?_)))))
  refine wl rfl (oindex (p := pL) (g := gl6) (off := 0) (m := 1) (k := 0) (j := 0) rfl rfl Tryd.runUnderlying73 Tryd.sizeOf63 (ev rfl rfl) (hgl6) evc (by omega) rfl ?_)
  refine wl rfl (oloadA (vs := [.int .u64 (p : Int), .slice pX M.length cX, .int .i64 (((colsM M : Nat) : Int))]) (show Agg Tryd.prog 63 3 from ⟨Tryd.isAgg63, Tryd.sizeOf63⟩) rfl rfl (ev (v := .pointer (some ⟨gl6, 0, none⟩)) rfl rfl) (hS.lstAtA 1 rfl hgl6 0 rfl (by omega) rfl) rfl ?_)
  refine wl rfl (ostore [.int .u64 (p : Int), .slice pX M.length cX, .int .i64 (((colsM M : Nat) : Int))] [.int .u64 (p : Int), .slice pX M.length cX, .int .i64 (((colsM M : Nat) : Int))] Tryd.sizeOf63 hS 3 rfl rfl (ev rfl rfl) (ev (v := .agg #[.int .u64 (p : Int), .slice pX M.length cX, .int .i64 (((colsM M : Nat) : Int))]) rfl rfl) rfl rfl rfl rfl rfl rfl ?_)
  clear hS; intro w8 hS
  refine wl rfl (oassign (v := .int .i64 0) rfl rfl evc ?_)
  refine wnil (thenN ?_)
  refine wleave ?_
  refine wret2 Tryd.results38 (tellC (cs := [.int .u64 (p : Int), .slice pX M.length cX, .int .i64 (((colsM M : Nat) : Int))]) (show Agg Tryd.prog 63 3 from ⟨Tryd.isAgg63, Tryd.sizeOf63⟩) hS 3 rfl rfl rfl rfl) (tellT (v := .int .i64 0) rfl rfl) ?_
  exact ⟨_, _, rfl, ⟨_, _, _, hQX, rfl, rfl⟩, hS.newR 0 rfl rfl⟩
theorem nat_bne {a : Nat} : (((a : Nat) : Int) != 0) = (a != 0) := by
  by_cases h : a = 0
  · subst h; rfl
  · rw [bne_iff_ne.2 h, bne_iff_ne.2 (by omega)]
theorem wpinv {a p : Nat} {w : World} (hp : MR.Pr p) (hp2 : p < 4294967296) (ha : a < 4294967296) (ht : Tb w) (hd : ¬ p ∣ a) : Calls Tryd.prog 64 #[.int .u32 ((a : Nat) : Int), .int .u32 ((p : Nat) : Int)] w (Ret (Is (.tuple #[.int .u32 ((pinv p a : Nat) : Int), .int .i64 0])) w) := by
  have hS := Sep.init w
  refine went Tryd.func64 rfl (n := 11) rfl rfl ?_
  refine wseq (wreg (wl rfl (oassign (v := .int .u32 0) rfl rfl evc ?_)))
  refine wl rfl (oassign (v := .int .i64 0) rfl rfl evc ?_)
  refine wnil (thenN (wseq (wreg (wl rfl (omove (v := .int .u32 (a : Int)) rfl rfl (ev rfl rfl) ?_)))))
  refine wl rfl (omove (v := .int .u32 (p : Int)) rfl rfl (ev rfl rfl) ?_)
  refine wl rfl (ocall rfl rfl Tryd.call72 rfl ((show Calls _ _ _ _ (Ret (Is (.tuple #[.int .u32 ((pinv p a : Nat) : Int), .int .i64 0])) _) from by have h := wpquo (a := 1) hp hp2 (by omega) ha (ht.at hS) hd; rwa [show 1 * (a ^ (p - 2) % p) % p = pinv p a from by rw [Nat.one_mul, Nat.mod_mod]; rfl] at h)) (args3 evc (ev rfl rfl) (ev rfl rfl)) ?_)
  rintro _ w1 ⟨_, _, rfl, ⟨rfl, rfl⟩, hN⟩
  refine ⟨_, rfl, ?_⟩
  replace hS := hS.news hN; clear hN
  refine wl rfl (oextract (vs := [.int .u32 (((pinv p a : Nat) : Int)), .int .i64 0]) (v := .int .u32 (((pinv p a : Nat) : Int))) rfl rfl (ev rfl rfl) rfl ?_)
  refine wl rfl (oextract (vs := [.int .u32 (((pinv p a : Nat) : Int)), .int .i64 0]) (v := .int .i64 0) rfl rfl (ev rfl rfl) rfl ?_)
  refine wl rfl (oassign (v := .int .u32 (((pinv p a : Nat) : Int))) rfl rfl (ev rfl rfl) ?_)
  refine wl rfl (oassign (v := .int .i64 0) rfl rfl (ev rfl rfl) ?_)
  refine wnil (thenN ?_)
  refine wleave ?_
  refine wret2 Tryd.results64 (tellT (v := .int .u32 (((pinv p a : Nat) : Int))) rfl rfl) (tellT (v := .int .i64 0) rfl rfl) ?_
  exact ⟨_, _, rfl, isI, hS.new0⟩
theorem wxred1 {q : Option Addr} {n cq c gc : Nat} {row : List Nat} {tc : TypeId} {w : World} (hs : Sl w q n cq row) (hb : w.heap[gc]? = some (.cells [.int .i64 ((c : Nat) : Int)].toArray tc)) (hlt : c < n) :
  Calls Tryd.prog 62 #[.slice q n cq, .pointer (some ⟨gc, 0, none⟩)] w (Ret (Is (.bool (nd row c != 0))) w) := by
 have hS := Sep.init w
 refine went Tryd.func62 rfl (n := 9) rfl rfl ?_
 refine wseq (wreg (wl rfl (oassign (v := .bool false) rfl rfl evc ?_)))
 refine wnil (thenN (wseq (wreg (wl rfl (omove (v := .slice q n cq) rfl rfl (ev rfl rfl) ?_)))))
 refine wl rfl (oloadc (v := .int .i64 (c : Int)) oneI rfl rfl (ev (v := .pointer (some ⟨gc, 0, none⟩)) rfl rfl) (hS.cellAt ((box_cells hb) 0 _ rfl)) ?_)
 obtain ⟨bce, oce, hpce, hcce⟩ := hs.el (show c < n by omega)
 refine wl rfl (oindex (p := q) (g := bce) (off := oce) (m := n) (k := c) (j := (oce + c * 1)) rfl rfl Tryd.runUnderlying52 Tryd.sizeOf27 (ev rfl rfl) (hpce) (ev rfl rfl) (by omega) rfl ?_)
 refine wl rfl (oloadc (v := .int .u32 (((nd row c : Nat) : Int))) one32 rfl rfl (ev (v := .pointer (some ⟨bce, (oce + c * 1), none⟩)) rfl rfl) (hS.cellAt (hcce 0 _ rfl)) ?_)
 refine wl rfl (obin (u := .int .u32 (((nd row c : Nat) : Int))) (v := .int .u32 0) (z := .bool ((((nd row c : Nat) : Int) != 0))) rfl rfl (ev rfl rfl) evc (bin_neq (rfl)) ?_)
 refine wl rfl (oassign (v := .bool ((((nd row c : Nat) : Int) != 0))) rfl rfl (ev rfl rfl) ?_)
 refine wnil (thenN ?_)
 refine wleave ?_
 refine wret1 Tryd.results62 (tellT (v := .bool ((((nd row c : Nat) : Int) != 0))) rfl rfl) ?_
 exact ⟨_, _, rfl, ⟨by rw [show ((((nd row c : Nat) : Int)) != 0) = (nd row c != 0) from nat_bne], rfl⟩, hS.new0⟩
def ixz (M : List (List Nat)) (c : Nat) : Int := match firstNZ M c M.length 0 with
  | some j => (j : Int)
  | none => -1
theorem ixz_some {M : List (List Nat)} {c j : Nat} (hj : j < M.length) (h : ∀ l, l < j → nd (M.getD l []) c = 0) (h0 : nd (M.getD j []) c ≠ 0) : ixz M c = (j : Int) := by
  unfold ixz; rw [firstNZ_some (Nat.zero_le _) (by omega) (fun l _ hl => h l hl) h0]
theorem ixz_none {M : List (List Nat)} {c : Nat} (h : ∀ l, l < M.length → nd (M.getD l []) c = 0) : ixz M c = -1 := by
  unfold ixz; rw [firstNZ_none (fun l _ hl => h l (by omega))]
theorem getD_drop (M : List (List Nat)) (r l : Nat) : (M.drop r).getD l [] = M.getD (r + l) [] := by simp [List.getD, List.getElem?_drop]
theorem ixz_drop {M : List (List Nat)} {c r : Nat} : (firstNZ M c (M.length - r) r = none → ixz (M.drop r) c = -1) ∧ ∀ t, firstNZ M c (M.length - r) r = some (r + t) → ixz (M.drop r) c = (t : Int) := by
 refine ⟨fun h => ixz_none fun l hl => ?_, fun t h => ?_⟩
 ·rw [getD_drop]; rw [List.length_drop] at hl; exact firstNZ_zero h _ (by omega) (by omega)
 ·obtain ⟨h1, h2, h3, h4⟩ := firstNZ_is h
  refine ixz_some (by rw [List.length_drop]; omega) (fun l hl => ?_) (by rw [getD_drop]; exact h3)
  rw [getD_drop]; exact h4 _ (by omega) (by omega)
theorem wxindexf {g off n cl c gc : Nat} {tc : TypeId} {M : List (List Nat)} {w : World} (hm : MS w (some ⟨g, off, none⟩) n M) (hb : w.heap[gc]? = some (.cells [.int .i64 ((c : Nat) : Int)].toArray tc)) (hC : ∀ r ∈ M, c < r.length) (hn : n ≤ 1048576) :
  Calls Tryd.prog 61 #[.slice (some ⟨g, off, none⟩) n cl, .func (.func 62) #[] #[.pointer (some ⟨gc, 0, none⟩)]] w (Ret (Is (.int .i64 (ixz M c))) w) := by
 have hS := Sep.init w
 refine went Tryd.func61 rfl (n := 19) rfl rfl ?_
 refine wseq (wreg (wl rfl (oassign (v := .int .i64 0) rfl rfl evc ?_)))
 refine wnil (thenN (wseq (wseq (wreg (wl rfl (omove (v := .slice (some ⟨g, off, none⟩) n cl) rfl rfl (ev rfl rfl) ?_))))))
 refine wl rfl (olen rfl rfl rfl Tryd.runUnderlying25 (p := (some ⟨g, off, none⟩)) (k := n) (m := cl) (ev rfl rfl) ?_)
 refine wl rfl (omove (v := .int .i64 0) rfl rfl evc ?_)
 refine wnil (thenN (wblock ?_))
 refine wloop (σ := Nat) (fun i a9 w' => ∃ (fb : Nat → Value), a9 = act 19 (sets fb [(0, .slice (some ⟨g, off, none⟩) n cl), (1, .func (.func 62) #[] #[.pointer (some ⟨gc, 0, none⟩)]), (7, .int .i64 (n : Int)), (8, .int .i64 (i : Int))]) ∧ Sep w [] w' ∧ (i ≤ n) ∧ (∀ l, l < i → nd (M.getD l []) c = 0)) (fun i => n - i) (0) ⟨_, act_sets (l := [(0, .slice (some ⟨g, off, none⟩) n cl), (1, .func (.func 62) #[] #[.pointer (some ⟨gc, 0, none⟩)]), (7, .int .i64 (n : Int)), (8, .int .i64 0)]) ⟨rfl, rfl, rfl, rfl, trivial⟩, hS, Nat.zero_le _, fun l hl => by omega⟩ ?_
 clear hS; rintro i _ w1 ⟨fb, rfl, hS, hi, hz⟩
 refine wseq (wreg ?_)
 by_cases hlt : i < n
 ·
  refine wl rfl (obin (u := .int .i64 (i : Int)) (v := .int .i64 (n : Int)) (z := .bool true) rfl rfl (ev rfl rfl) (ev rfl rfl) (bin_lss (decide_eq_true (by omega))) ?_)
  refine wnil (thenN (wseq ?_))
  refine wT (ev rfl rfl) ?_
  refine wskip (thenN (wseq (wblock (wseq (wreg (wl rfl (omove (v := .int .i64 (i : Int)) rfl rfl (ev rfl rfl) ?_)))))))
  refine wl rfl (oassign (v := .int .i64 (i : Int)) rfl rfl (ev rfl rfl) ?_)
  refine wnil (thenN (wseq (wreg (wl rfl (omove (v := .func (.func 62) #[] #[.pointer (some ⟨gc, 0, none⟩)]) rfl rfl (ev rfl rfl) ?_)))))
  refine wl rfl (omove (v := .slice (some ⟨g, off, none⟩) n cl) rfl rfl (ev rfl rfl) ?_)
  refine wl rfl (omove (v := .int .i64 (i : Int)) rfl rfl (ev rfl rfl) ?_)
  obtain ⟨xr, hxr⟩ : ∃ r, (M)[i]? = some r := ⟨_, List.getElem?_eq_getElem (by have := hm.1; omega)⟩
  obtain ⟨br, ofr, pr, cr, hpr, hcr, hsr⟩ := hm.2.2 i _ hxr
  refine wl rfl (oindex (p := (some ⟨g, off, none⟩)) (g := br) (off := ofr) (m := n) (k := i) (j := (ofr + i * 1)) rfl rfl Tryd.runUnderlying25 Tryd.sizeOf52 (ev rfl rfl) (hpr) (ev rfl rfl) (by omega) rfl ?_)
  refine wl rfl (oloadc (v := .slice pr xr.length cr) (show One Tryd.prog 52 from ⟨Tryd.isAgg52, Tryd.sizeOf52⟩) rfl rfl (ev (v := .pointer (some ⟨br, (ofr + i * 1), none⟩)) rfl rfl) (hS.cellAt (hcr 0 _ rfl)) ?_)
  refine wl rfl (ocallc (vs := #[.slice pr xr.length cr]) (caps := #[.pointer (some ⟨gc, 0, none⟩)]) rfl rfl (ev (v := .func (.func 62) #[] #[.pointer (some ⟨gc, 0, none⟩)]) rfl rfl) Tryd.call62 rfl (wxred1 (hsr.below hS.below (Nat.le_refl _)) (box_heap hS hb) (hC _ (List.mem_of_getElem? hxr))) (args1 (ev rfl rfl)) ?_)
  rintro _ w2 ⟨_, _, rfl, ⟨rfl, rfl⟩, hN⟩
  refine ⟨_, rfl, ?_⟩
  replace hS := hS.news hN; clear hN
  refine wnil (thenN ?_)
  by_cases hz0 : nd xr c = 0
  ·
   refine wF ((ev (v := .bool (nd xr c != 0)) rfl rfl).trans (congrArg Value.bool (by simp [hz0]))) ?_
   refine wskip (blkN (thenN (wreg (wl rfl (obin (u := .int .i64 (i : Int)) (v := .int .i64 1) (z := .int .i64 (((i + 1 : Nat) : Int))) rfl rfl (ev rfl rfl) evc (bin_add (wrap_i64 (by omega) (by omega))) ?_)))))
   refine wl rfl (omove (v := .int .i64 (((i + 1 : Nat) : Int))) rfl rfl (ev rfl rfl) ?_)
   refine wnil (thenN ?_)
   exact ⟨(i + 1), ⟨_, act_sets (l := [(0, .slice (some ⟨g, off, none⟩) n cl), (1, .func (.func 62) #[] #[.pointer (some ⟨gc, 0, none⟩)]), (7, .int .i64 (n : Int)), (8, .int .i64 (((i + 1 : Nat) : Int)))]) ⟨rfl, rfl, rfl, rfl, trivial⟩, hS.pick [] (by decide) rfl, by omega, fun l hl => (Nat.lt_or_eq_of_le (Nat.lt_succ_iff.1 hl)).elim (hz l) (fun e => by rw [e, getD_get hxr]; exact hz0)⟩, by omega⟩
  ·
   refine wT ((ev (v := .bool (nd xr c != 0)) rfl rfl).trans (congrArg Value.bool (by simp [hz0]))) ?_
   refine wseq (wreg (wl rfl (omove (v := .int .i64 (i : Int)) rfl rfl (ev rfl rfl) ?_)))
   refine wl rfl (oassign (v := .int .i64 (i : Int)) rfl rfl (ev rfl rfl) ?_)
   refine wnil (thenN ?_)
   refine wleave ?_
   refine blkR ?_
   refine thenR ?_
   refine thenR ?_
   refine blkR ?_
   refine thenR ?_
   refine wret1 Tryd.results61 (tellT (v := .int .i64 (i : Int)) rfl rfl) ?_
   exact ⟨_, _, rfl, ⟨by rw [ixz_some (by have := hm.1; omega) hz (by rw [getD_get hxr]; exact hz0)], rfl⟩, hS.new0⟩
 ·
  refine wl rfl (obin (u := .int .i64 (i : Int)) (v := .int .i64 (n : Int)) (z := .bool false) rfl rfl (ev rfl rfl) (ev rfl rfl) (bin_lss (decide_eq_false (by omega))) ?_)
  refine wnil (thenN (wseq ?_))
  refine wF (ev rfl rfl) ?_
  refine wexit ?_
  refine thenE ?_
  refine thenE ?_
  refine blkE ?_
  refine thenN (wseq (wreg (wl rfl (oassign (v := .int .i64 (-1)) rfl rfl evc ?_))))
  refine wnil (thenN ?_)
  refine wleave ?_
  refine wret1 Tryd.results61 (tellT (v := .int .i64 (-1)) rfl rfl) ?_
  exact ⟨_, _, rfl, ⟨by rw [ixz_none (fun l hl => hz l (by have := hm.1; omega))], rfl⟩, hS.new0⟩
end Go.Proofs.YtndilfigdbenoaaDoor
