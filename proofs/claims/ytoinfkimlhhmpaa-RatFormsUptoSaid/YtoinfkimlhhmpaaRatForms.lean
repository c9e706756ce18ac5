
/-
  The walk of similelaw05.RatForms.
-/
import Derived.Test.YtoinfkimlhhmpaaRatNeg
set_option linter.unusedVariables false
set_option linter.unusedSimpArgs false
namespace Go.Proofs.Ytoinfkimlhhmpaa
open Go.RowKit

set_option maxRecDepth 100000 in
set_option maxHeartbeats 16000000 in
theorem rforms_w {x y u v nn : Int} {bA bB bC bD : Bool} {qA qB qC qD : Option Addr} {nA kA nB kB nC kC nD kD : Nat} {w : World} (hzA : Zr w bA qA nA kA x 1048576) (hzB : Zr w bB qB nB kB y 1048576) (hzC : Zr w bC qC nC kC u 1048576) (hzD : Zr w bD qD nD kD v 1048576) (h1 : -9223372036854775808 ≤ nn) (h2 : nn ≤ 9223372036854775807) :
    Calls Try.prog 7 #[.agg #[.bool bA, .slice qA nA kA, .bool bB, .slice qB nB kB], .agg #[.bool bC, .slice qC nC kC, .bool bD, .slice qD nD kD], .int .i64 nn] w (Ret (Is (.bool true)) w) := by
  have hS := Sep.init w
  refine went Try.func7 rfl (n := 153) rfl rfl ?_
  refine wseq ?_
  refine wreg ?_
  refine wl rfl (obox [.bool bA, .slice qA nA kA, .bool bB, .slice qB nB kB] hS rfl rfl (ev (v := .agg #[.bool bA, .slice qA nA kA, .bool bB, .slice qB nB kB]) rfl rfl) rfl ?_)
  clear hS; intro g1 w2 hS
  refine wl rfl (obox [.bool bC, .slice qC nC kC, .bool bD, .slice qD nD kD] hS rfl rfl (ev (v := .agg #[.bool bC, .slice qC nC kC, .bool bD, .slice qD nD kD]) rfl rfl) rfl ?_)
  clear hS; intro g3 w4 hS
  refine wl rfl (oassign (v := .bool false) rfl rfl (evc (v := .bool false)) ?_)
  refine wnil ?_
  refine thenN ?_
  refine wseq ?_
  by_cases hy : y = 0
  ·
    by_cases hv : v = 0
    ·
      have hk1 : Wd 1 2 := Wd.i64 (by omega) (by omega)
      have hk2 : Wd 1 2 := Wd.i64 (by omega) (by omega)
      have hk3 : Wd 1 2 := Wd.i64 (by omega) (by omega)
      have hk4 : Wd 1 2 := Wd.i64 (by omega) (by omega)
      refine wstage 6 [21, 22, 23, 24, 7, 8] [[], [0], [], [2, 0, 1], [], []] [[], [], [], [], [], []] [] [] (fun i9 => ([fun _ => Is (.agg #[.bool bA, .slice qA nA kA, .bool bB, .slice qB nB kB]), fun _ => Rrt 1 1, fun _ => Is (.agg #[.bool bC, .slice qC nC kC, .bool bD, .slice qD nD kD]), fun _ => Rrt 1 1, fun _ => Ptr [.bool false, .slice none 0 0, .bool false, .slice none 0 0] 27, fun _ => Ptr [.bool false, .slice none 0 0, .bool false, .slice none 0 0] 27] : List (List Value → Tell)).getD i9 (fun _ _ _ => False)) (heldNil) (fun d _ _ _ _ h => (by cases d <;> exact h)) (by kernel_rfl) (by kernel_rfl) (by kernel_rfl) hS ?_ ?_
      ·
        refine stepsCons rfl ?_ ?_
        · intro Q f' w' ρ S ho hT hS hB
          exact .inl ⟨want_none rfl, oload (vs := [.bool bA, .slice qA nA kA, .bool bB, .slice qB nB kB]) aggR hS 1 rfl rfl (ev rfl (ho 3 rfl)) rfl rfl rfl ⟨_, _, rfl, isI, New.same _⟩⟩
        refine stepsCons rfl ?_ ?_
        · intro Q f' w' ρ S ho hT hS hB
          obtain ⟨hv0, hr0⟩ := (hT 0 21 rfl rfl : (Is (.agg #[.bool bA, .slice qA nA kA, .bool bB, .slice qB nB kB])) (f' 21) (ρ 0))
          obtain hS := hS.flat1 hr0
          refine .inl ⟨want_none rfl, ocall rfl rfl Try.call27 rfl (wlsome0 ((hzB.at hS).mono (by omega)) (hy)) (args1 (ev rfl hv0)) ?_⟩
          rintro _ w9 ⟨_, _, rfl, hTT, hN⟩
          exact ⟨_, rfl, _, _, rfl, hTT, hN⟩
        refine stepsCons rfl ?_ ?_
        · intro Q f' w' ρ S ho hT hS hB
          exact .inl ⟨want_none rfl, oload (vs := [.bool bC, .slice qC nC kC, .bool bD, .slice qD nD kD]) aggR hS 0 rfl rfl (ev rfl (ho 4 rfl)) rfl rfl rfl ⟨_, _, rfl, isI, New.same _⟩⟩
        refine stepsCons rfl ?_ ?_
        · intro Q f' w' ρ S ho hT hS hB
          obtain ⟨hv2, hr2⟩ := (hT 2 23 rfl rfl : (Is (.agg #[.bool bC, .slice qC nC kC, .bool bD, .slice qD nD kD])) (f' 23) (ρ 2))
          obtain hS := hS.flat1 hr2
          refine .inl ⟨want_none rfl, ocall rfl rfl Try.call27 rfl (wlsome0 ((hzD.at hS).mono (by omega)) (hv)) (args1 (ev rfl hv2)) ?_⟩
          rintro _ w9 ⟨_, _, rfl, hTT, hN⟩
          exact ⟨_, rfl, _, _, rfl, hTT, hN⟩
        refine stepsCons rfl ?_ ?_
        · intro Q f' w' ρ S ho hT hS hB
          exact .inl ⟨want_none rfl, oallocN [.bool false, .slice none 0 0, .bool false, .slice none 0 0] rfl rfl Try.zeroValue27 rfl ⟨_, _, rfl, ptrI, New.blk _ _ _⟩⟩
        refine stepsCons rfl ?_ ?_
        · intro Q f' w' ρ S ho hT hS hB
          exact .inl ⟨want_none rfl, oallocN [.bool false, .slice none 0 0, .bool false, .slice none 0 0] rfl rfl Try.zeroValue27 rfl ⟨_, _, rfl, ptrI, New.blk _ _ _⟩⟩
        exact stepsNil
      ·
        intro vs ρ w7 f' hf hT hS
        obtain ⟨hv0, hr0⟩ := (hT 0 (by decide) : (Is (.agg #[.bool bA, .slice qA nA kA, .bool bB, .slice qB nB kB])) (vs 0) (ρ 0))
        obtain ⟨p1, n1, c1, p2, n2, c2, hv1, hr1⟩ := (hT 1 (by decide) : (Rrt 1 1) (vs 1) (ρ 1))
        obtain ⟨hv2, hr2⟩ := (hT 2 (by decide) : (Is (.agg #[.bool bC, .slice qC nC kC, .bool bD, .slice qD nD kD])) (vs 2) (ρ 2))
        obtain ⟨p3, n3, c3, p4, n4, c4, hv3, hr3⟩ := (hT 3 (by decide) : (Rrt 1 1) (vs 3) (ρ 3))
        obtain ⟨g5, hv4, hr4⟩ := (hT 4 (by decide) : (Ptr [.bool false, .slice none 0 0, .bool false, .slice none 0 0] 27) (vs 4) (ρ 4))
        obtain ⟨g6, hv5, hr5⟩ := (hT 5 (by decide) : (Ptr [.bool false, .slice none 0 0, .bool false, .slice none 0 0] 27) (vs 5) (ρ 5))
        simp only [pool, if_true, hr0, hr1, hr2, hr3, hr4, hr5, List.nil_append, List.cons_append, List.append_nil] at hS
        simp only [layf, hv0, hv1, hv2, hv3, hv4, hv5] at hf
        subst hf; clear hT hv0 hv1 hv2 hv3 hv4 hv5 hr0 hr1 hr2 hr3 hr4 hr5
        refine wlate 6 rfl (by kernel_rfl) (ostore [.bool (ng 1), .slice p1 n1 c1, .bool (ng 1), .slice p2 n2 c2] [.bool (ng 1), .slice p1 n1 c1, .bool (ng 1), .slice p2 n2 c2] Try.sizeOf27 hS 1 rfl rfl (ev rfl rfl) (ev (v := .agg #[.bool (ng 1), .slice p1 n1 c1, .bool (ng 1), .slice p2 n2 c2]) rfl rfl) rfl rfl rfl rfl rfl rfl ?_)
        clear hS; intro w8 hS
        refine ⟨heldNil, ?_⟩
        refine wlate 7 rfl (by kernel_rfl) (ostore [.bool (ng 1), .slice p3 n3 c3, .bool (ng 1), .slice p4 n4 c4] [.bool (ng 1), .slice p3 n3 c3, .bool (ng 1), .slice p4 n4 c4] Try.sizeOf27 hS 0 rfl rfl (ev rfl rfl) (ev (v := .agg #[.bool (ng 1), .slice p3 n3 c3, .bool (ng 1), .slice p4 n4 c4]) rfl rfl) rfl rfl rfl rfl rfl rfl ?_)
        clear hS; intro w9 hS
        refine ⟨heldNil, ?_⟩
        refine wdone rfl ?_
        refine thenN ?_
        refine wseq ?_
        refine wreg ?_
        refine wl rfl (ofieldAddr (g := g1) (off := 0) 0 rfl rfl (ev (v := .pointer (some ⟨g1, 0, none⟩)) rfl rfl) Try.runUnderlying27 rfl Try.sizeOf25 rfl ?_)
        refine wl rfl (oload (vs := [.bool bA, .slice qA nA kA]) aggZ hS 7 rfl rfl (ev rfl rfl) rfl rfl rfl ?_)
        refine wl rfl (ofieldAddr (g := g1) (off := 0) 2 rfl rfl (ev (v := .pointer (some ⟨g1, 0, none⟩)) rfl rfl) Try.runUnderlying27 rfl Try.sizeOf25 rfl ?_)
        refine wl rfl (oload (vs := [.bool bB, .slice qB nB kB]) aggZ hS 7 rfl rfl (ev rfl rfl) rfl rfl rfl ?_)
        refine wl rfl (ocall rfl rfl Try.call42 rfl (wrmake0 ((hzA.at hS).mono (by omega)) ((hzB.at hS).mono (by omega)) (hy)) (args2 (ev rfl rfl) (ev rfl rfl)) ?_)
        rintro _ w10 ⟨_, _, rfl, ⟨rfl, rfl⟩, hN⟩
        refine ⟨_, rfl, ?_⟩
        replace hS := hS.news hN; clear hN
        refine wl rfl (omove (v := .tuple #[.agg #[.bool false, .slice none 0 0, .bool false, .slice none 0 0], .int .i64 6]) rfl rfl (ev (v := .tuple #[.agg #[.bool false, .slice none 0 0, .bool false, .slice none 0 0], .int .i64 6]) rfl rfl) ?_)
        refine wl rfl (oextract (vs := [.agg #[.bool false, .slice none 0 0, .bool false, .slice none 0 0], .int .i64 6]) (v := .agg #[.bool false, .slice none 0 0, .bool false, .slice none 0 0]) rfl rfl (ev (v := .tuple #[.agg #[.bool false, .slice none 0 0, .bool false, .slice none 0 0], .int .i64 6]) rfl rfl) rfl ?_)
        refine wl rfl (oextract (vs := [.agg #[.bool false, .slice none 0 0, .bool false, .slice none 0 0], .int .i64 6]) (v := .int .i64 6) rfl rfl (ev (v := .tuple #[.agg #[.bool false, .slice none 0 0, .bool false, .slice none 0 0], .int .i64 6]) rfl rfl) rfl ?_)
        refine wl rfl (oalloc [.bool false, .slice none 0 0, .bool false, .slice none 0 0] hS rfl rfl Try.zeroValue27 rfl ?_)
        clear hS; intro g11 w12 hS
        refine wl rfl (ostore [.bool false, .slice none 0 0, .bool false, .slice none 0 0] [.bool false, .slice none 0 0, .bool false, .slice none 0 0] Try.sizeOf27 hS 0 rfl rfl (ev rfl rfl) (ev (v := .agg #[.bool false, .slice none 0 0, .bool false, .slice none 0 0]) rfl rfl) rfl rfl rfl rfl rfl rfl ?_)
        clear hS; intro w13 hS
        refine wl rfl (oassign (v := .int .i64 6) rfl rfl (ev (v := .int .i64 6) rfl rfl) ?_)
        refine wnil ?_
        refine thenN ?_
        refine wseq ?_
        refine wreg ?_
        refine wl rfl (oload (vs := [.bool bA, .slice qA nA kA, .bool bB, .slice qB nB kB]) aggR hS 8 rfl rfl (ev rfl rfl) rfl rfl rfl ?_)
        refine wl rfl (ocall rfl rfl Try.call43 rfl (wrnorm0 ((hzA.at hS).mono (by omega)) ((hzB.at hS).mono (by omega)) (hy)) (args1 (ev rfl rfl)) ?_)
        rintro _ w14 ⟨_, _, rfl, ⟨rfl, rfl⟩, hN⟩
        refine ⟨_, rfl, ?_⟩
        replace hS := hS.news hN; clear hN
        refine wl rfl (omove (v := .tuple #[.agg #[.bool false, .slice none 0 0, .bool false, .slice none 0 0], .int .i64 6]) rfl rfl (ev (v := .tuple #[.agg #[.bool false, .slice none 0 0, .bool false, .slice none 0 0], .int .i64 6]) rfl rfl) ?_)
        refine wl rfl (oextract (vs := [.agg #[.bool false, .slice none 0 0, .bool false, .slice none 0 0], .int .i64 6]) (v := .agg #[.bool false, .slice none 0 0, .bool false, .slice none 0 0]) rfl rfl (ev (v := .tuple #[.agg #[.bool false, .slice none 0 0, .bool false, .slice none 0 0], .int .i64 6]) rfl rfl) rfl ?_)
        refine wl rfl (oextract (vs := [.agg #[.bool false, .slice none 0 0, .bool false, .slice none 0 0], .int .i64 6]) (v := .int .i64 6) rfl rfl (ev (v := .tuple #[.agg #[.bool false, .slice none 0 0, .bool false, .slice none 0 0], .int .i64 6]) rfl rfl) rfl ?_)
        refine wl rfl (oalloc [.bool false, .slice none 0 0, .bool false, .slice none 0 0] hS rfl rfl Try.zeroValue27 rfl ?_)
        clear hS; intro g15 w16 hS
        refine wl rfl (ostore [.bool false, .slice none 0 0, .bool false, .slice none 0 0] [.bool false, .slice none 0 0, .bool false, .slice none 0 0] Try.sizeOf27 hS 0 rfl rfl (ev rfl rfl) (ev (v := .agg #[.bool false, .slice none 0 0, .bool false, .slice none 0 0]) rfl rfl) rfl rfl rfl rfl rfl rfl ?_)
        clear hS; intro w17 hS
        refine wl rfl (oassign (v := .int .i64 6) rfl rfl (ev (v := .int .i64 6) rfl rfl) ?_)
        refine wnil ?_
        refine thenN ?_
        refine wseq ?_
        refine wreg ?_
        refine wl rfl (oload (vs := [.bool bA, .slice qA nA kA, .bool bB, .slice qB nB kB]) aggR hS 9 rfl rfl (ev rfl rfl) rfl rfl rfl ?_)
        refine wl rfl (ocall rfl rfl Try.call44 rfl (wrsign0 ((hzA.at hS).mono (by omega)) ((hzB.at hS).mono (by omega)) (hy)) (args1 (ev rfl rfl)) ?_)
        rintro _ w18 ⟨_, _, rfl, ⟨rfl, rfl⟩, hN⟩
        refine ⟨_, rfl, ?_⟩
        replace hS := hS.news hN; clear hN
        refine wl rfl (omove (v := .tuple #[.int .i64 0, .int .i64 6]) rfl rfl (ev (v := .tuple #[.int .i64 0, .int .i64 6]) rfl rfl) ?_)
        refine wl rfl (oextract (vs := [.int .i64 0, .int .i64 6]) (v := .int .i64 0) rfl rfl (ev (v := .tuple #[.int .i64 0, .int .i64 6]) rfl rfl) rfl ?_)
        refine wl rfl (oextract (vs := [.int .i64 0, .int .i64 6]) (v := .int .i64 6) rfl rfl (ev (v := .tuple #[.int .i64 0, .int .i64 6]) rfl rfl) rfl ?_)
        refine wl rfl (oassign (v := .int .i64 0) rfl rfl (ev (v := .int .i64 0) rfl rfl) ?_)
        refine wl rfl (oassign (v := .int .i64 6) rfl rfl (ev (v := .int .i64 6) rfl rfl) ?_)
        refine wnil ?_
        refine thenN ?_
        refine wseq ?_
        refine wreg ?_
        refine wl rfl (oload (vs := [.bool bA, .slice qA nA kA, .bool bB, .slice qB nB kB]) aggR hS 9 rfl rfl (ev rfl rfl) rfl rfl rfl ?_)
        refine wl rfl (oload (vs := [.bool bC, .slice qC nC kC, .bool bD, .slice qD nD kD]) aggR hS 8 rfl rfl (ev rfl rfl) rfl rfl rfl ?_)
        refine wl rfl (ocall rfl rfl Try.call45 rfl (wrcmp0 ((hzA.at hS).mono (by omega)) ((hzB.at hS).mono (by omega)) ((hzC.at hS).mono (by omega)) ((hzD.at hS).mono (by omega)) (.inl hy)) (args2 (ev rfl rfl) (ev rfl rfl)) ?_)
        rintro _ w19 ⟨_, _, rfl, ⟨rfl, rfl⟩, hN⟩
        refine ⟨_, rfl, ?_⟩
        replace hS := hS.news hN; clear hN
        refine wl rfl (omove (v := .tuple #[.int .i64 0, .int .i64 6]) rfl rfl (ev (v := .tuple #[.int .i64 0, .int .i64 6]) rfl rfl) ?_)
        refine wl rfl (oextract (vs := [.int .i64 0, .int .i64 6]) (v := .int .i64 0) rfl rfl (ev (v := .tuple #[.int .i64 0, .int .i64 6]) rfl rfl) rfl ?_)
        refine wl rfl (oextract (vs := [.int .i64 0, .int .i64 6]) (v := .int .i64 6) rfl rfl (ev (v := .tuple #[.int .i64 0, .int .i64 6]) rfl rfl) rfl ?_)
        refine wl rfl (oassign (v := .int .i64 0) rfl rfl (ev (v := .int .i64 0) rfl rfl) ?_)
        refine wl rfl (oassign (v := .int .i64 6) rfl rfl (ev (v := .int .i64 6) rfl rfl) ?_)
        refine wnil ?_
        refine thenN ?_
        refine wseq ?_
        refine wreg ?_
        refine wl rfl (oload (vs := [.bool bA, .slice qA nA kA, .bool bB, .slice qB nB kB]) aggR hS 9 rfl rfl (ev rfl rfl) rfl rfl rfl ?_)
        refine wl rfl (ocall rfl rfl Try.call46 rfl (wrfloor0 ((hzA.at hS).mono (by omega)) ((hzB.at hS).mono (by omega)) (hy)) (args1 (ev rfl rfl)) ?_)
        rintro _ w20 ⟨_, _, rfl, ⟨rfl, rfl⟩, hN⟩
        refine ⟨_, rfl, ?_⟩
        replace hS := hS.news hN; clear hN
        refine wl rfl (omove (v := .tuple #[.agg #[.bool false, .slice none 0 0], .int .i64 6]) rfl rfl (ev (v := .tuple #[.agg #[.bool false, .slice none 0 0], .int .i64 6]) rfl rfl) ?_)
        refine wl rfl (oextract (vs := [.agg #[.bool false, .slice none 0 0], .int .i64 6]) (v := .agg #[.bool false, .slice none 0 0]) rfl rfl (ev (v := .tuple #[.agg #[.bool false, .slice none 0 0], .int .i64 6]) rfl rfl) rfl ?_)
        refine wl rfl (oextract (vs := [.agg #[.bool false, .slice none 0 0], .int .i64 6]) (v := .int .i64 6) rfl rfl (ev (v := .tuple #[.agg #[.bool false, .slice none 0 0], .int .i64 6]) rfl rfl) rfl ?_)
        refine wl rfl (oalloc [.bool false, .slice none 0 0] hS rfl rfl Try.zeroValue25 rfl ?_)
        clear hS; intro g21 w22 hS
        refine wl rfl (ostore [.bool false, .slice none 0 0] [.bool false, .slice none 0 0] Try.sizeOf25 hS 0 rfl rfl (ev rfl rfl) (ev (v := .agg #[.bool false, .slice none 0 0]) rfl rfl) rfl rfl rfl rfl rfl rfl ?_)
        clear hS; intro w23 hS
        refine wl rfl (oassign (v := .int .i64 6) rfl rfl (ev (v := .int .i64 6) rfl rfl) ?_)
        refine wnil ?_
        refine thenN ?_
        refine wseq ?_
        refine wstage 10 [54, 55, 56, 57, 58, 59, 60, 61, 19, 20] [[], [0], [], [2, 0, 1], [3, 0, 1, 2], [4, 0, 1, 2, 3], [4, 5, 0, 1, 2, 3], [4, 6, 0, 1, 2, 3, 5], [1, 0, 2, 3, 4, 5, 6], [7, 0, 1, 2, 3, 4, 5, 6, 8]] [[], [], [], [], [], [], [], [], [], []] [] [] (fun i9 => ([fun _ => Is (.agg #[.bool bA, .slice qA nA kA, .bool bB, .slice qB nB kB]), fun _ => Is (.bool false), fun _ => Is (.agg #[.bool bA, .slice qA nA kA, .bool bB, .slice qB nB kB]), fun _ => Is (.bool false), fun _ => Is (.bool false), fun _ => Is undef, fun _ => Is undef, fun _ => Is (.bool false), fun _ => Is (.bool false), fun _ => Is (.bool false)] : List (List Value → Tell)).getD i9 (fun _ _ _ => False)) (heldNil) (fun d _ _ _ _ h => (by cases d <;> exact h)) (by kernel_rfl) (by kernel_rfl) (by kernel_rfl) hS ?_ ?_
        ·
          refine stepsCons rfl ?_ ?_
          · intro Q f' w' ρ S ho hT hS hB
            exact .inl ⟨want_none rfl, oload (vs := [.bool bA, .slice qA nA kA, .bool bB, .slice qB nB kB]) aggR hS 10 rfl rfl (ev rfl (ho 3 rfl)) rfl rfl rfl ⟨_, _, rfl, isI, New.same _⟩⟩
          refine stepsCons rfl ?_ ?_
          · intro Q f' w' ρ S ho hT hS hB
            obtain ⟨hv0, hr0⟩ := (hT 0 54 rfl rfl : (Is (.agg #[.bool bA, .slice qA nA kA, .bool bB, .slice qB nB kB])) (f' 54) (ρ 0))
            obtain hS := hS.flat1 hr0
            refine .inl ⟨want_none rfl, ocall rfl rfl Try.call11 rfl (wsmay0 ((hzB.at hS).mono (by omega)) (hy)) (args1 (ev rfl hv0)) ?_⟩
            rintro _ w9 ⟨_, _, rfl, hTT, hN⟩
            exact ⟨_, rfl, _, _, rfl, hTT, hN⟩
          refine stepsCons rfl ?_ ?_
          · intro Q f' w' ρ S ho hT hS hB
            exact .inl ⟨want_none rfl, oload (vs := [.bool bA, .slice qA nA kA, .bool bB, .slice qB nB kB]) aggR hS 10 rfl rfl (ev rfl (ho 3 rfl)) rfl rfl rfl ⟨_, _, rfl, isI, New.same _⟩⟩
          refine stepsCons rfl ?_ ?_
          · intro Q f' w' ρ S ho hT hS hB
            obtain ⟨hv2, hr2⟩ := (hT 2 56 rfl rfl : (Is (.agg #[.bool bA, .slice qA nA kA, .bool bB, .slice qB nB kB])) (f' 56) (ρ 2))
            obtain hS := hS.flat1 hr2
            refine .inl ⟨want_none rfl, ocall rfl rfl Try.call11 rfl (wsmay0 ((hzB.at hS).mono (by omega)) (hy)) (args1 (ev rfl hv2)) ?_⟩
            rintro _ w9 ⟨_, _, rfl, hTT, hN⟩
            exact ⟨_, rfl, _, _, rfl, hTT, hN⟩
          refine stepsCons rfl ?_ ?_
          · intro Q f' w' ρ S ho hT hS hB
            obtain ⟨hv3, hr3⟩ := (hT 3 57 rfl rfl : (Is (.bool false)) (f' 57) (ρ 3))
            obtain hS := hS.flat1 hr3
            exact .inl ⟨want_none rfl, omove (v := .bool false) rfl rfl (ev (v := .bool false) rfl hv3) ⟨_, _, rfl, isI, New.same _⟩⟩
          refine stepsCons rfl ?_ ?_
          · intro Q f' w' ρ S ho hT hS hB
            obtain ⟨hv4, hr4⟩ := (hT 4 58 rfl rfl : (Is (.bool false)) (f' 58) (ρ 4))
            obtain hS := hS.flat1 hr4
            exact .inr ⟨want_off (e := 58) (b' := false) rfl rfl rfl hv4 rfl, isI⟩
          refine stepsCons rfl ?_ ?_
          · intro Q f' w' ρ S ho hT hS hB
            obtain ⟨hv4, hr4⟩ := (hT 4 58 rfl rfl : (Is (.bool false)) (f' 58) (ρ 4))
            obtain ⟨hv5, hr5⟩ := (hT 5 59 rfl rfl : (Is undef) (f' 59) (ρ 5))
            obtain hS := hS.flat2 hr4 hr5
            exact .inr ⟨want_off (e := 58) (b' := false) rfl rfl rfl hv4 rfl, isI⟩
          refine stepsCons rfl ?_ ?_
          · intro Q f' w' ρ S ho hT hS hB
            obtain ⟨hv4, hr4⟩ := (hT 4 58 rfl rfl : (Is (.bool false)) (f' 58) (ρ 4))
            obtain ⟨hv6, hr6⟩ := (hT 6 60 rfl rfl : (Is undef) (f' 60) (ρ 6))
            obtain hS := hS.flat2 hr4 hr6
            exact .inl ⟨want_none rfl, opick (b := false) (v := .bool false) rfl rfl (ev (v := .bool false) rfl hv4) (evc (v := .bool false)) ⟨_, _, rfl, isI, New.same _⟩⟩
          refine stepsCons rfl ?_ ?_
          · intro Q f' w' ρ S ho hT hS hB
            obtain ⟨hv1, hr1⟩ := (hT 1 55 rfl rfl : (Is (.bool false)) (f' 55) (ρ 1))
            obtain hS := hS.flat1 hr1
            exact .inl ⟨want_none rfl, oassign (v := .bool false) rfl rfl (ev (v := .bool false) rfl hv1) ⟨_, _, rfl, isI, New.same _⟩⟩
          refine stepsCons rfl ?_ ?_
          · intro Q f' w' ρ S ho hT hS hB
            obtain ⟨hv7, hr7⟩ := (hT 7 61 rfl rfl : (Is (.bool false)) (f' 61) (ρ 7))
            obtain hS := hS.flat1 hr7
            exact .inl ⟨want_none rfl, oassign (v := .bool false) rfl rfl (ev (v := .bool false) rfl hv7) ⟨_, _, rfl, isI, New.same _⟩⟩
          exact stepsNil
        ·
          intro vs ρ w24 f' hf hT hS
          obtain ⟨hv0, hr0⟩ := (hT 0 (by decide) : (Is (.agg #[.bool bA, .slice qA nA kA, .bool bB, .slice qB nB kB])) (vs 0) (ρ 0))
          obtain ⟨hv1, hr1⟩ := (hT 1 (by decide) : (Is (.bool false)) (vs 1) (ρ 1))
          obtain ⟨hv2, hr2⟩ := (hT 2 (by decide) : (Is (.agg #[.bool bA, .slice qA nA kA, .bool bB, .slice qB nB kB])) (vs 2) (ρ 2))
          obtain ⟨hv3, hr3⟩ := (hT 3 (by decide) : (Is (.bool false)) (vs 3) (ρ 3))
          obtain ⟨hv4, hr4⟩ := (hT 4 (by decide) : (Is (.bool false)) (vs 4) (ρ 4))
          obtain ⟨hv5, hr5⟩ := (hT 5 (by decide) : (Is undef) (vs 5) (ρ 5))
          obtain ⟨hv6, hr6⟩ := (hT 6 (by decide) : (Is undef) (vs 6) (ρ 6))
          obtain ⟨hv7, hr7⟩ := (hT 7 (by decide) : (Is (.bool false)) (vs 7) (ρ 7))
          obtain ⟨hv8, hr8⟩ := (hT 8 (by decide) : (Is (.bool false)) (vs 8) (ρ 8))
          obtain ⟨hv9, hr9⟩ := (hT 9 (by decide) : (Is (.bool false)) (vs 9) (ρ 9))
          simp only [pool, if_true, hr0, hr1, hr2, hr3, hr4, hr5, hr6, hr7, hr8, hr9, List.nil_append, List.cons_append, List.append_nil] at hS
          simp only [layf, hv0, hv1, hv2, hv3, hv4, hv5, hv6, hv7, hv8, hv9] at hf
          subst hf; clear hT hv0 hv1 hv2 hv3 hv4 hv5 hv6 hv7 hv8 hv9 hr0 hr1 hr2 hr3 hr4 hr5 hr6 hr7 hr8 hr9
          refine wdone rfl ?_
          refine thenN ?_
          refine wseq ?_
          refine wseq ?_
          obtain ⟨z5, hz5⟩ : ∃ z : Int, Hid (RN 1 1 = z) := ⟨_, rfl⟩
          have hk5 : Wd z5 2 := Wd.rn hk1 hz5
          obtain ⟨z6, hz6⟩ : ∃ z : Int, Hid (RD 1 1 = z) := ⟨_, rfl⟩
          have hk6 : Wd z6 2 := Wd.rd hk2 hz6
          obtain ⟨z7, hz7⟩ : ∃ z : Int, Hid (RN 1 1 = z) := ⟨_, rfl⟩
          have hk7 : Wd z7 2 := Wd.rn hk1 hz7
          obtain ⟨z8, hz8⟩ : ∃ z : Int, Hid (RD 1 1 = z) := ⟨_, rfl⟩
          have hk8 : Wd z8 2 := Wd.rd hk2 hz8
          have hk9 : Wd nn 2 := Wd.i64 (h1) (h2)
          have hk10 : Wd 1 2 := Wd.i64 (by omega) (by omega)
          have hk11 : Wd nn 2 := Wd.i64 (h1) (h2)
          have hk12 : Wd 1 2 := Wd.i64 (by omega) (by omega)
          refine wstage 24 [62, 63, 64, 65, 66, 67, 68, 69, 70, 71, 72, 73, 74, 75, 76, 77, 78, 79, 80, 81, 82, 83, 84, 85] [[], [], [], [], [3], [0, 1, 2, 4, 3], [5, 0, 1, 2, 3, 4], [6, 0, 1, 2, 3, 4, 5], [7, 0, 1, 2, 3, 4, 5, 6], [7, 0, 1, 2, 3, 4, 5, 6], [7, 0, 1, 2, 3, 4, 5, 6], [7, 0, 1, 2, 3, 4, 5, 6], [7, 11, 0, 1, 2, 3, 4, 5, 6], [7, 8, 9, 10, 12, 0, 1, 2, 3, 4, 5, 6, 11], [7, 13, 0, 1, 2, 3, 4, 5, 6, 8, 9, 10, 11, 12], [7, 14, 0, 1, 2, 3, 4, 5, 6, 8, 9, 10, 11, 12, 13], [15, 0, 1, 2, 3, 4, 5, 6, 7, 8, 9, 10, 11, 12, 13, 14], [16, 0, 1, 2, 3, 4, 5, 6, 7, 8, 9, 10, 11, 12, 13, 14, 15], [16, 17, 0, 1, 2, 3, 4, 5, 6, 7, 8, 9, 10, 11, 12, 13, 14, 15], [16, 0, 1, 2, 3, 4, 5, 6, 7, 8, 9, 10, 11, 12, 13, 14, 15], [16, 19, 0, 1, 2, 3, 4, 5, 6, 7, 8, 9, 10, 11, 12, 13, 14, 15, 17, 18], [16, 18, 20, 0, 1, 2, 3, 4, 5, 6, 7, 8, 9, 10, 11, 12, 13, 14, 15, 17, 19], [16, 21, 0, 1, 2, 3, 4, 5, 6, 7, 8, 9, 10, 11, 12, 13, 14, 15, 17, 18, 19, 20], [16, 22, 0, 1, 2, 3, 4, 5, 6, 7, 8, 9, 10, 11, 12, 13, 14, 15, 17, 18, 19, 20, 21]] [[], [], [], [], [], [], [], [], [], [], [], [], [], [], [], [], [], [], [], [], [], [], [], []] [] [] (fun i9 => ([fun _ => Is (.bool false), fun _ => Is (.agg #[.bool false, .slice none 0 0, .bool false, .slice none 0 0]), fun _ => Is (.int .i64 6), fun _ => Is (.agg #[.bool (ng 1), .slice p1 n1 c1, .bool (ng 1), .slice p2 n2 c2]), fun _ => Rrt z5 z6, fun _ => Is (.bool true), fun _ => Is (.bool false), fun _ => Is (.bool false), fun _ => Is (.bool false), fun _ => Is (.agg #[.bool false, .slice none 0 0, .bool false, .slice none 0 0]), fun _ => Is (.int .i64 6), fun _ => Is (.agg #[.bool (ng 1), .slice p1 n1 c1, .bool (ng 1), .slice p2 n2 c2]), fun _ => Rrt z7 z8, fun _ => Is (.bool true), fun _ => Is (.bool false), fun _ => Is (.bool false), fun _ => Is (.bool false), fun _ => Is (.int .i64 nn), fun _ => Rrt nn 1, fun _ => Is (.int .i64 nn), fun _ => Rrt nn 1, fun _ => Is (.bool true), fun _ => Is (.bool false), fun _ => Is (.bool false)] : List (List Value → Tell)).getD i9 (fun _ _ _ => False)) (heldNil) (fun d _ _ _ _ h => (by cases d <;> exact h)) (by kernel_rfl) (by kernel_rfl) (by kernel_rfl) hS ?_ ?_
          ·
            refine stepsCons rfl ?_ ?_
            · intro Q f' w' ρ S ho hT hS hB
              exact .inl ⟨want_none rfl, omove (v := .bool false) rfl rfl (ev (v := .bool false) rfl (ho 19 rfl)) ⟨_, _, rfl, isI, New.same _⟩⟩
            refine stepsCons rfl ?_ ?_
            · intro Q f' w' ρ S ho hT hS hB
              exact .inl ⟨want_none rfl, oload (vs := [.bool false, .slice none 0 0, .bool false, .slice none 0 0]) aggR hS 2 rfl rfl (ev rfl (ho 9 rfl)) rfl rfl rfl ⟨_, _, rfl, isI, New.same _⟩⟩
            refine stepsCons rfl ?_ ?_
            · intro Q f' w' ρ S ho hT hS hB
              exact .inl ⟨want_none rfl, omove (v := .int .i64 6) rfl rfl (ev (v := .int .i64 6) rfl (ho 10 rfl)) ⟨_, _, rfl, isI, New.same _⟩⟩
            refine stepsCons rfl ?_ ?_
            · intro Q f' w' ρ S ho hT hS hB
              exact .inl ⟨want_none rfl, oload (vs := [.bool (ng 1), .slice p1 n1 c1, .bool (ng 1), .slice p2 n2 c2]) aggR hS 4 rfl rfl (ev rfl (ho 7 rfl)) rfl rfl rfl ⟨_, _, rfl, isI, New.same _⟩⟩
            refine stepsCons rfl ?_ ?_
            · intro Q f' w' ρ S ho hT hS hB
              obtain ⟨hv3, hr3⟩ := (hT 3 65 rfl rfl : (Is (.agg #[.bool (ng 1), .slice p1 n1 c1, .bool (ng 1), .slice p2 n2 c2])) (f' 65) (ρ 3))
              obtain hS := hS.flat1 hr3
              refine .inl ⟨want_none rfl, ocall rfl rfl Try.call37 rfl ((wsnorm (((hS.slm 7 rfl).zr hk1).mono (by omega)) (((hS.slm 8 rfl).zr hk2).mono (by omega)) (by omega) hz5 hz6)) (args1 (ev rfl hv3)) ?_⟩
              rintro _ w9 ⟨_, _, rfl, hTT, hN⟩
              exact ⟨_, rfl, _, _, rfl, hTT, hN⟩
            refine stepsCons rfl ?_ ?_
            · intro Q f' w' ρ S ho hT hS hB
              obtain ⟨hv0, hr0⟩ := (hT 0 62 rfl rfl : (Is (.bool false)) (f' 62) (ρ 0))
              obtain ⟨hv1, hr1⟩ := (hT 1 63 rfl rfl : (Is (.agg #[.bool false, .slice none 0 0, .bool false, .slice none 0 0])) (f' 63) (ρ 1))
              obtain ⟨hv2, hr2⟩ := (hT 2 64 rfl rfl : (Is (.int .i64 6)) (f' 64) (ρ 2))
              obtain ⟨p5, n5, c5, p6, n6, c6, hv4, hr4⟩ := (hT 4 66 rfl rfl : (Rrt z5 z6) (f' 66) (ρ 4))
              obtain hS := hS.flat4 hr0 hr1 hr2 hr4
              refine .inl ⟨want_none rfl, ocall rfl rfl Try.call32 rfl (wltold0) (args4 (ev rfl hv0) (ev rfl hv1) (ev rfl hv2) (ev rfl hv4)) ?_⟩
              rintro _ w9 ⟨_, _, rfl, hTT, hN⟩
              exact ⟨_, rfl, _, _, rfl, hTT, hN⟩
            refine stepsCons rfl ?_ ?_
            · intro Q f' w' ρ S ho hT hS hB
              obtain ⟨hv5, hr5⟩ := (hT 5 67 rfl rfl : (Is (.bool true)) (f' 67) (ρ 5))
              obtain hS := hS.flat1 hr5
              exact .inl ⟨want_none rfl, onot (b := true) rfl rfl (ev (v := .bool true) rfl hv5) ⟨_, _, rfl, isI, New.same _⟩⟩
            refine stepsCons rfl ?_ ?_
            · intro Q f' w' ρ S ho hT hS hB
              obtain ⟨hv6, hr6⟩ := (hT 6 68 rfl rfl : (Is (.bool false)) (f' 68) (ρ 6))
              obtain hS := hS.flat1 hr6
              exact .inl ⟨want_none rfl, omove (v := .bool false) rfl rfl (ev (v := .bool false) rfl hv6) ⟨_, _, rfl, isI, New.same _⟩⟩
            refine stepsCons rfl ?_ ?_
            · intro Q f' w' ρ S ho hT hS hB
              obtain ⟨hv7, hr7⟩ := (hT 7 69 rfl rfl : (Is (.bool false)) (f' 69) (ρ 7))
              obtain hS := hS.flat1 hr7
              exact .inl ⟨want_on (e := 69) rfl rfl rfl hv7, omove (v := .bool false) rfl rfl (ev (v := .bool false) rfl (ho 19 rfl)) ⟨_, _, rfl, isI, New.same _⟩⟩
            refine stepsCons rfl ?_ ?_
            · intro Q f' w' ρ S ho hT hS hB
              obtain ⟨hv7, hr7⟩ := (hT 7 69 rfl rfl : (Is (.bool false)) (f' 69) (ρ 7))
              obtain hS := hS.flat1 hr7
              exact .inl ⟨want_on (e := 69) rfl rfl rfl hv7, oload (vs := [.bool false, .slice none 0 0, .bool false, .slice none 0 0]) aggR hS 1 rfl rfl (ev rfl (ho 11 rfl)) rfl rfl rfl ⟨_, _, rfl, isI, New.same _⟩⟩
            refine stepsCons rfl ?_ ?_
            · intro Q f' w' ρ S ho hT hS hB
              obtain ⟨hv7, hr7⟩ := (hT 7 69 rfl rfl : (Is (.bool false)) (f' 69) (ρ 7))
              obtain hS := hS.flat1 hr7
              exact .inl ⟨want_on (e := 69) rfl rfl rfl hv7, omove (v := .int .i64 6) rfl rfl (ev (v := .int .i64 6) rfl (ho 12 rfl)) ⟨_, _, rfl, isI, New.same _⟩⟩
            refine stepsCons rfl ?_ ?_
            · intro Q f' w' ρ S ho hT hS hB
              obtain ⟨hv7, hr7⟩ := (hT 7 69 rfl rfl : (Is (.bool false)) (f' 69) (ρ 7))
              obtain hS := hS.flat1 hr7
              exact .inl ⟨want_on (e := 69) rfl rfl rfl hv7, oload (vs := [.bool (ng 1), .slice p1 n1 c1, .bool (ng 1), .slice p2 n2 c2]) aggR hS 4 rfl rfl (ev rfl (ho 7 rfl)) rfl rfl rfl ⟨_, _, rfl, isI, New.same _⟩⟩
            refine stepsCons rfl ?_ ?_
            · intro Q f' w' ρ S ho hT hS hB
              obtain ⟨hv7, hr7⟩ := (hT 7 69 rfl rfl : (Is (.bool false)) (f' 69) (ρ 7))
              obtain ⟨hv11, hr11⟩ := (hT 11 73 rfl rfl : (Is (.agg #[.bool (ng 1), .slice p1 n1 c1, .bool (ng 1), .slice p2 n2 c2])) (f' 73) (ρ 11))
              obtain hS := hS.flat2 hr7 hr11
              refine .inl ⟨want_on (e := 69) rfl rfl rfl hv7, ocall rfl rfl Try.call37 rfl ((wsnorm (((hS.slm 7 rfl).zr hk1).mono (by omega)) (((hS.slm 8 rfl).zr hk2).mono (by omega)) (by omega) hz7 hz8)) (args1 (ev rfl hv11)) ?_⟩
              rintro _ w9 ⟨_, _, rfl, hTT, hN⟩
              exact ⟨_, rfl, _, _, rfl, hTT, hN⟩
            refine stepsCons rfl ?_ ?_
            · intro Q f' w' ρ S ho hT hS hB
              obtain ⟨hv7, hr7⟩ := (hT 7 69 rfl rfl : (Is (.bool false)) (f' 69) (ρ 7))
              obtain ⟨hv8, hr8⟩ := (hT 8 70 rfl rfl : (Is (.bool false)) (f' 70) (ρ 8))
              obtain ⟨hv9, hr9⟩ := (hT 9 71 rfl rfl : (Is (.agg #[.bool false, .slice none 0 0, .bool false, .slice none 0 0])) (f' 71) (ρ 9))
              obtain ⟨hv10, hr10⟩ := (hT 10 72 rfl rfl : (Is (.int .i64 6)) (f' 72) (ρ 10))
              obtain ⟨p7, n7, c7, p8, n8, c8, hv12, hr12⟩ := (hT 12 74 rfl rfl : (Rrt z7 z8) (f' 74) (ρ 12))
              obtain hS := hS.flat5 hr7 hr8 hr9 hr10 hr12
              refine .inl ⟨want_on (e := 69) rfl rfl rfl hv7, ocall rfl rfl Try.call32 rfl (wltold0) (args4 (ev rfl hv8) (ev rfl hv9) (ev rfl hv10) (ev rfl hv12)) ?_⟩
              rintro _ w9 ⟨_, _, rfl, hTT, hN⟩
              exact ⟨_, rfl, _, _, rfl, hTT, hN⟩
            refine stepsCons rfl ?_ ?_
            · intro Q f' w' ρ S ho hT hS hB
              obtain ⟨hv7, hr7⟩ := (hT 7 69 rfl rfl : (Is (.bool false)) (f' 69) (ρ 7))
              obtain ⟨hv13, hr13⟩ := (hT 13 75 rfl rfl : (Is (.bool true)) (f' 75) (ρ 13))
              obtain hS := hS.flat2 hr7 hr13
              exact .inl ⟨want_on (e := 69) rfl rfl rfl hv7, onot (b := true) rfl rfl (ev (v := .bool true) rfl hv13) ⟨_, _, rfl, isI, New.same _⟩⟩
            refine stepsCons rfl ?_ ?_
            · intro Q f' w' ρ S ho hT hS hB
              obtain ⟨hv7, hr7⟩ := (hT 7 69 rfl rfl : (Is (.bool false)) (f' 69) (ρ 7))
              obtain ⟨hv14, hr14⟩ := (hT 14 76 rfl rfl : (Is (.bool false)) (f' 76) (ρ 14))
              obtain hS := hS.flat2 hr7 hr14
              exact .inl ⟨want_none rfl, opick (b := false) (v := .bool false) rfl rfl (ev (v := .bool false) rfl hv7) (ev (v := .bool false) rfl hv14) ⟨_, _, rfl, isI, New.same _⟩⟩
            refine stepsCons rfl ?_ ?_
            · intro Q f' w' ρ S ho hT hS hB
              obtain ⟨hv15, hr15⟩ := (hT 15 77 rfl rfl : (Is (.bool false)) (f' 77) (ρ 15))
              obtain hS := hS.flat1 hr15
              exact .inl ⟨want_none rfl, omove (v := .bool false) rfl rfl (ev (v := .bool false) rfl hv15) ⟨_, _, rfl, isI, New.same _⟩⟩
            refine stepsCons rfl ?_ ?_
            · intro Q f' w' ρ S ho hT hS hB
              obtain ⟨hv16, hr16⟩ := (hT 16 78 rfl rfl : (Is (.bool false)) (f' 78) (ρ 16))
              obtain hS := hS.flat1 hr16
              exact .inl ⟨want_on (e := 78) rfl rfl rfl hv16, omove (v := .int .i64 nn) rfl rfl (ev (v := .int .i64 nn) rfl (ho 2 rfl)) ⟨_, _, rfl, isI, New.same _⟩⟩
            refine stepsCons rfl ?_ ?_
            · intro Q f' w' ρ S ho hT hS hB
              obtain ⟨hv16, hr16⟩ := (hT 16 78 rfl rfl : (Is (.bool false)) (f' 78) (ρ 16))
              obtain ⟨hv17, hr17⟩ := (hT 17 79 rfl rfl : (Is (.int .i64 nn)) (f' 79) (ρ 17))
              obtain hS := hS.flat2 hr16 hr17
              refine .inl ⟨want_on (e := 78) rfl rfl rfl hv16, ocall rfl rfl Try.call47 rfl (wrof (x := nn) (h1) (h2)) (args1 (ev rfl hv17)) ?_⟩
              rintro _ w9 ⟨_, _, rfl, hTT, hN⟩
              exact ⟨_, rfl, _, _, rfl, hTT, hN⟩
            refine stepsCons rfl ?_ ?_
            · intro Q f' w' ρ S ho hT hS hB
              obtain ⟨hv16, hr16⟩ := (hT 16 78 rfl rfl : (Is (.bool false)) (f' 78) (ρ 16))
              obtain hS := hS.flat1 hr16
              exact .inl ⟨want_on (e := 78) rfl rfl rfl hv16, omove (v := .int .i64 nn) rfl rfl (ev (v := .int .i64 nn) rfl (ho 2 rfl)) ⟨_, _, rfl, isI, New.same _⟩⟩
            refine stepsCons rfl ?_ ?_
            · intro Q f' w' ρ S ho hT hS hB
              obtain ⟨hv16, hr16⟩ := (hT 16 78 rfl rfl : (Is (.bool false)) (f' 78) (ρ 16))
              obtain ⟨hv19, hr19⟩ := (hT 19 81 rfl rfl : (Is (.int .i64 nn)) (f' 81) (ρ 19))
              obtain hS := hS.flat2 hr16 hr19
              refine .inl ⟨want_on (e := 78) rfl rfl rfl hv16, ocall rfl rfl Try.call48 rfl (wsof (x := nn) (h1) (h2)) (args1 (ev rfl hv19)) ?_⟩
              rintro _ w9 ⟨_, _, rfl, hTT, hN⟩
              exact ⟨_, rfl, _, _, rfl, hTT, hN⟩
            refine stepsCons rfl ?_ ?_
            · intro Q f' w' ρ S ho hT hS hB
              obtain ⟨hv16, hr16⟩ := (hT 16 78 rfl rfl : (Is (.bool false)) (f' 78) (ρ 16))
              obtain ⟨p9, n9, c9, p10, n10, c10, hv18, hr18⟩ := (hT 18 80 rfl rfl : (Rrt nn 1) (f' 80) (ρ 18))
              obtain ⟨p11, n11, c11, p12, n12, c12, hv20, hr20⟩ := (hT 20 82 rfl rfl : (Rrt nn 1) (f' 82) (ρ 20))
              obtain hS := hS.flat3 hr16 hr18 hr20
              refine .inl ⟨want_on (e := 78) rfl rfl rfl hv16, ocall rfl rfl Try.call13 rfl (wlsame5 (x := nn) (y := 1) (u := nn) (v := 1) (hS.slm 11 rfl) (hS.slm 12 rfl) (hS.slm 13 rfl) (hS.slm 14 rfl) (rfl) (rfl)) (args2 (ev rfl hv18) (ev rfl hv20)) ?_⟩
              rintro _ w9 ⟨_, _, rfl, hTT, hN⟩
              exact ⟨_, rfl, _, _, rfl, hTT, hN⟩
            refine stepsCons rfl ?_ ?_
            · intro Q f' w' ρ S ho hT hS hB
              obtain ⟨hv16, hr16⟩ := (hT 16 78 rfl rfl : (Is (.bool false)) (f' 78) (ρ 16))
              obtain ⟨hv21, hr21⟩ := (hT 21 83 rfl rfl : (Is (.bool true)) (f' 83) (ρ 21))
              obtain hS := hS.flat2 hr16 hr21
              exact .inl ⟨want_on (e := 78) rfl rfl rfl hv16, onot (b := true) rfl rfl (ev (v := .bool true) rfl hv21) ⟨_, _, rfl, isI, New.same _⟩⟩
            refine stepsCons rfl ?_ ?_
            · intro Q f' w' ρ S ho hT hS hB
              obtain ⟨hv16, hr16⟩ := (hT 16 78 rfl rfl : (Is (.bool false)) (f' 78) (ρ 16))
              obtain ⟨hv22, hr22⟩ := (hT 22 84 rfl rfl : (Is (.bool false)) (f' 84) (ρ 22))
              obtain hS := hS.flat2 hr16 hr22
              exact .inl ⟨want_none rfl, opick (b := false) (v := .bool false) rfl rfl (ev (v := .bool false) rfl hv16) (ev (v := .bool false) rfl hv22) ⟨_, _, rfl, isI, New.same _⟩⟩
            exact stepsNil
          ·
            intro vs ρ w25 f' hf hT hS
            obtain ⟨hv0, hr0⟩ := (hT 0 (by decide) : (Is (.bool false)) (vs 0) (ρ 0))
            obtain ⟨hv1, hr1⟩ := (hT 1 (by decide) : (Is (.agg #[.bool false, .slice none 0 0, .bool false, .slice none 0 0])) (vs 1) (ρ 1))
            obtain ⟨hv2, hr2⟩ := (hT 2 (by decide) : (Is (.int .i64 6)) (vs 2) (ρ 2))
            obtain ⟨hv3, hr3⟩ := (hT 3 (by decide) : (Is (.agg #[.bool (ng 1), .slice p1 n1 c1, .bool (ng 1), .slice p2 n2 c2])) (vs 3) (ρ 3))
            obtain ⟨p5, n5, c5, p6, n6, c6, hv4, hr4⟩ := (hT 4 (by decide) : (Rrt z5 z6) (vs 4) (ρ 4))
            obtain ⟨hv5, hr5⟩ := (hT 5 (by decide) : (Is (.bool true)) (vs 5) (ρ 5))
            obtain ⟨hv6, hr6⟩ := (hT 6 (by decide) : (Is (.bool false)) (vs 6) (ρ 6))
            obtain ⟨hv7, hr7⟩ := (hT 7 (by decide) : (Is (.bool false)) (vs 7) (ρ 7))
            obtain ⟨hv8, hr8⟩ := (hT 8 (by decide) : (Is (.bool false)) (vs 8) (ρ 8))
            obtain ⟨hv9, hr9⟩ := (hT 9 (by decide) : (Is (.agg #[.bool false, .slice none 0 0, .bool false, .slice none 0 0])) (vs 9) (ρ 9))
            obtain ⟨hv10, hr10⟩ := (hT 10 (by decide) : (Is (.int .i64 6)) (vs 10) (ρ 10))
            obtain ⟨hv11, hr11⟩ := (hT 11 (by decide) : (Is (.agg #[.bool (ng 1), .slice p1 n1 c1, .bool (ng 1), .slice p2 n2 c2])) (vs 11) (ρ 11))
            obtain ⟨p7, n7, c7, p8, n8, c8, hv12, hr12⟩ := (hT 12 (by decide) : (Rrt z7 z8) (vs 12) (ρ 12))
            obtain ⟨hv13, hr13⟩ := (hT 13 (by decide) : (Is (.bool true)) (vs 13) (ρ 13))
            obtain ⟨hv14, hr14⟩ := (hT 14 (by decide) : (Is (.bool false)) (vs 14) (ρ 14))
            obtain ⟨hv15, hr15⟩ := (hT 15 (by decide) : (Is (.bool false)) (vs 15) (ρ 15))
            obtain ⟨hv16, hr16⟩ := (hT 16 (by decide) : (Is (.bool false)) (vs 16) (ρ 16))
            obtain ⟨hv17, hr17⟩ := (hT 17 (by decide) : (Is (.int .i64 nn)) (vs 17) (ρ 17))
            obtain ⟨p9, n9, c9, p10, n10, c10, hv18, hr18⟩ := (hT 18 (by decide) : (Rrt nn 1) (vs 18) (ρ 18))
            obtain ⟨hv19, hr19⟩ := (hT 19 (by decide) : (Is (.int .i64 nn)) (vs 19) (ρ 19))
            obtain ⟨p11, n11, c11, p12, n12, c12, hv20, hr20⟩ := (hT 20 (by decide) : (Rrt nn 1) (vs 20) (ρ 20))
            obtain ⟨hv21, hr21⟩ := (hT 21 (by decide) : (Is (.bool true)) (vs 21) (ρ 21))
            obtain ⟨hv22, hr22⟩ := (hT 22 (by decide) : (Is (.bool false)) (vs 22) (ρ 22))
            obtain ⟨hv23, hr23⟩ := (hT 23 (by decide) : (Is (.bool false)) (vs 23) (ρ 23))
            simp only [pool, if_true, hr0, hr1, hr2, hr3, hr4, hr5, hr6, hr7, hr8, hr9, hr10, hr11, hr12, hr13, hr14, hr15, hr16, hr17, hr18, hr19, hr20, hr21, hr22, hr23, List.nil_append, List.cons_append, List.append_nil] at hS
            simp only [layf, hv0, hv1, hv2, hv3, hv4, hv5, hv6, hv7, hv8, hv9, hv10, hv11, hv12, hv13, hv14, hv15, hv16, hv17, hv18, hv19, hv20, hv21, hv22, hv23] at hf
            subst hf; clear hT hv0 hv1 hv2 hv3 hv4 hv5 hv6 hv7 hv8 hv9 hv10 hv11 hv12 hv13 hv14 hv15 hv16 hv17 hv18 hv19 hv20 hv21 hv22 hv23 hr0 hr1 hr2 hr3 hr4 hr5 hr6 hr7 hr8 hr9 hr10 hr11 hr12 hr13 hr14 hr15 hr16 hr17 hr18 hr19 hr20 hr21 hr22 hr23
            refine wdone rfl ?_
            refine thenN ?_
            refine wF (ev (v := .bool false) rfl rfl) ?_
            refine wskip ?_
            refine thenN ?_
            refine wseq ?_
            refine wseq ?_
            refine wstage 44 [86, 87, 88, 89, 90, 91, 92, 93, 94, 95, 96, 97, 98, 99, 100, 101, 102, 103, 104, 105, 106, 107, 108, 109, 110, 111, 112, 113, 114, 115, 116, 117, 118, 119, 120, 121, 122, 123, 124, 125, 126, 127, 128, 129] [[], [0], [1, 0], [2, 0, 1], [2, 3, 0, 1], [2, 4, 0, 1, 3], [5, 0, 1, 2, 3, 4], [5, 6, 0, 1, 2, 3, 4], [2, 5, 7, 0, 1, 3, 4, 6], [2, 8, 0, 1, 3, 4, 5, 6, 7], [9, 0, 1, 2, 3, 4, 5, 6, 7, 8], [9, 10, 0, 1, 2, 3, 4, 5, 6, 7, 8], [2, 9, 11, 0, 1, 3, 4, 5, 6, 7, 8, 10], [2, 12, 0, 1, 3, 4, 5, 6, 7, 8, 9, 10, 11], [13, 0, 1, 2, 3, 4, 5, 6, 7, 8, 9, 10, 11, 12], [13, 0, 1, 2, 3, 4, 5, 6, 7, 8, 9, 10, 11, 12], [13, 14, 15, 0, 1, 2, 3, 4, 5, 6, 7, 8, 9, 10, 11, 12], [13, 16, 0, 1, 2, 3, 4, 5, 6, 7, 8, 9, 10, 11, 12, 14, 15], [2, 13, 17, 0, 1, 3, 4, 5, 6, 7, 8, 9, 10, 11, 12, 14, 15, 16], [2, 18, 0, 1, 3, 4, 5, 6, 7, 8, 9, 10, 11, 12, 13, 14, 15, 16, 17], [19, 0, 1, 2, 3, 4, 5, 6, 7, 8, 9, 10, 11, 12, 13, 14, 15, 16, 17, 18], [20, 0, 1, 2, 3, 4, 5, 6, 7, 8, 9, 10, 11, 12, 13, 14, 15, 16, 17, 18, 19], [20, 21, 0, 1, 2, 3, 4, 5, 6, 7, 8, 9, 10, 11, 12, 13, 14, 15, 16, 17, 18, 19], [22, 0, 1, 2, 3, 4, 5, 6, 7, 8, 9, 10, 11, 12, 13, 14, 15, 16, 17, 18, 19, 20, 21], [22, 0, 1, 2, 3, 4, 5, 6, 7, 8, 9, 10, 11, 12, 13, 14, 15, 16, 17, 18, 19, 20, 21], [22, 24, 0, 1, 2, 3, 4, 5, 6, 7, 8, 9, 10, 11, 12, 13, 14, 15, 16, 17, 18, 19, 20, 21], [22, 23, 25, 0, 1, 2, 3, 4, 5, 6, 7, 8, 9, 10, 11, 12, 13, 14, 15, 16, 17, 18, 19, 20, 21, 24], [22, 26, 0, 1, 2, 3, 4, 5, 6, 7, 8, 9, 10, 11, 12, 13, 14, 15, 16, 17, 18, 19, 20, 21, 23, 24, 25], [27, 0, 1, 2, 3, 4, 5, 6, 7, 8, 9, 10, 11, 12, 13, 14, 15, 16, 17, 18, 19, 20, 21, 22, 23, 24, 25, 26], [27, 28, 0, 1, 2, 3, 4, 5, 6, 7, 8, 9, 10, 11, 12, 13, 14, 15, 16, 17, 18, 19, 20, 21, 22, 23, 24, 25, 26], [22, 27, 29, 0, 1, 2, 3, 4, 5, 6, 7, 8, 9, 10, 11, 12, 13, 14, 15, 16, 17, 18, 19, 20, 21, 23, 24, 25, 26, 28], [22, 30, 0, 1, 2, 3, 4, 5, 6, 7, 8, 9, 10, 11, 12, 13, 14, 15, 16, 17, 18, 19, 20, 21, 23, 24, 25, 26, 27, 28, 29], [31, 0, 1, 2, 3, 4, 5, 6, 7, 8, 9, 10, 11, 12, 13, 14, 15, 16, 17, 18, 19, 20, 21, 22, 23, 24, 25, 26, 27, 28, 29, 30], [31, 32, 0, 1, 2, 3, 4, 5, 6, 7, 8, 9, 10, 11, 12, 13, 14, 15, 16, 17, 18, 19, 20, 21, 22, 23, 24, 25, 26, 27, 28, 29, 30], [22, 31, 33, 0, 1, 2, 3, 4, 5, 6, 7, 8, 9, 10, 11, 12, 13, 14, 15, 16, 17, 18, 19, 20, 21, 23, 24, 25, 26, 27, 28, 29, 30, 32], [22, 34, 0, 1, 2, 3, 4, 5, 6, 7, 8, 9, 10, 11, 12, 13, 14, 15, 16, 17, 18, 19, 20, 21, 23, 24, 25, 26, 27, 28, 29, 30, 31, 32, 33], [35, 0, 1, 2, 3, 4, 5, 6, 7, 8, 9, 10, 11, 12, 13, 14, 15, 16, 17, 18, 19, 20, 21, 22, 23, 24, 25, 26, 27, 28, 29, 30, 31, 32, 33, 34], [35, 0, 1, 2, 3, 4, 5, 6, 7, 8, 9, 10, 11, 12, 13, 14, 15, 16, 17, 18, 19, 20, 21, 22, 23, 24, 25, 26, 27, 28, 29, 30, 31, 32, 33, 34], [35, 37, 0, 1, 2, 3, 4, 5, 6, 7, 8, 9, 10, 11, 12, 13, 14, 15, 16, 17, 18, 19, 20, 21, 22, 23, 24, 25, 26, 27, 28, 29, 30, 31, 32, 33, 34], [35, 36, 38, 0, 1, 2, 3, 4, 5, 6, 7, 8, 9, 10, 11, 12, 13, 14, 15, 16, 17, 18, 19, 20, 21, 22, 23, 24, 25, 26, 27, 28, 29, 30, 31, 32, 33, 34, 37], [35, 39, 0, 1, 2, 3, 4, 5, 6, 7, 8, 9, 10, 11, 12, 13, 14, 15, 16, 17, 18, 19, 20, 21, 22, 23, 24, 25, 26, 27, 28, 29, 30, 31, 32, 33, 34, 36, 37, 38], [22, 35, 40, 0, 1, 2, 3, 4, 5, 6, 7, 8, 9, 10, 11, 12, 13, 14, 15, 16, 17, 18, 19, 20, 21, 23, 24, 25, 26, 27, 28, 29, 30, 31, 32, 33, 34, 36, 37, 38, 39], [20, 22, 41, 0, 1, 2, 3, 4, 5, 6, 7, 8, 9, 10, 11, 12, 13, 14, 15, 16, 17, 18, 19, 21, 23, 24, 25, 26, 27, 28, 29, 30, 31, 32, 33, 34, 35, 36, 37, 38, 39, 40], [20, 42, 0, 1, 2, 3, 4, 5, 6, 7, 8, 9, 10, 11, 12, 13, 14, 15, 16, 17, 18, 19, 21, 22, 23, 24, 25, 26, 27, 28, 29, 30, 31, 32, 33, 34, 35, 36, 37, 38, 39, 40, 41]] [[], [], [], [], [], [], [], [], [], [], [], [], [], [], [], [], [], [], [], [], [], [], [], [], [], [], [], [], [], [], [], [], [], [], [], [], [], [], [], [], [], [], [], []] [] [] (fun i9 => ([fun _ => Is (.bool false), fun _ => Is (.bool true), fun _ => Is (.bool true), fun _ => Is (.int .i64 0), fun _ => Is (.bool false), fun _ => Is (.bool false), fun _ => Is (.int .i64 6), fun _ => Is (.bool false), fun _ => Is (.bool false), fun _ => Is (.bool false), fun _ => Is (.int .i64 6), fun _ => Is (.bool false), fun _ => Is (.bool false), fun _ => Is (.bool false), fun _ => Is (.agg #[.bool false, .slice none 0 0]), fun _ => Is (.agg #[.bool false, .slice none 0 0]), fun _ => Is (.bool true), fun _ => Is (.bool false), fun _ => Is (.bool false), fun _ => Is (.bool false), fun _ => Is (.bool false), fun _ => Is (.bool false), fun _ => Is (.bool false), fun _ => Is undef, fun _ => Is undef, fun _ => Is undef, fun _ => Is undef, fun _ => Is undef, fun _ => Is undef, fun _ => Is undef, fun _ => Is undef, fun _ => Is undef, fun _ => Is undef, fun _ => Is undef, fun _ => Is undef, fun _ => Is undef, fun _ => Is undef, fun _ => Is undef, fun _ => Is undef, fun _ => Is undef, fun _ => Is undef, fun _ => Is undef, fun _ => Is (.bool false), fun _ => Is (.bool false)] : List (List Value → Tell)).getD i9 (fun _ _ _ => False)) (heldNil) (fun d _ _ _ _ h => (by cases d <;> exact h)) (by kernel_rfl) (by kernel_rfl) (by kernel_rfl) hS ?_ ?_
            ·
              refine stepsCons rfl ?_ ?_
              · intro Q f' w' ρ S ho hT hS hB
                exact .inl ⟨want_none rfl, omove (v := .bool false) rfl rfl (ev (v := .bool false) rfl (ho 19 rfl)) ⟨_, _, rfl, isI, New.same _⟩⟩
              refine stepsCons rfl ?_ ?_
              · intro Q f' w' ρ S ho hT hS hB
                obtain ⟨hv0, hr0⟩ := (hT 0 86 rfl rfl : (Is (.bool false)) (f' 86) (ρ 0))
                obtain hS := hS.flat1 hr0
                exact .inl ⟨want_none rfl, onot (b := false) rfl rfl (ev (v := .bool false) rfl hv0) ⟨_, _, rfl, isI, New.same _⟩⟩
              refine stepsCons rfl ?_ ?_
              · intro Q f' w' ρ S ho hT hS hB
                obtain ⟨hv1, hr1⟩ := (hT 1 87 rfl rfl : (Is (.bool true)) (f' 87) (ρ 1))
                obtain hS := hS.flat1 hr1
                exact .inl ⟨want_none rfl, omove (v := .bool true) rfl rfl (ev (v := .bool true) rfl hv1) ⟨_, _, rfl, isI, New.same _⟩⟩
              refine stepsCons rfl ?_ ?_
              · intro Q f' w' ρ S ho hT hS hB
                obtain ⟨hv2, hr2⟩ := (hT 2 88 rfl rfl : (Is (.bool true)) (f' 88) (ρ 2))
                obtain hS := hS.flat1 hr2
                exact .inl ⟨want_on (e := 88) rfl rfl rfl hv2, omove (v := .int .i64 0) rfl rfl (ev (v := .int .i64 0) rfl (ho 13 rfl)) ⟨_, _, rfl, isI, New.same _⟩⟩
              refine stepsCons rfl ?_ ?_
              · intro Q f' w' ρ S ho hT hS hB
                obtain ⟨hv2, hr2⟩ := (hT 2 88 rfl rfl : (Is (.bool true)) (f' 88) (ρ 2))
                obtain ⟨hv3, hr3⟩ := (hT 3 89 rfl rfl : (Is (.int .i64 0)) (f' 89) (ρ 3))
                obtain hS := hS.flat2 hr2 hr3
                exact .inl ⟨want_on (e := 88) rfl rfl rfl hv2, obin (u := .int .i64 0) (v := .int .i64 0) (z := .bool false) rfl rfl (ev (v := .int .i64 0) rfl hv3) (evc (v := .int .i64 0)) (bin_neq (by decide)) ⟨_, _, rfl, isI, New.same _⟩⟩
              refine stepsCons rfl ?_ ?_
              · intro Q f' w' ρ S ho hT hS hB
                obtain ⟨hv2, hr2⟩ := (hT 2 88 rfl rfl : (Is (.bool true)) (f' 88) (ρ 2))
                obtain ⟨hv4, hr4⟩ := (hT 4 90 rfl rfl : (Is (.bool false)) (f' 90) (ρ 4))
                obtain hS := hS.flat2 hr2 hr4
                exact .inl ⟨want_on (e := 88) rfl rfl rfl hv2, omove (v := .bool false) rfl rfl (ev (v := .bool false) rfl hv4) ⟨_, _, rfl, isI, New.same _⟩⟩
              refine stepsCons rfl ?_ ?_
              · intro Q f' w' ρ S ho hT hS hB
                obtain ⟨hv5, hr5⟩ := (hT 5 91 rfl rfl : (Is (.bool false)) (f' 91) (ρ 5))
                obtain hS := hS.flat1 hr5
                exact .inl ⟨want_on (e := 91) rfl rfl rfl hv5, omove (v := .int .i64 6) rfl rfl (ev (v := .int .i64 6) rfl (ho 14 rfl)) ⟨_, _, rfl, isI, New.same _⟩⟩
              refine stepsCons rfl ?_ ?_
              · intro Q f' w' ρ S ho hT hS hB
                obtain ⟨hv5, hr5⟩ := (hT 5 91 rfl rfl : (Is (.bool false)) (f' 91) (ρ 5))
                obtain ⟨hv6, hr6⟩ := (hT 6 92 rfl rfl : (Is (.int .i64 6)) (f' 92) (ρ 6))
                obtain hS := hS.flat2 hr5 hr6
                exact .inl ⟨want_on (e := 91) rfl rfl rfl hv5, obin (u := .int .i64 6) (v := .int .i64 6) (z := .bool false) rfl rfl (ev (v := .int .i64 6) rfl hv6) (evc (v := .int .i64 6)) (bin_neq (by decide)) ⟨_, _, rfl, isI, New.same _⟩⟩
              refine stepsCons rfl ?_ ?_
              · intro Q f' w' ρ S ho hT hS hB
                obtain ⟨hv2, hr2⟩ := (hT 2 88 rfl rfl : (Is (.bool true)) (f' 88) (ρ 2))
                obtain ⟨hv5, hr5⟩ := (hT 5 91 rfl rfl : (Is (.bool false)) (f' 91) (ρ 5))
                obtain ⟨hv7, hr7⟩ := (hT 7 93 rfl rfl : (Is (.bool false)) (f' 93) (ρ 7))
                obtain hS := hS.flat3 hr2 hr5 hr7
                exact .inl ⟨want_on (e := 88) rfl rfl rfl hv2, opick (b := false) (v := .bool false) rfl rfl (ev (v := .bool false) rfl hv5) (ev (v := .bool false) rfl hv7) ⟨_, _, rfl, isI, New.same _⟩⟩
              refine stepsCons rfl ?_ ?_
              · intro Q f' w' ρ S ho hT hS hB
                obtain ⟨hv2, hr2⟩ := (hT 2 88 rfl rfl : (Is (.bool true)) (f' 88) (ρ 2))
                obtain ⟨hv8, hr8⟩ := (hT 8 94 rfl rfl : (Is (.bool false)) (f' 94) (ρ 8))
                obtain hS := hS.flat2 hr2 hr8
                exact .inl ⟨want_on (e := 88) rfl rfl rfl hv2, omove (v := .bool false) rfl rfl (ev (v := .bool false) rfl hv8) ⟨_, _, rfl, isI, New.same _⟩⟩
              refine stepsCons rfl ?_ ?_
              · intro Q f' w' ρ S ho hT hS hB
                obtain ⟨hv9, hr9⟩ := (hT 9 95 rfl rfl : (Is (.bool false)) (f' 95) (ρ 9))
                obtain hS := hS.flat1 hr9
                exact .inl ⟨want_on (e := 95) rfl rfl rfl hv9, omove (v := .int .i64 6) rfl rfl (ev (v := .int .i64 6) rfl (ho 18 rfl)) ⟨_, _, rfl, isI, New.same _⟩⟩
              refine stepsCons rfl ?_ ?_
              · intro Q f' w' ρ S ho hT hS hB
                obtain ⟨hv9, hr9⟩ := (hT 9 95 rfl rfl : (Is (.bool false)) (f' 95) (ρ 9))
                obtain ⟨hv10, hr10⟩ := (hT 10 96 rfl rfl : (Is (.int .i64 6)) (f' 96) (ρ 10))
                obtain hS := hS.flat2 hr9 hr10
                exact .inl ⟨want_on (e := 95) rfl rfl rfl hv9, obin (u := .int .i64 6) (v := .int .i64 6) (z := .bool false) rfl rfl (ev (v := .int .i64 6) rfl hv10) (evc (v := .int .i64 6)) (bin_neq (by decide)) ⟨_, _, rfl, isI, New.same _⟩⟩
              refine stepsCons rfl ?_ ?_
              · intro Q f' w' ρ S ho hT hS hB
                obtain ⟨hv2, hr2⟩ := (hT 2 88 rfl rfl : (Is (.bool true)) (f' 88) (ρ 2))
                obtain ⟨hv9, hr9⟩ := (hT 9 95 rfl rfl : (Is (.bool false)) (f' 95) (ρ 9))
                obtain ⟨hv11, hr11⟩ := (hT 11 97 rfl rfl : (Is (.bool false)) (f' 97) (ρ 11))
                obtain hS := hS.flat3 hr2 hr9 hr11
                exact .inl ⟨want_on (e := 88) rfl rfl rfl hv2, opick (b := false) (v := .bool false) rfl rfl (ev (v := .bool false) rfl hv9) (ev (v := .bool false) rfl hv11) ⟨_, _, rfl, isI, New.same _⟩⟩
              refine stepsCons rfl ?_ ?_
              · intro Q f' w' ρ S ho hT hS hB
                obtain ⟨hv2, hr2⟩ := (hT 2 88 rfl rfl : (Is (.bool true)) (f' 88) (ρ 2))
                obtain ⟨hv12, hr12⟩ := (hT 12 98 rfl rfl : (Is (.bool false)) (f' 98) (ρ 12))
                obtain hS := hS.flat2 hr2 hr12
                exact .inl ⟨want_on (e := 88) rfl rfl rfl hv2, omove (v := .bool false) rfl rfl (ev (v := .bool false) rfl hv12) ⟨_, _, rfl, isI, New.same _⟩⟩
              refine stepsCons rfl ?_ ?_
              · intro Q f' w' ρ S ho hT hS hB
                obtain ⟨hv13, hr13⟩ := (hT 13 99 rfl rfl : (Is (.bool false)) (f' 99) (ρ 13))
                obtain hS := hS.flat1 hr13
                exact .inl ⟨want_on (e := 99) rfl rfl rfl hv13, oload (vs := [.bool false, .slice none 0 0]) aggZ hS 8 rfl rfl (ev rfl (ho 17 rfl)) rfl rfl rfl ⟨_, _, rfl, isI, New.same _⟩⟩
              refine stepsCons rfl ?_ ?_
              · intro Q f' w' ρ S ho hT hS hB
                obtain ⟨hv13, hr13⟩ := (hT 13 99 rfl rfl : (Is (.bool false)) (f' 99) (ρ 13))
                obtain hS := hS.flat1 hr13
                exact .inl ⟨want_on (e := 99) rfl rfl rfl hv13, obuild (ps := #[]) (v := .agg #[.bool false, .slice none 0 0]) rfl rfl (parts0) (fun w => by simp [go_sem, Instr.build, Instr.fill]) ⟨_, _, rfl, isI, New.same _⟩⟩
              refine stepsCons rfl ?_ ?_
              · intro Q f' w' ρ S ho hT hS hB
                obtain ⟨hv13, hr13⟩ := (hT 13 99 rfl rfl : (Is (.bool false)) (f' 99) (ρ 13))
                obtain ⟨hv14, hr14⟩ := (hT 14 100 rfl rfl : (Is (.agg #[.bool false, .slice none 0 0])) (f' 100) (ρ 14))
                obtain ⟨hv15, hr15⟩ := (hT 15 101 rfl rfl : (Is (.agg #[.bool false, .slice none 0 0])) (f' 101) (ρ 15))
                obtain hS := hS.flat3 hr13 hr14 hr15
                refine .inl ⟨want_on (e := 99) rfl rfl rfl hv13, ocall rfl rfl Try.call22 rfl (wqsame (x := 0) (y := 0) (Sl.nil _) (Sl.nil _) (rfl)) (args2 (ev rfl hv14) (ev rfl hv15)) ?_⟩
                rintro _ w9 ⟨_, _, rfl, hTT, hN⟩
                exact ⟨_, rfl, _, _, rfl, hTT, hN⟩
              refine stepsCons rfl ?_ ?_
              · intro Q f' w' ρ S ho hT hS hB
                obtain ⟨hv13, hr13⟩ := (hT 13 99 rfl rfl : (Is (.bool false)) (f' 99) (ρ 13))
                obtain ⟨hv16, hr16⟩ := (hT 16 102 rfl rfl : (Is (.bool true)) (f' 102) (ρ 16))
                obtain hS := hS.flat2 hr13 hr16
                exact .inl ⟨want_on (e := 99) rfl rfl rfl hv13, onot (b := true) rfl rfl (ev (v := .bool true) rfl hv16) ⟨_, _, rfl, isI, New.same _⟩⟩
              refine stepsCons rfl ?_ ?_
              · intro Q f' w' ρ S ho hT hS hB
                obtain ⟨hv2, hr2⟩ := (hT 2 88 rfl rfl : (Is (.bool true)) (f' 88) (ρ 2))
                obtain ⟨hv13, hr13⟩ := (hT 13 99 rfl rfl : (Is (.bool false)) (f' 99) (ρ 13))
                obtain ⟨hv17, hr17⟩ := (hT 17 103 rfl rfl : (Is (.bool false)) (f' 103) (ρ 17))
                obtain hS := hS.flat3 hr2 hr13 hr17
                exact .inl ⟨want_on (e := 88) rfl rfl rfl hv2, opick (b := false) (v := .bool false) rfl rfl (ev (v := .bool false) rfl hv13) (ev (v := .bool false) rfl hv17) ⟨_, _, rfl, isI, New.same _⟩⟩
              refine stepsCons rfl ?_ ?_
              · intro Q f' w' ρ S ho hT hS hB
                obtain ⟨hv2, hr2⟩ := (hT 2 88 rfl rfl : (Is (.bool true)) (f' 88) (ρ 2))
                obtain ⟨hv18, hr18⟩ := (hT 18 104 rfl rfl : (Is (.bool false)) (f' 104) (ρ 18))
                obtain hS := hS.flat2 hr2 hr18
                exact .inl ⟨want_none rfl, opick (b := true) (v := .bool false) rfl rfl (ev (v := .bool true) rfl hv2) (ev (v := .bool false) rfl hv18) ⟨_, _, rfl, isI, New.same _⟩⟩
              refine stepsCons rfl ?_ ?_
              · intro Q f' w' ρ S ho hT hS hB
                obtain ⟨hv19, hr19⟩ := (hT 19 105 rfl rfl : (Is (.bool false)) (f' 105) (ρ 19))
                obtain hS := hS.flat1 hr19
                exact .inl ⟨want_none rfl, omove (v := .bool false) rfl rfl (ev (v := .bool false) rfl hv19) ⟨_, _, rfl, isI, New.same _⟩⟩
              refine stepsCons rfl ?_ ?_
              · intro Q f' w' ρ S ho hT hS hB
                obtain ⟨hv20, hr20⟩ := (hT 20 106 rfl rfl : (Is (.bool false)) (f' 106) (ρ 20))
                obtain hS := hS.flat1 hr20
                exact .inl ⟨want_on (e := 106) rfl rfl rfl hv20, omove (v := .bool false) rfl rfl (ev (v := .bool false) rfl (ho 19 rfl)) ⟨_, _, rfl, isI, New.same _⟩⟩
              refine stepsCons rfl ?_ ?_
              · intro Q f' w' ρ S ho hT hS hB
                obtain ⟨hv20, hr20⟩ := (hT 20 106 rfl rfl : (Is (.bool false)) (f' 106) (ρ 20))
                obtain ⟨hv21, hr21⟩ := (hT 21 107 rfl rfl : (Is (.bool false)) (f' 107) (ρ 21))
                obtain hS := hS.flat2 hr20 hr21
                exact .inl ⟨want_on (e := 106) rfl rfl rfl hv20, omove (v := .bool false) rfl rfl (ev (v := .bool false) rfl hv21) ⟨_, _, rfl, isI, New.same _⟩⟩
              refine stepsCons rfl ?_ ?_
              · intro Q f' w' ρ S ho hT hS hB
                obtain ⟨hv22, hr22⟩ := (hT 22 108 rfl rfl : (Is (.bool false)) (f' 108) (ρ 22))
                obtain hS := hS.flat1 hr22
                exact .inr ⟨want_off (e := 108) (b' := false) rfl rfl rfl hv22 rfl, isI⟩
              refine stepsCons rfl ?_ ?_
              · intro Q f' w' ρ S ho hT hS hB
                obtain ⟨hv22, hr22⟩ := (hT 22 108 rfl rfl : (Is (.bool false)) (f' 108) (ρ 22))
                obtain hS := hS.flat1 hr22
                exact .inr ⟨want_off (e := 108) (b' := false) rfl rfl rfl hv22 rfl, isI⟩
              refine stepsCons rfl ?_ ?_
              · intro Q f' w' ρ S ho hT hS hB
                obtain ⟨hv22, hr22⟩ := (hT 22 108 rfl rfl : (Is (.bool false)) (f' 108) (ρ 22))
                obtain ⟨hv24, hr24⟩ := (hT 24 110 rfl rfl : (Is undef) (f' 110) (ρ 24))
                obtain hS := hS.flat2 hr22 hr24
                exact .inr ⟨want_off (e := 108) (b' := false) rfl rfl rfl hv22 rfl, isI⟩
              refine stepsCons rfl ?_ ?_
              · intro Q f' w' ρ S ho hT hS hB
                obtain ⟨hv22, hr22⟩ := (hT 22 108 rfl rfl : (Is (.bool false)) (f' 108) (ρ 22))
                obtain ⟨hv23, hr23⟩ := (hT 23 109 rfl rfl : (Is undef) (f' 109) (ρ 23))
                obtain ⟨hv25, hr25⟩ := (hT 25 111 rfl rfl : (Is undef) (f' 111) (ρ 25))
                obtain hS := hS.flat3 hr22 hr23 hr25
                exact .inr ⟨want_off (e := 108) (b' := false) rfl rfl rfl hv22 rfl, isI⟩
              refine stepsCons rfl ?_ ?_
              · intro Q f' w' ρ S ho hT hS hB
                obtain ⟨hv22, hr22⟩ := (hT 22 108 rfl rfl : (Is (.bool false)) (f' 108) (ρ 22))
                obtain ⟨hv26, hr26⟩ := (hT 26 112 rfl rfl : (Is undef) (f' 112) (ρ 26))
                obtain hS := hS.flat2 hr22 hr26
                exact .inr ⟨want_off (e := 108) (b' := false) rfl rfl rfl hv22 rfl, isI⟩
              refine stepsCons rfl ?_ ?_
              · intro Q f' w' ρ S ho hT hS hB
                obtain ⟨hv27, hr27⟩ := (hT 27 113 rfl rfl : (Is undef) (f' 113) (ρ 27))
                obtain hS := hS.flat1 hr27
                exact .inr ⟨want_undef (e := 113) rfl rfl rfl hv27, isI⟩
              refine stepsCons rfl ?_ ?_
              · intro Q f' w' ρ S ho hT hS hB
                obtain ⟨hv27, hr27⟩ := (hT 27 113 rfl rfl : (Is undef) (f' 113) (ρ 27))
                obtain ⟨hv28, hr28⟩ := (hT 28 114 rfl rfl : (Is undef) (f' 114) (ρ 28))
                obtain hS := hS.flat2 hr27 hr28
                exact .inr ⟨want_undef (e := 113) rfl rfl rfl hv27, isI⟩
              refine stepsCons rfl ?_ ?_
              · intro Q f' w' ρ S ho hT hS hB
                obtain ⟨hv22, hr22⟩ := (hT 22 108 rfl rfl : (Is (.bool false)) (f' 108) (ρ 22))
                obtain ⟨hv27, hr27⟩ := (hT 27 113 rfl rfl : (Is undef) (f' 113) (ρ 27))
                obtain ⟨hv29, hr29⟩ := (hT 29 115 rfl rfl : (Is undef) (f' 115) (ρ 29))
                obtain hS := hS.flat3 hr22 hr27 hr29
                exact .inr ⟨want_off (e := 108) (b' := false) rfl rfl rfl hv22 rfl, isI⟩
              refine stepsCons rfl ?_ ?_
              · intro Q f' w' ρ S ho hT hS hB
                obtain ⟨hv22, hr22⟩ := (hT 22 108 rfl rfl : (Is (.bool false)) (f' 108) (ρ 22))
                obtain ⟨hv30, hr30⟩ := (hT 30 116 rfl rfl : (Is undef) (f' 116) (ρ 30))
                obtain hS := hS.flat2 hr22 hr30
                exact .inr ⟨want_off (e := 108) (b' := false) rfl rfl rfl hv22 rfl, isI⟩
              refine stepsCons rfl ?_ ?_
              · intro Q f' w' ρ S ho hT hS hB
                obtain ⟨hv31, hr31⟩ := (hT 31 117 rfl rfl : (Is undef) (f' 117) (ρ 31))
                obtain hS := hS.flat1 hr31
                exact .inr ⟨want_undef (e := 117) rfl rfl rfl hv31, isI⟩
              refine stepsCons rfl ?_ ?_
              · intro Q f' w' ρ S ho hT hS hB
                obtain ⟨hv31, hr31⟩ := (hT 31 117 rfl rfl : (Is undef) (f' 117) (ρ 31))
                obtain ⟨hv32, hr32⟩ := (hT 32 118 rfl rfl : (Is undef) (f' 118) (ρ 32))
                obtain hS := hS.flat2 hr31 hr32
                exact .inr ⟨want_undef (e := 117) rfl rfl rfl hv31, isI⟩
              refine stepsCons rfl ?_ ?_
              · intro Q f' w' ρ S ho hT hS hB
                obtain ⟨hv22, hr22⟩ := (hT 22 108 rfl rfl : (Is (.bool false)) (f' 108) (ρ 22))
                obtain ⟨hv31, hr31⟩ := (hT 31 117 rfl rfl : (Is undef) (f' 117) (ρ 31))
                obtain ⟨hv33, hr33⟩ := (hT 33 119 rfl rfl : (Is undef) (f' 119) (ρ 33))
                obtain hS := hS.flat3 hr22 hr31 hr33
                exact .inr ⟨want_off (e := 108) (b' := false) rfl rfl rfl hv22 rfl, isI⟩
              refine stepsCons rfl ?_ ?_
              · intro Q f' w' ρ S ho hT hS hB
                obtain ⟨hv22, hr22⟩ := (hT 22 108 rfl rfl : (Is (.bool false)) (f' 108) (ρ 22))
                obtain ⟨hv34, hr34⟩ := (hT 34 120 rfl rfl : (Is undef) (f' 120) (ρ 34))
                obtain hS := hS.flat2 hr22 hr34
                exact .inr ⟨want_off (e := 108) (b' := false) rfl rfl rfl hv22 rfl, isI⟩
              refine stepsCons rfl ?_ ?_
              · intro Q f' w' ρ S ho hT hS hB
                obtain ⟨hv35, hr35⟩ := (hT 35 121 rfl rfl : (Is undef) (f' 121) (ρ 35))
                obtain hS := hS.flat1 hr35
                exact .inr ⟨want_undef (e := 121) rfl rfl rfl hv35, isI⟩
              refine stepsCons rfl ?_ ?_
              · intro Q f' w' ρ S ho hT hS hB
                obtain ⟨hv35, hr35⟩ := (hT 35 121 rfl rfl : (Is undef) (f' 121) (ρ 35))
                obtain hS := hS.flat1 hr35
                exact .inr ⟨want_undef (e := 121) rfl rfl rfl hv35, isI⟩
              refine stepsCons rfl ?_ ?_
              · intro Q f' w' ρ S ho hT hS hB
                obtain ⟨hv35, hr35⟩ := (hT 35 121 rfl rfl : (Is undef) (f' 121) (ρ 35))
                obtain ⟨hv37, hr37⟩ := (hT 37 123 rfl rfl : (Is undef) (f' 123) (ρ 37))
                obtain hS := hS.flat2 hr35 hr37
                exact .inr ⟨want_undef (e := 121) rfl rfl rfl hv35, isI⟩
              refine stepsCons rfl ?_ ?_
              · intro Q f' w' ρ S ho hT hS hB
                obtain ⟨hv35, hr35⟩ := (hT 35 121 rfl rfl : (Is undef) (f' 121) (ρ 35))
                obtain ⟨hv36, hr36⟩ := (hT 36 122 rfl rfl : (Is undef) (f' 122) (ρ 36))
                obtain ⟨hv38, hr38⟩ := (hT 38 124 rfl rfl : (Is undef) (f' 124) (ρ 38))
                obtain hS := hS.flat3 hr35 hr36 hr38
                exact .inr ⟨want_undef (e := 121) rfl rfl rfl hv35, isI⟩
              refine stepsCons rfl ?_ ?_
              · intro Q f' w' ρ S ho hT hS hB
                obtain ⟨hv35, hr35⟩ := (hT 35 121 rfl rfl : (Is undef) (f' 121) (ρ 35))
                obtain ⟨hv39, hr39⟩ := (hT 39 125 rfl rfl : (Is undef) (f' 125) (ρ 39))
                obtain hS := hS.flat2 hr35 hr39
                exact .inr ⟨want_undef (e := 121) rfl rfl rfl hv35, isI⟩
              refine stepsCons rfl ?_ ?_
              · intro Q f' w' ρ S ho hT hS hB
                obtain ⟨hv22, hr22⟩ := (hT 22 108 rfl rfl : (Is (.bool false)) (f' 108) (ρ 22))
                obtain ⟨hv35, hr35⟩ := (hT 35 121 rfl rfl : (Is undef) (f' 121) (ρ 35))
                obtain ⟨hv40, hr40⟩ := (hT 40 126 rfl rfl : (Is undef) (f' 126) (ρ 40))
                obtain hS := hS.flat3 hr22 hr35 hr40
                exact .inr ⟨want_off (e := 108) (b' := false) rfl rfl rfl hv22 rfl, isI⟩
              refine stepsCons rfl ?_ ?_
              · intro Q f' w' ρ S ho hT hS hB
                obtain ⟨hv20, hr20⟩ := (hT 20 106 rfl rfl : (Is (.bool false)) (f' 106) (ρ 20))
                obtain ⟨hv22, hr22⟩ := (hT 22 108 rfl rfl : (Is (.bool false)) (f' 108) (ρ 22))
                obtain ⟨hv41, hr41⟩ := (hT 41 127 rfl rfl : (Is undef) (f' 127) (ρ 41))
                obtain hS := hS.flat3 hr20 hr22 hr41
                exact .inl ⟨want_on (e := 106) rfl rfl rfl hv20, opick (b := false) (v := .bool false) rfl rfl (ev (v := .bool false) rfl hv22) (evc (v := .bool false)) ⟨_, _, rfl, isI, New.same _⟩⟩
              refine stepsCons rfl ?_ ?_
              · intro Q f' w' ρ S ho hT hS hB
                obtain ⟨hv20, hr20⟩ := (hT 20 106 rfl rfl : (Is (.bool false)) (f' 106) (ρ 20))
                obtain ⟨hv42, hr42⟩ := (hT 42 128 rfl rfl : (Is (.bool false)) (f' 128) (ρ 42))
                obtain hS := hS.flat2 hr20 hr42
                exact .inl ⟨want_none rfl, opick (b := false) (v := .bool false) rfl rfl (ev (v := .bool false) rfl hv20) (ev (v := .bool false) rfl hv42) ⟨_, _, rfl, isI, New.same _⟩⟩
              exact stepsNil
            ·
              intro vs ρ w26 f' hf hT hS
              obtain ⟨hv0, hr0⟩ := (hT 0 (by decide) : (Is (.bool false)) (vs 0) (ρ 0))
              obtain ⟨hv1, hr1⟩ := (hT 1 (by decide) : (Is (.bool true)) (vs 1) (ρ 1))
              obtain ⟨hv2, hr2⟩ := (hT 2 (by decide) : (Is (.bool true)) (vs 2) (ρ 2))
              obtain ⟨hv3, hr3⟩ := (hT 3 (by decide) : (Is (.int .i64 0)) (vs 3) (ρ 3))
              obtain ⟨hv4, hr4⟩ := (hT 4 (by decide) : (Is (.bool false)) (vs 4) (ρ 4))
              obtain ⟨hv5, hr5⟩ := (hT 5 (by decide) : (Is (.bool false)) (vs 5) (ρ 5))
              obtain ⟨hv6, hr6⟩ := (hT 6 (by decide) : (Is (.int .i64 6)) (vs 6) (ρ 6))
              obtain ⟨hv7, hr7⟩ := (hT 7 (by decide) : (Is (.bool false)) (vs 7) (ρ 7))
              obtain ⟨hv8, hr8⟩ := (hT 8 (by decide) : (Is (.bool false)) (vs 8) (ρ 8))
              obtain ⟨hv9, hr9⟩ := (hT 9 (by decide) : (Is (.bool false)) (vs 9) (ρ 9))
              obtain ⟨hv10, hr10⟩ := (hT 10 (by decide) : (Is (.int .i64 6)) (vs 10) (ρ 10))
              obtain ⟨hv11, hr11⟩ := (hT 11 (by decide) : (Is (.bool false)) (vs 11) (ρ 11))
              obtain ⟨hv12, hr12⟩ := (hT 12 (by decide) : (Is (.bool false)) (vs 12) (ρ 12))
              obtain ⟨hv13, hr13⟩ := (hT 13 (by decide) : (Is (.bool false)) (vs 13) (ρ 13))
              obtain ⟨hv14, hr14⟩ := (hT 14 (by decide) : (Is (.agg #[.bool false, .slice none 0 0])) (vs 14) (ρ 14))
              obtain ⟨hv15, hr15⟩ := (hT 15 (by decide) : (Is (.agg #[.bool false, .slice none 0 0])) (vs 15) (ρ 15))
              obtain ⟨hv16, hr16⟩ := (hT 16 (by decide) : (Is (.bool true)) (vs 16) (ρ 16))
              obtain ⟨hv17, hr17⟩ := (hT 17 (by decide) : (Is (.bool false)) (vs 17) (ρ 17))
              obtain ⟨hv18, hr18⟩ := (hT 18 (by decide) : (Is (.bool false)) (vs 18) (ρ 18))
              obtain ⟨hv19, hr19⟩ := (hT 19 (by decide) : (Is (.bool false)) (vs 19) (ρ 19))
              obtain ⟨hv20, hr20⟩ := (hT 20 (by decide) : (Is (.bool false)) (vs 20) (ρ 20))
              obtain ⟨hv21, hr21⟩ := (hT 21 (by decide) : (Is (.bool false)) (vs 21) (ρ 21))
              obtain ⟨hv22, hr22⟩ := (hT 22 (by decide) : (Is (.bool false)) (vs 22) (ρ 22))
              obtain ⟨hv23, hr23⟩ := (hT 23 (by decide) : (Is undef) (vs 23) (ρ 23))
              obtain ⟨hv24, hr24⟩ := (hT 24 (by decide) : (Is undef) (vs 24) (ρ 24))
              obtain ⟨hv25, hr25⟩ := (hT 25 (by decide) : (Is undef) (vs 25) (ρ 25))
              obtain ⟨hv26, hr26⟩ := (hT 26 (by decide) : (Is undef) (vs 26) (ρ 26))
              obtain ⟨hv27, hr27⟩ := (hT 27 (by decide) : (Is undef) (vs 27) (ρ 27))
              obtain ⟨hv28, hr28⟩ := (hT 28 (by decide) : (Is undef) (vs 28) (ρ 28))
              obtain ⟨hv29, hr29⟩ := (hT 29 (by decide) : (Is undef) (vs 29) (ρ 29))
              obtain ⟨hv30, hr30⟩ := (hT 30 (by decide) : (Is undef) (vs 30) (ρ 30))
              obtain ⟨hv31, hr31⟩ := (hT 31 (by decide) : (Is undef) (vs 31) (ρ 31))
              obtain ⟨hv32, hr32⟩ := (hT 32 (by decide) : (Is undef) (vs 32) (ρ 32))
              obtain ⟨hv33, hr33⟩ := (hT 33 (by decide) : (Is undef) (vs 33) (ρ 33))
              obtain ⟨hv34, hr34⟩ := (hT 34 (by decide) : (Is undef) (vs 34) (ρ 34))
              obtain ⟨hv35, hr35⟩ := (hT 35 (by decide) : (Is undef) (vs 35) (ρ 35))
              obtain ⟨hv36, hr36⟩ := (hT 36 (by decide) : (Is undef) (vs 36) (ρ 36))
              obtain ⟨hv37, hr37⟩ := (hT 37 (by decide) : (Is undef) (vs 37) (ρ 37))
              obtain ⟨hv38, hr38⟩ := (hT 38 (by decide) : (Is undef) (vs 38) (ρ 38))
              obtain ⟨hv39, hr39⟩ := (hT 39 (by decide) : (Is undef) (vs 39) (ρ 39))
              obtain ⟨hv40, hr40⟩ := (hT 40 (by decide) : (Is undef) (vs 40) (ρ 40))
              obtain ⟨hv41, hr41⟩ := (hT 41 (by decide) : (Is undef) (vs 41) (ρ 41))
              obtain ⟨hv42, hr42⟩ := (hT 42 (by decide) : (Is (.bool false)) (vs 42) (ρ 42))
              obtain ⟨hv43, hr43⟩ := (hT 43 (by decide) : (Is (.bool false)) (vs 43) (ρ 43))
              simp only [pool, if_true, hr0, hr1, hr2, hr3, hr4, hr5, hr6, hr7, hr8, hr9, hr10, hr11, hr12, hr13, hr14, hr15, hr16, hr17, hr18, hr19, hr20, hr21, hr22, hr23, hr24, hr25, hr26, hr27, hr28, hr29, hr30, hr31, hr32, hr33, hr34, hr35, hr36, hr37, hr38, hr39, hr40, hr41, hr42, hr43, List.nil_append, List.cons_append, List.append_nil] at hS
              simp only [layf, hv0, hv1, hv2, hv3, hv4, hv5, hv6, hv7, hv8, hv9, hv10, hv11, hv12, hv13, hv14, hv15, hv16, hv17, hv18, hv19, hv20, hv21, hv22, hv23, hv24, hv25, hv26, hv27, hv28, hv29, hv30, hv31, hv32, hv33, hv34, hv35, hv36, hv37, hv38, hv39, hv40, hv41, hv42, hv43] at hf
              subst hf; clear hT hv0 hv1 hv2 hv3 hv4 hv5 hv6 hv7 hv8 hv9 hv10 hv11 hv12 hv13 hv14 hv15 hv16 hv17 hv18 hv19 hv20 hv21 hv22 hv23 hv24 hv25 hv26 hv27 hv28 hv29 hv30 hv31 hv32 hv33 hv34 hv35 hv36 hv37 hv38 hv39 hv40 hv41 hv42 hv43 hr0 hr1 hr2 hr3 hr4 hr5 hr6 hr7 hr8 hr9 hr10 hr11 hr12 hr13 hr14 hr15 hr16 hr17 hr18 hr19 hr20 hr21 hr22 hr23 hr24 hr25 hr26 hr27 hr28 hr29 hr30 hr31 hr32 hr33 hr34 hr35 hr36 hr37 hr38 hr39 hr40 hr41 hr42 hr43
              refine wdone rfl ?_
              refine thenN ?_
              refine wF (ev (v := .bool false) rfl rfl) ?_
              refine wskip ?_
              refine thenN ?_
              refine wseq ?_
              refine wseq ?_
              refine wreg ?_
              refine wl rfl (omove (v := .bool false) rfl rfl (ev (v := .bool false) rfl rfl) ?_)
              refine wl rfl (onot (b := false) rfl rfl (ev (v := .bool false) rfl rfl) ?_)
              refine wnil ?_
              refine thenN ?_
              refine wT (ev (v := .bool true) rfl rfl) ?_
              refine wseq ?_
              refine wreg ?_
              refine wl rfl (omove (v := .int .i64 0) rfl rfl (ev (v := .int .i64 0) rfl rfl) ?_)
              refine wl rfl (obin (u := .int .i64 0) (v := .int .i64 0) (z := .bool true) rfl rfl (ev (v := .int .i64 0) rfl rfl) (evc (v := .int .i64 0)) (bin_eql (by decide)) ?_)
              refine wl rfl (omove (v := .bool true) rfl rfl (ev (v := .bool true) rfl rfl) ?_)
              refine wlOn (e := 134) rfl rfl rfl rfl (omove (v := .int .i64 6) rfl rfl (ev (v := .int .i64 6) rfl rfl) ?_)
              refine wlOn (e := 134) rfl rfl rfl rfl (obin (u := .int .i64 6) (v := .int .i64 6) (z := .bool true) rfl rfl (ev (v := .int .i64 6) rfl rfl) (evc (v := .int .i64 6)) (bin_eql (by decide)) ?_)
              refine wl rfl (opick (b := true) (v := .bool true) rfl rfl (ev (v := .bool true) rfl rfl) (ev (v := .bool true) rfl rfl) ?_)
              refine wl rfl (omove (v := .bool true) rfl rfl (ev (v := .bool true) rfl rfl) ?_)
              refine wlOn (e := 138) rfl rfl rfl rfl (ocall rfl rfl Try.call15 rfl (wllives5) (args0 ) ?_)
              rintro _ w27 ⟨_, _, rfl, ⟨rfl, rfl⟩, hN⟩
              refine ⟨_, rfl, ?_⟩
              replace hS := hS.news hN; clear hN
              refine wl rfl (opick (b := true) (v := .bool true) rfl rfl (ev (v := .bool true) rfl rfl) (ev (v := .bool true) rfl rfl) ?_)
              refine wl rfl (oassign (v := .bool true) rfl rfl (ev (v := .bool true) rfl rfl) ?_)
              refine wnil ?_
              refine thenN ?_
              refine wleave ?_
              refine thenR ?_
              refine wret1 Try.results7 (tellT (v := .bool true) rfl rfl) ?_
              exact ⟨_, _, rfl, isI, hS.new0⟩
    ·
      have hk1 : Wd 1 2 := Wd.i64 (by omega) (by omega)
      have hk2 : Wd 1 2 := Wd.i64 (by omega) (by omega)
      refine wstage 6 [21, 22, 23, 24, 7, 8] [[], [0], [], [2, 0, 1], [], []] [[], [], [], [], [], []] [] [] (fun i9 => ([fun _ => Is (.agg #[.bool bA, .slice qA nA kA, .bool bB, .slice qB nB kB]), fun _ => Rrt 1 1, fun _ => Is (.agg #[.bool bC, .slice qC nC kC, .bool bD, .slice qD nD kD]), fun _ => Is (.agg #[.bool bC, .slice qC nC kC, .bool bD, .slice qD nD kD]), fun _ => Ptr [.bool false, .slice none 0 0, .bool false, .slice none 0 0] 27, fun _ => Ptr [.bool false, .slice none 0 0, .bool false, .slice none 0 0] 27] : List (List Value → Tell)).getD i9 (fun _ _ _ => False)) (heldNil) (fun d _ _ _ _ h => (by cases d <;> exact h)) (by kernel_rfl) (by kernel_rfl) (by kernel_rfl) hS ?_ ?_
      ·
        refine stepsCons rfl ?_ ?_
        · intro Q f' w' ρ S ho hT hS hB
          exact .inl ⟨want_none rfl, oload (vs := [.bool bA, .slice qA nA kA, .bool bB, .slice qB nB kB]) aggR hS 1 rfl rfl (ev rfl (ho 3 rfl)) rfl rfl rfl ⟨_, _, rfl, isI, New.same _⟩⟩
        refine stepsCons rfl ?_ ?_
        · intro Q f' w' ρ S ho hT hS hB
          obtain ⟨hv0, hr0⟩ := (hT 0 21 rfl rfl : (Is (.agg #[.bool bA, .slice qA nA kA, .bool bB, .slice qB nB kB])) (f' 21) (ρ 0))
          obtain hS := hS.flat1 hr0
          refine .inl ⟨want_none rfl, ocall rfl rfl Try.call27 rfl (wlsome0 ((hzB.at hS).mono (by omega)) (hy)) (args1 (ev rfl hv0)) ?_⟩
          rintro _ w9 ⟨_, _, rfl, hTT, hN⟩
          exact ⟨_, rfl, _, _, rfl, hTT, hN⟩
        refine stepsCons rfl ?_ ?_
        · intro Q f' w' ρ S ho hT hS hB
          exact .inl ⟨want_none rfl, oload (vs := [.bool bC, .slice qC nC kC, .bool bD, .slice qD nD kD]) aggR hS 0 rfl rfl (ev rfl (ho 4 rfl)) rfl rfl rfl ⟨_, _, rfl, isI, New.same _⟩⟩
        refine stepsCons rfl ?_ ?_
        · intro Q f' w' ρ S ho hT hS hB
          obtain ⟨hv2, hr2⟩ := (hT 2 23 rfl rfl : (Is (.agg #[.bool bC, .slice qC nC kC, .bool bD, .slice qD nD kD])) (f' 23) (ρ 2))
          obtain hS := hS.flat1 hr2
          refine .inl ⟨want_none rfl, ocall rfl rfl Try.call27 rfl (wlsome ((hzD.at hS).mono (by omega)) (hv)) (args1 (ev rfl hv2)) ?_⟩
          rintro _ w9 ⟨_, _, rfl, hTT, hN⟩
          exact ⟨_, rfl, _, _, rfl, hTT, hN⟩
        refine stepsCons rfl ?_ ?_
        · intro Q f' w' ρ S ho hT hS hB
          exact .inl ⟨want_none rfl, oallocN [.bool false, .slice none 0 0, .bool false, .slice none 0 0] rfl rfl Try.zeroValue27 rfl ⟨_, _, rfl, ptrI, New.blk _ _ _⟩⟩
        refine stepsCons rfl ?_ ?_
        · intro Q f' w' ρ S ho hT hS hB
          exact .inl ⟨want_none rfl, oallocN [.bool false, .slice none 0 0, .bool false, .slice none 0 0] rfl rfl Try.zeroValue27 rfl ⟨_, _, rfl, ptrI, New.blk _ _ _⟩⟩
        exact stepsNil
      ·
        intro vs ρ w7 f' hf hT hS
        obtain ⟨hv0, hr0⟩ := (hT 0 (by decide) : (Is (.agg #[.bool bA, .slice qA nA kA, .bool bB, .slice qB nB kB])) (vs 0) (ρ 0))
        obtain ⟨p1, n1, c1, p2, n2, c2, hv1, hr1⟩ := (hT 1 (by decide) : (Rrt 1 1) (vs 1) (ρ 1))
        obtain ⟨hv2, hr2⟩ := (hT 2 (by decide) : (Is (.agg #[.bool bC, .slice qC nC kC, .bool bD, .slice qD nD kD])) (vs 2) (ρ 2))
        obtain ⟨hv3, hr3⟩ := (hT 3 (by decide) : (Is (.agg #[.bool bC, .slice qC nC kC, .bool bD, .slice qD nD kD])) (vs 3) (ρ 3))
        obtain ⟨g5, hv4, hr4⟩ := (hT 4 (by decide) : (Ptr [.bool false, .slice none 0 0, .bool false, .slice none 0 0] 27) (vs 4) (ρ 4))
        obtain ⟨g6, hv5, hr5⟩ := (hT 5 (by decide) : (Ptr [.bool false, .slice none 0 0, .bool false, .slice none 0 0] 27) (vs 5) (ρ 5))
        simp only [pool, if_true, hr0, hr1, hr2, hr3, hr4, hr5, List.nil_append, List.cons_append, List.append_nil] at hS
        simp only [layf, hv0, hv1, hv2, hv3, hv4, hv5] at hf
        subst hf; clear hT hv0 hv1 hv2 hv3 hv4 hv5 hr0 hr1 hr2 hr3 hr4 hr5
        refine wlate 6 rfl (by kernel_rfl) (ostore [.bool (ng 1), .slice p1 n1 c1, .bool (ng 1), .slice p2 n2 c2] [.bool (ng 1), .slice p1 n1 c1, .bool (ng 1), .slice p2 n2 c2] Try.sizeOf27 hS 1 rfl rfl (ev rfl rfl) (ev (v := .agg #[.bool (ng 1), .slice p1 n1 c1, .bool (ng 1), .slice p2 n2 c2]) rfl rfl) rfl rfl rfl rfl rfl rfl ?_)
        clear hS; intro w8 hS
        refine ⟨heldNil, ?_⟩
        refine wlate 7 rfl (by kernel_rfl) (ostore [.bool bC, .slice qC nC kC, .bool bD, .slice qD nD kD] [.bool bC, .slice qC nC kC, .bool bD, .slice qD nD kD] Try.sizeOf27 hS 0 rfl rfl (ev rfl rfl) (ev (v := .agg #[.bool bC, .slice qC nC kC, .bool bD, .slice qD nD kD]) rfl rfl) rfl rfl rfl rfl rfl rfl ?_)
        clear hS; intro w9 hS
        refine ⟨heldNil, ?_⟩
        refine wdone rfl ?_
        refine thenN ?_
        refine wseq ?_
        refine wreg ?_
        refine wl rfl (ofieldAddr (g := g1) (off := 0) 0 rfl rfl (ev (v := .pointer (some ⟨g1, 0, none⟩)) rfl rfl) Try.runUnderlying27 rfl Try.sizeOf25 rfl ?_)
        refine wl rfl (oload (vs := [.bool bA, .slice qA nA kA]) aggZ hS 5 rfl rfl (ev rfl rfl) rfl rfl rfl ?_)
        refine wl rfl (ofieldAddr (g := g1) (off := 0) 2 rfl rfl (ev (v := .pointer (some ⟨g1, 0, none⟩)) rfl rfl) Try.runUnderlying27 rfl Try.sizeOf25 rfl ?_)
        refine wl rfl (oload (vs := [.bool bB, .slice qB nB kB]) aggZ hS 5 rfl rfl (ev rfl rfl) rfl rfl rfl ?_)
        refine wl rfl (ocall rfl rfl Try.call42 rfl (wrmake0 ((hzA.at hS).mono (by omega)) ((hzB.at hS).mono (by omega)) (hy)) (args2 (ev rfl rfl) (ev rfl rfl)) ?_)
        rintro _ w10 ⟨_, _, rfl, ⟨rfl, rfl⟩, hN⟩
        refine ⟨_, rfl, ?_⟩
        replace hS := hS.news hN; clear hN
        refine wl rfl (omove (v := .tuple #[.agg #[.bool false, .slice none 0 0, .bool false, .slice none 0 0], .int .i64 6]) rfl rfl (ev (v := .tuple #[.agg #[.bool false, .slice none 0 0, .bool false, .slice none 0 0], .int .i64 6]) rfl rfl) ?_)
        refine wl rfl (oextract (vs := [.agg #[.bool false, .slice none 0 0, .bool false, .slice none 0 0], .int .i64 6]) (v := .agg #[.bool false, .slice none 0 0, .bool false, .slice none 0 0]) rfl rfl (ev (v := .tuple #[.agg #[.bool false, .slice none 0 0, .bool false, .slice none 0 0], .int .i64 6]) rfl rfl) rfl ?_)
        refine wl rfl (oextract (vs := [.agg #[.bool false, .slice none 0 0, .bool false, .slice none 0 0], .int .i64 6]) (v := .int .i64 6) rfl rfl (ev (v := .tuple #[.agg #[.bool false, .slice none 0 0, .bool false, .slice none 0 0], .int .i64 6]) rfl rfl) rfl ?_)
        refine wl rfl (oalloc [.bool false, .slice none 0 0, .bool false, .slice none 0 0] hS rfl rfl Try.zeroValue27 rfl ?_)
        clear hS; intro g11 w12 hS
        refine wl rfl (ostore [.bool false, .slice none 0 0, .bool false, .slice none 0 0] [.bool false, .slice none 0 0, .bool false, .slice none 0 0] Try.sizeOf27 hS 0 rfl rfl (ev rfl rfl) (ev (v := .agg #[.bool false, .slice none 0 0, .bool false, .slice none 0 0]) rfl rfl) rfl rfl rfl rfl rfl rfl ?_)
        clear hS; intro w13 hS
        refine wl rfl (oassign (v := .int .i64 6) rfl rfl (ev (v := .int .i64 6) rfl rfl) ?_)
        refine wnil ?_
        refine thenN ?_
        refine wseq ?_
        refine wreg ?_
        refine wl rfl (oload (vs := [.bool bA, .slice qA nA kA, .bool bB, .slice qB nB kB]) aggR hS 6 rfl rfl (ev rfl rfl) rfl rfl rfl ?_)
        refine wl rfl (ocall rfl rfl Try.call43 rfl (wrnorm0 ((hzA.at hS).mono (by omega)) ((hzB.at hS).mono (by omega)) (hy)) (args1 (ev rfl rfl)) ?_)
        rintro _ w14 ⟨_, _, rfl, ⟨rfl, rfl⟩, hN⟩
        refine ⟨_, rfl, ?_⟩
        replace hS := hS.news hN; clear hN
        refine wl rfl (omove (v := .tuple #[.agg #[.bool false, .slice none 0 0, .bool false, .slice none 0 0], .int .i64 6]) rfl rfl (ev (v := .tuple #[.agg #[.bool false, .slice none 0 0, .bool false, .slice none 0 0], .int .i64 6]) rfl rfl) ?_)
        refine wl rfl (oextract (vs := [.agg #[.bool false, .slice none 0 0, .bool false, .slice none 0 0], .int .i64 6]) (v := .agg #[.bool false, .slice none 0 0, .bool false, .slice none 0 0]) rfl rfl (ev (v := .tuple #[.agg #[.bool false, .slice none 0 0, .bool false, .slice none 0 0], .int .i64 6]) rfl rfl) rfl ?_)
        refine wl rfl (oextract (vs := [.agg #[.bool false, .slice none 0 0, .bool false, .slice none 0 0], .int .i64 6]) (v := .int .i64 6) rfl rfl (ev (v := .tuple #[.agg #[.bool false, .slice none 0 0, .bool false, .slice none 0 0], .int .i64 6]) rfl rfl) rfl ?_)
        refine wl rfl (oalloc [.bool false, .slice none 0 0, .bool false, .slice none 0 0] hS rfl rfl Try.zeroValue27 rfl ?_)
        clear hS; intro g15 w16 hS
        refine wl rfl (ostore [.bool false, .slice none 0 0, .bool false, .slice none 0 0] [.bool false, .slice none 0 0, .bool false, .slice none 0 0] Try.sizeOf27 hS 0 rfl rfl (ev rfl rfl) (ev (v := .agg #[.bool false, .slice none 0 0, .bool false, .slice none 0 0]) rfl rfl) rfl rfl rfl rfl rfl rfl ?_)
        clear hS; intro w17 hS
        refine wl rfl (oassign (v := .int .i64 6) rfl rfl (ev (v := .int .i64 6) rfl rfl) ?_)
        refine wnil ?_
        refine thenN ?_
        refine wseq ?_
        refine wreg ?_
        refine wl rfl (oload (vs := [.bool bA, .slice qA nA kA, .bool bB, .slice qB nB kB]) aggR hS 7 rfl rfl (ev rfl rfl) rfl rfl rfl ?_)
        refine wl rfl (ocall rfl rfl Try.call44 rfl (wrsign0 ((hzA.at hS).mono (by omega)) ((hzB.at hS).mono (by omega)) (hy)) (args1 (ev rfl rfl)) ?_)
        rintro _ w18 ⟨_, _, rfl, ⟨rfl, rfl⟩, hN⟩
        refine ⟨_, rfl, ?_⟩
        replace hS := hS.news hN; clear hN
        refine wl rfl (omove (v := .tuple #[.int .i64 0, .int .i64 6]) rfl rfl (ev (v := .tuple #[.int .i64 0, .int .i64 6]) rfl rfl) ?_)
        refine wl rfl (oextract (vs := [.int .i64 0, .int .i64 6]) (v := .int .i64 0) rfl rfl (ev (v := .tuple #[.int .i64 0, .int .i64 6]) rfl rfl) rfl ?_)
        refine wl rfl (oextract (vs := [.int .i64 0, .int .i64 6]) (v := .int .i64 6) rfl rfl (ev (v := .tuple #[.int .i64 0, .int .i64 6]) rfl rfl) rfl ?_)
        refine wl rfl (oassign (v := .int .i64 0) rfl rfl (ev (v := .int .i64 0) rfl rfl) ?_)
        refine wl rfl (oassign (v := .int .i64 6) rfl rfl (ev (v := .int .i64 6) rfl rfl) ?_)
        refine wnil ?_
        refine thenN ?_
        refine wseq ?_
        refine wreg ?_
        refine wl rfl (oload (vs := [.bool bA, .slice qA nA kA, .bool bB, .slice qB nB kB]) aggR hS 7 rfl rfl (ev rfl rfl) rfl rfl rfl ?_)
        refine wl rfl (oload (vs := [.bool bC, .slice qC nC kC, .bool bD, .slice qD nD kD]) aggR hS 6 rfl rfl (ev rfl rfl) rfl rfl rfl ?_)
        refine wl rfl (ocall rfl rfl Try.call45 rfl (wrcmp0 ((hzA.at hS).mono (by omega)) ((hzB.at hS).mono (by omega)) ((hzC.at hS).mono (by omega)) ((hzD.at hS).mono (by omega)) (.inl hy)) (args2 (ev rfl rfl) (ev rfl rfl)) ?_)
        rintro _ w19 ⟨_, _, rfl, ⟨rfl, rfl⟩, hN⟩
        refine ⟨_, rfl, ?_⟩
        replace hS := hS.news hN; clear hN
        refine wl rfl (omove (v := .tuple #[.int .i64 0, .int .i64 6]) rfl rfl (ev (v := .tuple #[.int .i64 0, .int .i64 6]) rfl rfl) ?_)
        refine wl rfl (oextract (vs := [.int .i64 0, .int .i64 6]) (v := .int .i64 0) rfl rfl (ev (v := .tuple #[.int .i64 0, .int .i64 6]) rfl rfl) rfl ?_)
        refine wl rfl (oextract (vs := [.int .i64 0, .int .i64 6]) (v := .int .i64 6) rfl rfl (ev (v := .tuple #[.int .i64 0, .int .i64 6]) rfl rfl) rfl ?_)
        refine wl rfl (oassign (v := .int .i64 0) rfl rfl (ev (v := .int .i64 0) rfl rfl) ?_)
        refine wl rfl (oassign (v := .int .i64 6) rfl rfl (ev (v := .int .i64 6) rfl rfl) ?_)
        refine wnil ?_
        refine thenN ?_
        refine wseq ?_
        refine wreg ?_
        refine wl rfl (oload (vs := [.bool bA, .slice qA nA kA, .bool bB, .slice qB nB kB]) aggR hS 7 rfl rfl (ev rfl rfl) rfl rfl rfl ?_)
        refine wl rfl (ocall rfl rfl Try.call46 rfl (wrfloor0 ((hzA.at hS).mono (by omega)) ((hzB.at hS).mono (by omega)) (hy)) (args1 (ev rfl rfl)) ?_)
        rintro _ w20 ⟨_, _, rfl, ⟨rfl, rfl⟩, hN⟩
        refine ⟨_, rfl, ?_⟩
        replace hS := hS.news hN; clear hN
        refine wl rfl (omove (v := .tuple #[.agg #[.bool false, .slice none 0 0], .int .i64 6]) rfl rfl (ev (v := .tuple #[.agg #[.bool false, .slice none 0 0], .int .i64 6]) rfl rfl) ?_)
        refine wl rfl (oextract (vs := [.agg #[.bool false, .slice none 0 0], .int .i64 6]) (v := .agg #[.bool false, .slice none 0 0]) rfl rfl (ev (v := .tuple #[.agg #[.bool false, .slice none 0 0], .int .i64 6]) rfl rfl) rfl ?_)
        refine wl rfl (oextract (vs := [.agg #[.bool false, .slice none 0 0], .int .i64 6]) (v := .int .i64 6) rfl rfl (ev (v := .tuple #[.agg #[.bool false, .slice none 0 0], .int .i64 6]) rfl rfl) rfl ?_)
        refine wl rfl (oalloc [.bool false, .slice none 0 0] hS rfl rfl Try.zeroValue25 rfl ?_)
        clear hS; intro g21 w22 hS
        refine wl rfl (ostore [.bool false, .slice none 0 0] [.bool false, .slice none 0 0] Try.sizeOf25 hS 0 rfl rfl (ev rfl rfl) (ev (v := .agg #[.bool false, .slice none 0 0]) rfl rfl) rfl rfl rfl rfl rfl rfl ?_)
        clear hS; intro w23 hS
        refine wl rfl (oassign (v := .int .i64 6) rfl rfl (ev (v := .int .i64 6) rfl rfl) ?_)
        refine wnil ?_
        refine thenN ?_
        refine wseq ?_
        refine wstage 10 [54, 55, 56, 57, 58, 59, 60, 61, 19, 20] [[], [0], [], [2, 0, 1], [3, 0, 1, 2], [4, 0, 1, 2, 3], [4, 5, 0, 1, 2, 3], [4, 6, 0, 1, 2, 3, 5], [1, 0, 2, 3, 4, 5, 6], [7, 0, 1, 2, 3, 4, 5, 6, 8]] [[], [], [], [], [], [], [], [], [], []] [] [] (fun i9 => ([fun _ => Is (.agg #[.bool bA, .slice qA nA kA, .bool bB, .slice qB nB kB]), fun _ => Is (.bool false), fun _ => Is (.agg #[.bool bA, .slice qA nA kA, .bool bB, .slice qB nB kB]), fun _ => Is (.bool false), fun _ => Is (.bool false), fun _ => Is undef, fun _ => Is undef, fun _ => Is (.bool false), fun _ => Is (.bool false), fun _ => Is (.bool false)] : List (List Value → Tell)).getD i9 (fun _ _ _ => False)) (heldNil) (fun d _ _ _ _ h => (by cases d <;> exact h)) (by kernel_rfl) (by kernel_rfl) (by kernel_rfl) hS ?_ ?_
        ·
          refine stepsCons rfl ?_ ?_
          · intro Q f' w' ρ S ho hT hS hB
            exact .inl ⟨want_none rfl, oload (vs := [.bool bA, .slice qA nA kA, .bool bB, .slice qB nB kB]) aggR hS 8 rfl rfl (ev rfl (ho 3 rfl)) rfl rfl rfl ⟨_, _, rfl, isI, New.same _⟩⟩
          refine stepsCons rfl ?_ ?_
          · intro Q f' w' ρ S ho hT hS hB
            obtain ⟨hv0, hr0⟩ := (hT 0 54 rfl rfl : (Is (.agg #[.bool bA, .slice qA nA kA, .bool bB, .slice qB nB kB])) (f' 54) (ρ 0))
            obtain hS := hS.flat1 hr0
            refine .inl ⟨want_none rfl, ocall rfl rfl Try.call11 rfl (wsmay0 ((hzB.at hS).mono (by omega)) (hy)) (args1 (ev rfl hv0)) ?_⟩
            rintro _ w9 ⟨_, _, rfl, hTT, hN⟩
            exact ⟨_, rfl, _, _, rfl, hTT, hN⟩
          refine stepsCons rfl ?_ ?_
          · intro Q f' w' ρ S ho hT hS hB
            exact .inl ⟨want_none rfl, oload (vs := [.bool bA, .slice qA nA kA, .bool bB, .slice qB nB kB]) aggR hS 8 rfl rfl (ev rfl (ho 3 rfl)) rfl rfl rfl ⟨_, _, rfl, isI, New.same _⟩⟩
          refine stepsCons rfl ?_ ?_
          · intro Q f' w' ρ S ho hT hS hB
            obtain ⟨hv2, hr2⟩ := (hT 2 56 rfl rfl : (Is (.agg #[.bool bA, .slice qA nA kA, .bool bB, .slice qB nB kB])) (f' 56) (ρ 2))
            obtain hS := hS.flat1 hr2
            refine .inl ⟨want_none rfl, ocall rfl rfl Try.call11 rfl (wsmay0 ((hzB.at hS).mono (by omega)) (hy)) (args1 (ev rfl hv2)) ?_⟩
            rintro _ w9 ⟨_, _, rfl, hTT, hN⟩
            exact ⟨_, rfl, _, _, rfl, hTT, hN⟩
          refine stepsCons rfl ?_ ?_
          · intro Q f' w' ρ S ho hT hS hB
            obtain ⟨hv3, hr3⟩ := (hT 3 57 rfl rfl : (Is (.bool false)) (f' 57) (ρ 3))
            obtain hS := hS.flat1 hr3
            exact .inl ⟨want_none rfl, omove (v := .bool false) rfl rfl (ev (v := .bool false) rfl hv3) ⟨_, _, rfl, isI, New.same _⟩⟩
          refine stepsCons rfl ?_ ?_
          · intro Q f' w' ρ S ho hT hS hB
            obtain ⟨hv4, hr4⟩ := (hT 4 58 rfl rfl : (Is (.bool false)) (f' 58) (ρ 4))
            obtain hS := hS.flat1 hr4
            exact .inr ⟨want_off (e := 58) (b' := false) rfl rfl rfl hv4 rfl, isI⟩
          refine stepsCons rfl ?_ ?_
          · intro Q f' w' ρ S ho hT hS hB
            obtain ⟨hv4, hr4⟩ := (hT 4 58 rfl rfl : (Is (.bool false)) (f' 58) (ρ 4))
            obtain ⟨hv5, hr5⟩ := (hT 5 59 rfl rfl : (Is undef) (f' 59) (ρ 5))
            obtain hS := hS.flat2 hr4 hr5
            exact .inr ⟨want_off (e := 58) (b' := false) rfl rfl rfl hv4 rfl, isI⟩
          refine stepsCons rfl ?_ ?_
          · intro Q f' w' ρ S ho hT hS hB
            obtain ⟨hv4, hr4⟩ := (hT 4 58 rfl rfl : (Is (.bool false)) (f' 58) (ρ 4))
            obtain ⟨hv6, hr6⟩ := (hT 6 60 rfl rfl : (Is undef) (f' 60) (ρ 6))
            obtain hS := hS.flat2 hr4 hr6
            exact .inl ⟨want_none rfl, opick (b := false) (v := .bool false) rfl rfl (ev (v := .bool false) rfl hv4) (evc (v := .bool false)) ⟨_, _, rfl, isI, New.same _⟩⟩
          refine stepsCons rfl ?_ ?_
          · intro Q f' w' ρ S ho hT hS hB
            obtain ⟨hv1, hr1⟩ := (hT 1 55 rfl rfl : (Is (.bool false)) (f' 55) (ρ 1))
            obtain hS := hS.flat1 hr1
            exact .inl ⟨want_none rfl, oassign (v := .bool false) rfl rfl (ev (v := .bool false) rfl hv1) ⟨_, _, rfl, isI, New.same _⟩⟩
          refine stepsCons rfl ?_ ?_
          · intro Q f' w' ρ S ho hT hS hB
            obtain ⟨hv7, hr7⟩ := (hT 7 61 rfl rfl : (Is (.bool false)) (f' 61) (ρ 7))
            obtain hS := hS.flat1 hr7
            exact .inl ⟨want_none rfl, oassign (v := .bool false) rfl rfl (ev (v := .bool false) rfl hv7) ⟨_, _, rfl, isI, New.same _⟩⟩
          exact stepsNil
        ·
          intro vs ρ w24 f' hf hT hS
          obtain ⟨hv0, hr0⟩ := (hT 0 (by decide) : (Is (.agg #[.bool bA, .slice qA nA kA, .bool bB, .slice qB nB kB])) (vs 0) (ρ 0))
          obtain ⟨hv1, hr1⟩ := (hT 1 (by decide) : (Is (.bool false)) (vs 1) (ρ 1))
          obtain ⟨hv2, hr2⟩ := (hT 2 (by decide) : (Is (.agg #[.bool bA, .slice qA nA kA, .bool bB, .slice qB nB kB])) (vs 2) (ρ 2))
          obtain ⟨hv3, hr3⟩ := (hT 3 (by decide) : (Is (.bool false)) (vs 3) (ρ 3))
          obtain ⟨hv4, hr4⟩ := (hT 4 (by decide) : (Is (.bool false)) (vs 4) (ρ 4))
          obtain ⟨hv5, hr5⟩ := (hT 5 (by decide) : (Is undef) (vs 5) (ρ 5))
          obtain ⟨hv6, hr6⟩ := (hT 6 (by decide) : (Is undef) (vs 6) (ρ 6))
          obtain ⟨hv7, hr7⟩ := (hT 7 (by decide) : (Is (.bool false)) (vs 7) (ρ 7))
          obtain ⟨hv8, hr8⟩ := (hT 8 (by decide) : (Is (.bool false)) (vs 8) (ρ 8))
          obtain ⟨hv9, hr9⟩ := (hT 9 (by decide) : (Is (.bool false)) (vs 9) (ρ 9))
          simp only [pool, if_true, hr0, hr1, hr2, hr3, hr4, hr5, hr6, hr7, hr8, hr9, List.nil_append, List.cons_append, List.append_nil] at hS
          simp only [layf, hv0, hv1, hv2, hv3, hv4, hv5, hv6, hv7, hv8, hv9] at hf
          subst hf; clear hT hv0 hv1 hv2 hv3 hv4 hv5 hv6 hv7 hv8 hv9 hr0 hr1 hr2 hr3 hr4 hr5 hr6 hr7 hr8 hr9
          refine wdone rfl ?_
          refine thenN ?_
          refine wseq ?_
          refine wseq ?_
          obtain ⟨z3, hz3⟩ : ∃ z : Int, Hid (RN 1 1 = z) := ⟨_, rfl⟩
          have hk3 : Wd z3 2 := Wd.rn hk1 hz3
          obtain ⟨z4, hz4⟩ : ∃ z : Int, Hid (RD 1 1 = z) := ⟨_, rfl⟩
          have hk4 : Wd z4 2 := Wd.rd hk2 hz4
          obtain ⟨z5, hz5⟩ : ∃ z : Int, Hid (RN 1 1 = z) := ⟨_, rfl⟩
          have hk5 : Wd z5 2 := Wd.rn hk1 hz5
          obtain ⟨z6, hz6⟩ : ∃ z : Int, Hid (RD 1 1 = z) := ⟨_, rfl⟩
          have hk6 : Wd z6 2 := Wd.rd hk2 hz6
          have hk7 : Wd nn 2 := Wd.i64 (h1) (h2)
          have hk8 : Wd 1 2 := Wd.i64 (by omega) (by omega)
          have hk9 : Wd nn 2 := Wd.i64 (h1) (h2)
          have hk10 : Wd 1 2 := Wd.i64 (by omega) (by omega)
          refine wstage 24 [62, 63, 64, 65, 66, 67, 68, 69, 70, 71, 72, 73, 74, 75, 76, 77, 78, 79, 80, 81, 82, 83, 84, 85] [[], [], [], [], [3], [0, 1, 2, 4, 3], [5, 0, 1, 2, 3, 4], [6, 0, 1, 2, 3, 4, 5], [7, 0, 1, 2, 3, 4, 5, 6], [7, 0, 1, 2, 3, 4, 5, 6], [7, 0, 1, 2, 3, 4, 5, 6], [7, 0, 1, 2, 3, 4, 5, 6], [7, 11, 0, 1, 2, 3, 4, 5, 6], [7, 8, 9, 10, 12, 0, 1, 2, 3, 4, 5, 6, 11], [7, 13, 0, 1, 2, 3, 4, 5, 6, 8, 9, 10, 11, 12], [7, 14, 0, 1, 2, 3, 4, 5, 6, 8, 9, 10, 11, 12, 13], [15, 0, 1, 2, 3, 4, 5, 6, 7, 8, 9, 10, 11, 12, 13, 14], [16, 0, 1, 2, 3, 4, 5, 6, 7, 8, 9, 10, 11, 12, 13, 14, 15], [16, 17, 0, 1, 2, 3, 4, 5, 6, 7, 8, 9, 10, 11, 12, 13, 14, 15], [16, 0, 1, 2, 3, 4, 5, 6, 7, 8, 9, 10, 11, 12, 13, 14, 15], [16, 19, 0, 1, 2, 3, 4, 5, 6, 7, 8, 9, 10, 11, 12, 13, 14, 15, 17, 18], [16, 18, 20, 0, 1, 2, 3, 4, 5, 6, 7, 8, 9, 10, 11, 12, 13, 14, 15, 17, 19], [16, 21, 0, 1, 2, 3, 4, 5, 6, 7, 8, 9, 10, 11, 12, 13, 14, 15, 17, 18, 19, 20], [16, 22, 0, 1, 2, 3, 4, 5, 6, 7, 8, 9, 10, 11, 12, 13, 14, 15, 17, 18, 19, 20, 21]] [[], [], [], [], [], [], [], [], [], [], [], [], [], [], [], [], [], [], [], [], [], [], [], []] [] [] (fun i9 => ([fun _ => Is (.bool false), fun _ => Is (.agg #[.bool false, .slice none 0 0, .bool false, .slice none 0 0]), fun _ => Is (.int .i64 6), fun _ => Is (.agg #[.bool (ng 1), .slice p1 n1 c1, .bool (ng 1), .slice p2 n2 c2]), fun _ => Rrt z3 z4, fun _ => Is (.bool true), fun _ => Is (.bool false), fun _ => Is (.bool false), fun _ => Is (.bool false), fun _ => Is (.agg #[.bool false, .slice none 0 0, .bool false, .slice none 0 0]), fun _ => Is (.int .i64 6), fun _ => Is (.agg #[.bool (ng 1), .slice p1 n1 c1, .bool (ng 1), .slice p2 n2 c2]), fun _ => Rrt z5 z6, fun _ => Is (.bool true), fun _ => Is (.bool false), fun _ => Is (.bool false), fun _ => Is (.bool false), fun _ => Is (.int .i64 nn), fun _ => Rrt nn 1, fun _ => Is (.int .i64 nn), fun _ => Rrt nn 1, fun _ => Is (.bool true), fun _ => Is (.bool false), fun _ => Is (.bool false)] : List (List Value → Tell)).getD i9 (fun _ _ _ => False)) (heldNil) (fun d _ _ _ _ h => (by cases d <;> exact h)) (by kernel_rfl) (by kernel_rfl) (by kernel_rfl) hS ?_ ?_
          ·
            refine stepsCons rfl ?_ ?_
            · intro Q f' w' ρ S ho hT hS hB
              exact .inl ⟨want_none rfl, omove (v := .bool false) rfl rfl (ev (v := .bool false) rfl (ho 19 rfl)) ⟨_, _, rfl, isI, New.same _⟩⟩
            refine stepsCons rfl ?_ ?_
            · intro Q f' w' ρ S ho hT hS hB
              exact .inl ⟨want_none rfl, oload (vs := [.bool false, .slice none 0 0, .bool false, .slice none 0 0]) aggR hS 2 rfl rfl (ev rfl (ho 9 rfl)) rfl rfl rfl ⟨_, _, rfl, isI, New.same _⟩⟩
            refine stepsCons rfl ?_ ?_
            · intro Q f' w' ρ S ho hT hS hB
              exact .inl ⟨want_none rfl, omove (v := .int .i64 6) rfl rfl (ev (v := .int .i64 6) rfl (ho 10 rfl)) ⟨_, _, rfl, isI, New.same _⟩⟩
            refine stepsCons rfl ?_ ?_
            · intro Q f' w' ρ S ho hT hS hB
              exact .inl ⟨want_none rfl, oload (vs := [.bool (ng 1), .slice p1 n1 c1, .bool (ng 1), .slice p2 n2 c2]) aggR hS 4 rfl rfl (ev rfl (ho 7 rfl)) rfl rfl rfl ⟨_, _, rfl, isI, New.same _⟩⟩
            refine stepsCons rfl ?_ ?_
            · intro Q f' w' ρ S ho hT hS hB
              obtain ⟨hv3, hr3⟩ := (hT 3 65 rfl rfl : (Is (.agg #[.bool (ng 1), .slice p1 n1 c1, .bool (ng 1), .slice p2 n2 c2])) (f' 65) (ρ 3))
              obtain hS := hS.flat1 hr3
              refine .inl ⟨want_none rfl, ocall rfl rfl Try.call37 rfl ((wsnorm (((hS.slm 5 rfl).zr hk1).mono (by omega)) (((hS.slm 6 rfl).zr hk2).mono (by omega)) (by omega) hz3 hz4)) (args1 (ev rfl hv3)) ?_⟩
              rintro _ w9 ⟨_, _, rfl, hTT, hN⟩
              exact ⟨_, rfl, _, _, rfl, hTT, hN⟩
            refine stepsCons rfl ?_ ?_
            · intro Q f' w' ρ S ho hT hS hB
              obtain ⟨hv0, hr0⟩ := (hT 0 62 rfl rfl : (Is (.bool false)) (f' 62) (ρ 0))
              obtain ⟨hv1, hr1⟩ := (hT 1 63 rfl rfl : (Is (.agg #[.bool false, .slice none 0 0, .bool false, .slice none 0 0])) (f' 63) (ρ 1))
              obtain ⟨hv2, hr2⟩ := (hT 2 64 rfl rfl : (Is (.int .i64 6)) (f' 64) (ρ 2))
              obtain ⟨p3, n3, c3, p4, n4, c4, hv4, hr4⟩ := (hT 4 66 rfl rfl : (Rrt z3 z4) (f' 66) (ρ 4))
              obtain hS := hS.flat4 hr0 hr1 hr2 hr4
              refine .inl ⟨want_none rfl, ocall rfl rfl Try.call32 rfl (wltold0) (args4 (ev rfl hv0) (ev rfl hv1) (ev rfl hv2) (ev rfl hv4)) ?_⟩
              rintro _ w9 ⟨_, _, rfl, hTT, hN⟩
              exact ⟨_, rfl, _, _, rfl, hTT, hN⟩
            refine stepsCons rfl ?_ ?_
            · intro Q f' w' ρ S ho hT hS hB
              obtain ⟨hv5, hr5⟩ := (hT 5 67 rfl rfl : (Is (.bool true)) (f' 67) (ρ 5))
              obtain hS := hS.flat1 hr5
              exact .inl ⟨want_none rfl, onot (b := true) rfl rfl (ev (v := .bool true) rfl hv5) ⟨_, _, rfl, isI, New.same _⟩⟩
            refine stepsCons rfl ?_ ?_
            · intro Q f' w' ρ S ho hT hS hB
              obtain ⟨hv6, hr6⟩ := (hT 6 68 rfl rfl : (Is (.bool false)) (f' 68) (ρ 6))
              obtain hS := hS.flat1 hr6
              exact .inl ⟨want_none rfl, omove (v := .bool false) rfl rfl (ev (v := .bool false) rfl hv6) ⟨_, _, rfl, isI, New.same _⟩⟩
            refine stepsCons rfl ?_ ?_
            · intro Q f' w' ρ S ho hT hS hB
              obtain ⟨hv7, hr7⟩ := (hT 7 69 rfl rfl : (Is (.bool false)) (f' 69) (ρ 7))
              obtain hS := hS.flat1 hr7
              exact .inl ⟨want_on (e := 69) rfl rfl rfl hv7, omove (v := .bool false) rfl rfl (ev (v := .bool false) rfl (ho 19 rfl)) ⟨_, _, rfl, isI, New.same _⟩⟩
            refine stepsCons rfl ?_ ?_
            · intro Q f' w' ρ S ho hT hS hB
              obtain ⟨hv7, hr7⟩ := (hT 7 69 rfl rfl : (Is (.bool false)) (f' 69) (ρ 7))
              obtain hS := hS.flat1 hr7
              exact .inl ⟨want_on (e := 69) rfl rfl rfl hv7, oload (vs := [.bool false, .slice none 0 0, .bool false, .slice none 0 0]) aggR hS 1 rfl rfl (ev rfl (ho 11 rfl)) rfl rfl rfl ⟨_, _, rfl, isI, New.same _⟩⟩
            refine stepsCons rfl ?_ ?_
            · intro Q f' w' ρ S ho hT hS hB
              obtain ⟨hv7, hr7⟩ := (hT 7 69 rfl rfl : (Is (.bool false)) (f' 69) (ρ 7))
              obtain hS := hS.flat1 hr7
              exact .inl ⟨want_on (e := 69) rfl rfl rfl hv7, omove (v := .int .i64 6) rfl rfl (ev (v := .int .i64 6) rfl (ho 12 rfl)) ⟨_, _, rfl, isI, New.same _⟩⟩
            refine stepsCons rfl ?_ ?_
            · intro Q f' w' ρ S ho hT hS hB
              obtain ⟨hv7, hr7⟩ := (hT 7 69 rfl rfl : (Is (.bool false)) (f' 69) (ρ 7))
              obtain hS := hS.flat1 hr7
              exact .inl ⟨want_on (e := 69) rfl rfl rfl hv7, oload (vs := [.bool (ng 1), .slice p1 n1 c1, .bool (ng 1), .slice p2 n2 c2]) aggR hS 4 rfl rfl (ev rfl (ho 7 rfl)) rfl rfl rfl ⟨_, _, rfl, isI, New.same _⟩⟩
            refine stepsCons rfl ?_ ?_
            · intro Q f' w' ρ S ho hT hS hB
              obtain ⟨hv7, hr7⟩ := (hT 7 69 rfl rfl : (Is (.bool false)) (f' 69) (ρ 7))
              obtain ⟨hv11, hr11⟩ := (hT 11 73 rfl rfl : (Is (.agg #[.bool (ng 1), .slice p1 n1 c1, .bool (ng 1), .slice p2 n2 c2])) (f' 73) (ρ 11))
              obtain hS := hS.flat2 hr7 hr11
              refine .inl ⟨want_on (e := 69) rfl rfl rfl hv7, ocall rfl rfl Try.call37 rfl ((wsnorm (((hS.slm 5 rfl).zr hk1).mono (by omega)) (((hS.slm 6 rfl).zr hk2).mono (by omega)) (by omega) hz5 hz6)) (args1 (ev rfl hv11)) ?_⟩
              rintro _ w9 ⟨_, _, rfl, hTT, hN⟩
              exact ⟨_, rfl, _, _, rfl, hTT, hN⟩
            refine stepsCons rfl ?_ ?_
            · intro Q f' w' ρ S ho hT hS hB
              obtain ⟨hv7, hr7⟩ := (hT 7 69 rfl rfl : (Is (.bool false)) (f' 69) (ρ 7))
              obtain ⟨hv8, hr8⟩ := (hT 8 70 rfl rfl : (Is (.bool false)) (f' 70) (ρ 8))
              obtain ⟨hv9, hr9⟩ := (hT 9 71 rfl rfl : (Is (.agg #[.bool false, .slice none 0 0, .bool false, .slice none 0 0])) (f' 71) (ρ 9))
              obtain ⟨hv10, hr10⟩ := (hT 10 72 rfl rfl : (Is (.int .i64 6)) (f' 72) (ρ 10))
              obtain ⟨p5, n5, c5, p6, n6, c6, hv12, hr12⟩ := (hT 12 74 rfl rfl : (Rrt z5 z6) (f' 74) (ρ 12))
              obtain hS := hS.flat5 hr7 hr8 hr9 hr10 hr12
              refine .inl ⟨want_on (e := 69) rfl rfl rfl hv7, ocall rfl rfl Try.call32 rfl (wltold0) (args4 (ev rfl hv8) (ev rfl hv9) (ev rfl hv10) (ev rfl hv12)) ?_⟩
              rintro _ w9 ⟨_, _, rfl, hTT, hN⟩
              exact ⟨_, rfl, _, _, rfl, hTT, hN⟩
            refine stepsCons rfl ?_ ?_
            · intro Q f' w' ρ S ho hT hS hB
              obtain ⟨hv7, hr7⟩ := (hT 7 69 rfl rfl : (Is (.bool false)) (f' 69) (ρ 7))
              obtain ⟨hv13, hr13⟩ := (hT 13 75 rfl rfl : (Is (.bool true)) (f' 75) (ρ 13))
              obtain hS := hS.flat2 hr7 hr13
              exact .inl ⟨want_on (e := 69) rfl rfl rfl hv7, onot (b := true) rfl rfl (ev (v := .bool true) rfl hv13) ⟨_, _, rfl, isI, New.same _⟩⟩
            refine stepsCons rfl ?_ ?_
            · intro Q f' w' ρ S ho hT hS hB
              obtain ⟨hv7, hr7⟩ := (hT 7 69 rfl rfl : (Is (.bool false)) (f' 69) (ρ 7))
              obtain ⟨hv14, hr14⟩ := (hT 14 76 rfl rfl : (Is (.bool false)) (f' 76) (ρ 14))
              obtain hS := hS.flat2 hr7 hr14
              exact .inl ⟨want_none rfl, opick (b := false) (v := .bool false) rfl rfl (ev (v := .bool false) rfl hv7) (ev (v := .bool false) rfl hv14) ⟨_, _, rfl, isI, New.same _⟩⟩
            refine stepsCons rfl ?_ ?_
            · intro Q f' w' ρ S ho hT hS hB
              obtain ⟨hv15, hr15⟩ := (hT 15 77 rfl rfl : (Is (.bool false)) (f' 77) (ρ 15))
              obtain hS := hS.flat1 hr15
              exact .inl ⟨want_none rfl, omove (v := .bool false) rfl rfl (ev (v := .bool false) rfl hv15) ⟨_, _, rfl, isI, New.same _⟩⟩
            refine stepsCons rfl ?_ ?_
            · intro Q f' w' ρ S ho hT hS hB
              obtain ⟨hv16, hr16⟩ := (hT 16 78 rfl rfl : (Is (.bool false)) (f' 78) (ρ 16))
              obtain hS := hS.flat1 hr16
              exact .inl ⟨want_on (e := 78) rfl rfl rfl hv16, omove (v := .int .i64 nn) rfl rfl (ev (v := .int .i64 nn) rfl (ho 2 rfl)) ⟨_, _, rfl, isI, New.same _⟩⟩
            refine stepsCons rfl ?_ ?_
            · intro Q f' w' ρ S ho hT hS hB
              obtain ⟨hv16, hr16⟩ := (hT 16 78 rfl rfl : (Is (.bool false)) (f' 78) (ρ 16))
              obtain ⟨hv17, hr17⟩ := (hT 17 79 rfl rfl : (Is (.int .i64 nn)) (f' 79) (ρ 17))
              obtain hS := hS.flat2 hr16 hr17
              refine .inl ⟨want_on (e := 78) rfl rfl rfl hv16, ocall rfl rfl Try.call47 rfl (wrof (x := nn) (h1) (h2)) (args1 (ev rfl hv17)) ?_⟩
              rintro _ w9 ⟨_, _, rfl, hTT, hN⟩
              exact ⟨_, rfl, _, _, rfl, hTT, hN⟩
            refine stepsCons rfl ?_ ?_
            · intro Q f' w' ρ S ho hT hS hB
              obtain ⟨hv16, hr16⟩ := (hT 16 78 rfl rfl : (Is (.bool false)) (f' 78) (ρ 16))
              obtain hS := hS.flat1 hr16
              exact .inl ⟨want_on (e := 78) rfl rfl rfl hv16, omove (v := .int .i64 nn) rfl rfl (ev (v := .int .i64 nn) rfl (ho 2 rfl)) ⟨_, _, rfl, isI, New.same _⟩⟩
            refine stepsCons rfl ?_ ?_
            · intro Q f' w' ρ S ho hT hS hB
              obtain ⟨hv16, hr16⟩ := (hT 16 78 rfl rfl : (Is (.bool false)) (f' 78) (ρ 16))
              obtain ⟨hv19, hr19⟩ := (hT 19 81 rfl rfl : (Is (.int .i64 nn)) (f' 81) (ρ 19))
              obtain hS := hS.flat2 hr16 hr19
              refine .inl ⟨want_on (e := 78) rfl rfl rfl hv16, ocall rfl rfl Try.call48 rfl (wsof (x := nn) (h1) (h2)) (args1 (ev rfl hv19)) ?_⟩
              rintro _ w9 ⟨_, _, rfl, hTT, hN⟩
              exact ⟨_, rfl, _, _, rfl, hTT, hN⟩
            refine stepsCons rfl ?_ ?_
            · intro Q f' w' ρ S ho hT hS hB
              obtain ⟨hv16, hr16⟩ := (hT 16 78 rfl rfl : (Is (.bool false)) (f' 78) (ρ 16))
              obtain ⟨p7, n7, c7, p8, n8, c8, hv18, hr18⟩ := (hT 18 80 rfl rfl : (Rrt nn 1) (f' 80) (ρ 18))
              obtain ⟨p9, n9, c9, p10, n10, c10, hv20, hr20⟩ := (hT 20 82 rfl rfl : (Rrt nn 1) (f' 82) (ρ 20))
              obtain hS := hS.flat3 hr16 hr18 hr20
              refine .inl ⟨want_on (e := 78) rfl rfl rfl hv16, ocall rfl rfl Try.call13 rfl (wlsame5 (x := nn) (y := 1) (u := nn) (v := 1) (hS.slm 9 rfl) (hS.slm 10 rfl) (hS.slm 11 rfl) (hS.slm 12 rfl) (rfl) (rfl)) (args2 (ev rfl hv18) (ev rfl hv20)) ?_⟩
              rintro _ w9 ⟨_, _, rfl, hTT, hN⟩
              exact ⟨_, rfl, _, _, rfl, hTT, hN⟩
            refine stepsCons rfl ?_ ?_
            · intro Q f' w' ρ S ho hT hS hB
              obtain ⟨hv16, hr16⟩ := (hT 16 78 rfl rfl : (Is (.bool false)) (f' 78) (ρ 16))
              obtain ⟨hv21, hr21⟩ := (hT 21 83 rfl rfl : (Is (.bool true)) (f' 83) (ρ 21))
              obtain hS := hS.flat2 hr16 hr21
              exact .inl ⟨want_on (e := 78) rfl rfl rfl hv16, onot (b := true) rfl rfl (ev (v := .bool true) rfl hv21) ⟨_, _, rfl, isI, New.same _⟩⟩
            refine stepsCons rfl ?_ ?_
            · intro Q f' w' ρ S ho hT hS hB
              obtain ⟨hv16, hr16⟩ := (hT 16 78 rfl rfl : (Is (.bool false)) (f' 78) (ρ 16))
              obtain ⟨hv22, hr22⟩ := (hT 22 84 rfl rfl : (Is (.bool false)) (f' 84) (ρ 22))
              obtain hS := hS.flat2 hr16 hr22
              exact .inl ⟨want_none rfl, opick (b := false) (v := .bool false) rfl rfl (ev (v := .bool false) rfl hv16) (ev (v := .bool false) rfl hv22) ⟨_, _, rfl, isI, New.same _⟩⟩
            exact stepsNil
          ·
            intro vs ρ w25 f' hf hT hS
            obtain ⟨hv0, hr0⟩ := (hT 0 (by decide) : (Is (.bool false)) (vs 0) (ρ 0))
            obtain ⟨hv1, hr1⟩ := (hT 1 (by decide) : (Is (.agg #[.bool false, .slice none 0 0, .bool false, .slice none 0 0])) (vs 1) (ρ 1))
            obtain ⟨hv2, hr2⟩ := (hT 2 (by decide) : (Is (.int .i64 6)) (vs 2) (ρ 2))
            obtain ⟨hv3, hr3⟩ := (hT 3 (by decide) : (Is (.agg #[.bool (ng 1), .slice p1 n1 c1, .bool (ng 1), .slice p2 n2 c2])) (vs 3) (ρ 3))
            obtain ⟨p3, n3, c3, p4, n4, c4, hv4, hr4⟩ := (hT 4 (by decide) : (Rrt z3 z4) (vs 4) (ρ 4))
            obtain ⟨hv5, hr5⟩ := (hT 5 (by decide) : (Is (.bool true)) (vs 5) (ρ 5))
            obtain ⟨hv6, hr6⟩ := (hT 6 (by decide) : (Is (.bool false)) (vs 6) (ρ 6))
            obtain ⟨hv7, hr7⟩ := (hT 7 (by decide) : (Is (.bool false)) (vs 7) (ρ 7))
            obtain ⟨hv8, hr8⟩ := (hT 8 (by decide) : (Is (.bool false)) (vs 8) (ρ 8))
            obtain ⟨hv9, hr9⟩ := (hT 9 (by decide) : (Is (.agg #[.bool false, .slice none 0 0, .bool false, .slice none 0 0])) (vs 9) (ρ 9))
            obtain ⟨hv10, hr10⟩ := (hT 10 (by decide) : (Is (.int .i64 6)) (vs 10) (ρ 10))
            obtain ⟨hv11, hr11⟩ := (hT 11 (by decide) : (Is (.agg #[.bool (ng 1), .slice p1 n1 c1, .bool (ng 1), .slice p2 n2 c2])) (vs 11) (ρ 11))
            obtain ⟨p5, n5, c5, p6, n6, c6, hv12, hr12⟩ := (hT 12 (by decide) : (Rrt z5 z6) (vs 12) (ρ 12))
            obtain ⟨hv13, hr13⟩ := (hT 13 (by decide) : (Is (.bool true)) (vs 13) (ρ 13))
            obtain ⟨hv14, hr14⟩ := (hT 14 (by decide) : (Is (.bool false)) (vs 14) (ρ 14))
            obtain ⟨hv15, hr15⟩ := (hT 15 (by decide) : (Is (.bool false)) (vs 15) (ρ 15))
            obtain ⟨hv16, hr16⟩ := (hT 16 (by decide) : (Is (.bool false)) (vs 16) (ρ 16))
            obtain ⟨hv17, hr17⟩ := (hT 17 (by decide) : (Is (.int .i64 nn)) (vs 17) (ρ 17))
            obtain ⟨p7, n7, c7, p8, n8, c8, hv18, hr18⟩ := (hT 18 (by decide) : (Rrt nn 1) (vs 18) (ρ 18))
            obtain ⟨hv19, hr19⟩ := (hT 19 (by decide) : (Is (.int .i64 nn)) (vs 19) (ρ 19))
            obtain ⟨p9, n9, c9, p10, n10, c10, hv20, hr20⟩ := (hT 20 (by decide) : (Rrt nn 1) (vs 20) (ρ 20))
            obtain ⟨hv21, hr21⟩ := (hT 21 (by decide) : (Is (.bool true)) (vs 21) (ρ 21))
            obtain ⟨hv22, hr22⟩ := (hT 22 (by decide) : (Is (.bool false)) (vs 22) (ρ 22))
            obtain ⟨hv23, hr23⟩ := (hT 23 (by decide) : (Is (.bool false)) (vs 23) (ρ 23))
            simp only [pool, if_true, hr0, hr1, hr2, hr3, hr4, hr5, hr6, hr7, hr8, hr9, hr10, hr11, hr12, hr13, hr14, hr15, hr16, hr17, hr18, hr19, hr20, hr21, hr22, hr23, List.nil_append, List.cons_append, List.append_nil] at hS
            simp only [layf, hv0, hv1, hv2, hv3, hv4, hv5, hv6, hv7, hv8, hv9, hv10, hv11, hv12, hv13, hv14, hv15, hv16, hv17, hv18, hv19, hv20, hv21, hv22, hv23] at hf
            subst hf; clear hT hv0 hv1 hv2 hv3 hv4 hv5 hv6 hv7 hv8 hv9 hv10 hv11 hv12 hv13 hv14 hv15 hv16 hv17 hv18 hv19 hv20 hv21 hv22 hv23 hr0 hr1 hr2 hr3 hr4 hr5 hr6 hr7 hr8 hr9 hr10 hr11 hr12 hr13 hr14 hr15 hr16 hr17 hr18 hr19 hr20 hr21 hr22 hr23
            refine wdone rfl ?_
            refine thenN ?_
            refine wF (ev (v := .bool false) rfl rfl) ?_
            refine wskip ?_
            refine thenN ?_
            refine wseq ?_
            refine wseq ?_
            refine wstage 44 [86, 87, 88, 89, 90, 91, 92, 93, 94, 95, 96, 97, 98, 99, 100, 101, 102, 103, 104, 105, 106, 107, 108, 109, 110, 111, 112, 113, 114, 115, 116, 117, 118, 119, 120, 121, 122, 123, 124, 125, 126, 127, 128, 129] [[], [0], [1, 0], [2, 0, 1], [2, 3, 0, 1], [2, 4, 0, 1, 3], [5, 0, 1, 2, 3, 4], [5, 6, 0, 1, 2, 3, 4], [2, 5, 7, 0, 1, 3, 4, 6], [2, 8, 0, 1, 3, 4, 5, 6, 7], [9, 0, 1, 2, 3, 4, 5, 6, 7, 8], [9, 10, 0, 1, 2, 3, 4, 5, 6, 7, 8], [2, 9, 11, 0, 1, 3, 4, 5, 6, 7, 8, 10], [2, 12, 0, 1, 3, 4, 5, 6, 7, 8, 9, 10, 11], [13, 0, 1, 2, 3, 4, 5, 6, 7, 8, 9, 10, 11, 12], [13, 0, 1, 2, 3, 4, 5, 6, 7, 8, 9, 10, 11, 12], [13, 14, 15, 0, 1, 2, 3, 4, 5, 6, 7, 8, 9, 10, 11, 12], [13, 16, 0, 1, 2, 3, 4, 5, 6, 7, 8, 9, 10, 11, 12, 14, 15], [2, 13, 17, 0, 1, 3, 4, 5, 6, 7, 8, 9, 10, 11, 12, 14, 15, 16], [2, 18, 0, 1, 3, 4, 5, 6, 7, 8, 9, 10, 11, 12, 13, 14, 15, 16, 17], [19, 0, 1, 2, 3, 4, 5, 6, 7, 8, 9, 10, 11, 12, 13, 14, 15, 16, 17, 18], [20, 0, 1, 2, 3, 4, 5, 6, 7, 8, 9, 10, 11, 12, 13, 14, 15, 16, 17, 18, 19], [20, 21, 0, 1, 2, 3, 4, 5, 6, 7, 8, 9, 10, 11, 12, 13, 14, 15, 16, 17, 18, 19], [22, 0, 1, 2, 3, 4, 5, 6, 7, 8, 9, 10, 11, 12, 13, 14, 15, 16, 17, 18, 19, 20, 21], [22, 0, 1, 2, 3, 4, 5, 6, 7, 8, 9, 10, 11, 12, 13, 14, 15, 16, 17, 18, 19, 20, 21], [22, 24, 0, 1, 2, 3, 4, 5, 6, 7, 8, 9, 10, 11, 12, 13, 14, 15, 16, 17, 18, 19, 20, 21], [22, 23, 25, 0, 1, 2, 3, 4, 5, 6, 7, 8, 9, 10, 11, 12, 13, 14, 15, 16, 17, 18, 19, 20, 21, 24], [22, 26, 0, 1, 2, 3, 4, 5, 6, 7, 8, 9, 10, 11, 12, 13, 14, 15, 16, 17, 18, 19, 20, 21, 23, 24, 25], [27, 0, 1, 2, 3, 4, 5, 6, 7, 8, 9, 10, 11, 12, 13, 14, 15, 16, 17, 18, 19, 20, 21, 22, 23, 24, 25, 26], [27, 28, 0, 1, 2, 3, 4, 5, 6, 7, 8, 9, 10, 11, 12, 13, 14, 15, 16, 17, 18, 19, 20, 21, 22, 23, 24, 25, 26], [22, 27, 29, 0, 1, 2, 3, 4, 5, 6, 7, 8, 9, 10, 11, 12, 13, 14, 15, 16, 17, 18, 19, 20, 21, 23, 24, 25, 26, 28], [22, 30, 0, 1, 2, 3, 4, 5, 6, 7, 8, 9, 10, 11, 12, 13, 14, 15, 16, 17, 18, 19, 20, 21, 23, 24, 25, 26, 27, 28, 29], [31, 0, 1, 2, 3, 4, 5, 6, 7, 8, 9, 10, 11, 12, 13, 14, 15, 16, 17, 18, 19, 20, 21, 22, 23, 24, 25, 26, 27, 28, 29, 30], [31, 32, 0, 1, 2, 3, 4, 5, 6, 7, 8, 9, 10, 11, 12, 13, 14, 15, 16, 17, 18, 19, 20, 21, 22, 23, 24, 25, 26, 27, 28, 29, 30], [22, 31, 33, 0, 1, 2, 3, 4, 5, 6, 7, 8, 9, 10, 11, 12, 13, 14, 15, 16, 17, 18, 19, 20, 21, 23, 24, 25, 26, 27, 28, 29, 30, 32], [22, 34, 0, 1, 2, 3, 4, 5, 6, 7, 8, 9, 10, 11, 12, 13, 14, 15, 16, 17, 18, 19, 20, 21, 23, 24, 25, 26, 27, 28, 29, 30, 31, 32, 33], [35, 0, 1, 2, 3, 4, 5, 6, 7, 8, 9, 10, 11, 12, 13, 14, 15, 16, 17, 18, 19, 20, 21, 22, 23, 24, 25, 26, 27, 28, 29, 30, 31, 32, 33, 34], [35, 0, 1, 2, 3, 4, 5, 6, 7, 8, 9, 10, 11, 12, 13, 14, 15, 16, 17, 18, 19, 20, 21, 22, 23, 24, 25, 26, 27, 28, 29, 30, 31, 32, 33, 34], [35, 37, 0, 1, 2, 3, 4, 5, 6, 7, 8, 9, 10, 11, 12, 13, 14, 15, 16, 17, 18, 19, 20, 21, 22, 23, 24, 25, 26, 27, 28, 29, 30, 31, 32, 33, 34], [35, 36, 38, 0, 1, 2, 3, 4, 5, 6, 7, 8, 9, 10, 11, 12, 13, 14, 15, 16, 17, 18, 19, 20, 21, 22, 23, 24, 25, 26, 27, 28, 29, 30, 31, 32, 33, 34, 37], [35, 39, 0, 1, 2, 3, 4, 5, 6, 7, 8, 9, 10, 11, 12, 13, 14, 15, 16, 17, 18, 19, 20, 21, 22, 23, 24, 25, 26, 27, 28, 29, 30, 31, 32, 33, 34, 36, 37, 38], [22, 35, 40, 0, 1, 2, 3, 4, 5, 6, 7, 8, 9, 10, 11, 12, 13, 14, 15, 16, 17, 18, 19, 20, 21, 23, 24, 25, 26, 27, 28, 29, 30, 31, 32, 33, 34, 36, 37, 38, 39], [20, 22, 41, 0, 1, 2, 3, 4, 5, 6, 7, 8, 9, 10, 11, 12, 13, 14, 15, 16, 17, 18, 19, 21, 23, 24, 25, 26, 27, 28, 29, 30, 31, 32, 33, 34, 35, 36, 37, 38, 39, 40], [20, 42, 0, 1, 2, 3, 4, 5, 6, 7, 8, 9, 10, 11, 12, 13, 14, 15, 16, 17, 18, 19, 21, 22, 23, 24, 25, 26, 27, 28, 29, 30, 31, 32, 33, 34, 35, 36, 37, 38, 39, 40, 41]] [[], [], [], [], [], [], [], [], [], [], [], [], [], [], [], [], [], [], [], [], [], [], [], [], [], [], [], [], [], [], [], [], [], [], [], [], [], [], [], [], [], [], [], []] [] [] (fun i9 => ([fun _ => Is (.bool false), fun _ => Is (.bool true), fun _ => Is (.bool true), fun _ => Is (.int .i64 0), fun _ => Is (.bool false), fun _ => Is (.bool false), fun _ => Is (.int .i64 6), fun _ => Is (.bool false), fun _ => Is (.bool false), fun _ => Is (.bool false), fun _ => Is (.int .i64 6), fun _ => Is (.bool false), fun _ => Is (.bool false), fun _ => Is (.bool false), fun _ => Is (.agg #[.bool false, .slice none 0 0]), fun _ => Is (.agg #[.bool false, .slice none 0 0]), fun _ => Is (.bool true), fun _ => Is (.bool false), fun _ => Is (.bool false), fun _ => Is (.bool false), fun _ => Is (.bool false), fun _ => Is (.bool false), fun _ => Is (.bool false), fun _ => Is undef, fun _ => Is undef, fun _ => Is undef, fun _ => Is undef, fun _ => Is undef, fun _ => Is undef, fun _ => Is undef, fun _ => Is undef, fun _ => Is undef, fun _ => Is undef, fun _ => Is undef, fun _ => Is undef, fun _ => Is undef, fun _ => Is undef, fun _ => Is undef, fun _ => Is undef, fun _ => Is undef, fun _ => Is undef, fun _ => Is undef, fun _ => Is (.bool false), fun _ => Is (.bool false)] : List (List Value → Tell)).getD i9 (fun _ _ _ => False)) (heldNil) (fun d _ _ _ _ h => (by cases d <;> exact h)) (by kernel_rfl) (by kernel_rfl) (by kernel_rfl) hS ?_ ?_
            ·
              refine stepsCons rfl ?_ ?_
              · intro Q f' w' ρ S ho hT hS hB
                exact .inl ⟨want_none rfl, omove (v := .bool false) rfl rfl (ev (v := .bool false) rfl (ho 19 rfl)) ⟨_, _, rfl, isI, New.same _⟩⟩
              refine stepsCons rfl ?_ ?_
              · intro Q f' w' ρ S ho hT hS hB
                obtain ⟨hv0, hr0⟩ := (hT 0 86 rfl rfl : (Is (.bool false)) (f' 86) (ρ 0))
                obtain hS := hS.flat1 hr0
                exact .inl ⟨want_none rfl, onot (b := false) rfl rfl (ev (v := .bool false) rfl hv0) ⟨_, _, rfl, isI, New.same _⟩⟩
              refine stepsCons rfl ?_ ?_
              · intro Q f' w' ρ S ho hT hS hB
                obtain ⟨hv1, hr1⟩ := (hT 1 87 rfl rfl : (Is (.bool true)) (f' 87) (ρ 1))
                obtain hS := hS.flat1 hr1
                exact .inl ⟨want_none rfl, omove (v := .bool true) rfl rfl (ev (v := .bool true) rfl hv1) ⟨_, _, rfl, isI, New.same _⟩⟩
              refine stepsCons rfl ?_ ?_
              · intro Q f' w' ρ S ho hT hS hB
                obtain ⟨hv2, hr2⟩ := (hT 2 88 rfl rfl : (Is (.bool true)) (f' 88) (ρ 2))
                obtain hS := hS.flat1 hr2
                exact .inl ⟨want_on (e := 88) rfl rfl rfl hv2, omove (v := .int .i64 0) rfl rfl (ev (v := .int .i64 0) rfl (ho 13 rfl)) ⟨_, _, rfl, isI, New.same _⟩⟩
              refine stepsCons rfl ?_ ?_
              · intro Q f' w' ρ S ho hT hS hB
                obtain ⟨hv2, hr2⟩ := (hT 2 88 rfl rfl : (Is (.bool true)) (f' 88) (ρ 2))
                obtain ⟨hv3, hr3⟩ := (hT 3 89 rfl rfl : (Is (.int .i64 0)) (f' 89) (ρ 3))
                obtain hS := hS.flat2 hr2 hr3
                exact .inl ⟨want_on (e := 88) rfl rfl rfl hv2, obin (u := .int .i64 0) (v := .int .i64 0) (z := .bool false) rfl rfl (ev (v := .int .i64 0) rfl hv3) (evc (v := .int .i64 0)) (bin_neq (by decide)) ⟨_, _, rfl, isI, New.same _⟩⟩
              refine stepsCons rfl ?_ ?_
              · intro Q f' w' ρ S ho hT hS hB
                obtain ⟨hv2, hr2⟩ := (hT 2 88 rfl rfl : (Is (.bool true)) (f' 88) (ρ 2))
                obtain ⟨hv4, hr4⟩ := (hT 4 90 rfl rfl : (Is (.bool false)) (f' 90) (ρ 4))
                obtain hS := hS.flat2 hr2 hr4
                exact .inl ⟨want_on (e := 88) rfl rfl rfl hv2, omove (v := .bool false) rfl rfl (ev (v := .bool false) rfl hv4) ⟨_, _, rfl, isI, New.same _⟩⟩
              refine stepsCons rfl ?_ ?_
              · intro Q f' w' ρ S ho hT hS hB
                obtain ⟨hv5, hr5⟩ := (hT 5 91 rfl rfl : (Is (.bool false)) (f' 91) (ρ 5))
                obtain hS := hS.flat1 hr5
                exact .inl ⟨want_on (e := 91) rfl rfl rfl hv5, omove (v := .int .i64 6) rfl rfl (ev (v := .int .i64 6) rfl (ho 14 rfl)) ⟨_, _, rfl, isI, New.same _⟩⟩
              refine stepsCons rfl ?_ ?_
              · intro Q f' w' ρ S ho hT hS hB
                obtain ⟨hv5, hr5⟩ := (hT 5 91 rfl rfl : (Is (.bool false)) (f' 91) (ρ 5))
                obtain ⟨hv6, hr6⟩ := (hT 6 92 rfl rfl : (Is (.int .i64 6)) (f' 92) (ρ 6))
                obtain hS := hS.flat2 hr5 hr6
                exact .inl ⟨want_on (e := 91) rfl rfl rfl hv5, obin (u := .int .i64 6) (v := .int .i64 6) (z := .bool false) rfl rfl (ev (v := .int .i64 6) rfl hv6) (evc (v := .int .i64 6)) (bin_neq (by decide)) ⟨_, _, rfl, isI, New.same _⟩⟩
              refine stepsCons rfl ?_ ?_
              · intro Q f' w' ρ S ho hT hS hB
                obtain ⟨hv2, hr2⟩ := (hT 2 88 rfl rfl : (Is (.bool true)) (f' 88) (ρ 2))
                obtain ⟨hv5, hr5⟩ := (hT 5 91 rfl rfl : (Is (.bool false)) (f' 91) (ρ 5))
                obtain ⟨hv7, hr7⟩ := (hT 7 93 rfl rfl : (Is (.bool false)) (f' 93) (ρ 7))
                obtain hS := hS.flat3 hr2 hr5 hr7
                exact .inl ⟨want_on (e := 88) rfl rfl rfl hv2, opick (b := false) (v := .bool false) rfl rfl (ev (v := .bool false) rfl hv5) (ev (v := .bool false) rfl hv7) ⟨_, _, rfl, isI, New.same _⟩⟩
              refine stepsCons rfl ?_ ?_
              · intro Q f' w' ρ S ho hT hS hB
                obtain ⟨hv2, hr2⟩ := (hT 2 88 rfl rfl : (Is (.bool true)) (f' 88) (ρ 2))
                obtain ⟨hv8, hr8⟩ := (hT 8 94 rfl rfl : (Is (.bool false)) (f' 94) (ρ 8))
                obtain hS := hS.flat2 hr2 hr8
                exact .inl ⟨want_on (e := 88) rfl rfl rfl hv2, omove (v := .bool false) rfl rfl (ev (v := .bool false) rfl hv8) ⟨_, _, rfl, isI, New.same _⟩⟩
              refine stepsCons rfl ?_ ?_
              · intro Q f' w' ρ S ho hT hS hB
                obtain ⟨hv9, hr9⟩ := (hT 9 95 rfl rfl : (Is (.bool false)) (f' 95) (ρ 9))
                obtain hS := hS.flat1 hr9
                exact .inl ⟨want_on (e := 95) rfl rfl rfl hv9, omove (v := .int .i64 6) rfl rfl (ev (v := .int .i64 6) rfl (ho 18 rfl)) ⟨_, _, rfl, isI, New.same _⟩⟩
              refine stepsCons rfl ?_ ?_
              · intro Q f' w' ρ S ho hT hS hB
                obtain ⟨hv9, hr9⟩ := (hT 9 95 rfl rfl : (Is (.bool false)) (f' 95) (ρ 9))
                obtain ⟨hv10, hr10⟩ := (hT 10 96 rfl rfl : (Is (.int .i64 6)) (f' 96) (ρ 10))
                obtain hS := hS.flat2 hr9 hr10
                exact .inl ⟨want_on (e := 95) rfl rfl rfl hv9, obin (u := .int .i64 6) (v := .int .i64 6) (z := .bool false) rfl rfl (ev (v := .int .i64 6) rfl hv10) (evc (v := .int .i64 6)) (bin_neq (by decide)) ⟨_, _, rfl, isI, New.same _⟩⟩
              refine stepsCons rfl ?_ ?_
              · intro Q f' w' ρ S ho hT hS hB
                obtain ⟨hv2, hr2⟩ := (hT 2 88 rfl rfl : (Is (.bool true)) (f' 88) (ρ 2))
                obtain ⟨hv9, hr9⟩ := (hT 9 95 rfl rfl : (Is (.bool false)) (f' 95) (ρ 9))
                obtain ⟨hv11, hr11⟩ := (hT 11 97 rfl rfl : (Is (.bool false)) (f' 97) (ρ 11))
                obtain hS := hS.flat3 hr2 hr9 hr11
                exact .inl ⟨want_on (e := 88) rfl rfl rfl hv2, opick (b := false) (v := .bool false) rfl rfl (ev (v := .bool false) rfl hv9) (ev (v := .bool false) rfl hv11) ⟨_, _, rfl, isI, New.same _⟩⟩
              refine stepsCons rfl ?_ ?_
              · intro Q f' w' ρ S ho hT hS hB
                obtain ⟨hv2, hr2⟩ := (hT 2 88 rfl rfl : (Is (.bool true)) (f' 88) (ρ 2))
                obtain ⟨hv12, hr12⟩ := (hT 12 98 rfl rfl : (Is (.bool false)) (f' 98) (ρ 12))
                obtain hS := hS.flat2 hr2 hr12
                exact .inl ⟨want_on (e := 88) rfl rfl rfl hv2, omove (v := .bool false) rfl rfl (ev (v := .bool false) rfl hv12) ⟨_, _, rfl, isI, New.same _⟩⟩
              refine stepsCons rfl ?_ ?_
              · intro Q f' w' ρ S ho hT hS hB
                obtain ⟨hv13, hr13⟩ := (hT 13 99 rfl rfl : (Is (.bool false)) (f' 99) (ρ 13))
                obtain hS := hS.flat1 hr13
                exact .inl ⟨want_on (e := 99) rfl rfl rfl hv13, oload (vs := [.bool false, .slice none 0 0]) aggZ hS 8 rfl rfl (ev rfl (ho 17 rfl)) rfl rfl rfl ⟨_, _, rfl, isI, New.same _⟩⟩
              refine stepsCons rfl ?_ ?_
              · intro Q f' w' ρ S ho hT hS hB
                obtain ⟨hv13, hr13⟩ := (hT 13 99 rfl rfl : (Is (.bool false)) (f' 99) (ρ 13))
                obtain hS := hS.flat1 hr13
                exact .inl ⟨want_on (e := 99) rfl rfl rfl hv13, obuild (ps := #[]) (v := .agg #[.bool false, .slice none 0 0]) rfl rfl (parts0) (fun w => by simp [go_sem, Instr.build, Instr.fill]) ⟨_, _, rfl, isI, New.same _⟩⟩
              refine stepsCons rfl ?_ ?_
              · intro Q f' w' ρ S ho hT hS hB
                obtain ⟨hv13, hr13⟩ := (hT 13 99 rfl rfl : (Is (.bool false)) (f' 99) (ρ 13))
                obtain ⟨hv14, hr14⟩ := (hT 14 100 rfl rfl : (Is (.agg #[.bool false, .slice none 0 0])) (f' 100) (ρ 14))
                obtain ⟨hv15, hr15⟩ := (hT 15 101 rfl rfl : (Is (.agg #[.bool false, .slice none 0 0])) (f' 101) (ρ 15))
                obtain hS := hS.flat3 hr13 hr14 hr15
                refine .inl ⟨want_on (e := 99) rfl rfl rfl hv13, ocall rfl rfl Try.call22 rfl (wqsame (x := 0) (y := 0) (Sl.nil _) (Sl.nil _) (rfl)) (args2 (ev rfl hv14) (ev rfl hv15)) ?_⟩
                rintro _ w9 ⟨_, _, rfl, hTT, hN⟩
                exact ⟨_, rfl, _, _, rfl, hTT, hN⟩
              refine stepsCons rfl ?_ ?_
              · intro Q f' w' ρ S ho hT hS hB
                obtain ⟨hv13, hr13⟩ := (hT 13 99 rfl rfl : (Is (.bool false)) (f' 99) (ρ 13))
                obtain ⟨hv16, hr16⟩ := (hT 16 102 rfl rfl : (Is (.bool true)) (f' 102) (ρ 16))
                obtain hS := hS.flat2 hr13 hr16
                exact .inl ⟨want_on (e := 99) rfl rfl rfl hv13, onot (b := true) rfl rfl (ev (v := .bool true) rfl hv16) ⟨_, _, rfl, isI, New.same _⟩⟩
              refine stepsCons rfl ?_ ?_
              · intro Q f' w' ρ S ho hT hS hB
                obtain ⟨hv2, hr2⟩ := (hT 2 88 rfl rfl : (Is (.bool true)) (f' 88) (ρ 2))
                obtain ⟨hv13, hr13⟩ := (hT 13 99 rfl rfl : (Is (.bool false)) (f' 99) (ρ 13))
                obtain ⟨hv17, hr17⟩ := (hT 17 103 rfl rfl : (Is (.bool false)) (f' 103) (ρ 17))
                obtain hS := hS.flat3 hr2 hr13 hr17
                exact .inl ⟨want_on (e := 88) rfl rfl rfl hv2, opick (b := false) (v := .bool false) rfl rfl (ev (v := .bool false) rfl hv13) (ev (v := .bool false) rfl hv17) ⟨_, _, rfl, isI, New.same _⟩⟩
              refine stepsCons rfl ?_ ?_
              · intro Q f' w' ρ S ho hT hS hB
                obtain ⟨hv2, hr2⟩ := (hT 2 88 rfl rfl : (Is (.bool true)) (f' 88) (ρ 2))
                obtain ⟨hv18, hr18⟩ := (hT 18 104 rfl rfl : (Is (.bool false)) (f' 104) (ρ 18))
                obtain hS := hS.flat2 hr2 hr18
                exact .inl ⟨want_none rfl, opick (b := true) (v := .bool false) rfl rfl (ev (v := .bool true) rfl hv2) (ev (v := .bool false) rfl hv18) ⟨_, _, rfl, isI, New.same _⟩⟩
              refine stepsCons rfl ?_ ?_
              · intro Q f' w' ρ S ho hT hS hB
                obtain ⟨hv19, hr19⟩ := (hT 19 105 rfl rfl : (Is (.bool false)) (f' 105) (ρ 19))
                obtain hS := hS.flat1 hr19
                exact .inl ⟨want_none rfl, omove (v := .bool false) rfl rfl (ev (v := .bool false) rfl hv19) ⟨_, _, rfl, isI, New.same _⟩⟩
              refine stepsCons rfl ?_ ?_
              · intro Q f' w' ρ S ho hT hS hB
                obtain ⟨hv20, hr20⟩ := (hT 20 106 rfl rfl : (Is (.bool false)) (f' 106) (ρ 20))
                obtain hS := hS.flat1 hr20
                exact .inl ⟨want_on (e := 106) rfl rfl rfl hv20, omove (v := .bool false) rfl rfl (ev (v := .bool false) rfl (ho 19 rfl)) ⟨_, _, rfl, isI, New.same _⟩⟩
              refine stepsCons rfl ?_ ?_
              · intro Q f' w' ρ S ho hT hS hB
                obtain ⟨hv20, hr20⟩ := (hT 20 106 rfl rfl : (Is (.bool false)) (f' 106) (ρ 20))
                obtain ⟨hv21, hr21⟩ := (hT 21 107 rfl rfl : (Is (.bool false)) (f' 107) (ρ 21))
                obtain hS := hS.flat2 hr20 hr21
                exact .inl ⟨want_on (e := 106) rfl rfl rfl hv20, omove (v := .bool false) rfl rfl (ev (v := .bool false) rfl hv21) ⟨_, _, rfl, isI, New.same _⟩⟩
              refine stepsCons rfl ?_ ?_
              · intro Q f' w' ρ S ho hT hS hB
                obtain ⟨hv22, hr22⟩ := (hT 22 108 rfl rfl : (Is (.bool false)) (f' 108) (ρ 22))
                obtain hS := hS.flat1 hr22
                exact .inr ⟨want_off (e := 108) (b' := false) rfl rfl rfl hv22 rfl, isI⟩
              refine stepsCons rfl ?_ ?_
              · intro Q f' w' ρ S ho hT hS hB
                obtain ⟨hv22, hr22⟩ := (hT 22 108 rfl rfl : (Is (.bool false)) (f' 108) (ρ 22))
                obtain hS := hS.flat1 hr22
                exact .inr ⟨want_off (e := 108) (b' := false) rfl rfl rfl hv22 rfl, isI⟩
              refine stepsCons rfl ?_ ?_
              · intro Q f' w' ρ S ho hT hS hB
                obtain ⟨hv22, hr22⟩ := (hT 22 108 rfl rfl : (Is (.bool false)) (f' 108) (ρ 22))
                obtain ⟨hv24, hr24⟩ := (hT 24 110 rfl rfl : (Is undef) (f' 110) (ρ 24))
                obtain hS := hS.flat2 hr22 hr24
                exact .inr ⟨want_off (e := 108) (b' := false) rfl rfl rfl hv22 rfl, isI⟩
              refine stepsCons rfl ?_ ?_
              · intro Q f' w' ρ S ho hT hS hB
                obtain ⟨hv22, hr22⟩ := (hT 22 108 rfl rfl : (Is (.bool false)) (f' 108) (ρ 22))
                obtain ⟨hv23, hr23⟩ := (hT 23 109 rfl rfl : (Is undef) (f' 109) (ρ 23))
                obtain ⟨hv25, hr25⟩ := (hT 25 111 rfl rfl : (Is undef) (f' 111) (ρ 25))
                obtain hS := hS.flat3 hr22 hr23 hr25
                exact .inr ⟨want_off (e := 108) (b' := false) rfl rfl rfl hv22 rfl, isI⟩
              refine stepsCons rfl ?_ ?_
              · intro Q f' w' ρ S ho hT hS hB
                obtain ⟨hv22, hr22⟩ := (hT 22 108 rfl rfl : (Is (.bool false)) (f' 108) (ρ 22))
                obtain ⟨hv26, hr26⟩ := (hT 26 112 rfl rfl : (Is undef) (f' 112) (ρ 26))
                obtain hS := hS.flat2 hr22 hr26
                exact .inr ⟨want_off (e := 108) (b' := false) rfl rfl rfl hv22 rfl, isI⟩
              refine stepsCons rfl ?_ ?_
              · intro Q f' w' ρ S ho hT hS hB
                obtain ⟨hv27, hr27⟩ := (hT 27 113 rfl rfl : (Is undef) (f' 113) (ρ 27))
                obtain hS := hS.flat1 hr27
                exact .inr ⟨want_undef (e := 113) rfl rfl rfl hv27, isI⟩
              refine stepsCons rfl ?_ ?_
              · intro Q f' w' ρ S ho hT hS hB
                obtain ⟨hv27, hr27⟩ := (hT 27 113 rfl rfl : (Is undef) (f' 113) (ρ 27))
                obtain ⟨hv28, hr28⟩ := (hT 28 114 rfl rfl : (Is undef) (f' 114) (ρ 28))
                obtain hS := hS.flat2 hr27 hr28
                exact .inr ⟨want_undef (e := 113) rfl rfl rfl hv27, isI⟩
              refine stepsCons rfl ?_ ?_
              · intro Q f' w' ρ S ho hT hS hB
                obtain ⟨hv22, hr22⟩ := (hT 22 108 rfl rfl : (Is (.bool false)) (f' 108) (ρ 22))
                obtain ⟨hv27, hr27⟩ := (hT 27 113 rfl rfl : (Is undef) (f' 113) (ρ 27))
                obtain ⟨hv29, hr29⟩ := (hT 29 115 rfl rfl : (Is undef) (f' 115) (ρ 29))
                obtain hS := hS.flat3 hr22 hr27 hr29
                exact .inr ⟨want_off (e := 108) (b' := false) rfl rfl rfl hv22 rfl, isI⟩
              refine stepsCons rfl ?_ ?_
              · intro Q f' w' ρ S ho hT hS hB
                obtain ⟨hv22, hr22⟩ := (hT 22 108 rfl rfl : (Is (.bool false)) (f' 108) (ρ 22))
                obtain ⟨hv30, hr30⟩ := (hT 30 116 rfl rfl : (Is undef) (f' 116) (ρ 30))
                obtain hS := hS.flat2 hr22 hr30
                exact .inr ⟨want_off (e := 108) (b' := false) rfl rfl rfl hv22 rfl, isI⟩
              refine stepsCons rfl ?_ ?_
              · intro Q f' w' ρ S ho hT hS hB
                obtain ⟨hv31, hr31⟩ := (hT 31 117 rfl rfl : (Is undef) (f' 117) (ρ 31))
                obtain hS := hS.flat1 hr31
                exact .inr ⟨want_undef (e := 117) rfl rfl rfl hv31, isI⟩
              refine stepsCons rfl ?_ ?_
              · intro Q f' w' ρ S ho hT hS hB
                obtain ⟨hv31, hr31⟩ := (hT 31 117 rfl rfl : (Is undef) (f' 117) (ρ 31))
                obtain ⟨hv32, hr32⟩ := (hT 32 118 rfl rfl : (Is undef) (f' 118) (ρ 32))
                obtain hS := hS.flat2 hr31 hr32
                exact .inr ⟨want_undef (e := 117) rfl rfl rfl hv31, isI⟩
              refine stepsCons rfl ?_ ?_
              · intro Q f' w' ρ S ho hT hS hB
                obtain ⟨hv22, hr22⟩ := (hT 22 108 rfl rfl : (Is (.bool false)) (f' 108) (ρ 22))
                obtain ⟨hv31, hr31⟩ := (hT 31 117 rfl rfl : (Is undef) (f' 117) (ρ 31))
                obtain ⟨hv33, hr33⟩ := (hT 33 119 rfl rfl : (Is undef) (f' 119) (ρ 33))
                obtain hS := hS.flat3 hr22 hr31 hr33
                exact .inr ⟨want_off (e := 108) (b' := false) rfl rfl rfl hv22 rfl, isI⟩
              refine stepsCons rfl ?_ ?_
              · intro Q f' w' ρ S ho hT hS hB
                obtain ⟨hv22, hr22⟩ := (hT 22 108 rfl rfl : (Is (.bool false)) (f' 108) (ρ 22))
                obtain ⟨hv34, hr34⟩ := (hT 34 120 rfl rfl : (Is undef) (f' 120) (ρ 34))
                obtain hS := hS.flat2 hr22 hr34
                exact .inr ⟨want_off (e := 108) (b' := false) rfl rfl rfl hv22 rfl, isI⟩
              refine stepsCons rfl ?_ ?_
              · intro Q f' w' ρ S ho hT hS hB
                obtain ⟨hv35, hr35⟩ := (hT 35 121 rfl rfl : (Is undef) (f' 121) (ρ 35))
                obtain hS := hS.flat1 hr35
                exact .inr ⟨want_undef (e := 121) rfl rfl rfl hv35, isI⟩
              refine stepsCons rfl ?_ ?_
              · intro Q f' w' ρ S ho hT hS hB
                obtain ⟨hv35, hr35⟩ := (hT 35 121 rfl rfl : (Is undef) (f' 121) (ρ 35))
                obtain hS := hS.flat1 hr35
                exact .inr ⟨want_undef (e := 121) rfl rfl rfl hv35, isI⟩
              refine stepsCons rfl ?_ ?_
              · intro Q f' w' ρ S ho hT hS hB
                obtain ⟨hv35, hr35⟩ := (hT 35 121 rfl rfl : (Is undef) (f' 121) (ρ 35))
                obtain ⟨hv37, hr37⟩ := (hT 37 123 rfl rfl : (Is undef) (f' 123) (ρ 37))
                obtain hS := hS.flat2 hr35 hr37
                exact .inr ⟨want_undef (e := 121) rfl rfl rfl hv35, isI⟩
              refine stepsCons rfl ?_ ?_
              · intro Q f' w' ρ S ho hT hS hB
                obtain ⟨hv35, hr35⟩ := (hT 35 121 rfl rfl : (Is undef) (f' 121) (ρ 35))
                obtain ⟨hv36, hr36⟩ := (hT 36 122 rfl rfl : (Is undef) (f' 122) (ρ 36))
                obtain ⟨hv38, hr38⟩ := (hT 38 124 rfl rfl : (Is undef) (f' 124) (ρ 38))
                obtain hS := hS.flat3 hr35 hr36 hr38
                exact .inr ⟨want_undef (e := 121) rfl rfl rfl hv35, isI⟩
              refine stepsCons rfl ?_ ?_
              · intro Q f' w' ρ S ho hT hS hB
                obtain ⟨hv35, hr35⟩ := (hT 35 121 rfl rfl : (Is undef) (f' 121) (ρ 35))
                obtain ⟨hv39, hr39⟩ := (hT 39 125 rfl rfl : (Is undef) (f' 125) (ρ 39))
                obtain hS := hS.flat2 hr35 hr39
                exact .inr ⟨want_undef (e := 121) rfl rfl rfl hv35, isI⟩
              refine stepsCons rfl ?_ ?_
              · intro Q f' w' ρ S ho hT hS hB
                obtain ⟨hv22, hr22⟩ := (hT 22 108 rfl rfl : (Is (.bool false)) (f' 108) (ρ 22))
                obtain ⟨hv35, hr35⟩ := (hT 35 121 rfl rfl : (Is undef) (f' 121) (ρ 35))
                obtain ⟨hv40, hr40⟩ := (hT 40 126 rfl rfl : (Is undef) (f' 126) (ρ 40))
                obtain hS := hS.flat3 hr22 hr35 hr40
                exact .inr ⟨want_off (e := 108) (b' := false) rfl rfl rfl hv22 rfl, isI⟩
              refine stepsCons rfl ?_ ?_
              · intro Q f' w' ρ S ho hT hS hB
                obtain ⟨hv20, hr20⟩ := (hT 20 106 rfl rfl : (Is (.bool false)) (f' 106) (ρ 20))
                obtain ⟨hv22, hr22⟩ := (hT 22 108 rfl rfl : (Is (.bool false)) (f' 108) (ρ 22))
                obtain ⟨hv41, hr41⟩ := (hT 41 127 rfl rfl : (Is undef) (f' 127) (ρ 41))
                obtain hS := hS.flat3 hr20 hr22 hr41
                exact .inl ⟨want_on (e := 106) rfl rfl rfl hv20, opick (b := false) (v := .bool false) rfl rfl (ev (v := .bool false) rfl hv22) (evc (v := .bool false)) ⟨_, _, rfl, isI, New.same _⟩⟩
              refine stepsCons rfl ?_ ?_
              · intro Q f' w' ρ S ho hT hS hB
                obtain ⟨hv20, hr20⟩ := (hT 20 106 rfl rfl : (Is (.bool false)) (f' 106) (ρ 20))
                obtain ⟨hv42, hr42⟩ := (hT 42 128 rfl rfl : (Is (.bool false)) (f' 128) (ρ 42))
                obtain hS := hS.flat2 hr20 hr42
                exact .inl ⟨want_none rfl, opick (b := false) (v := .bool false) rfl rfl (ev (v := .bool false) rfl hv20) (ev (v := .bool false) rfl hv42) ⟨_, _, rfl, isI, New.same _⟩⟩
              exact stepsNil
            ·
              intro vs ρ w26 f' hf hT hS
              obtain ⟨hv0, hr0⟩ := (hT 0 (by decide) : (Is (.bool false)) (vs 0) (ρ 0))
              obtain ⟨hv1, hr1⟩ := (hT 1 (by decide) : (Is (.bool true)) (vs 1) (ρ 1))
              obtain ⟨hv2, hr2⟩ := (hT 2 (by decide) : (Is (.bool true)) (vs 2) (ρ 2))
              obtain ⟨hv3, hr3⟩ := (hT 3 (by decide) : (Is (.int .i64 0)) (vs 3) (ρ 3))
              obtain ⟨hv4, hr4⟩ := (hT 4 (by decide) : (Is (.bool false)) (vs 4) (ρ 4))
              obtain ⟨hv5, hr5⟩ := (hT 5 (by decide) : (Is (.bool false)) (vs 5) (ρ 5))
              obtain ⟨hv6, hr6⟩ := (hT 6 (by decide) : (Is (.int .i64 6)) (vs 6) (ρ 6))
              obtain ⟨hv7, hr7⟩ := (hT 7 (by decide) : (Is (.bool false)) (vs 7) (ρ 7))
              obtain ⟨hv8, hr8⟩ := (hT 8 (by decide) : (Is (.bool false)) (vs 8) (ρ 8))
              obtain ⟨hv9, hr9⟩ := (hT 9 (by decide) : (Is (.bool false)) (vs 9) (ρ 9))
              obtain ⟨hv10, hr10⟩ := (hT 10 (by decide) : (Is (.int .i64 6)) (vs 10) (ρ 10))
              obtain ⟨hv11, hr11⟩ := (hT 11 (by decide) : (Is (.bool false)) (vs 11) (ρ 11))
              obtain ⟨hv12, hr12⟩ := (hT 12 (by decide) : (Is (.bool false)) (vs 12) (ρ 12))
              obtain ⟨hv13, hr13⟩ := (hT 13 (by decide) : (Is (.bool false)) (vs 13) (ρ 13))
              obtain ⟨hv14, hr14⟩ := (hT 14 (by decide) : (Is (.agg #[.bool false, .slice none 0 0])) (vs 14) (ρ 14))
              obtain ⟨hv15, hr15⟩ := (hT 15 (by decide) : (Is (.agg #[.bool false, .slice none 0 0])) (vs 15) (ρ 15))
              obtain ⟨hv16, hr16⟩ := (hT 16 (by decide) : (Is (.bool true)) (vs 16) (ρ 16))
              obtain ⟨hv17, hr17⟩ := (hT 17 (by decide) : (Is (.bool false)) (vs 17) (ρ 17))
              obtain ⟨hv18, hr18⟩ := (hT 18 (by decide) : (Is (.bool false)) (vs 18) (ρ 18))
              obtain ⟨hv19, hr19⟩ := (hT 19 (by decide) : (Is (.bool false)) (vs 19) (ρ 19))
              obtain ⟨hv20, hr20⟩ := (hT 20 (by decide) : (Is (.bool false)) (vs 20) (ρ 20))
              obtain ⟨hv21, hr21⟩ := (hT 21 (by decide) : (Is (.bool false)) (vs 21) (ρ 21))
              obtain ⟨hv22, hr22⟩ := (hT 22 (by decide) : (Is (.bool false)) (vs 22) (ρ 22))
              obtain ⟨hv23, hr23⟩ := (hT 23 (by decide) : (Is undef) (vs 23) (ρ 23))
              obtain ⟨hv24, hr24⟩ := (hT 24 (by decide) : (Is undef) (vs 24) (ρ 24))
              obtain ⟨hv25, hr25⟩ := (hT 25 (by decide) : (Is undef) (vs 25) (ρ 25))
              obtain ⟨hv26, hr26⟩ := (hT 26 (by decide) : (Is undef) (vs 26) (ρ 26))
              obtain ⟨hv27, hr27⟩ := (hT 27 (by decide) : (Is undef) (vs 27) (ρ 27))
              obtain ⟨hv28, hr28⟩ := (hT 28 (by decide) : (Is undef) (vs 28) (ρ 28))
              obtain ⟨hv29, hr29⟩ := (hT 29 (by decide) : (Is undef) (vs 29) (ρ 29))
              obtain ⟨hv30, hr30⟩ := (hT 30 (by decide) : (Is undef) (vs 30) (ρ 30))
              obtain ⟨hv31, hr31⟩ := (hT 31 (by decide) : (Is undef) (vs 31) (ρ 31))
              obtain ⟨hv32, hr32⟩ := (hT 32 (by decide) : (Is undef) (vs 32) (ρ 32))
              obtain ⟨hv33, hr33⟩ := (hT 33 (by decide) : (Is undef) (vs 33) (ρ 33))
              obtain ⟨hv34, hr34⟩ := (hT 34 (by decide) : (Is undef) (vs 34) (ρ 34))
              obtain ⟨hv35, hr35⟩ := (hT 35 (by decide) : (Is undef) (vs 35) (ρ 35))
              obtain ⟨hv36, hr36⟩ := (hT 36 (by decide) : (Is undef) (vs 36) (ρ 36))
              obtain ⟨hv37, hr37⟩ := (hT 37 (by decide) : (Is undef) (vs 37) (ρ 37))
              obtain ⟨hv38, hr38⟩ := (hT 38 (by decide) : (Is undef) (vs 38) (ρ 38))
              obtain ⟨hv39, hr39⟩ := (hT 39 (by decide) : (Is undef) (vs 39) (ρ 39))
              obtain ⟨hv40, hr40⟩ := (hT 40 (by decide) : (Is undef) (vs 40) (ρ 40))
              obtain ⟨hv41, hr41⟩ := (hT 41 (by decide) : (Is undef) (vs 41) (ρ 41))
              obtain ⟨hv42, hr42⟩ := (hT 42 (by decide) : (Is (.bool false)) (vs 42) (ρ 42))
              obtain ⟨hv43, hr43⟩ := (hT 43 (by decide) : (Is (.bool false)) (vs 43) (ρ 43))
              simp only [pool, if_true, hr0, hr1, hr2, hr3, hr4, hr5, hr6, hr7, hr8, hr9, hr10, hr11, hr12, hr13, hr14, hr15, hr16, hr17, hr18, hr19, hr20, hr21, hr22, hr23, hr24, hr25, hr26, hr27, hr28, hr29, hr30, hr31, hr32, hr33, hr34, hr35, hr36, hr37, hr38, hr39, hr40, hr41, hr42, hr43, List.nil_append, List.cons_append, List.append_nil] at hS
              simp only [layf, hv0, hv1, hv2, hv3, hv4, hv5, hv6, hv7, hv8, hv9, hv10, hv11, hv12, hv13, hv14, hv15, hv16, hv17, hv18, hv19, hv20, hv21, hv22, hv23, hv24, hv25, hv26, hv27, hv28, hv29, hv30, hv31, hv32, hv33, hv34, hv35, hv36, hv37, hv38, hv39, hv40, hv41, hv42, hv43] at hf
              subst hf; clear hT hv0 hv1 hv2 hv3 hv4 hv5 hv6 hv7 hv8 hv9 hv10 hv11 hv12 hv13 hv14 hv15 hv16 hv17 hv18 hv19 hv20 hv21 hv22 hv23 hv24 hv25 hv26 hv27 hv28 hv29 hv30 hv31 hv32 hv33 hv34 hv35 hv36 hv37 hv38 hv39 hv40 hv41 hv42 hv43 hr0 hr1 hr2 hr3 hr4 hr5 hr6 hr7 hr8 hr9 hr10 hr11 hr12 hr13 hr14 hr15 hr16 hr17 hr18 hr19 hr20 hr21 hr22 hr23 hr24 hr25 hr26 hr27 hr28 hr29 hr30 hr31 hr32 hr33 hr34 hr35 hr36 hr37 hr38 hr39 hr40 hr41 hr42 hr43
              refine wdone rfl ?_
              refine thenN ?_
              refine wF (ev (v := .bool false) rfl rfl) ?_
              refine wskip ?_
              refine thenN ?_
              refine wseq ?_
              refine wseq ?_
              refine wreg ?_
              refine wl rfl (omove (v := .bool false) rfl rfl (ev (v := .bool false) rfl rfl) ?_)
              refine wl rfl (onot (b := false) rfl rfl (ev (v := .bool false) rfl rfl) ?_)
              refine wnil ?_
              refine thenN ?_
              refine wT (ev (v := .bool true) rfl rfl) ?_
              refine wseq ?_
              refine wreg ?_
              refine wl rfl (omove (v := .int .i64 0) rfl rfl (ev (v := .int .i64 0) rfl rfl) ?_)
              refine wl rfl (obin (u := .int .i64 0) (v := .int .i64 0) (z := .bool true) rfl rfl (ev (v := .int .i64 0) rfl rfl) (evc (v := .int .i64 0)) (bin_eql (by decide)) ?_)
              refine wl rfl (omove (v := .bool true) rfl rfl (ev (v := .bool true) rfl rfl) ?_)
              refine wlOn (e := 134) rfl rfl rfl rfl (omove (v := .int .i64 6) rfl rfl (ev (v := .int .i64 6) rfl rfl) ?_)
              refine wlOn (e := 134) rfl rfl rfl rfl (obin (u := .int .i64 6) (v := .int .i64 6) (z := .bool true) rfl rfl (ev (v := .int .i64 6) rfl rfl) (evc (v := .int .i64 6)) (bin_eql (by decide)) ?_)
              refine wl rfl (opick (b := true) (v := .bool true) rfl rfl (ev (v := .bool true) rfl rfl) (ev (v := .bool true) rfl rfl) ?_)
              refine wl rfl (omove (v := .bool true) rfl rfl (ev (v := .bool true) rfl rfl) ?_)
              refine wlOn (e := 138) rfl rfl rfl rfl (ocall rfl rfl Try.call15 rfl (wllives5) (args0 ) ?_)
              rintro _ w27 ⟨_, _, rfl, ⟨rfl, rfl⟩, hN⟩
              refine ⟨_, rfl, ?_⟩
              replace hS := hS.news hN; clear hN
              refine wl rfl (opick (b := true) (v := .bool true) rfl rfl (ev (v := .bool true) rfl rfl) (ev (v := .bool true) rfl rfl) ?_)
              refine wl rfl (oassign (v := .bool true) rfl rfl (ev (v := .bool true) rfl rfl) ?_)
              refine wnil ?_
              refine thenN ?_
              refine wleave ?_
              refine thenR ?_
              refine wret1 Try.results7 (tellT (v := .bool true) rfl rfl) ?_
              exact ⟨_, _, rfl, isI, hS.new0⟩
  ·
    by_cases hv : v = 0
    ·
      have hk1 : Wd 1 2 := Wd.i64 (by omega) (by omega)
      have hk2 : Wd 1 2 := Wd.i64 (by omega) (by omega)
      refine wstage 6 [21, 22, 23, 24, 7, 8] [[], [0], [], [2, 0, 1], [], []] [[], [], [], [], [], []] [] [] (fun i9 => ([fun _ => Is (.agg #[.bool bA, .slice qA nA kA, .bool bB, .slice qB nB kB]), fun _ => Is (.agg #[.bool bA, .slice qA nA kA, .bool bB, .slice qB nB kB]), fun _ => Is (.agg #[.bool bC, .slice qC nC kC, .bool bD, .slice qD nD kD]), fun _ => Rrt 1 1, fun _ => Ptr [.bool false, .slice none 0 0, .bool false, .slice none 0 0] 27, fun _ => Ptr [.bool false, .slice none 0 0, .bool false, .slice none 0 0] 27] : List (List Value → Tell)).getD i9 (fun _ _ _ => False)) (heldNil) (fun d _ _ _ _ h => (by cases d <;> exact h)) (by kernel_rfl) (by kernel_rfl) (by kernel_rfl) hS ?_ ?_
      ·
        refine stepsCons rfl ?_ ?_
        · intro Q f' w' ρ S ho hT hS hB
          exact .inl ⟨want_none rfl, oload (vs := [.bool bA, .slice qA nA kA, .bool bB, .slice qB nB kB]) aggR hS 1 rfl rfl (ev rfl (ho 3 rfl)) rfl rfl rfl ⟨_, _, rfl, isI, New.same _⟩⟩
        refine stepsCons rfl ?_ ?_
        · intro Q f' w' ρ S ho hT hS hB
          obtain ⟨hv0, hr0⟩ := (hT 0 21 rfl rfl : (Is (.agg #[.bool bA, .slice qA nA kA, .bool bB, .slice qB nB kB])) (f' 21) (ρ 0))
          obtain hS := hS.flat1 hr0
          refine .inl ⟨want_none rfl, ocall rfl rfl Try.call27 rfl (wlsome ((hzB.at hS).mono (by omega)) (hy)) (args1 (ev rfl hv0)) ?_⟩
          rintro _ w9 ⟨_, _, rfl, hTT, hN⟩
          exact ⟨_, rfl, _, _, rfl, hTT, hN⟩
        refine stepsCons rfl ?_ ?_
        · intro Q f' w' ρ S ho hT hS hB
          exact .inl ⟨want_none rfl, oload (vs := [.bool bC, .slice qC nC kC, .bool bD, .slice qD nD kD]) aggR hS 0 rfl rfl (ev rfl (ho 4 rfl)) rfl rfl rfl ⟨_, _, rfl, isI, New.same _⟩⟩
        refine stepsCons rfl ?_ ?_
        · intro Q f' w' ρ S ho hT hS hB
          obtain ⟨hv2, hr2⟩ := (hT 2 23 rfl rfl : (Is (.agg #[.bool bC, .slice qC nC kC, .bool bD, .slice qD nD kD])) (f' 23) (ρ 2))
          obtain hS := hS.flat1 hr2
          refine .inl ⟨want_none rfl, ocall rfl rfl Try.call27 rfl (wlsome0 ((hzD.at hS).mono (by omega)) (hv)) (args1 (ev rfl hv2)) ?_⟩
          rintro _ w9 ⟨_, _, rfl, hTT, hN⟩
          exact ⟨_, rfl, _, _, rfl, hTT, hN⟩
        refine stepsCons rfl ?_ ?_
        · intro Q f' w' ρ S ho hT hS hB
          exact .inl ⟨want_none rfl, oallocN [.bool false, .slice none 0 0, .bool false, .slice none 0 0] rfl rfl Try.zeroValue27 rfl ⟨_, _, rfl, ptrI, New.blk _ _ _⟩⟩
        refine stepsCons rfl ?_ ?_
        · intro Q f' w' ρ S ho hT hS hB
          exact .inl ⟨want_none rfl, oallocN [.bool false, .slice none 0 0, .bool false, .slice none 0 0] rfl rfl Try.zeroValue27 rfl ⟨_, _, rfl, ptrI, New.blk _ _ _⟩⟩
        exact stepsNil
      ·
        intro vs ρ w7 f' hf hT hS
        obtain ⟨hv0, hr0⟩ := (hT 0 (by decide) : (Is (.agg #[.bool bA, .slice qA nA kA, .bool bB, .slice qB nB kB])) (vs 0) (ρ 0))
        obtain ⟨hv1, hr1⟩ := (hT 1 (by decide) : (Is (.agg #[.bool bA, .slice qA nA kA, .bool bB, .slice qB nB kB])) (vs 1) (ρ 1))
        obtain ⟨hv2, hr2⟩ := (hT 2 (by decide) : (Is (.agg #[.bool bC, .slice qC nC kC, .bool bD, .slice qD nD kD])) (vs 2) (ρ 2))
        obtain ⟨p1, n1, c1, p2, n2, c2, hv3, hr3⟩ := (hT 3 (by decide) : (Rrt 1 1) (vs 3) (ρ 3))
        obtain ⟨g5, hv4, hr4⟩ := (hT 4 (by decide) : (Ptr [.bool false, .slice none 0 0, .bool false, .slice none 0 0] 27) (vs 4) (ρ 4))
        obtain ⟨g6, hv5, hr5⟩ := (hT 5 (by decide) : (Ptr [.bool false, .slice none 0 0, .bool false, .slice none 0 0] 27) (vs 5) (ρ 5))
        simp only [pool, if_true, hr0, hr1, hr2, hr3, hr4, hr5, List.nil_append, List.cons_append, List.append_nil] at hS
        simp only [layf, hv0, hv1, hv2, hv3, hv4, hv5] at hf
        subst hf; clear hT hv0 hv1 hv2 hv3 hv4 hv5 hr0 hr1 hr2 hr3 hr4 hr5
        refine wlate 6 rfl (by kernel_rfl) (ostore [.bool bA, .slice qA nA kA, .bool bB, .slice qB nB kB] [.bool bA, .slice qA nA kA, .bool bB, .slice qB nB kB] Try.sizeOf27 hS 1 rfl rfl (ev rfl rfl) (ev (v := .agg #[.bool bA, .slice qA nA kA, .bool bB, .slice qB nB kB]) rfl rfl) rfl rfl rfl rfl rfl rfl ?_)
        clear hS; intro w8 hS
        refine ⟨heldNil, ?_⟩
        refine wlate 7 rfl (by kernel_rfl) (ostore [.bool (ng 1), .slice p1 n1 c1, .bool (ng 1), .slice p2 n2 c2] [.bool (ng 1), .slice p1 n1 c1, .bool (ng 1), .slice p2 n2 c2] Try.sizeOf27 hS 0 rfl rfl (ev rfl rfl) (ev (v := .agg #[.bool (ng 1), .slice p1 n1 c1, .bool (ng 1), .slice p2 n2 c2]) rfl rfl) rfl rfl rfl rfl rfl rfl ?_)
        clear hS; intro w9 hS
        refine ⟨heldNil, ?_⟩
        refine wdone rfl ?_
        refine thenN ?_
        refine wseq ?_
        refine wreg ?_
        refine wl rfl (ofieldAddr (g := g1) (off := 0) 0 rfl rfl (ev (v := .pointer (some ⟨g1, 0, none⟩)) rfl rfl) Try.runUnderlying27 rfl Try.sizeOf25 rfl ?_)
        refine wl rfl (oload (vs := [.bool bA, .slice qA nA kA]) aggZ hS 5 rfl rfl (ev rfl rfl) rfl rfl rfl ?_)
        refine wl rfl (ofieldAddr (g := g1) (off := 0) 2 rfl rfl (ev (v := .pointer (some ⟨g1, 0, none⟩)) rfl rfl) Try.runUnderlying27 rfl Try.sizeOf25 rfl ?_)
        refine wl rfl (oload (vs := [.bool bB, .slice qB nB kB]) aggZ hS 5 rfl rfl (ev rfl rfl) rfl rfl rfl ?_)
        obtain ⟨z3, hz3⟩ : ∃ z : Int, Hid (RN x y = z) := ⟨_, rfl⟩
        have hk3 : Wd z3 1048576 := Wd.rn hzA.wd hz3
        obtain ⟨z4, hz4⟩ : ∃ z : Int, Hid (RD x y = z) := ⟨_, rfl⟩
        have hk4 : Wd z4 1048576 := Wd.rd hzB.wd hz4
        refine wl rfl (ocall rfl rfl Try.call42 rfl (wrmake ((hzA.at hS).mono (by omega)) ((hzB.at hS).mono (by omega)) (hy) hz3 hz4) (args2 (ev rfl rfl) (ev rfl rfl)) ?_)
        rintro _ w10 ⟨_, _, rfl, ⟨p3, n3, c3, p4, n4, c4, rfl, rfl⟩, hN⟩
        refine ⟨_, rfl, ?_⟩
        replace hS := hS.news hN; clear hN
        refine wl rfl (omove (v := .tuple #[.agg #[.bool (ng z3), .slice p3 n3 c3, .bool (ng z4), .slice p4 n4 c4], .int .i64 0]) rfl rfl (ev (v := .tuple #[.agg #[.bool (ng z3), .slice p3 n3 c3, .bool (ng z4), .slice p4 n4 c4], .int .i64 0]) rfl rfl) ?_)
        refine wl rfl (oextract (vs := [.agg #[.bool (ng z3), .slice p3 n3 c3, .bool (ng z4), .slice p4 n4 c4], .int .i64 0]) (v := .agg #[.bool (ng z3), .slice p3 n3 c3, .bool (ng z4), .slice p4 n4 c4]) rfl rfl (ev (v := .tuple #[.agg #[.bool (ng z3), .slice p3 n3 c3, .bool (ng z4), .slice p4 n4 c4], .int .i64 0]) rfl rfl) rfl ?_)
        refine wl rfl (oextract (vs := [.agg #[.bool (ng z3), .slice p3 n3 c3, .bool (ng z4), .slice p4 n4 c4], .int .i64 0]) (v := .int .i64 0) rfl rfl (ev (v := .tuple #[.agg #[.bool (ng z3), .slice p3 n3 c3, .bool (ng z4), .slice p4 n4 c4], .int .i64 0]) rfl rfl) rfl ?_)
        refine wl rfl (oalloc [.bool false, .slice none 0 0, .bool false, .slice none 0 0] hS rfl rfl Try.zeroValue27 rfl ?_)
        clear hS; intro g11 w12 hS
        refine wl rfl (ostore [.bool (ng z3), .slice p3 n3 c3, .bool (ng z4), .slice p4 n4 c4] [.bool (ng z3), .slice p3 n3 c3, .bool (ng z4), .slice p4 n4 c4] Try.sizeOf27 hS 0 rfl rfl (ev rfl rfl) (ev (v := .agg #[.bool (ng z3), .slice p3 n3 c3, .bool (ng z4), .slice p4 n4 c4]) rfl rfl) rfl rfl rfl rfl rfl rfl ?_)
        clear hS; intro w13 hS
        refine wl rfl (oassign (v := .int .i64 0) rfl rfl (ev (v := .int .i64 0) rfl rfl) ?_)
        refine wnil ?_
        refine thenN ?_
        refine wseq ?_
        refine wreg ?_
        refine wl rfl (oload (vs := [.bool bA, .slice qA nA kA, .bool bB, .slice qB nB kB]) aggR hS 8 rfl rfl (ev rfl rfl) rfl rfl rfl ?_)
        obtain ⟨z5, hz5⟩ : ∃ z : Int, Hid (RN x y = z) := ⟨_, rfl⟩
        have hk5 : Wd z5 1048576 := Wd.rn hzA.wd hz5
        obtain ⟨z6, hz6⟩ : ∃ z : Int, Hid (RD x y = z) := ⟨_, rfl⟩
        have hk6 : Wd z6 1048576 := Wd.rd hzB.wd hz6
        refine wl rfl (ocall rfl rfl Try.call43 rfl ((wrnorm ((hzA.at hS).mono (by omega)) ((hzB.at hS).mono (by omega)) (hy) hz5 hz6)) (args1 (ev rfl rfl)) ?_)
        rintro _ w14 ⟨_, _, rfl, ⟨p5, n5, c5, p6, n6, c6, rfl, rfl⟩, hN⟩
        refine ⟨_, rfl, ?_⟩
        replace hS := hS.news hN; clear hN
        refine wl rfl (omove (v := .tuple #[.agg #[.bool (ng z5), .slice p5 n5 c5, .bool (ng z6), .slice p6 n6 c6], .int .i64 0]) rfl rfl (ev (v := .tuple #[.agg #[.bool (ng z5), .slice p5 n5 c5, .bool (ng z6), .slice p6 n6 c6], .int .i64 0]) rfl rfl) ?_)
        refine wl rfl (oextract (vs := [.agg #[.bool (ng z5), .slice p5 n5 c5, .bool (ng z6), .slice p6 n6 c6], .int .i64 0]) (v := .agg #[.bool (ng z5), .slice p5 n5 c5, .bool (ng z6), .slice p6 n6 c6]) rfl rfl (ev (v := .tuple #[.agg #[.bool (ng z5), .slice p5 n5 c5, .bool (ng z6), .slice p6 n6 c6], .int .i64 0]) rfl rfl) rfl ?_)
        refine wl rfl (oextract (vs := [.agg #[.bool (ng z5), .slice p5 n5 c5, .bool (ng z6), .slice p6 n6 c6], .int .i64 0]) (v := .int .i64 0) rfl rfl (ev (v := .tuple #[.agg #[.bool (ng z5), .slice p5 n5 c5, .bool (ng z6), .slice p6 n6 c6], .int .i64 0]) rfl rfl) rfl ?_)
        refine wl rfl (oalloc [.bool false, .slice none 0 0, .bool false, .slice none 0 0] hS rfl rfl Try.zeroValue27 rfl ?_)
        clear hS; intro g15 w16 hS
        refine wl rfl (ostore [.bool (ng z5), .slice p5 n5 c5, .bool (ng z6), .slice p6 n6 c6] [.bool (ng z5), .slice p5 n5 c5, .bool (ng z6), .slice p6 n6 c6] Try.sizeOf27 hS 0 rfl rfl (ev rfl rfl) (ev (v := .agg #[.bool (ng z5), .slice p5 n5 c5, .bool (ng z6), .slice p6 n6 c6]) rfl rfl) rfl rfl rfl rfl rfl rfl ?_)
        clear hS; intro w17 hS
        refine wl rfl (oassign (v := .int .i64 0) rfl rfl (ev (v := .int .i64 0) rfl rfl) ?_)
        refine wnil ?_
        refine thenN ?_
        refine wseq ?_
        refine wreg ?_
        refine wl rfl (oload (vs := [.bool bA, .slice qA nA kA, .bool bB, .slice qB nB kB]) aggR hS 11 rfl rfl (ev rfl rfl) rfl rfl rfl ?_)
        obtain ⟨s7, hs7⟩ : ∃ z : Int, Hid ((x : Int).sign * (y : Int).sign = z) := ⟨_, rfl⟩
        refine wl rfl (ocall rfl rfl Try.call44 rfl (wrsign ((hzA.at hS).mono (by omega)) ((hzB.at hS).mono (by omega)) (hy) hs7) (args1 (ev rfl rfl)) ?_)
        rintro _ w18 ⟨_, _, rfl, ⟨rfl, rfl⟩, hN⟩
        refine ⟨_, rfl, ?_⟩
        replace hS := hS.news hN; clear hN
        refine wl rfl (omove (v := .tuple #[.int .i64 s7, .int .i64 0]) rfl rfl (ev (v := .tuple #[.int .i64 s7, .int .i64 0]) rfl rfl) ?_)
        refine wl rfl (oextract (vs := [.int .i64 s7, .int .i64 0]) (v := .int .i64 s7) rfl rfl (ev (v := .tuple #[.int .i64 s7, .int .i64 0]) rfl rfl) rfl ?_)
        refine wl rfl (oextract (vs := [.int .i64 s7, .int .i64 0]) (v := .int .i64 0) rfl rfl (ev (v := .tuple #[.int .i64 s7, .int .i64 0]) rfl rfl) rfl ?_)
        refine wl rfl (oassign (v := .int .i64 s7) rfl rfl (ev (v := .int .i64 s7) rfl rfl) ?_)
        refine wl rfl (oassign (v := .int .i64 0) rfl rfl (ev (v := .int .i64 0) rfl rfl) ?_)
        refine wnil ?_
        refine thenN ?_
        refine wseq ?_
        refine wreg ?_
        refine wl rfl (oload (vs := [.bool bA, .slice qA nA kA, .bool bB, .slice qB nB kB]) aggR hS 11 rfl rfl (ev rfl rfl) rfl rfl rfl ?_)
        refine wl rfl (oload (vs := [.bool bC, .slice qC nC kC, .bool bD, .slice qD nD kD]) aggR hS 10 rfl rfl (ev rfl rfl) rfl rfl rfl ?_)
        refine wl rfl (ocall rfl rfl Try.call45 rfl (wrcmp0 ((hzA.at hS).mono (by omega)) ((hzB.at hS).mono (by omega)) ((hzC.at hS).mono (by omega)) ((hzD.at hS).mono (by omega)) (.inr hv)) (args2 (ev rfl rfl) (ev rfl rfl)) ?_)
        rintro _ w19 ⟨_, _, rfl, ⟨rfl, rfl⟩, hN⟩
        refine ⟨_, rfl, ?_⟩
        replace hS := hS.news hN; clear hN
        refine wl rfl (omove (v := .tuple #[.int .i64 0, .int .i64 6]) rfl rfl (ev (v := .tuple #[.int .i64 0, .int .i64 6]) rfl rfl) ?_)
        refine wl rfl (oextract (vs := [.int .i64 0, .int .i64 6]) (v := .int .i64 0) rfl rfl (ev (v := .tuple #[.int .i64 0, .int .i64 6]) rfl rfl) rfl ?_)
        refine wl rfl (oextract (vs := [.int .i64 0, .int .i64 6]) (v := .int .i64 6) rfl rfl (ev (v := .tuple #[.int .i64 0, .int .i64 6]) rfl rfl) rfl ?_)
        refine wl rfl (oassign (v := .int .i64 0) rfl rfl (ev (v := .int .i64 0) rfl rfl) ?_)
        refine wl rfl (oassign (v := .int .i64 6) rfl rfl (ev (v := .int .i64 6) rfl rfl) ?_)
        refine wnil ?_
        refine thenN ?_
        refine wseq ?_
        refine wreg ?_
        refine wl rfl (oload (vs := [.bool bA, .slice qA nA kA, .bool bB, .slice qB nB kB]) aggR hS 11 rfl rfl (ev rfl rfl) rfl rfl rfl ?_)
        obtain ⟨z8, hz8⟩ : ∃ z : Int, Hid (RN x y / RD x y = z) := ⟨_, rfl⟩
        have hk8 : Wd z8 1048576 := Wd.ediv (Wd.rn hzA.wd rfl) hz8
        refine wl rfl (ocall rfl rfl Try.call46 rfl (wrfloor ((hzA.at hS).mono (by omega)) ((hzB.at hS).mono (by omega)) (hy) hz8) (args1 (ev rfl rfl)) ?_)
        rintro _ w20 ⟨_, _, rfl, ⟨p8, n8, c8, rfl, rfl⟩, hN⟩
        refine ⟨_, rfl, ?_⟩
        replace hS := hS.news hN; clear hN
        refine wl rfl (omove (v := .tuple #[.agg #[.bool (ng z8), .slice p8 n8 c8], .int .i64 0]) rfl rfl (ev (v := .tuple #[.agg #[.bool (ng z8), .slice p8 n8 c8], .int .i64 0]) rfl rfl) ?_)
        refine wl rfl (oextract (vs := [.agg #[.bool (ng z8), .slice p8 n8 c8], .int .i64 0]) (v := .agg #[.bool (ng z8), .slice p8 n8 c8]) rfl rfl (ev (v := .tuple #[.agg #[.bool (ng z8), .slice p8 n8 c8], .int .i64 0]) rfl rfl) rfl ?_)
        refine wl rfl (oextract (vs := [.agg #[.bool (ng z8), .slice p8 n8 c8], .int .i64 0]) (v := .int .i64 0) rfl rfl (ev (v := .tuple #[.agg #[.bool (ng z8), .slice p8 n8 c8], .int .i64 0]) rfl rfl) rfl ?_)
        refine wl rfl (oalloc [.bool false, .slice none 0 0] hS rfl rfl Try.zeroValue25 rfl ?_)
        clear hS; intro g21 w22 hS
        refine wl rfl (ostore [.bool (ng z8), .slice p8 n8 c8] [.bool (ng z8), .slice p8 n8 c8] Try.sizeOf25 hS 0 rfl rfl (ev rfl rfl) (ev (v := .agg #[.bool (ng z8), .slice p8 n8 c8]) rfl rfl) rfl rfl rfl rfl rfl rfl ?_)
        clear hS; intro w23 hS
        refine wl rfl (oassign (v := .int .i64 0) rfl rfl (ev (v := .int .i64 0) rfl rfl) ?_)
        refine wnil ?_
        refine thenN ?_
        refine wseq ?_
        refine wstage 10 [54, 55, 56, 57, 58, 59, 60, 61, 19, 20] [[], [0], [], [2, 0, 1], [3, 0, 1, 2], [4, 0, 1, 2, 3], [4, 5, 0, 1, 2, 3], [4, 6, 0, 1, 2, 3, 5], [1, 0, 2, 3, 4, 5, 6], [7, 0, 1, 2, 3, 4, 5, 6, 8]] [[], [], [], [], [], [], [], [], [], []] [] [] (fun i9 => ([fun _ => Is (.agg #[.bool bA, .slice qA nA kA, .bool bB, .slice qB nB kB]), fun _ => Is (.bool true), fun _ => Is (.agg #[.bool bA, .slice qA nA kA, .bool bB, .slice qB nB kB]), fun _ => Is (.bool true), fun _ => Is (.bool true), fun _ => Is (.agg #[.bool bC, .slice qC nC kC, .bool bD, .slice qD nD kD]), fun _ => Is (.bool false), fun _ => Is (.bool false), fun _ => Is (.bool true), fun _ => Is (.bool false)] : List (List Value → Tell)).getD i9 (fun _ _ _ => False)) (heldNil) (fun d _ _ _ _ h => (by cases d <;> exact h)) (by kernel_rfl) (by kernel_rfl) (by kernel_rfl) hS ?_ ?_
        ·
          refine stepsCons rfl ?_ ?_
          · intro Q f' w' ρ S ho hT hS hB
            exact .inl ⟨want_none rfl, oload (vs := [.bool bA, .slice qA nA kA, .bool bB, .slice qB nB kB]) aggR hS 13 rfl rfl (ev rfl (ho 3 rfl)) rfl rfl rfl ⟨_, _, rfl, isI, New.same _⟩⟩
          refine stepsCons rfl ?_ ?_
          · intro Q f' w' ρ S ho hT hS hB
            obtain ⟨hv0, hr0⟩ := (hT 0 54 rfl rfl : (Is (.agg #[.bool bA, .slice qA nA kA, .bool bB, .slice qB nB kB])) (f' 54) (ρ 0))
            obtain hS := hS.flat1 hr0
            refine .inl ⟨want_none rfl, ocall rfl rfl Try.call11 rfl (wsmay ((hzB.at hS).mono (by omega)) (hy)) (args1 (ev rfl hv0)) ?_⟩
            rintro _ w9 ⟨_, _, rfl, hTT, hN⟩
            exact ⟨_, rfl, _, _, rfl, hTT, hN⟩
          refine stepsCons rfl ?_ ?_
          · intro Q f' w' ρ S ho hT hS hB
            exact .inl ⟨want_none rfl, oload (vs := [.bool bA, .slice qA nA kA, .bool bB, .slice qB nB kB]) aggR hS 13 rfl rfl (ev rfl (ho 3 rfl)) rfl rfl rfl ⟨_, _, rfl, isI, New.same _⟩⟩
          refine stepsCons rfl ?_ ?_
          · intro Q f' w' ρ S ho hT hS hB
            obtain ⟨hv2, hr2⟩ := (hT 2 56 rfl rfl : (Is (.agg #[.bool bA, .slice qA nA kA, .bool bB, .slice qB nB kB])) (f' 56) (ρ 2))
            obtain hS := hS.flat1 hr2
            refine .inl ⟨want_none rfl, ocall rfl rfl Try.call11 rfl (wsmay ((hzB.at hS).mono (by omega)) (hy)) (args1 (ev rfl hv2)) ?_⟩
            rintro _ w9 ⟨_, _, rfl, hTT, hN⟩
            exact ⟨_, rfl, _, _, rfl, hTT, hN⟩
          refine stepsCons rfl ?_ ?_
          · intro Q f' w' ρ S ho hT hS hB
            obtain ⟨hv3, hr3⟩ := (hT 3 57 rfl rfl : (Is (.bool true)) (f' 57) (ρ 3))
            obtain hS := hS.flat1 hr3
            exact .inl ⟨want_none rfl, omove (v := .bool true) rfl rfl (ev (v := .bool true) rfl hv3) ⟨_, _, rfl, isI, New.same _⟩⟩
          refine stepsCons rfl ?_ ?_
          · intro Q f' w' ρ S ho hT hS hB
            obtain ⟨hv4, hr4⟩ := (hT 4 58 rfl rfl : (Is (.bool true)) (f' 58) (ρ 4))
            obtain hS := hS.flat1 hr4
            exact .inl ⟨want_on (e := 58) rfl rfl rfl hv4, oload (vs := [.bool bC, .slice qC nC kC, .bool bD, .slice qD nD kD]) aggR hS 12 rfl rfl (ev rfl (ho 4 rfl)) rfl rfl rfl ⟨_, _, rfl, isI, New.same _⟩⟩
          refine stepsCons rfl ?_ ?_
          · intro Q f' w' ρ S ho hT hS hB
            obtain ⟨hv4, hr4⟩ := (hT 4 58 rfl rfl : (Is (.bool true)) (f' 58) (ρ 4))
            obtain ⟨hv5, hr5⟩ := (hT 5 59 rfl rfl : (Is (.agg #[.bool bC, .slice qC nC kC, .bool bD, .slice qD nD kD])) (f' 59) (ρ 5))
            obtain hS := hS.flat2 hr4 hr5
            refine .inl ⟨want_on (e := 58) rfl rfl rfl hv4, ocall rfl rfl Try.call11 rfl (wsmay0 ((hzD.at hS).mono (by omega)) (hv)) (args1 (ev rfl hv5)) ?_⟩
            rintro _ w9 ⟨_, _, rfl, hTT, hN⟩
            exact ⟨_, rfl, _, _, rfl, hTT, hN⟩
          refine stepsCons rfl ?_ ?_
          · intro Q f' w' ρ S ho hT hS hB
            obtain ⟨hv4, hr4⟩ := (hT 4 58 rfl rfl : (Is (.bool true)) (f' 58) (ρ 4))
            obtain ⟨hv6, hr6⟩ := (hT 6 60 rfl rfl : (Is (.bool false)) (f' 60) (ρ 6))
            obtain hS := hS.flat2 hr4 hr6
            exact .inl ⟨want_none rfl, opick (b := true) (v := .bool false) rfl rfl (ev (v := .bool true) rfl hv4) (ev (v := .bool false) rfl hv6) ⟨_, _, rfl, isI, New.same _⟩⟩
          refine stepsCons rfl ?_ ?_
          · intro Q f' w' ρ S ho hT hS hB
            obtain ⟨hv1, hr1⟩ := (hT 1 55 rfl rfl : (Is (.bool true)) (f' 55) (ρ 1))
            obtain hS := hS.flat1 hr1
            exact .inl ⟨want_none rfl, oassign (v := .bool true) rfl rfl (ev (v := .bool true) rfl hv1) ⟨_, _, rfl, isI, New.same _⟩⟩
          refine stepsCons rfl ?_ ?_
          · intro Q f' w' ρ S ho hT hS hB
            obtain ⟨hv7, hr7⟩ := (hT 7 61 rfl rfl : (Is (.bool false)) (f' 61) (ρ 7))
            obtain hS := hS.flat1 hr7
            exact .inl ⟨want_none rfl, oassign (v := .bool false) rfl rfl (ev (v := .bool false) rfl hv7) ⟨_, _, rfl, isI, New.same _⟩⟩
          exact stepsNil
        ·
          intro vs ρ w24 f' hf hT hS
          obtain ⟨hv0, hr0⟩ := (hT 0 (by decide) : (Is (.agg #[.bool bA, .slice qA nA kA, .bool bB, .slice qB nB kB])) (vs 0) (ρ 0))
          obtain ⟨hv1, hr1⟩ := (hT 1 (by decide) : (Is (.bool true)) (vs 1) (ρ 1))
          obtain ⟨hv2, hr2⟩ := (hT 2 (by decide) : (Is (.agg #[.bool bA, .slice qA nA kA, .bool bB, .slice qB nB kB])) (vs 2) (ρ 2))
          obtain ⟨hv3, hr3⟩ := (hT 3 (by decide) : (Is (.bool true)) (vs 3) (ρ 3))
          obtain ⟨hv4, hr4⟩ := (hT 4 (by decide) : (Is (.bool true)) (vs 4) (ρ 4))
          obtain ⟨hv5, hr5⟩ := (hT 5 (by decide) : (Is (.agg #[.bool bC, .slice qC nC kC, .bool bD, .slice qD nD kD])) (vs 5) (ρ 5))
          obtain ⟨hv6, hr6⟩ := (hT 6 (by decide) : (Is (.bool false)) (vs 6) (ρ 6))
          obtain ⟨hv7, hr7⟩ := (hT 7 (by decide) : (Is (.bool false)) (vs 7) (ρ 7))
          obtain ⟨hv8, hr8⟩ := (hT 8 (by decide) : (Is (.bool true)) (vs 8) (ρ 8))
          obtain ⟨hv9, hr9⟩ := (hT 9 (by decide) : (Is (.bool false)) (vs 9) (ρ 9))
          simp only [pool, if_true, hr0, hr1, hr2, hr3, hr4, hr5, hr6, hr7, hr8, hr9, List.nil_append, List.cons_append, List.append_nil] at hS
          simp only [layf, hv0, hv1, hv2, hv3, hv4, hv5, hv6, hv7, hv8, hv9] at hf
          subst hf; clear hT hv0 hv1 hv2 hv3 hv4 hv5 hv6 hv7 hv8 hv9 hr0 hr1 hr2 hr3 hr4 hr5 hr6 hr7 hr8 hr9
          refine wdone rfl ?_
          refine thenN ?_
          refine wseq ?_
          refine wseq ?_
          obtain ⟨z9, hz9⟩ : ∃ z : Int, Hid (RN x y = z) := ⟨_, rfl⟩
          have hk9 : Wd z9 1048576 := Wd.rn hzA.wd hz9
          obtain ⟨z10, hz10⟩ : ∃ z : Int, Hid (RD x y = z) := ⟨_, rfl⟩
          have hk10 : Wd z10 1048576 := Wd.rd hzB.wd hz10
          obtain ⟨z11, hz11⟩ : ∃ z : Int, Hid (RN x y = z) := ⟨_, rfl⟩
          have hk11 : Wd z11 1048576 := Wd.rn hzA.wd hz11
          obtain ⟨z12, hz12⟩ : ∃ z : Int, Hid (RD x y = z) := ⟨_, rfl⟩
          have hk12 : Wd z12 1048576 := Wd.rd hzB.wd hz12
          have hk13 : Wd nn 2 := Wd.i64 (h1) (h2)
          have hk14 : Wd 1 2 := Wd.i64 (by omega) (by omega)
          have hk15 : Wd nn 2 := Wd.i64 (h1) (h2)
          have hk16 : Wd 1 2 := Wd.i64 (by omega) (by omega)
          refine wstage 24 [62, 63, 64, 65, 66, 67, 68, 69, 70, 71, 72, 73, 74, 75, 76, 77, 78, 79, 80, 81, 82, 83, 84, 85] [[], [], [], [], [3], [0, 1, 2, 4, 3], [5, 0, 1, 2, 3, 4], [6, 0, 1, 2, 3, 4, 5], [7, 0, 1, 2, 3, 4, 5, 6], [7, 0, 1, 2, 3, 4, 5, 6], [7, 0, 1, 2, 3, 4, 5, 6], [7, 0, 1, 2, 3, 4, 5, 6], [7, 11, 0, 1, 2, 3, 4, 5, 6], [7, 8, 9, 10, 12, 0, 1, 2, 3, 4, 5, 6, 11], [7, 13, 0, 1, 2, 3, 4, 5, 6, 8, 9, 10, 11, 12], [7, 14, 0, 1, 2, 3, 4, 5, 6, 8, 9, 10, 11, 12, 13], [15, 0, 1, 2, 3, 4, 5, 6, 7, 8, 9, 10, 11, 12, 13, 14], [16, 0, 1, 2, 3, 4, 5, 6, 7, 8, 9, 10, 11, 12, 13, 14, 15], [16, 17, 0, 1, 2, 3, 4, 5, 6, 7, 8, 9, 10, 11, 12, 13, 14, 15], [16, 0, 1, 2, 3, 4, 5, 6, 7, 8, 9, 10, 11, 12, 13, 14, 15], [16, 19, 0, 1, 2, 3, 4, 5, 6, 7, 8, 9, 10, 11, 12, 13, 14, 15, 17, 18], [16, 18, 20, 0, 1, 2, 3, 4, 5, 6, 7, 8, 9, 10, 11, 12, 13, 14, 15, 17, 19], [16, 21, 0, 1, 2, 3, 4, 5, 6, 7, 8, 9, 10, 11, 12, 13, 14, 15, 17, 18, 19, 20], [16, 22, 0, 1, 2, 3, 4, 5, 6, 7, 8, 9, 10, 11, 12, 13, 14, 15, 17, 18, 19, 20, 21]] [[], [], [], [], [], [], [], [], [], [], [], [], [], [], [], [], [], [], [], [], [], [], [], []] [] [] (fun i9 => ([fun _ => Is (.bool true), fun _ => Is (.agg #[.bool (ng z3), .slice p3 n3 c3, .bool (ng z4), .slice p4 n4 c4]), fun _ => Is (.int .i64 0), fun _ => Is (.agg #[.bool bA, .slice qA nA kA, .bool bB, .slice qB nB kB]), fun _ => Rrt z9 z10, fun _ => Is (.bool true), fun _ => Is (.bool false), fun _ => Is (.bool false), fun _ => Is (.bool true), fun _ => Is (.agg #[.bool (ng z5), .slice p5 n5 c5, .bool (ng z6), .slice p6 n6 c6]), fun _ => Is (.int .i64 0), fun _ => Is (.agg #[.bool bA, .slice qA nA kA, .bool bB, .slice qB nB kB]), fun _ => Rrt z11 z12, fun _ => Is (.bool true), fun _ => Is (.bool false), fun _ => Is (.bool false), fun _ => Is (.bool false), fun _ => Is (.int .i64 nn), fun _ => Rrt nn 1, fun _ => Is (.int .i64 nn), fun _ => Rrt nn 1, fun _ => Is (.bool true), fun _ => Is (.bool false), fun _ => Is (.bool false)] : List (List Value → Tell)).getD i9 (fun _ _ _ => False)) (heldNil) (fun d _ _ _ _ h => (by cases d <;> exact h)) (by kernel_rfl) (by kernel_rfl) (by kernel_rfl) hS ?_ ?_
          ·
            refine stepsCons rfl ?_ ?_
            · intro Q f' w' ρ S ho hT hS hB
              exact .inl ⟨want_none rfl, omove (v := .bool true) rfl rfl (ev (v := .bool true) rfl (ho 19 rfl)) ⟨_, _, rfl, isI, New.same _⟩⟩
            refine stepsCons rfl ?_ ?_
            · intro Q f' w' ρ S ho hT hS hB
              exact .inl ⟨want_none rfl, oload (vs := [.bool (ng z3), .slice p3 n3 c3, .bool (ng z4), .slice p4 n4 c4]) aggR hS 5 rfl rfl (ev rfl (ho 9 rfl)) rfl rfl rfl ⟨_, _, rfl, isI, New.same _⟩⟩
            refine stepsCons rfl ?_ ?_
            · intro Q f' w' ρ S ho hT hS hB
              exact .inl ⟨want_none rfl, omove (v := .int .i64 0) rfl rfl (ev (v := .int .i64 0) rfl (ho 10 rfl)) ⟨_, _, rfl, isI, New.same _⟩⟩
            refine stepsCons rfl ?_ ?_
            · intro Q f' w' ρ S ho hT hS hB
              exact .inl ⟨want_none rfl, oload (vs := [.bool bA, .slice qA nA kA, .bool bB, .slice qB nB kB]) aggR hS 9 rfl rfl (ev rfl (ho 7 rfl)) rfl rfl rfl ⟨_, _, rfl, isI, New.same _⟩⟩
            refine stepsCons rfl ?_ ?_
            · intro Q f' w' ρ S ho hT hS hB
              obtain ⟨hv3, hr3⟩ := (hT 3 65 rfl rfl : (Is (.agg #[.bool bA, .slice qA nA kA, .bool bB, .slice qB nB kB])) (f' 65) (ρ 3))
              obtain hS := hS.flat1 hr3
              refine .inl ⟨want_none rfl, ocall rfl rfl Try.call37 rfl ((wsnorm ((hzA.at hS).mono (by omega)) ((hzB.at hS).mono (by omega)) (hy) hz9 hz10)) (args1 (ev rfl hv3)) ?_⟩
              rintro _ w9 ⟨_, _, rfl, hTT, hN⟩
              exact ⟨_, rfl, _, _, rfl, hTT, hN⟩
            refine stepsCons rfl ?_ ?_
            · intro Q f' w' ρ S ho hT hS hB
              obtain ⟨hv0, hr0⟩ := (hT 0 62 rfl rfl : (Is (.bool true)) (f' 62) (ρ 0))
              obtain ⟨hv1, hr1⟩ := (hT 1 63 rfl rfl : (Is (.agg #[.bool (ng z3), .slice p3 n3 c3, .bool (ng z4), .slice p4 n4 c4])) (f' 63) (ρ 1))
              obtain ⟨hv2, hr2⟩ := (hT 2 64 rfl rfl : (Is (.int .i64 0)) (f' 64) (ρ 2))
              obtain ⟨p9, n9, c9, p10, n10, c10, hv4, hr4⟩ := (hT 4 66 rfl rfl : (Rrt z9 z10) (f' 66) (ρ 4))
              obtain hS := hS.flat4 hr0 hr1 hr2 hr4
              refine .inl ⟨want_none rfl, ocall rfl rfl Try.call32 rfl (wltold (x := z3) (y := z4) (u := z9) (v := z10) (hS.slm 6 rfl) (hS.slm 7 rfl) (hS.slm 14 rfl) (hS.slm 15 rfl) ((hz3.out.symm).trans (hz9.out.symm).symm) ((hz4.out.symm).trans (hz10.out.symm).symm)) (args4 (ev rfl hv0) (ev rfl hv1) (ev rfl hv2) (ev rfl hv4)) ?_⟩
              rintro _ w9 ⟨_, _, rfl, hTT, hN⟩
              exact ⟨_, rfl, _, _, rfl, hTT, hN⟩
            refine stepsCons rfl ?_ ?_
            · intro Q f' w' ρ S ho hT hS hB
              obtain ⟨hv5, hr5⟩ := (hT 5 67 rfl rfl : (Is (.bool true)) (f' 67) (ρ 5))
              obtain hS := hS.flat1 hr5
              exact .inl ⟨want_none rfl, onot (b := true) rfl rfl (ev (v := .bool true) rfl hv5) ⟨_, _, rfl, isI, New.same _⟩⟩
            refine stepsCons rfl ?_ ?_
            · intro Q f' w' ρ S ho hT hS hB
              obtain ⟨hv6, hr6⟩ := (hT 6 68 rfl rfl : (Is (.bool false)) (f' 68) (ρ 6))
              obtain hS := hS.flat1 hr6
              exact .inl ⟨want_none rfl, omove (v := .bool false) rfl rfl (ev (v := .bool false) rfl hv6) ⟨_, _, rfl, isI, New.same _⟩⟩
            refine stepsCons rfl ?_ ?_
            · intro Q f' w' ρ S ho hT hS hB
              obtain ⟨hv7, hr7⟩ := (hT 7 69 rfl rfl : (Is (.bool false)) (f' 69) (ρ 7))
              obtain hS := hS.flat1 hr7
              exact .inl ⟨want_on (e := 69) rfl rfl rfl hv7, omove (v := .bool true) rfl rfl (ev (v := .bool true) rfl (ho 19 rfl)) ⟨_, _, rfl, isI, New.same _⟩⟩
            refine stepsCons rfl ?_ ?_
            · intro Q f' w' ρ S ho hT hS hB
              obtain ⟨hv7, hr7⟩ := (hT 7 69 rfl rfl : (Is (.bool false)) (f' 69) (ρ 7))
              obtain hS := hS.flat1 hr7
              exact .inl ⟨want_on (e := 69) rfl rfl rfl hv7, oload (vs := [.bool (ng z5), .slice p5 n5 c5, .bool (ng z6), .slice p6 n6 c6]) aggR hS 2 rfl rfl (ev rfl (ho 11 rfl)) rfl rfl rfl ⟨_, _, rfl, isI, New.same _⟩⟩
            refine stepsCons rfl ?_ ?_
            · intro Q f' w' ρ S ho hT hS hB
              obtain ⟨hv7, hr7⟩ := (hT 7 69 rfl rfl : (Is (.bool false)) (f' 69) (ρ 7))
              obtain hS := hS.flat1 hr7
              exact .inl ⟨want_on (e := 69) rfl rfl rfl hv7, omove (v := .int .i64 0) rfl rfl (ev (v := .int .i64 0) rfl (ho 12 rfl)) ⟨_, _, rfl, isI, New.same _⟩⟩
            refine stepsCons rfl ?_ ?_
            · intro Q f' w' ρ S ho hT hS hB
              obtain ⟨hv7, hr7⟩ := (hT 7 69 rfl rfl : (Is (.bool false)) (f' 69) (ρ 7))
              obtain hS := hS.flat1 hr7
              exact .inl ⟨want_on (e := 69) rfl rfl rfl hv7, oload (vs := [.bool bA, .slice qA nA kA, .bool bB, .slice qB nB kB]) aggR hS 9 rfl rfl (ev rfl (ho 7 rfl)) rfl rfl rfl ⟨_, _, rfl, isI, New.same _⟩⟩
            refine stepsCons rfl ?_ ?_
            · intro Q f' w' ρ S ho hT hS hB
              obtain ⟨hv7, hr7⟩ := (hT 7 69 rfl rfl : (Is (.bool false)) (f' 69) (ρ 7))
              obtain ⟨hv11, hr11⟩ := (hT 11 73 rfl rfl : (Is (.agg #[.bool bA, .slice qA nA kA, .bool bB, .slice qB nB kB])) (f' 73) (ρ 11))
              obtain hS := hS.flat2 hr7 hr11
              refine .inl ⟨want_on (e := 69) rfl rfl rfl hv7, ocall rfl rfl Try.call37 rfl ((wsnorm ((hzA.at hS).mono (by omega)) ((hzB.at hS).mono (by omega)) (hy) hz11 hz12)) (args1 (ev rfl hv11)) ?_⟩
              rintro _ w9 ⟨_, _, rfl, hTT, hN⟩
              exact ⟨_, rfl, _, _, rfl, hTT, hN⟩
            refine stepsCons rfl ?_ ?_
            · intro Q f' w' ρ S ho hT hS hB
              obtain ⟨hv7, hr7⟩ := (hT 7 69 rfl rfl : (Is (.bool false)) (f' 69) (ρ 7))
              obtain ⟨hv8, hr8⟩ := (hT 8 70 rfl rfl : (Is (.bool true)) (f' 70) (ρ 8))
              obtain ⟨hv9, hr9⟩ := (hT 9 71 rfl rfl : (Is (.agg #[.bool (ng z5), .slice p5 n5 c5, .bool (ng z6), .slice p6 n6 c6])) (f' 71) (ρ 9))
              obtain ⟨hv10, hr10⟩ := (hT 10 72 rfl rfl : (Is (.int .i64 0)) (f' 72) (ρ 10))
              obtain ⟨p11, n11, c11, p12, n12, c12, hv12, hr12⟩ := (hT 12 74 rfl rfl : (Rrt z11 z12) (f' 74) (ρ 12))
              obtain hS := hS.flat5 hr7 hr8 hr9 hr10 hr12
              refine .inl ⟨want_on (e := 69) rfl rfl rfl hv7, ocall rfl rfl Try.call32 rfl (wltold (x := z5) (y := z6) (u := z11) (v := z12) (hS.slm 3 rfl) (hS.slm 4 rfl) (hS.slm 14 rfl) (hS.slm 15 rfl) ((hz5.out.symm).trans (hz11.out.symm).symm) ((hz6.out.symm).trans (hz12.out.symm).symm)) (args4 (ev rfl hv8) (ev rfl hv9) (ev rfl hv10) (ev rfl hv12)) ?_⟩
              rintro _ w9 ⟨_, _, rfl, hTT, hN⟩
              exact ⟨_, rfl, _, _, rfl, hTT, hN⟩
            refine stepsCons rfl ?_ ?_
            · intro Q f' w' ρ S ho hT hS hB
              obtain ⟨hv7, hr7⟩ := (hT 7 69 rfl rfl : (Is (.bool false)) (f' 69) (ρ 7))
              obtain ⟨hv13, hr13⟩ := (hT 13 75 rfl rfl : (Is (.bool true)) (f' 75) (ρ 13))
              obtain hS := hS.flat2 hr7 hr13
              exact .inl ⟨want_on (e := 69) rfl rfl rfl hv7, onot (b := true) rfl rfl (ev (v := .bool true) rfl hv13) ⟨_, _, rfl, isI, New.same _⟩⟩
            refine stepsCons rfl ?_ ?_
            · intro Q f' w' ρ S ho hT hS hB
              obtain ⟨hv7, hr7⟩ := (hT 7 69 rfl rfl : (Is (.bool false)) (f' 69) (ρ 7))
              obtain ⟨hv14, hr14⟩ := (hT 14 76 rfl rfl : (Is (.bool false)) (f' 76) (ρ 14))
              obtain hS := hS.flat2 hr7 hr14
              exact .inl ⟨want_none rfl, opick (b := false) (v := .bool false) rfl rfl (ev (v := .bool false) rfl hv7) (ev (v := .bool false) rfl hv14) ⟨_, _, rfl, isI, New.same _⟩⟩
            refine stepsCons rfl ?_ ?_
            · intro Q f' w' ρ S ho hT hS hB
              obtain ⟨hv15, hr15⟩ := (hT 15 77 rfl rfl : (Is (.bool false)) (f' 77) (ρ 15))
              obtain hS := hS.flat1 hr15
              exact .inl ⟨want_none rfl, omove (v := .bool false) rfl rfl (ev (v := .bool false) rfl hv15) ⟨_, _, rfl, isI, New.same _⟩⟩
            refine stepsCons rfl ?_ ?_
            · intro Q f' w' ρ S ho hT hS hB
              obtain ⟨hv16, hr16⟩ := (hT 16 78 rfl rfl : (Is (.bool false)) (f' 78) (ρ 16))
              obtain hS := hS.flat1 hr16
              exact .inl ⟨want_on (e := 78) rfl rfl rfl hv16, omove (v := .int .i64 nn) rfl rfl (ev (v := .int .i64 nn) rfl (ho 2 rfl)) ⟨_, _, rfl, isI, New.same _⟩⟩
            refine stepsCons rfl ?_ ?_
            · intro Q f' w' ρ S ho hT hS hB
              obtain ⟨hv16, hr16⟩ := (hT 16 78 rfl rfl : (Is (.bool false)) (f' 78) (ρ 16))
              obtain ⟨hv17, hr17⟩ := (hT 17 79 rfl rfl : (Is (.int .i64 nn)) (f' 79) (ρ 17))
              obtain hS := hS.flat2 hr16 hr17
              refine .inl ⟨want_on (e := 78) rfl rfl rfl hv16, ocall rfl rfl Try.call47 rfl (wrof (x := nn) (h1) (h2)) (args1 (ev rfl hv17)) ?_⟩
              rintro _ w9 ⟨_, _, rfl, hTT, hN⟩
              exact ⟨_, rfl, _, _, rfl, hTT, hN⟩
            refine stepsCons rfl ?_ ?_
            · intro Q f' w' ρ S ho hT hS hB
              obtain ⟨hv16, hr16⟩ := (hT 16 78 rfl rfl : (Is (.bool false)) (f' 78) (ρ 16))
              obtain hS := hS.flat1 hr16
              exact .inl ⟨want_on (e := 78) rfl rfl rfl hv16, omove (v := .int .i64 nn) rfl rfl (ev (v := .int .i64 nn) rfl (ho 2 rfl)) ⟨_, _, rfl, isI, New.same _⟩⟩
            refine stepsCons rfl ?_ ?_
            · intro Q f' w' ρ S ho hT hS hB
              obtain ⟨hv16, hr16⟩ := (hT 16 78 rfl rfl : (Is (.bool false)) (f' 78) (ρ 16))
              obtain ⟨hv19, hr19⟩ := (hT 19 81 rfl rfl : (Is (.int .i64 nn)) (f' 81) (ρ 19))
              obtain hS := hS.flat2 hr16 hr19
              refine .inl ⟨want_on (e := 78) rfl rfl rfl hv16, ocall rfl rfl Try.call48 rfl (wsof (x := nn) (h1) (h2)) (args1 (ev rfl hv19)) ?_⟩
              rintro _ w9 ⟨_, _, rfl, hTT, hN⟩
              exact ⟨_, rfl, _, _, rfl, hTT, hN⟩
            refine stepsCons rfl ?_ ?_
            · intro Q f' w' ρ S ho hT hS hB
              obtain ⟨hv16, hr16⟩ := (hT 16 78 rfl rfl : (Is (.bool false)) (f' 78) (ρ 16))
              obtain ⟨p13, n13, c13, p14, n14, c14, hv18, hr18⟩ := (hT 18 80 rfl rfl : (Rrt nn 1) (f' 80) (ρ 18))
              obtain ⟨p15, n15, c15, p16, n16, c16, hv20, hr20⟩ := (hT 20 82 rfl rfl : (Rrt nn 1) (f' 82) (ρ 20))
              obtain hS := hS.flat3 hr16 hr18 hr20
              refine .inl ⟨want_on (e := 78) rfl rfl rfl hv16, ocall rfl rfl Try.call13 rfl (wlsame5 (x := nn) (y := 1) (u := nn) (v := 1) (hS.slm 14 rfl) (hS.slm 15 rfl) (hS.slm 16 rfl) (hS.slm 17 rfl) (rfl) (rfl)) (args2 (ev rfl hv18) (ev rfl hv20)) ?_⟩
              rintro _ w9 ⟨_, _, rfl, hTT, hN⟩
              exact ⟨_, rfl, _, _, rfl, hTT, hN⟩
            refine stepsCons rfl ?_ ?_
            · intro Q f' w' ρ S ho hT hS hB
              obtain ⟨hv16, hr16⟩ := (hT 16 78 rfl rfl : (Is (.bool false)) (f' 78) (ρ 16))
              obtain ⟨hv21, hr21⟩ := (hT 21 83 rfl rfl : (Is (.bool true)) (f' 83) (ρ 21))
              obtain hS := hS.flat2 hr16 hr21
              exact .inl ⟨want_on (e := 78) rfl rfl rfl hv16, onot (b := true) rfl rfl (ev (v := .bool true) rfl hv21) ⟨_, _, rfl, isI, New.same _⟩⟩
            refine stepsCons rfl ?_ ?_
            · intro Q f' w' ρ S ho hT hS hB
              obtain ⟨hv16, hr16⟩ := (hT 16 78 rfl rfl : (Is (.bool false)) (f' 78) (ρ 16))
              obtain ⟨hv22, hr22⟩ := (hT 22 84 rfl rfl : (Is (.bool false)) (f' 84) (ρ 22))
              obtain hS := hS.flat2 hr16 hr22
              exact .inl ⟨want_none rfl, opick (b := false) (v := .bool false) rfl rfl (ev (v := .bool false) rfl hv16) (ev (v := .bool false) rfl hv22) ⟨_, _, rfl, isI, New.same _⟩⟩
            exact stepsNil
          ·
            intro vs ρ w25 f' hf hT hS
            obtain ⟨hv0, hr0⟩ := (hT 0 (by decide) : (Is (.bool true)) (vs 0) (ρ 0))
            obtain ⟨hv1, hr1⟩ := (hT 1 (by decide) : (Is (.agg #[.bool (ng z3), .slice p3 n3 c3, .bool (ng z4), .slice p4 n4 c4])) (vs 1) (ρ 1))
            obtain ⟨hv2, hr2⟩ := (hT 2 (by decide) : (Is (.int .i64 0)) (vs 2) (ρ 2))
            obtain ⟨hv3, hr3⟩ := (hT 3 (by decide) : (Is (.agg #[.bool bA, .slice qA nA kA, .bool bB, .slice qB nB kB])) (vs 3) (ρ 3))
            obtain ⟨p9, n9, c9, p10, n10, c10, hv4, hr4⟩ := (hT 4 (by decide) : (Rrt z9 z10) (vs 4) (ρ 4))
            obtain ⟨hv5, hr5⟩ := (hT 5 (by decide) : (Is (.bool true)) (vs 5) (ρ 5))
            obtain ⟨hv6, hr6⟩ := (hT 6 (by decide) : (Is (.bool false)) (vs 6) (ρ 6))
            obtain ⟨hv7, hr7⟩ := (hT 7 (by decide) : (Is (.bool false)) (vs 7) (ρ 7))
            obtain ⟨hv8, hr8⟩ := (hT 8 (by decide) : (Is (.bool true)) (vs 8) (ρ 8))
            obtain ⟨hv9, hr9⟩ := (hT 9 (by decide) : (Is (.agg #[.bool (ng z5), .slice p5 n5 c5, .bool (ng z6), .slice p6 n6 c6])) (vs 9) (ρ 9))
            obtain ⟨hv10, hr10⟩ := (hT 10 (by decide) : (Is (.int .i64 0)) (vs 10) (ρ 10))
            obtain ⟨hv11, hr11⟩ := (hT 11 (by decide) : (Is (.agg #[.bool bA, .slice qA nA kA, .bool bB, .slice qB nB kB])) (vs 11) (ρ 11))
            obtain ⟨p11, n11, c11, p12, n12, c12, hv12, hr12⟩ := (hT 12 (by decide) : (Rrt z11 z12) (vs 12) (ρ 12))
            obtain ⟨hv13, hr13⟩ := (hT 13 (by decide) : (Is (.bool true)) (vs 13) (ρ 13))
            obtain ⟨hv14, hr14⟩ := (hT 14 (by decide) : (Is (.bool false)) (vs 14) (ρ 14))
            obtain ⟨hv15, hr15⟩ := (hT 15 (by decide) : (Is (.bool false)) (vs 15) (ρ 15))
            obtain ⟨hv16, hr16⟩ := (hT 16 (by decide) : (Is (.bool false)) (vs 16) (ρ 16))
            obtain ⟨hv17, hr17⟩ := (hT 17 (by decide) : (Is (.int .i64 nn)) (vs 17) (ρ 17))
            obtain ⟨p13, n13, c13, p14, n14, c14, hv18, hr18⟩ := (hT 18 (by decide) : (Rrt nn 1) (vs 18) (ρ 18))
            obtain ⟨hv19, hr19⟩ := (hT 19 (by decide) : (Is (.int .i64 nn)) (vs 19) (ρ 19))
            obtain ⟨p15, n15, c15, p16, n16, c16, hv20, hr20⟩ := (hT 20 (by decide) : (Rrt nn 1) (vs 20) (ρ 20))
            obtain ⟨hv21, hr21⟩ := (hT 21 (by decide) : (Is (.bool true)) (vs 21) (ρ 21))
            obtain ⟨hv22, hr22⟩ := (hT 22 (by decide) : (Is (.bool false)) (vs 22) (ρ 22))
            obtain ⟨hv23, hr23⟩ := (hT 23 (by decide) : (Is (.bool false)) (vs 23) (ρ 23))
            simp only [pool, if_true, hr0, hr1, hr2, hr3, hr4, hr5, hr6, hr7, hr8, hr9, hr10, hr11, hr12, hr13, hr14, hr15, hr16, hr17, hr18, hr19, hr20, hr21, hr22, hr23, List.nil_append, List.cons_append, List.append_nil] at hS
            simp only [layf, hv0, hv1, hv2, hv3, hv4, hv5, hv6, hv7, hv8, hv9, hv10, hv11, hv12, hv13, hv14, hv15, hv16, hv17, hv18, hv19, hv20, hv21, hv22, hv23] at hf
            subst hf; clear hT hv0 hv1 hv2 hv3 hv4 hv5 hv6 hv7 hv8 hv9 hv10 hv11 hv12 hv13 hv14 hv15 hv16 hv17 hv18 hv19 hv20 hv21 hv22 hv23 hr0 hr1 hr2 hr3 hr4 hr5 hr6 hr7 hr8 hr9 hr10 hr11 hr12 hr13 hr14 hr15 hr16 hr17 hr18 hr19 hr20 hr21 hr22 hr23
            refine wdone rfl ?_
            refine thenN ?_
            refine wF (ev (v := .bool false) rfl rfl) ?_
            refine wskip ?_
            refine thenN ?_
            refine wseq ?_
            refine wseq ?_
            obtain ⟨s17, hs17⟩ : ∃ z : Int, Hid ((x : Int).sign * (y : Int).sign = z) := ⟨_, rfl⟩
            obtain ⟨z18, hz18⟩ : ∃ z : Int, Hid (RN x y / RD x y = z) := ⟨_, rfl⟩
            have hk18 : Wd z18 1048576 := Wd.ediv (Wd.rn hzA.wd rfl) hz18
            refine wstage 44 [86, 87, 88, 89, 90, 91, 92, 93, 94, 95, 96, 97, 98, 99, 100, 101, 102, 103, 104, 105, 106, 107, 108, 109, 110, 111, 112, 113, 114, 115, 116, 117, 118, 119, 120, 121, 122, 123, 124, 125, 126, 127, 128, 129] [[], [0], [1, 0], [2, 0, 1], [2, 3, 0, 1], [2, 4, 0, 1, 3], [5, 0, 1, 2, 3, 4], [5, 6, 0, 1, 2, 3, 4], [2, 5, 7, 0, 1, 3, 4, 6], [2, 8, 0, 1, 3, 4, 5, 6, 7], [9, 0, 1, 2, 3, 4, 5, 6, 7, 8], [9, 10, 0, 1, 2, 3, 4, 5, 6, 7, 8], [2, 9, 11, 0, 1, 3, 4, 5, 6, 7, 8, 10], [2, 12, 0, 1, 3, 4, 5, 6, 7, 8, 9, 10, 11], [13, 0, 1, 2, 3, 4, 5, 6, 7, 8, 9, 10, 11, 12], [13, 0, 1, 2, 3, 4, 5, 6, 7, 8, 9, 10, 11, 12], [13, 14, 15, 0, 1, 2, 3, 4, 5, 6, 7, 8, 9, 10, 11, 12], [13, 16, 0, 1, 2, 3, 4, 5, 6, 7, 8, 9, 10, 11, 12, 14, 15], [2, 13, 17, 0, 1, 3, 4, 5, 6, 7, 8, 9, 10, 11, 12, 14, 15, 16], [2, 18, 0, 1, 3, 4, 5, 6, 7, 8, 9, 10, 11, 12, 13, 14, 15, 16, 17], [19, 0, 1, 2, 3, 4, 5, 6, 7, 8, 9, 10, 11, 12, 13, 14, 15, 16, 17, 18], [20, 0, 1, 2, 3, 4, 5, 6, 7, 8, 9, 10, 11, 12, 13, 14, 15, 16, 17, 18, 19], [20, 21, 0, 1, 2, 3, 4, 5, 6, 7, 8, 9, 10, 11, 12, 13, 14, 15, 16, 17, 18, 19], [22, 0, 1, 2, 3, 4, 5, 6, 7, 8, 9, 10, 11, 12, 13, 14, 15, 16, 17, 18, 19, 20, 21], [22, 0, 1, 2, 3, 4, 5, 6, 7, 8, 9, 10, 11, 12, 13, 14, 15, 16, 17, 18, 19, 20, 21], [22, 24, 0, 1, 2, 3, 4, 5, 6, 7, 8, 9, 10, 11, 12, 13, 14, 15, 16, 17, 18, 19, 20, 21], [22, 23, 25, 0, 1, 2, 3, 4, 5, 6, 7, 8, 9, 10, 11, 12, 13, 14, 15, 16, 17, 18, 19, 20, 21, 24], [22, 26, 0, 1, 2, 3, 4, 5, 6, 7, 8, 9, 10, 11, 12, 13, 14, 15, 16, 17, 18, 19, 20, 21, 23, 24, 25], [27, 0, 1, 2, 3, 4, 5, 6, 7, 8, 9, 10, 11, 12, 13, 14, 15, 16, 17, 18, 19, 20, 21, 22, 23, 24, 25, 26], [27, 28, 0, 1, 2, 3, 4, 5, 6, 7, 8, 9, 10, 11, 12, 13, 14, 15, 16, 17, 18, 19, 20, 21, 22, 23, 24, 25, 26], [22, 27, 29, 0, 1, 2, 3, 4, 5, 6, 7, 8, 9, 10, 11, 12, 13, 14, 15, 16, 17, 18, 19, 20, 21, 23, 24, 25, 26, 28], [22, 30, 0, 1, 2, 3, 4, 5, 6, 7, 8, 9, 10, 11, 12, 13, 14, 15, 16, 17, 18, 19, 20, 21, 23, 24, 25, 26, 27, 28, 29], [31, 0, 1, 2, 3, 4, 5, 6, 7, 8, 9, 10, 11, 12, 13, 14, 15, 16, 17, 18, 19, 20, 21, 22, 23, 24, 25, 26, 27, 28, 29, 30], [31, 32, 0, 1, 2, 3, 4, 5, 6, 7, 8, 9, 10, 11, 12, 13, 14, 15, 16, 17, 18, 19, 20, 21, 22, 23, 24, 25, 26, 27, 28, 29, 30], [22, 31, 33, 0, 1, 2, 3, 4, 5, 6, 7, 8, 9, 10, 11, 12, 13, 14, 15, 16, 17, 18, 19, 20, 21, 23, 24, 25, 26, 27, 28, 29, 30, 32], [22, 34, 0, 1, 2, 3, 4, 5, 6, 7, 8, 9, 10, 11, 12, 13, 14, 15, 16, 17, 18, 19, 20, 21, 23, 24, 25, 26, 27, 28, 29, 30, 31, 32, 33], [35, 0, 1, 2, 3, 4, 5, 6, 7, 8, 9, 10, 11, 12, 13, 14, 15, 16, 17, 18, 19, 20, 21, 22, 23, 24, 25, 26, 27, 28, 29, 30, 31, 32, 33, 34], [35, 0, 1, 2, 3, 4, 5, 6, 7, 8, 9, 10, 11, 12, 13, 14, 15, 16, 17, 18, 19, 20, 21, 22, 23, 24, 25, 26, 27, 28, 29, 30, 31, 32, 33, 34], [35, 37, 0, 1, 2, 3, 4, 5, 6, 7, 8, 9, 10, 11, 12, 13, 14, 15, 16, 17, 18, 19, 20, 21, 22, 23, 24, 25, 26, 27, 28, 29, 30, 31, 32, 33, 34], [35, 36, 38, 0, 1, 2, 3, 4, 5, 6, 7, 8, 9, 10, 11, 12, 13, 14, 15, 16, 17, 18, 19, 20, 21, 22, 23, 24, 25, 26, 27, 28, 29, 30, 31, 32, 33, 34, 37], [35, 39, 0, 1, 2, 3, 4, 5, 6, 7, 8, 9, 10, 11, 12, 13, 14, 15, 16, 17, 18, 19, 20, 21, 22, 23, 24, 25, 26, 27, 28, 29, 30, 31, 32, 33, 34, 36, 37, 38], [22, 35, 40, 0, 1, 2, 3, 4, 5, 6, 7, 8, 9, 10, 11, 12, 13, 14, 15, 16, 17, 18, 19, 20, 21, 23, 24, 25, 26, 27, 28, 29, 30, 31, 32, 33, 34, 36, 37, 38, 39], [20, 22, 41, 0, 1, 2, 3, 4, 5, 6, 7, 8, 9, 10, 11, 12, 13, 14, 15, 16, 17, 18, 19, 21, 23, 24, 25, 26, 27, 28, 29, 30, 31, 32, 33, 34, 35, 36, 37, 38, 39, 40], [20, 42, 0, 1, 2, 3, 4, 5, 6, 7, 8, 9, 10, 11, 12, 13, 14, 15, 16, 17, 18, 19, 21, 22, 23, 24, 25, 26, 27, 28, 29, 30, 31, 32, 33, 34, 35, 36, 37, 38, 39, 40, 41]] [[], [], [], [], [], [], [], [], [], [], [], [], [], [], [], [], [], [], [], [], [], [], [], [], [], [], [], [], [], [], [], [], [], [], [], [], [], [], [], [], [], [], [], []] [] [] (fun i9 => ([fun _ => Is (.bool true), fun _ => Is (.bool false), fun _ => Is (.bool false), fun _ => Is undef, fun _ => Is undef, fun _ => Is undef, fun _ => Is undef, fun _ => Is undef, fun _ => Is undef, fun _ => Is undef, fun _ => Is undef, fun _ => Is undef, fun _ => Is undef, fun _ => Is undef, fun _ => Is undef, fun _ => Is undef, fun _ => Is undef, fun _ => Is undef, fun _ => Is undef, fun _ => Is (.bool false), fun _ => Is (.bool false), fun _ => Is (.bool true), fun _ => Is (.bool true), fun _ => Is (.int .i64 s7), fun _ => Is (.agg #[.bool bA, .slice qA nA kA, .bool bB, .slice qB nB kB]), fun _ => Is (.int .i64 s17), fun _ => Is (.bool false), fun _ => Is (.bool false), fun _ => Is (.int .i64 0), fun _ => Is (.bool false), fun _ => Is (.bool false), fun _ => Is (.bool false), fun _ => Is (.int .i64 0), fun _ => Is (.bool false), fun _ => Is (.bool false), fun _ => Is (.bool false), fun _ => Is (.agg #[.bool (ng z8), .slice p8 n8 c8]), fun _ => Is (.agg #[.bool bA, .slice qA nA kA, .bool bB, .slice qB nB kB]), fun _ => Zt z18, fun _ => Is (.bool true), fun _ => Is (.bool false), fun _ => Is (.bool false), fun _ => Is (.bool false), fun _ => Is (.bool false)] : List (List Value → Tell)).getD i9 (fun _ _ _ => False)) (heldNil) (fun d _ _ _ _ h => (by cases d <;> exact h)) (by kernel_rfl) (by kernel_rfl) (by kernel_rfl) hS ?_ ?_
            ·
              refine stepsCons rfl ?_ ?_
              · intro Q f' w' ρ S ho hT hS hB
                exact .inl ⟨want_none rfl, omove (v := .bool true) rfl rfl (ev (v := .bool true) rfl (ho 19 rfl)) ⟨_, _, rfl, isI, New.same _⟩⟩
              refine stepsCons rfl ?_ ?_
              · intro Q f' w' ρ S ho hT hS hB
                obtain ⟨hv0, hr0⟩ := (hT 0 86 rfl rfl : (Is (.bool true)) (f' 86) (ρ 0))
                obtain hS := hS.flat1 hr0
                exact .inl ⟨want_none rfl, onot (b := true) rfl rfl (ev (v := .bool true) rfl hv0) ⟨_, _, rfl, isI, New.same _⟩⟩
              refine stepsCons rfl ?_ ?_
              · intro Q f' w' ρ S ho hT hS hB
                obtain ⟨hv1, hr1⟩ := (hT 1 87 rfl rfl : (Is (.bool false)) (f' 87) (ρ 1))
                obtain hS := hS.flat1 hr1
                exact .inl ⟨want_none rfl, omove (v := .bool false) rfl rfl (ev (v := .bool false) rfl hv1) ⟨_, _, rfl, isI, New.same _⟩⟩
              refine stepsCons rfl ?_ ?_
              · intro Q f' w' ρ S ho hT hS hB
                obtain ⟨hv2, hr2⟩ := (hT 2 88 rfl rfl : (Is (.bool false)) (f' 88) (ρ 2))
                obtain hS := hS.flat1 hr2
                exact .inr ⟨want_off (e := 88) (b' := false) rfl rfl rfl hv2 rfl, isI⟩
              refine stepsCons rfl ?_ ?_
              · intro Q f' w' ρ S ho hT hS hB
                obtain ⟨hv2, hr2⟩ := (hT 2 88 rfl rfl : (Is (.bool false)) (f' 88) (ρ 2))
                obtain ⟨hv3, hr3⟩ := (hT 3 89 rfl rfl : (Is undef) (f' 89) (ρ 3))
                obtain hS := hS.flat2 hr2 hr3
                exact .inr ⟨want_off (e := 88) (b' := false) rfl rfl rfl hv2 rfl, isI⟩
              refine stepsCons rfl ?_ ?_
              · intro Q f' w' ρ S ho hT hS hB
                obtain ⟨hv2, hr2⟩ := (hT 2 88 rfl rfl : (Is (.bool false)) (f' 88) (ρ 2))
                obtain ⟨hv4, hr4⟩ := (hT 4 90 rfl rfl : (Is undef) (f' 90) (ρ 4))
                obtain hS := hS.flat2 hr2 hr4
                exact .inr ⟨want_off (e := 88) (b' := false) rfl rfl rfl hv2 rfl, isI⟩
              refine stepsCons rfl ?_ ?_
              · intro Q f' w' ρ S ho hT hS hB
                obtain ⟨hv5, hr5⟩ := (hT 5 91 rfl rfl : (Is undef) (f' 91) (ρ 5))
                obtain hS := hS.flat1 hr5
                exact .inr ⟨want_undef (e := 91) rfl rfl rfl hv5, isI⟩
              refine stepsCons rfl ?_ ?_
              · intro Q f' w' ρ S ho hT hS hB
                obtain ⟨hv5, hr5⟩ := (hT 5 91 rfl rfl : (Is undef) (f' 91) (ρ 5))
                obtain ⟨hv6, hr6⟩ := (hT 6 92 rfl rfl : (Is undef) (f' 92) (ρ 6))
                obtain hS := hS.flat2 hr5 hr6
                exact .inr ⟨want_undef (e := 91) rfl rfl rfl hv5, isI⟩
              refine stepsCons rfl ?_ ?_
              · intro Q f' w' ρ S ho hT hS hB
                obtain ⟨hv2, hr2⟩ := (hT 2 88 rfl rfl : (Is (.bool false)) (f' 88) (ρ 2))
                obtain ⟨hv5, hr5⟩ := (hT 5 91 rfl rfl : (Is undef) (f' 91) (ρ 5))
                obtain ⟨hv7, hr7⟩ := (hT 7 93 rfl rfl : (Is undef) (f' 93) (ρ 7))
                obtain hS := hS.flat3 hr2 hr5 hr7
                exact .inr ⟨want_off (e := 88) (b' := false) rfl rfl rfl hv2 rfl, isI⟩
              refine stepsCons rfl ?_ ?_
              · intro Q f' w' ρ S ho hT hS hB
                obtain ⟨hv2, hr2⟩ := (hT 2 88 rfl rfl : (Is (.bool false)) (f' 88) (ρ 2))
                obtain ⟨hv8, hr8⟩ := (hT 8 94 rfl rfl : (Is undef) (f' 94) (ρ 8))
                obtain hS := hS.flat2 hr2 hr8
                exact .inr ⟨want_off (e := 88) (b' := false) rfl rfl rfl hv2 rfl, isI⟩
              refine stepsCons rfl ?_ ?_
              · intro Q f' w' ρ S ho hT hS hB
                obtain ⟨hv9, hr9⟩ := (hT 9 95 rfl rfl : (Is undef) (f' 95) (ρ 9))
                obtain hS := hS.flat1 hr9
                exact .inr ⟨want_undef (e := 95) rfl rfl rfl hv9, isI⟩
              refine stepsCons rfl ?_ ?_
              · intro Q f' w' ρ S ho hT hS hB
                obtain ⟨hv9, hr9⟩ := (hT 9 95 rfl rfl : (Is undef) (f' 95) (ρ 9))
                obtain ⟨hv10, hr10⟩ := (hT 10 96 rfl rfl : (Is undef) (f' 96) (ρ 10))
                obtain hS := hS.flat2 hr9 hr10
                exact .inr ⟨want_undef (e := 95) rfl rfl rfl hv9, isI⟩
              refine stepsCons rfl ?_ ?_
              · intro Q f' w' ρ S ho hT hS hB
                obtain ⟨hv2, hr2⟩ := (hT 2 88 rfl rfl : (Is (.bool false)) (f' 88) (ρ 2))
                obtain ⟨hv9, hr9⟩ := (hT 9 95 rfl rfl : (Is undef) (f' 95) (ρ 9))
                obtain ⟨hv11, hr11⟩ := (hT 11 97 rfl rfl : (Is undef) (f' 97) (ρ 11))
                obtain hS := hS.flat3 hr2 hr9 hr11
                exact .inr ⟨want_off (e := 88) (b' := false) rfl rfl rfl hv2 rfl, isI⟩
              refine stepsCons rfl ?_ ?_
              · intro Q f' w' ρ S ho hT hS hB
                obtain ⟨hv2, hr2⟩ := (hT 2 88 rfl rfl : (Is (.bool false)) (f' 88) (ρ 2))
                obtain ⟨hv12, hr12⟩ := (hT 12 98 rfl rfl : (Is undef) (f' 98) (ρ 12))
                obtain hS := hS.flat2 hr2 hr12
                exact .inr ⟨want_off (e := 88) (b' := false) rfl rfl rfl hv2 rfl, isI⟩
              refine stepsCons rfl ?_ ?_
              · intro Q f' w' ρ S ho hT hS hB
                obtain ⟨hv13, hr13⟩ := (hT 13 99 rfl rfl : (Is undef) (f' 99) (ρ 13))
                obtain hS := hS.flat1 hr13
                exact .inr ⟨want_undef (e := 99) rfl rfl rfl hv13, isI⟩
              refine stepsCons rfl ?_ ?_
              · intro Q f' w' ρ S ho hT hS hB
                obtain ⟨hv13, hr13⟩ := (hT 13 99 rfl rfl : (Is undef) (f' 99) (ρ 13))
                obtain hS := hS.flat1 hr13
                exact .inr ⟨want_undef (e := 99) rfl rfl rfl hv13, isI⟩
              refine stepsCons rfl ?_ ?_
              · intro Q f' w' ρ S ho hT hS hB
                obtain ⟨hv13, hr13⟩ := (hT 13 99 rfl rfl : (Is undef) (f' 99) (ρ 13))
                obtain ⟨hv14, hr14⟩ := (hT 14 100 rfl rfl : (Is undef) (f' 100) (ρ 14))
                obtain ⟨hv15, hr15⟩ := (hT 15 101 rfl rfl : (Is undef) (f' 101) (ρ 15))
                obtain hS := hS.flat3 hr13 hr14 hr15
                exact .inr ⟨want_undef (e := 99) rfl rfl rfl hv13, isI⟩
              refine stepsCons rfl ?_ ?_
              · intro Q f' w' ρ S ho hT hS hB
                obtain ⟨hv13, hr13⟩ := (hT 13 99 rfl rfl : (Is undef) (f' 99) (ρ 13))
                obtain ⟨hv16, hr16⟩ := (hT 16 102 rfl rfl : (Is undef) (f' 102) (ρ 16))
                obtain hS := hS.flat2 hr13 hr16
                exact .inr ⟨want_undef (e := 99) rfl rfl rfl hv13, isI⟩
              refine stepsCons rfl ?_ ?_
              · intro Q f' w' ρ S ho hT hS hB
                obtain ⟨hv2, hr2⟩ := (hT 2 88 rfl rfl : (Is (.bool false)) (f' 88) (ρ 2))
                obtain ⟨hv13, hr13⟩ := (hT 13 99 rfl rfl : (Is undef) (f' 99) (ρ 13))
                obtain ⟨hv17, hr17⟩ := (hT 17 103 rfl rfl : (Is undef) (f' 103) (ρ 17))
                obtain hS := hS.flat3 hr2 hr13 hr17
                exact .inr ⟨want_off (e := 88) (b' := false) rfl rfl rfl hv2 rfl, isI⟩
              refine stepsCons rfl ?_ ?_
              · intro Q f' w' ρ S ho hT hS hB
                obtain ⟨hv2, hr2⟩ := (hT 2 88 rfl rfl : (Is (.bool false)) (f' 88) (ρ 2))
                obtain ⟨hv18, hr18⟩ := (hT 18 104 rfl rfl : (Is undef) (f' 104) (ρ 18))
                obtain hS := hS.flat2 hr2 hr18
                exact .inl ⟨want_none rfl, opick (b := false) (v := .bool false) rfl rfl (ev (v := .bool false) rfl hv2) (evc (v := .bool false)) ⟨_, _, rfl, isI, New.same _⟩⟩
              refine stepsCons rfl ?_ ?_
              · intro Q f' w' ρ S ho hT hS hB
                obtain ⟨hv19, hr19⟩ := (hT 19 105 rfl rfl : (Is (.bool false)) (f' 105) (ρ 19))
                obtain hS := hS.flat1 hr19
                exact .inl ⟨want_none rfl, omove (v := .bool false) rfl rfl (ev (v := .bool false) rfl hv19) ⟨_, _, rfl, isI, New.same _⟩⟩
              refine stepsCons rfl ?_ ?_
              · intro Q f' w' ρ S ho hT hS hB
                obtain ⟨hv20, hr20⟩ := (hT 20 106 rfl rfl : (Is (.bool false)) (f' 106) (ρ 20))
                obtain hS := hS.flat1 hr20
                exact .inl ⟨want_on (e := 106) rfl rfl rfl hv20, omove (v := .bool true) rfl rfl (ev (v := .bool true) rfl (ho 19 rfl)) ⟨_, _, rfl, isI, New.same _⟩⟩
              refine stepsCons rfl ?_ ?_
              · intro Q f' w' ρ S ho hT hS hB
                obtain ⟨hv20, hr20⟩ := (hT 20 106 rfl rfl : (Is (.bool false)) (f' 106) (ρ 20))
                obtain ⟨hv21, hr21⟩ := (hT 21 107 rfl rfl : (Is (.bool true)) (f' 107) (ρ 21))
                obtain hS := hS.flat2 hr20 hr21
                exact .inl ⟨want_on (e := 106) rfl rfl rfl hv20, omove (v := .bool true) rfl rfl (ev (v := .bool true) rfl hv21) ⟨_, _, rfl, isI, New.same _⟩⟩
              refine stepsCons rfl ?_ ?_
              · intro Q f' w' ρ S ho hT hS hB
                obtain ⟨hv22, hr22⟩ := (hT 22 108 rfl rfl : (Is (.bool true)) (f' 108) (ρ 22))
                obtain hS := hS.flat1 hr22
                exact .inl ⟨want_on (e := 108) rfl rfl rfl hv22, omove (v := .int .i64 s7) rfl rfl (ev (v := .int .i64 s7) rfl (ho 13 rfl)) ⟨_, _, rfl, isI, New.same _⟩⟩
              refine stepsCons rfl ?_ ?_
              · intro Q f' w' ρ S ho hT hS hB
                obtain ⟨hv22, hr22⟩ := (hT 22 108 rfl rfl : (Is (.bool true)) (f' 108) (ρ 22))
                obtain hS := hS.flat1 hr22
                exact .inl ⟨want_on (e := 108) rfl rfl rfl hv22, oload (vs := [.bool bA, .slice qA nA kA, .bool bB, .slice qB nB kB]) aggR hS 17 rfl rfl (ev rfl (ho 7 rfl)) rfl rfl rfl ⟨_, _, rfl, isI, New.same _⟩⟩
              refine stepsCons rfl ?_ ?_
              · intro Q f' w' ρ S ho hT hS hB
                obtain ⟨hv22, hr22⟩ := (hT 22 108 rfl rfl : (Is (.bool true)) (f' 108) (ρ 22))
                obtain ⟨hv24, hr24⟩ := (hT 24 110 rfl rfl : (Is (.agg #[.bool bA, .slice qA nA kA, .bool bB, .slice qB nB kB])) (f' 110) (ρ 24))
                obtain hS := hS.flat2 hr22 hr24
                refine .inl ⟨want_on (e := 108) rfl rfl rfl hv22, ocall rfl rfl Try.call12 rfl (wssign ((hzA.at hS).mono (by omega)) ((hzB.at hS).mono (by omega)) (hy) hs17) (args1 (ev rfl hv24)) ?_⟩
                rintro _ w9 ⟨_, _, rfl, hTT, hN⟩
                exact ⟨_, rfl, _, _, rfl, hTT, hN⟩
              refine stepsCons rfl ?_ ?_
              · intro Q f' w' ρ S ho hT hS hB
                obtain ⟨hv22, hr22⟩ := (hT 22 108 rfl rfl : (Is (.bool true)) (f' 108) (ρ 22))
                obtain ⟨hv23, hr23⟩ := (hT 23 109 rfl rfl : (Is (.int .i64 s7)) (f' 109) (ρ 23))
                obtain ⟨hv25, hr25⟩ := (hT 25 111 rfl rfl : (Is (.int .i64 s17)) (f' 111) (ρ 25))
                obtain hS := hS.flat3 hr22 hr23 hr25
                exact .inl ⟨want_on (e := 108) rfl rfl rfl hv22, obin (u := .int .i64 s7) (v := .int .i64 s17) (z := .bool false) rfl rfl (ev (v := .int .i64 s7) rfl hv23) (ev (v := .int .i64 s17) rfl hv25) (bin_neq (neF ((hs7.out.symm).trans (hs17.out.symm).symm))) ⟨_, _, rfl, isI, New.same _⟩⟩
              refine stepsCons rfl ?_ ?_
              · intro Q f' w' ρ S ho hT hS hB
                obtain ⟨hv22, hr22⟩ := (hT 22 108 rfl rfl : (Is (.bool true)) (f' 108) (ρ 22))
                obtain ⟨hv26, hr26⟩ := (hT 26 112 rfl rfl : (Is (.bool false)) (f' 112) (ρ 26))
                obtain hS := hS.flat2 hr22 hr26
                exact .inl ⟨want_on (e := 108) rfl rfl rfl hv22, omove (v := .bool false) rfl rfl (ev (v := .bool false) rfl hv26) ⟨_, _, rfl, isI, New.same _⟩⟩
              refine stepsCons rfl ?_ ?_
              · intro Q f' w' ρ S ho hT hS hB
                obtain ⟨hv27, hr27⟩ := (hT 27 113 rfl rfl : (Is (.bool false)) (f' 113) (ρ 27))
                obtain hS := hS.flat1 hr27
                exact .inl ⟨want_on (e := 113) rfl rfl rfl hv27, omove (v := .int .i64 0) rfl rfl (ev (v := .int .i64 0) rfl (ho 14 rfl)) ⟨_, _, rfl, isI, New.same _⟩⟩
              refine stepsCons rfl ?_ ?_
              · intro Q f' w' ρ S ho hT hS hB
                obtain ⟨hv27, hr27⟩ := (hT 27 113 rfl rfl : (Is (.bool false)) (f' 113) (ρ 27))
                obtain ⟨hv28, hr28⟩ := (hT 28 114 rfl rfl : (Is (.int .i64 0)) (f' 114) (ρ 28))
                obtain hS := hS.flat2 hr27 hr28
                exact .inl ⟨want_on (e := 113) rfl rfl rfl hv27, obin (u := .int .i64 0) (v := .int .i64 0) (z := .bool false) rfl rfl (ev (v := .int .i64 0) rfl hv28) (evc (v := .int .i64 0)) (bin_neq (by decide)) ⟨_, _, rfl, isI, New.same _⟩⟩
              refine stepsCons rfl ?_ ?_
              · intro Q f' w' ρ S ho hT hS hB
                obtain ⟨hv22, hr22⟩ := (hT 22 108 rfl rfl : (Is (.bool true)) (f' 108) (ρ 22))
                obtain ⟨hv27, hr27⟩ := (hT 27 113 rfl rfl : (Is (.bool false)) (f' 113) (ρ 27))
                obtain ⟨hv29, hr29⟩ := (hT 29 115 rfl rfl : (Is (.bool false)) (f' 115) (ρ 29))
                obtain hS := hS.flat3 hr22 hr27 hr29
                exact .inl ⟨want_on (e := 108) rfl rfl rfl hv22, opick (b := false) (v := .bool false) rfl rfl (ev (v := .bool false) rfl hv27) (ev (v := .bool false) rfl hv29) ⟨_, _, rfl, isI, New.same _⟩⟩
              refine stepsCons rfl ?_ ?_
              · intro Q f' w' ρ S ho hT hS hB
                obtain ⟨hv22, hr22⟩ := (hT 22 108 rfl rfl : (Is (.bool true)) (f' 108) (ρ 22))
                obtain ⟨hv30, hr30⟩ := (hT 30 116 rfl rfl : (Is (.bool false)) (f' 116) (ρ 30))
                obtain hS := hS.flat2 hr22 hr30
                exact .inl ⟨want_on (e := 108) rfl rfl rfl hv22, omove (v := .bool false) rfl rfl (ev (v := .bool false) rfl hv30) ⟨_, _, rfl, isI, New.same _⟩⟩
              refine stepsCons rfl ?_ ?_
              · intro Q f' w' ρ S ho hT hS hB
                obtain ⟨hv31, hr31⟩ := (hT 31 117 rfl rfl : (Is (.bool false)) (f' 117) (ρ 31))
                obtain hS := hS.flat1 hr31
                exact .inl ⟨want_on (e := 117) rfl rfl rfl hv31, omove (v := .int .i64 0) rfl rfl (ev (v := .int .i64 0) rfl (ho 18 rfl)) ⟨_, _, rfl, isI, New.same _⟩⟩
              refine stepsCons rfl ?_ ?_
              · intro Q f' w' ρ S ho hT hS hB
                obtain ⟨hv31, hr31⟩ := (hT 31 117 rfl rfl : (Is (.bool false)) (f' 117) (ρ 31))
                obtain ⟨hv32, hr32⟩ := (hT 32 118 rfl rfl : (Is (.int .i64 0)) (f' 118) (ρ 32))
                obtain hS := hS.flat2 hr31 hr32
                exact .inl ⟨want_on (e := 117) rfl rfl rfl hv31, obin (u := .int .i64 0) (v := .int .i64 0) (z := .bool false) rfl rfl (ev (v := .int .i64 0) rfl hv32) (evc (v := .int .i64 0)) (bin_neq (by decide)) ⟨_, _, rfl, isI, New.same _⟩⟩
              refine stepsCons rfl ?_ ?_
              · intro Q f' w' ρ S ho hT hS hB
                obtain ⟨hv22, hr22⟩ := (hT 22 108 rfl rfl : (Is (.bool true)) (f' 108) (ρ 22))
                obtain ⟨hv31, hr31⟩ := (hT 31 117 rfl rfl : (Is (.bool false)) (f' 117) (ρ 31))
                obtain ⟨hv33, hr33⟩ := (hT 33 119 rfl rfl : (Is (.bool false)) (f' 119) (ρ 33))
                obtain hS := hS.flat3 hr22 hr31 hr33
                exact .inl ⟨want_on (e := 108) rfl rfl rfl hv22, opick (b := false) (v := .bool false) rfl rfl (ev (v := .bool false) rfl hv31) (ev (v := .bool false) rfl hv33) ⟨_, _, rfl, isI, New.same _⟩⟩
              refine stepsCons rfl ?_ ?_
              · intro Q f' w' ρ S ho hT hS hB
                obtain ⟨hv22, hr22⟩ := (hT 22 108 rfl rfl : (Is (.bool true)) (f' 108) (ρ 22))
                obtain ⟨hv34, hr34⟩ := (hT 34 120 rfl rfl : (Is (.bool false)) (f' 120) (ρ 34))
                obtain hS := hS.flat2 hr22 hr34
                exact .inl ⟨want_on (e := 108) rfl rfl rfl hv22, omove (v := .bool false) rfl rfl (ev (v := .bool false) rfl hv34) ⟨_, _, rfl, isI, New.same _⟩⟩
              refine stepsCons rfl ?_ ?_
              · intro Q f' w' ρ S ho hT hS hB
                obtain ⟨hv35, hr35⟩ := (hT 35 121 rfl rfl : (Is (.bool false)) (f' 121) (ρ 35))
                obtain hS := hS.flat1 hr35
                exact .inl ⟨want_on (e := 121) rfl rfl rfl hv35, oload (vs := [.bool (ng z8), .slice p8 n8 c8]) aggZ hS 8 rfl rfl (ev rfl (ho 17 rfl)) rfl rfl rfl ⟨_, _, rfl, isI, New.same _⟩⟩
              refine stepsCons rfl ?_ ?_
              · intro Q f' w' ρ S ho hT hS hB
                obtain ⟨hv35, hr35⟩ := (hT 35 121 rfl rfl : (Is (.bool false)) (f' 121) (ρ 35))
                obtain hS := hS.flat1 hr35
                exact .inl ⟨want_on (e := 121) rfl rfl rfl hv35, oload (vs := [.bool bA, .slice qA nA kA, .bool bB, .slice qB nB kB]) aggR hS 17 rfl rfl (ev rfl (ho 7 rfl)) rfl rfl rfl ⟨_, _, rfl, isI, New.same _⟩⟩
              refine stepsCons rfl ?_ ?_
              · intro Q f' w' ρ S ho hT hS hB
                obtain ⟨hv35, hr35⟩ := (hT 35 121 rfl rfl : (Is (.bool false)) (f' 121) (ρ 35))
                obtain ⟨hv37, hr37⟩ := (hT 37 123 rfl rfl : (Is (.agg #[.bool bA, .slice qA nA kA, .bool bB, .slice qB nB kB])) (f' 123) (ρ 37))
                obtain hS := hS.flat2 hr35 hr37
                refine .inl ⟨want_on (e := 121) rfl rfl rfl hv35, ocall rfl rfl Try.call49 rfl (wsfloor ((hzA.at hS).mono (by omega)) ((hzB.at hS).mono (by omega)) (hy) hz18) (args1 (ev rfl hv37)) ?_⟩
                rintro _ w9 ⟨_, _, rfl, hTT, hN⟩
                exact ⟨_, rfl, _, _, rfl, hTT, hN⟩
              refine stepsCons rfl ?_ ?_
              · intro Q f' w' ρ S ho hT hS hB
                obtain ⟨hv35, hr35⟩ := (hT 35 121 rfl rfl : (Is (.bool false)) (f' 121) (ρ 35))
                obtain ⟨hv36, hr36⟩ := (hT 36 122 rfl rfl : (Is (.agg #[.bool (ng z8), .slice p8 n8 c8])) (f' 122) (ρ 36))
                obtain ⟨p18, n18, c18, hv38, hr38⟩ := (hT 38 124 rfl rfl : (Zt z18) (f' 124) (ρ 38))
                obtain hS := hS.flat3 hr35 hr36 hr38
                refine .inl ⟨want_on (e := 121) rfl rfl rfl hv35, ocall rfl rfl Try.call22 rfl (wqsame (x := z8) (y := z18) (hS.sl 9 rfl) (hS.sl 22 rfl) ((hz8.out.symm).trans (hz18.out.symm).symm)) (args2 (ev rfl hv36) (ev rfl hv38)) ?_⟩
                rintro _ w9 ⟨_, _, rfl, hTT, hN⟩
                exact ⟨_, rfl, _, _, rfl, hTT, hN⟩
              refine stepsCons rfl ?_ ?_
              · intro Q f' w' ρ S ho hT hS hB
                obtain ⟨hv35, hr35⟩ := (hT 35 121 rfl rfl : (Is (.bool false)) (f' 121) (ρ 35))
                obtain ⟨hv39, hr39⟩ := (hT 39 125 rfl rfl : (Is (.bool true)) (f' 125) (ρ 39))
                obtain hS := hS.flat2 hr35 hr39
                exact .inl ⟨want_on (e := 121) rfl rfl rfl hv35, onot (b := true) rfl rfl (ev (v := .bool true) rfl hv39) ⟨_, _, rfl, isI, New.same _⟩⟩
              refine stepsCons rfl ?_ ?_
              · intro Q f' w' ρ S ho hT hS hB
                obtain ⟨hv22, hr22⟩ := (hT 22 108 rfl rfl : (Is (.bool true)) (f' 108) (ρ 22))
                obtain ⟨hv35, hr35⟩ := (hT 35 121 rfl rfl : (Is (.bool false)) (f' 121) (ρ 35))
                obtain ⟨hv40, hr40⟩ := (hT 40 126 rfl rfl : (Is (.bool false)) (f' 126) (ρ 40))
                obtain hS := hS.flat3 hr22 hr35 hr40
                exact .inl ⟨want_on (e := 108) rfl rfl rfl hv22, opick (b := false) (v := .bool false) rfl rfl (ev (v := .bool false) rfl hv35) (ev (v := .bool false) rfl hv40) ⟨_, _, rfl, isI, New.same _⟩⟩
              refine stepsCons rfl ?_ ?_
              · intro Q f' w' ρ S ho hT hS hB
                obtain ⟨hv20, hr20⟩ := (hT 20 106 rfl rfl : (Is (.bool false)) (f' 106) (ρ 20))
                obtain ⟨hv22, hr22⟩ := (hT 22 108 rfl rfl : (Is (.bool true)) (f' 108) (ρ 22))
                obtain ⟨hv41, hr41⟩ := (hT 41 127 rfl rfl : (Is (.bool false)) (f' 127) (ρ 41))
                obtain hS := hS.flat3 hr20 hr22 hr41
                exact .inl ⟨want_on (e := 106) rfl rfl rfl hv20, opick (b := true) (v := .bool false) rfl rfl (ev (v := .bool true) rfl hv22) (ev (v := .bool false) rfl hv41) ⟨_, _, rfl, isI, New.same _⟩⟩
              refine stepsCons rfl ?_ ?_
              · intro Q f' w' ρ S ho hT hS hB
                obtain ⟨hv20, hr20⟩ := (hT 20 106 rfl rfl : (Is (.bool false)) (f' 106) (ρ 20))
                obtain ⟨hv42, hr42⟩ := (hT 42 128 rfl rfl : (Is (.bool false)) (f' 128) (ρ 42))
                obtain hS := hS.flat2 hr20 hr42
                exact .inl ⟨want_none rfl, opick (b := false) (v := .bool false) rfl rfl (ev (v := .bool false) rfl hv20) (ev (v := .bool false) rfl hv42) ⟨_, _, rfl, isI, New.same _⟩⟩
              exact stepsNil
            ·
              intro vs ρ w26 f' hf hT hS
              obtain ⟨hv0, hr0⟩ := (hT 0 (by decide) : (Is (.bool true)) (vs 0) (ρ 0))
              obtain ⟨hv1, hr1⟩ := (hT 1 (by decide) : (Is (.bool false)) (vs 1) (ρ 1))
              obtain ⟨hv2, hr2⟩ := (hT 2 (by decide) : (Is (.bool false)) (vs 2) (ρ 2))
              obtain ⟨hv3, hr3⟩ := (hT 3 (by decide) : (Is undef) (vs 3) (ρ 3))
              obtain ⟨hv4, hr4⟩ := (hT 4 (by decide) : (Is undef) (vs 4) (ρ 4))
              obtain ⟨hv5, hr5⟩ := (hT 5 (by decide) : (Is undef) (vs 5) (ρ 5))
              obtain ⟨hv6, hr6⟩ := (hT 6 (by decide) : (Is undef) (vs 6) (ρ 6))
              obtain ⟨hv7, hr7⟩ := (hT 7 (by decide) : (Is undef) (vs 7) (ρ 7))
              obtain ⟨hv8, hr8⟩ := (hT 8 (by decide) : (Is undef) (vs 8) (ρ 8))
              obtain ⟨hv9, hr9⟩ := (hT 9 (by decide) : (Is undef) (vs 9) (ρ 9))
              obtain ⟨hv10, hr10⟩ := (hT 10 (by decide) : (Is undef) (vs 10) (ρ 10))
              obtain ⟨hv11, hr11⟩ := (hT 11 (by decide) : (Is undef) (vs 11) (ρ 11))
              obtain ⟨hv12, hr12⟩ := (hT 12 (by decide) : (Is undef) (vs 12) (ρ 12))
              obtain ⟨hv13, hr13⟩ := (hT 13 (by decide) : (Is undef) (vs 13) (ρ 13))
              obtain ⟨hv14, hr14⟩ := (hT 14 (by decide) : (Is undef) (vs 14) (ρ 14))
              obtain ⟨hv15, hr15⟩ := (hT 15 (by decide) : (Is undef) (vs 15) (ρ 15))
              obtain ⟨hv16, hr16⟩ := (hT 16 (by decide) : (Is undef) (vs 16) (ρ 16))
              obtain ⟨hv17, hr17⟩ := (hT 17 (by decide) : (Is undef) (vs 17) (ρ 17))
              obtain ⟨hv18, hr18⟩ := (hT 18 (by decide) : (Is undef) (vs 18) (ρ 18))
              obtain ⟨hv19, hr19⟩ := (hT 19 (by decide) : (Is (.bool false)) (vs 19) (ρ 19))
              obtain ⟨hv20, hr20⟩ := (hT 20 (by decide) : (Is (.bool false)) (vs 20) (ρ 20))
              obtain ⟨hv21, hr21⟩ := (hT 21 (by decide) : (Is (.bool true)) (vs 21) (ρ 21))
              obtain ⟨hv22, hr22⟩ := (hT 22 (by decide) : (Is (.bool true)) (vs 22) (ρ 22))
              obtain ⟨hv23, hr23⟩ := (hT 23 (by decide) : (Is (.int .i64 s7)) (vs 23) (ρ 23))
              obtain ⟨hv24, hr24⟩ := (hT 24 (by decide) : (Is (.agg #[.bool bA, .slice qA nA kA, .bool bB, .slice qB nB kB])) (vs 24) (ρ 24))
              obtain ⟨hv25, hr25⟩ := (hT 25 (by decide) : (Is (.int .i64 s17)) (vs 25) (ρ 25))
              obtain ⟨hv26, hr26⟩ := (hT 26 (by decide) : (Is (.bool false)) (vs 26) (ρ 26))
              obtain ⟨hv27, hr27⟩ := (hT 27 (by decide) : (Is (.bool false)) (vs 27) (ρ 27))
              obtain ⟨hv28, hr28⟩ := (hT 28 (by decide) : (Is (.int .i64 0)) (vs 28) (ρ 28))
              obtain ⟨hv29, hr29⟩ := (hT 29 (by decide) : (Is (.bool false)) (vs 29) (ρ 29))
              obtain ⟨hv30, hr30⟩ := (hT 30 (by decide) : (Is (.bool false)) (vs 30) (ρ 30))
              obtain ⟨hv31, hr31⟩ := (hT 31 (by decide) : (Is (.bool false)) (vs 31) (ρ 31))
              obtain ⟨hv32, hr32⟩ := (hT 32 (by decide) : (Is (.int .i64 0)) (vs 32) (ρ 32))
              obtain ⟨hv33, hr33⟩ := (hT 33 (by decide) : (Is (.bool false)) (vs 33) (ρ 33))
              obtain ⟨hv34, hr34⟩ := (hT 34 (by decide) : (Is (.bool false)) (vs 34) (ρ 34))
              obtain ⟨hv35, hr35⟩ := (hT 35 (by decide) : (Is (.bool false)) (vs 35) (ρ 35))
              obtain ⟨hv36, hr36⟩ := (hT 36 (by decide) : (Is (.agg #[.bool (ng z8), .slice p8 n8 c8])) (vs 36) (ρ 36))
              obtain ⟨hv37, hr37⟩ := (hT 37 (by decide) : (Is (.agg #[.bool bA, .slice qA nA kA, .bool bB, .slice qB nB kB])) (vs 37) (ρ 37))
              obtain ⟨p18, n18, c18, hv38, hr38⟩ := (hT 38 (by decide) : (Zt z18) (vs 38) (ρ 38))
              obtain ⟨hv39, hr39⟩ := (hT 39 (by decide) : (Is (.bool true)) (vs 39) (ρ 39))
              obtain ⟨hv40, hr40⟩ := (hT 40 (by decide) : (Is (.bool false)) (vs 40) (ρ 40))
              obtain ⟨hv41, hr41⟩ := (hT 41 (by decide) : (Is (.bool false)) (vs 41) (ρ 41))
              obtain ⟨hv42, hr42⟩ := (hT 42 (by decide) : (Is (.bool false)) (vs 42) (ρ 42))
              obtain ⟨hv43, hr43⟩ := (hT 43 (by decide) : (Is (.bool false)) (vs 43) (ρ 43))
              simp only [pool, if_true, hr0, hr1, hr2, hr3, hr4, hr5, hr6, hr7, hr8, hr9, hr10, hr11, hr12, hr13, hr14, hr15, hr16, hr17, hr18, hr19, hr20, hr21, hr22, hr23, hr24, hr25, hr26, hr27, hr28, hr29, hr30, hr31, hr32, hr33, hr34, hr35, hr36, hr37, hr38, hr39, hr40, hr41, hr42, hr43, List.nil_append, List.cons_append, List.append_nil] at hS
              simp only [layf, hv0, hv1, hv2, hv3, hv4, hv5, hv6, hv7, hv8, hv9, hv10, hv11, hv12, hv13, hv14, hv15, hv16, hv17, hv18, hv19, hv20, hv21, hv22, hv23, hv24, hv25, hv26, hv27, hv28, hv29, hv30, hv31, hv32, hv33, hv34, hv35, hv36, hv37, hv38, hv39, hv40, hv41, hv42, hv43] at hf
              subst hf; clear hT hv0 hv1 hv2 hv3 hv4 hv5 hv6 hv7 hv8 hv9 hv10 hv11 hv12 hv13 hv14 hv15 hv16 hv17 hv18 hv19 hv20 hv21 hv22 hv23 hv24 hv25 hv26 hv27 hv28 hv29 hv30 hv31 hv32 hv33 hv34 hv35 hv36 hv37 hv38 hv39 hv40 hv41 hv42 hv43 hr0 hr1 hr2 hr3 hr4 hr5 hr6 hr7 hr8 hr9 hr10 hr11 hr12 hr13 hr14 hr15 hr16 hr17 hr18 hr19 hr20 hr21 hr22 hr23 hr24 hr25 hr26 hr27 hr28 hr29 hr30 hr31 hr32 hr33 hr34 hr35 hr36 hr37 hr38 hr39 hr40 hr41 hr42 hr43
              refine wdone rfl ?_
              refine thenN ?_
              refine wF (ev (v := .bool false) rfl rfl) ?_
              refine wskip ?_
              refine thenN ?_
              refine wseq ?_
              refine wseq ?_
              refine wreg ?_
              refine wl rfl (omove (v := .bool false) rfl rfl (ev (v := .bool false) rfl rfl) ?_)
              refine wl rfl (onot (b := false) rfl rfl (ev (v := .bool false) rfl rfl) ?_)
              refine wnil ?_
              refine thenN ?_
              refine wT (ev (v := .bool true) rfl rfl) ?_
              refine wseq ?_
              refine wreg ?_
              refine wl rfl (omove (v := .int .i64 0) rfl rfl (ev (v := .int .i64 0) rfl rfl) ?_)
              refine wl rfl (obin (u := .int .i64 0) (v := .int .i64 0) (z := .bool true) rfl rfl (ev (v := .int .i64 0) rfl rfl) (evc (v := .int .i64 0)) (bin_eql (by decide)) ?_)
              refine wl rfl (omove (v := .bool true) rfl rfl (ev (v := .bool true) rfl rfl) ?_)
              refine wlOn (e := 134) rfl rfl rfl rfl (omove (v := .int .i64 6) rfl rfl (ev (v := .int .i64 6) rfl rfl) ?_)
              refine wlOn (e := 134) rfl rfl rfl rfl (obin (u := .int .i64 6) (v := .int .i64 6) (z := .bool true) rfl rfl (ev (v := .int .i64 6) rfl rfl) (evc (v := .int .i64 6)) (bin_eql (by decide)) ?_)
              refine wl rfl (opick (b := true) (v := .bool true) rfl rfl (ev (v := .bool true) rfl rfl) (ev (v := .bool true) rfl rfl) ?_)
              refine wl rfl (omove (v := .bool true) rfl rfl (ev (v := .bool true) rfl rfl) ?_)
              refine wlOn (e := 138) rfl rfl rfl rfl (ocall rfl rfl Try.call15 rfl (wllives5) (args0 ) ?_)
              rintro _ w27 ⟨_, _, rfl, ⟨rfl, rfl⟩, hN⟩
              refine ⟨_, rfl, ?_⟩
              replace hS := hS.news hN; clear hN
              refine wl rfl (opick (b := true) (v := .bool true) rfl rfl (ev (v := .bool true) rfl rfl) (ev (v := .bool true) rfl rfl) ?_)
              refine wl rfl (oassign (v := .bool true) rfl rfl (ev (v := .bool true) rfl rfl) ?_)
              refine wnil ?_
              refine thenN ?_
              refine wleave ?_
              refine thenR ?_
              refine wret1 Try.results7 (tellT (v := .bool true) rfl rfl) ?_
              exact ⟨_, _, rfl, isI, hS.new0⟩
    ·
      refine wstage 6 [21, 22, 23, 24, 7, 8] [[], [0], [], [2, 0, 1], [], []] [[], [], [], [], [], []] [] [] (fun i9 => ([fun _ => Is (.agg #[.bool bA, .slice qA nA kA, .bool bB, .slice qB nB kB]), fun _ => Is (.agg #[.bool bA, .slice qA nA kA, .bool bB, .slice qB nB kB]), fun _ => Is (.agg #[.bool bC, .slice qC nC kC, .bool bD, .slice qD nD kD]), fun _ => Is (.agg #[.bool bC, .slice qC nC kC, .bool bD, .slice qD nD kD]), fun _ => Ptr [.bool false, .slice none 0 0, .bool false, .slice none 0 0] 27, fun _ => Ptr [.bool false, .slice none 0 0, .bool false, .slice none 0 0] 27] : List (List Value → Tell)).getD i9 (fun _ _ _ => False)) (heldNil) (fun d _ _ _ _ h => (by cases d <;> exact h)) (by kernel_rfl) (by kernel_rfl) (by kernel_rfl) hS ?_ ?_
      ·
        refine stepsCons rfl ?_ ?_
        · intro Q f' w' ρ S ho hT hS hB
          exact .inl ⟨want_none rfl, oload (vs := [.bool bA, .slice qA nA kA, .bool bB, .slice qB nB kB]) aggR hS 1 rfl rfl (ev rfl (ho 3 rfl)) rfl rfl rfl ⟨_, _, rfl, isI, New.same _⟩⟩
        refine stepsCons rfl ?_ ?_
        · intro Q f' w' ρ S ho hT hS hB
          obtain ⟨hv0, hr0⟩ := (hT 0 21 rfl rfl : (Is (.agg #[.bool bA, .slice qA nA kA, .bool bB, .slice qB nB kB])) (f' 21) (ρ 0))
          obtain hS := hS.flat1 hr0
          refine .inl ⟨want_none rfl, ocall rfl rfl Try.call27 rfl (wlsome ((hzB.at hS).mono (by omega)) (hy)) (args1 (ev rfl hv0)) ?_⟩
          rintro _ w9 ⟨_, _, rfl, hTT, hN⟩
          exact ⟨_, rfl, _, _, rfl, hTT, hN⟩
        refine stepsCons rfl ?_ ?_
        · intro Q f' w' ρ S ho hT hS hB
          exact .inl ⟨want_none rfl, oload (vs := [.bool bC, .slice qC nC kC, .bool bD, .slice qD nD kD]) aggR hS 0 rfl rfl (ev rfl (ho 4 rfl)) rfl rfl rfl ⟨_, _, rfl, isI, New.same _⟩⟩
        refine stepsCons rfl ?_ ?_
        · intro Q f' w' ρ S ho hT hS hB
          obtain ⟨hv2, hr2⟩ := (hT 2 23 rfl rfl : (Is (.agg #[.bool bC, .slice qC nC kC, .bool bD, .slice qD nD kD])) (f' 23) (ρ 2))
          obtain hS := hS.flat1 hr2
          refine .inl ⟨want_none rfl, ocall rfl rfl Try.call27 rfl (wlsome ((hzD.at hS).mono (by omega)) (hv)) (args1 (ev rfl hv2)) ?_⟩
          rintro _ w9 ⟨_, _, rfl, hTT, hN⟩
          exact ⟨_, rfl, _, _, rfl, hTT, hN⟩
        refine stepsCons rfl ?_ ?_
        · intro Q f' w' ρ S ho hT hS hB
          exact .inl ⟨want_none rfl, oallocN [.bool false, .slice none 0 0, .bool false, .slice none 0 0] rfl rfl Try.zeroValue27 rfl ⟨_, _, rfl, ptrI, New.blk _ _ _⟩⟩
        refine stepsCons rfl ?_ ?_
        · intro Q f' w' ρ S ho hT hS hB
          exact .inl ⟨want_none rfl, oallocN [.bool false, .slice none 0 0, .bool false, .slice none 0 0] rfl rfl Try.zeroValue27 rfl ⟨_, _, rfl, ptrI, New.blk _ _ _⟩⟩
        exact stepsNil
      ·
        intro vs ρ w7 f' hf hT hS
        obtain ⟨hv0, hr0⟩ := (hT 0 (by decide) : (Is (.agg #[.bool bA, .slice qA nA kA, .bool bB, .slice qB nB kB])) (vs 0) (ρ 0))
        obtain ⟨hv1, hr1⟩ := (hT 1 (by decide) : (Is (.agg #[.bool bA, .slice qA nA kA, .bool bB, .slice qB nB kB])) (vs 1) (ρ 1))
        obtain ⟨hv2, hr2⟩ := (hT 2 (by decide) : (Is (.agg #[.bool bC, .slice qC nC kC, .bool bD, .slice qD nD kD])) (vs 2) (ρ 2))
        obtain ⟨hv3, hr3⟩ := (hT 3 (by decide) : (Is (.agg #[.bool bC, .slice qC nC kC, .bool bD, .slice qD nD kD])) (vs 3) (ρ 3))
        obtain ⟨g5, hv4, hr4⟩ := (hT 4 (by decide) : (Ptr [.bool false, .slice none 0 0, .bool false, .slice none 0 0] 27) (vs 4) (ρ 4))
        obtain ⟨g6, hv5, hr5⟩ := (hT 5 (by decide) : (Ptr [.bool false, .slice none 0 0, .bool false, .slice none 0 0] 27) (vs 5) (ρ 5))
        simp only [pool, if_true, hr0, hr1, hr2, hr3, hr4, hr5, List.nil_append, List.cons_append, List.append_nil] at hS
        simp only [layf, hv0, hv1, hv2, hv3, hv4, hv5] at hf
        subst hf; clear hT hv0 hv1 hv2 hv3 hv4 hv5 hr0 hr1 hr2 hr3 hr4 hr5
        refine wlate 6 rfl (by kernel_rfl) (ostore [.bool bA, .slice qA nA kA, .bool bB, .slice qB nB kB] [.bool bA, .slice qA nA kA, .bool bB, .slice qB nB kB] Try.sizeOf27 hS 1 rfl rfl (ev rfl rfl) (ev (v := .agg #[.bool bA, .slice qA nA kA, .bool bB, .slice qB nB kB]) rfl rfl) rfl rfl rfl rfl rfl rfl ?_)
        clear hS; intro w8 hS
        refine ⟨heldNil, ?_⟩
        refine wlate 7 rfl (by kernel_rfl) (ostore [.bool bC, .slice qC nC kC, .bool bD, .slice qD nD kD] [.bool bC, .slice qC nC kC, .bool bD, .slice qD nD kD] Try.sizeOf27 hS 0 rfl rfl (ev rfl rfl) (ev (v := .agg #[.bool bC, .slice qC nC kC, .bool bD, .slice qD nD kD]) rfl rfl) rfl rfl rfl rfl rfl rfl ?_)
        clear hS; intro w9 hS
        refine ⟨heldNil, ?_⟩
        refine wdone rfl ?_
        refine thenN ?_
        refine wseq ?_
        refine wreg ?_
        refine wl rfl (ofieldAddr (g := g1) (off := 0) 0 rfl rfl (ev (v := .pointer (some ⟨g1, 0, none⟩)) rfl rfl) Try.runUnderlying27 rfl Try.sizeOf25 rfl ?_)
        refine wl rfl (oload (vs := [.bool bA, .slice qA nA kA]) aggZ hS 3 rfl rfl (ev rfl rfl) rfl rfl rfl ?_)
        refine wl rfl (ofieldAddr (g := g1) (off := 0) 2 rfl rfl (ev (v := .pointer (some ⟨g1, 0, none⟩)) rfl rfl) Try.runUnderlying27 rfl Try.sizeOf25 rfl ?_)
        refine wl rfl (oload (vs := [.bool bB, .slice qB nB kB]) aggZ hS 3 rfl rfl (ev rfl rfl) rfl rfl rfl ?_)
        obtain ⟨z1, hz1⟩ : ∃ z : Int, Hid (RN x y = z) := ⟨_, rfl⟩
        have hk1 : Wd z1 1048576 := Wd.rn hzA.wd hz1
        obtain ⟨z2, hz2⟩ : ∃ z : Int, Hid (RD x y = z) := ⟨_, rfl⟩
        have hk2 : Wd z2 1048576 := Wd.rd hzB.wd hz2
        refine wl rfl (ocall rfl rfl Try.call42 rfl (wrmake ((hzA.at hS).mono (by omega)) ((hzB.at hS).mono (by omega)) (hy) hz1 hz2) (args2 (ev rfl rfl) (ev rfl rfl)) ?_)
        rintro _ w10 ⟨_, _, rfl, ⟨p1, n1, c1, p2, n2, c2, rfl, rfl⟩, hN⟩
        refine ⟨_, rfl, ?_⟩
        replace hS := hS.news hN; clear hN
        refine wl rfl (omove (v := .tuple #[.agg #[.bool (ng z1), .slice p1 n1 c1, .bool (ng z2), .slice p2 n2 c2], .int .i64 0]) rfl rfl (ev (v := .tuple #[.agg #[.bool (ng z1), .slice p1 n1 c1, .bool (ng z2), .slice p2 n2 c2], .int .i64 0]) rfl rfl) ?_)
        refine wl rfl (oextract (vs := [.agg #[.bool (ng z1), .slice p1 n1 c1, .bool (ng z2), .slice p2 n2 c2], .int .i64 0]) (v := .agg #[.bool (ng z1), .slice p1 n1 c1, .bool (ng z2), .slice p2 n2 c2]) rfl rfl (ev (v := .tuple #[.agg #[.bool (ng z1), .slice p1 n1 c1, .bool (ng z2), .slice p2 n2 c2], .int .i64 0]) rfl rfl) rfl ?_)
        refine wl rfl (oextract (vs := [.agg #[.bool (ng z1), .slice p1 n1 c1, .bool (ng z2), .slice p2 n2 c2], .int .i64 0]) (v := .int .i64 0) rfl rfl (ev (v := .tuple #[.agg #[.bool (ng z1), .slice p1 n1 c1, .bool (ng z2), .slice p2 n2 c2], .int .i64 0]) rfl rfl) rfl ?_)
        refine wl rfl (oalloc [.bool false, .slice none 0 0, .bool false, .slice none 0 0] hS rfl rfl Try.zeroValue27 rfl ?_)
        clear hS; intro g11 w12 hS
        refine wl rfl (ostore [.bool (ng z1), .slice p1 n1 c1, .bool (ng z2), .slice p2 n2 c2] [.bool (ng z1), .slice p1 n1 c1, .bool (ng z2), .slice p2 n2 c2] Try.sizeOf27 hS 0 rfl rfl (ev rfl rfl) (ev (v := .agg #[.bool (ng z1), .slice p1 n1 c1, .bool (ng z2), .slice p2 n2 c2]) rfl rfl) rfl rfl rfl rfl rfl rfl ?_)
        clear hS; intro w13 hS
        refine wl rfl (oassign (v := .int .i64 0) rfl rfl (ev (v := .int .i64 0) rfl rfl) ?_)
        refine wnil ?_
        refine thenN ?_
        refine wseq ?_
        refine wreg ?_
        refine wl rfl (oload (vs := [.bool bA, .slice qA nA kA, .bool bB, .slice qB nB kB]) aggR hS 6 rfl rfl (ev rfl rfl) rfl rfl rfl ?_)
        obtain ⟨z3, hz3⟩ : ∃ z : Int, Hid (RN x y = z) := ⟨_, rfl⟩
        have hk3 : Wd z3 1048576 := Wd.rn hzA.wd hz3
        obtain ⟨z4, hz4⟩ : ∃ z : Int, Hid (RD x y = z) := ⟨_, rfl⟩
        have hk4 : Wd z4 1048576 := Wd.rd hzB.wd hz4
        refine wl rfl (ocall rfl rfl Try.call43 rfl ((wrnorm ((hzA.at hS).mono (by omega)) ((hzB.at hS).mono (by omega)) (hy) hz3 hz4)) (args1 (ev rfl rfl)) ?_)
        rintro _ w14 ⟨_, _, rfl, ⟨p3, n3, c3, p4, n4, c4, rfl, rfl⟩, hN⟩
        refine ⟨_, rfl, ?_⟩
        replace hS := hS.news hN; clear hN
        refine wl rfl (omove (v := .tuple #[.agg #[.bool (ng z3), .slice p3 n3 c3, .bool (ng z4), .slice p4 n4 c4], .int .i64 0]) rfl rfl (ev (v := .tuple #[.agg #[.bool (ng z3), .slice p3 n3 c3, .bool (ng z4), .slice p4 n4 c4], .int .i64 0]) rfl rfl) ?_)
        refine wl rfl (oextract (vs := [.agg #[.bool (ng z3), .slice p3 n3 c3, .bool (ng z4), .slice p4 n4 c4], .int .i64 0]) (v := .agg #[.bool (ng z3), .slice p3 n3 c3, .bool (ng z4), .slice p4 n4 c4]) rfl rfl (ev (v := .tuple #[.agg #[.bool (ng z3), .slice p3 n3 c3, .bool (ng z4), .slice p4 n4 c4], .int .i64 0]) rfl rfl) rfl ?_)
        refine wl rfl (oextract (vs := [.agg #[.bool (ng z3), .slice p3 n3 c3, .bool (ng z4), .slice p4 n4 c4], .int .i64 0]) (v := .int .i64 0) rfl rfl (ev (v := .tuple #[.agg #[.bool (ng z3), .slice p3 n3 c3, .bool (ng z4), .slice p4 n4 c4], .int .i64 0]) rfl rfl) rfl ?_)
        refine wl rfl (oalloc [.bool false, .slice none 0 0, .bool false, .slice none 0 0] hS rfl rfl Try.zeroValue27 rfl ?_)
        clear hS; intro g15 w16 hS
        refine wl rfl (ostore [.bool (ng z3), .slice p3 n3 c3, .bool (ng z4), .slice p4 n4 c4] [.bool (ng z3), .slice p3 n3 c3, .bool (ng z4), .slice p4 n4 c4] Try.sizeOf27 hS 0 rfl rfl (ev rfl rfl) (ev (v := .agg #[.bool (ng z3), .slice p3 n3 c3, .bool (ng z4), .slice p4 n4 c4]) rfl rfl) rfl rfl rfl rfl rfl rfl ?_)
        clear hS; intro w17 hS
        refine wl rfl (oassign (v := .int .i64 0) rfl rfl (ev (v := .int .i64 0) rfl rfl) ?_)
        refine wnil ?_
        refine thenN ?_
        refine wseq ?_
        refine wreg ?_
        refine wl rfl (oload (vs := [.bool bA, .slice qA nA kA, .bool bB, .slice qB nB kB]) aggR hS 9 rfl rfl (ev rfl rfl) rfl rfl rfl ?_)
        obtain ⟨s5, hs5⟩ : ∃ z : Int, Hid ((x : Int).sign * (y : Int).sign = z) := ⟨_, rfl⟩
        refine wl rfl (ocall rfl rfl Try.call44 rfl (wrsign ((hzA.at hS).mono (by omega)) ((hzB.at hS).mono (by omega)) (hy) hs5) (args1 (ev rfl rfl)) ?_)
        rintro _ w18 ⟨_, _, rfl, ⟨rfl, rfl⟩, hN⟩
        refine ⟨_, rfl, ?_⟩
        replace hS := hS.news hN; clear hN
        refine wl rfl (omove (v := .tuple #[.int .i64 s5, .int .i64 0]) rfl rfl (ev (v := .tuple #[.int .i64 s5, .int .i64 0]) rfl rfl) ?_)
        refine wl rfl (oextract (vs := [.int .i64 s5, .int .i64 0]) (v := .int .i64 s5) rfl rfl (ev (v := .tuple #[.int .i64 s5, .int .i64 0]) rfl rfl) rfl ?_)
        refine wl rfl (oextract (vs := [.int .i64 s5, .int .i64 0]) (v := .int .i64 0) rfl rfl (ev (v := .tuple #[.int .i64 s5, .int .i64 0]) rfl rfl) rfl ?_)
        refine wl rfl (oassign (v := .int .i64 s5) rfl rfl (ev (v := .int .i64 s5) rfl rfl) ?_)
        refine wl rfl (oassign (v := .int .i64 0) rfl rfl (ev (v := .int .i64 0) rfl rfl) ?_)
        refine wnil ?_
        refine thenN ?_
        refine wseq ?_
        refine wreg ?_
        refine wl rfl (oload (vs := [.bool bA, .slice qA nA kA, .bool bB, .slice qB nB kB]) aggR hS 9 rfl rfl (ev rfl rfl) rfl rfl rfl ?_)
        refine wl rfl (oload (vs := [.bool bC, .slice qC nC kC, .bool bD, .slice qD nD kD]) aggR hS 8 rfl rfl (ev rfl rfl) rfl rfl rfl ?_)
        obtain ⟨s6, hs6⟩ : ∃ z : Int, Hid (cmpQ x y u v = z) := ⟨_, rfl⟩
        refine wl rfl (ocall rfl rfl Try.call45 rfl (wrcmp ((hzA.at hS).mono (by omega)) ((hzB.at hS).mono (by omega)) ((hzC.at hS).mono (by omega)) ((hzD.at hS).mono (by omega)) (hy) (hv) hs6) (args2 (ev rfl rfl) (ev rfl rfl)) ?_)
        rintro _ w19 ⟨_, _, rfl, ⟨rfl, rfl⟩, hN⟩
        refine ⟨_, rfl, ?_⟩
        replace hS := hS.news hN; clear hN
        refine wl rfl (omove (v := .tuple #[.int .i64 s6, .int .i64 0]) rfl rfl (ev (v := .tuple #[.int .i64 s6, .int .i64 0]) rfl rfl) ?_)
        refine wl rfl (oextract (vs := [.int .i64 s6, .int .i64 0]) (v := .int .i64 s6) rfl rfl (ev (v := .tuple #[.int .i64 s6, .int .i64 0]) rfl rfl) rfl ?_)
        refine wl rfl (oextract (vs := [.int .i64 s6, .int .i64 0]) (v := .int .i64 0) rfl rfl (ev (v := .tuple #[.int .i64 s6, .int .i64 0]) rfl rfl) rfl ?_)
        refine wl rfl (oassign (v := .int .i64 s6) rfl rfl (ev (v := .int .i64 s6) rfl rfl) ?_)
        refine wl rfl (oassign (v := .int .i64 0) rfl rfl (ev (v := .int .i64 0) rfl rfl) ?_)
        refine wnil ?_
        refine thenN ?_
        refine wseq ?_
        refine wreg ?_
        refine wl rfl (oload (vs := [.bool bA, .slice qA nA kA, .bool bB, .slice qB nB kB]) aggR hS 9 rfl rfl (ev rfl rfl) rfl rfl rfl ?_)
        obtain ⟨z7, hz7⟩ : ∃ z : Int, Hid (RN x y / RD x y = z) := ⟨_, rfl⟩
        have hk7 : Wd z7 1048576 := Wd.ediv (Wd.rn hzA.wd rfl) hz7
        refine wl rfl (ocall rfl rfl Try.call46 rfl (wrfloor ((hzA.at hS).mono (by omega)) ((hzB.at hS).mono (by omega)) (hy) hz7) (args1 (ev rfl rfl)) ?_)
        rintro _ w20 ⟨_, _, rfl, ⟨p7, n7, c7, rfl, rfl⟩, hN⟩
        refine ⟨_, rfl, ?_⟩
        replace hS := hS.news hN; clear hN
        refine wl rfl (omove (v := .tuple #[.agg #[.bool (ng z7), .slice p7 n7 c7], .int .i64 0]) rfl rfl (ev (v := .tuple #[.agg #[.bool (ng z7), .slice p7 n7 c7], .int .i64 0]) rfl rfl) ?_)
        refine wl rfl (oextract (vs := [.agg #[.bool (ng z7), .slice p7 n7 c7], .int .i64 0]) (v := .agg #[.bool (ng z7), .slice p7 n7 c7]) rfl rfl (ev (v := .tuple #[.agg #[.bool (ng z7), .slice p7 n7 c7], .int .i64 0]) rfl rfl) rfl ?_)
        refine wl rfl (oextract (vs := [.agg #[.bool (ng z7), .slice p7 n7 c7], .int .i64 0]) (v := .int .i64 0) rfl rfl (ev (v := .tuple #[.agg #[.bool (ng z7), .slice p7 n7 c7], .int .i64 0]) rfl rfl) rfl ?_)
        refine wl rfl (oalloc [.bool false, .slice none 0 0] hS rfl rfl Try.zeroValue25 rfl ?_)
        clear hS; intro g21 w22 hS
        refine wl rfl (ostore [.bool (ng z7), .slice p7 n7 c7] [.bool (ng z7), .slice p7 n7 c7] Try.sizeOf25 hS 0 rfl rfl (ev rfl rfl) (ev (v := .agg #[.bool (ng z7), .slice p7 n7 c7]) rfl rfl) rfl rfl rfl rfl rfl rfl ?_)
        clear hS; intro w23 hS
        refine wl rfl (oassign (v := .int .i64 0) rfl rfl (ev (v := .int .i64 0) rfl rfl) ?_)
        refine wnil ?_
        refine thenN ?_
        refine wseq ?_
        refine wstage 10 [54, 55, 56, 57, 58, 59, 60, 61, 19, 20] [[], [0], [], [2, 0, 1], [3, 0, 1, 2], [4, 0, 1, 2, 3], [4, 5, 0, 1, 2, 3], [4, 6, 0, 1, 2, 3, 5], [1, 0, 2, 3, 4, 5, 6], [7, 0, 1, 2, 3, 4, 5, 6, 8]] [[], [], [], [], [], [], [], [], [], []] [] [] (fun i9 => ([fun _ => Is (.agg #[.bool bA, .slice qA nA kA, .bool bB, .slice qB nB kB]), fun _ => Is (.bool true), fun _ => Is (.agg #[.bool bA, .slice qA nA kA, .bool bB, .slice qB nB kB]), fun _ => Is (.bool true), fun _ => Is (.bool true), fun _ => Is (.agg #[.bool bC, .slice qC nC kC, .bool bD, .slice qD nD kD]), fun _ => Is (.bool true), fun _ => Is (.bool true), fun _ => Is (.bool true), fun _ => Is (.bool true)] : List (List Value → Tell)).getD i9 (fun _ _ _ => False)) (heldNil) (fun d _ _ _ _ h => (by cases d <;> exact h)) (by kernel_rfl) (by kernel_rfl) (by kernel_rfl) hS ?_ ?_
        ·
          refine stepsCons rfl ?_ ?_
          · intro Q f' w' ρ S ho hT hS hB
            exact .inl ⟨want_none rfl, oload (vs := [.bool bA, .slice qA nA kA, .bool bB, .slice qB nB kB]) aggR hS 11 rfl rfl (ev rfl (ho 3 rfl)) rfl rfl rfl ⟨_, _, rfl, isI, New.same _⟩⟩
          refine stepsCons rfl ?_ ?_
          · intro Q f' w' ρ S ho hT hS hB
            obtain ⟨hv0, hr0⟩ := (hT 0 54 rfl rfl : (Is (.agg #[.bool bA, .slice qA nA kA, .bool bB, .slice qB nB kB])) (f' 54) (ρ 0))
            obtain hS := hS.flat1 hr0
            refine .inl ⟨want_none rfl, ocall rfl rfl Try.call11 rfl (wsmay ((hzB.at hS).mono (by omega)) (hy)) (args1 (ev rfl hv0)) ?_⟩
            rintro _ w9 ⟨_, _, rfl, hTT, hN⟩
            exact ⟨_, rfl, _, _, rfl, hTT, hN⟩
          refine stepsCons rfl ?_ ?_
          · intro Q f' w' ρ S ho hT hS hB
            exact .inl ⟨want_none rfl, oload (vs := [.bool bA, .slice qA nA kA, .bool bB, .slice qB nB kB]) aggR hS 11 rfl rfl (ev rfl (ho 3 rfl)) rfl rfl rfl ⟨_, _, rfl, isI, New.same _⟩⟩
          refine stepsCons rfl ?_ ?_
          · intro Q f' w' ρ S ho hT hS hB
            obtain ⟨hv2, hr2⟩ := (hT 2 56 rfl rfl : (Is (.agg #[.bool bA, .slice qA nA kA, .bool bB, .slice qB nB kB])) (f' 56) (ρ 2))
            obtain hS := hS.flat1 hr2
            refine .inl ⟨want_none rfl, ocall rfl rfl Try.call11 rfl (wsmay ((hzB.at hS).mono (by omega)) (hy)) (args1 (ev rfl hv2)) ?_⟩
            rintro _ w9 ⟨_, _, rfl, hTT, hN⟩
            exact ⟨_, rfl, _, _, rfl, hTT, hN⟩
          refine stepsCons rfl ?_ ?_
          · intro Q f' w' ρ S ho hT hS hB
            obtain ⟨hv3, hr3⟩ := (hT 3 57 rfl rfl : (Is (.bool true)) (f' 57) (ρ 3))
            obtain hS := hS.flat1 hr3
            exact .inl ⟨want_none rfl, omove (v := .bool true) rfl rfl (ev (v := .bool true) rfl hv3) ⟨_, _, rfl, isI, New.same _⟩⟩
          refine stepsCons rfl ?_ ?_
          · intro Q f' w' ρ S ho hT hS hB
            obtain ⟨hv4, hr4⟩ := (hT 4 58 rfl rfl : (Is (.bool true)) (f' 58) (ρ 4))
            obtain hS := hS.flat1 hr4
            exact .inl ⟨want_on (e := 58) rfl rfl rfl hv4, oload (vs := [.bool bC, .slice qC nC kC, .bool bD, .slice qD nD kD]) aggR hS 10 rfl rfl (ev rfl (ho 4 rfl)) rfl rfl rfl ⟨_, _, rfl, isI, New.same _⟩⟩
          refine stepsCons rfl ?_ ?_
          · intro Q f' w' ρ S ho hT hS hB
            obtain ⟨hv4, hr4⟩ := (hT 4 58 rfl rfl : (Is (.bool true)) (f' 58) (ρ 4))
            obtain ⟨hv5, hr5⟩ := (hT 5 59 rfl rfl : (Is (.agg #[.bool bC, .slice qC nC kC, .bool bD, .slice qD nD kD])) (f' 59) (ρ 5))
            obtain hS := hS.flat2 hr4 hr5
            refine .inl ⟨want_on (e := 58) rfl rfl rfl hv4, ocall rfl rfl Try.call11 rfl (wsmay ((hzD.at hS).mono (by omega)) (hv)) (args1 (ev rfl hv5)) ?_⟩
            rintro _ w9 ⟨_, _, rfl, hTT, hN⟩
            exact ⟨_, rfl, _, _, rfl, hTT, hN⟩
          refine stepsCons rfl ?_ ?_
          · intro Q f' w' ρ S ho hT hS hB
            obtain ⟨hv4, hr4⟩ := (hT 4 58 rfl rfl : (Is (.bool true)) (f' 58) (ρ 4))
            obtain ⟨hv6, hr6⟩ := (hT 6 60 rfl rfl : (Is (.bool true)) (f' 60) (ρ 6))
            obtain hS := hS.flat2 hr4 hr6
            exact .inl ⟨want_none rfl, opick (b := true) (v := .bool true) rfl rfl (ev (v := .bool true) rfl hv4) (ev (v := .bool true) rfl hv6) ⟨_, _, rfl, isI, New.same _⟩⟩
          refine stepsCons rfl ?_ ?_
          · intro Q f' w' ρ S ho hT hS hB
            obtain ⟨hv1, hr1⟩ := (hT 1 55 rfl rfl : (Is (.bool true)) (f' 55) (ρ 1))
            obtain hS := hS.flat1 hr1
            exact .inl ⟨want_none rfl, oassign (v := .bool true) rfl rfl (ev (v := .bool true) rfl hv1) ⟨_, _, rfl, isI, New.same _⟩⟩
          refine stepsCons rfl ?_ ?_
          · intro Q f' w' ρ S ho hT hS hB
            obtain ⟨hv7, hr7⟩ := (hT 7 61 rfl rfl : (Is (.bool true)) (f' 61) (ρ 7))
            obtain hS := hS.flat1 hr7
            exact .inl ⟨want_none rfl, oassign (v := .bool true) rfl rfl (ev (v := .bool true) rfl hv7) ⟨_, _, rfl, isI, New.same _⟩⟩
          exact stepsNil
        ·
          intro vs ρ w24 f' hf hT hS
          obtain ⟨hv0, hr0⟩ := (hT 0 (by decide) : (Is (.agg #[.bool bA, .slice qA nA kA, .bool bB, .slice qB nB kB])) (vs 0) (ρ 0))
          obtain ⟨hv1, hr1⟩ := (hT 1 (by decide) : (Is (.bool true)) (vs 1) (ρ 1))
          obtain ⟨hv2, hr2⟩ := (hT 2 (by decide) : (Is (.agg #[.bool bA, .slice qA nA kA, .bool bB, .slice qB nB kB])) (vs 2) (ρ 2))
          obtain ⟨hv3, hr3⟩ := (hT 3 (by decide) : (Is (.bool true)) (vs 3) (ρ 3))
          obtain ⟨hv4, hr4⟩ := (hT 4 (by decide) : (Is (.bool true)) (vs 4) (ρ 4))
          obtain ⟨hv5, hr5⟩ := (hT 5 (by decide) : (Is (.agg #[.bool bC, .slice qC nC kC, .bool bD, .slice qD nD kD])) (vs 5) (ρ 5))
          obtain ⟨hv6, hr6⟩ := (hT 6 (by decide) : (Is (.bool true)) (vs 6) (ρ 6))
          obtain ⟨hv7, hr7⟩ := (hT 7 (by decide) : (Is (.bool true)) (vs 7) (ρ 7))
          obtain ⟨hv8, hr8⟩ := (hT 8 (by decide) : (Is (.bool true)) (vs 8) (ρ 8))
          obtain ⟨hv9, hr9⟩ := (hT 9 (by decide) : (Is (.bool true)) (vs 9) (ρ 9))
          simp only [pool, if_true, hr0, hr1, hr2, hr3, hr4, hr5, hr6, hr7, hr8, hr9, List.nil_append, List.cons_append, List.append_nil] at hS
          simp only [layf, hv0, hv1, hv2, hv3, hv4, hv5, hv6, hv7, hv8, hv9] at hf
          subst hf; clear hT hv0 hv1 hv2 hv3 hv4 hv5 hv6 hv7 hv8 hv9 hr0 hr1 hr2 hr3 hr4 hr5 hr6 hr7 hr8 hr9
          refine wdone rfl ?_
          refine thenN ?_
          refine wseq ?_
          refine wseq ?_
          obtain ⟨z8, hz8⟩ : ∃ z : Int, Hid (RN x y = z) := ⟨_, rfl⟩
          have hk8 : Wd z8 1048576 := Wd.rn hzA.wd hz8
          obtain ⟨z9, hz9⟩ : ∃ z : Int, Hid (RD x y = z) := ⟨_, rfl⟩
          have hk9 : Wd z9 1048576 := Wd.rd hzB.wd hz9
          obtain ⟨z10, hz10⟩ : ∃ z : Int, Hid (RN x y = z) := ⟨_, rfl⟩
          have hk10 : Wd z10 1048576 := Wd.rn hzA.wd hz10
          obtain ⟨z11, hz11⟩ : ∃ z : Int, Hid (RD x y = z) := ⟨_, rfl⟩
          have hk11 : Wd z11 1048576 := Wd.rd hzB.wd hz11
          have hk12 : Wd nn 2 := Wd.i64 (h1) (h2)
          have hk13 : Wd 1 2 := Wd.i64 (by omega) (by omega)
          have hk14 : Wd nn 2 := Wd.i64 (h1) (h2)
          have hk15 : Wd 1 2 := Wd.i64 (by omega) (by omega)
          refine wstage 24 [62, 63, 64, 65, 66, 67, 68, 69, 70, 71, 72, 73, 74, 75, 76, 77, 78, 79, 80, 81, 82, 83, 84, 85] [[], [], [], [], [3], [0, 1, 2, 4, 3], [5, 0, 1, 2, 3, 4], [6, 0, 1, 2, 3, 4, 5], [7, 0, 1, 2, 3, 4, 5, 6], [7, 0, 1, 2, 3, 4, 5, 6], [7, 0, 1, 2, 3, 4, 5, 6], [7, 0, 1, 2, 3, 4, 5, 6], [7, 11, 0, 1, 2, 3, 4, 5, 6], [7, 8, 9, 10, 12, 0, 1, 2, 3, 4, 5, 6, 11], [7, 13, 0, 1, 2, 3, 4, 5, 6, 8, 9, 10, 11, 12], [7, 14, 0, 1, 2, 3, 4, 5, 6, 8, 9, 10, 11, 12, 13], [15, 0, 1, 2, 3, 4, 5, 6, 7, 8, 9, 10, 11, 12, 13, 14], [16, 0, 1, 2, 3, 4, 5, 6, 7, 8, 9, 10, 11, 12, 13, 14, 15], [16, 17, 0, 1, 2, 3, 4, 5, 6, 7, 8, 9, 10, 11, 12, 13, 14, 15], [16, 0, 1, 2, 3, 4, 5, 6, 7, 8, 9, 10, 11, 12, 13, 14, 15], [16, 19, 0, 1, 2, 3, 4, 5, 6, 7, 8, 9, 10, 11, 12, 13, 14, 15, 17, 18], [16, 18, 20, 0, 1, 2, 3, 4, 5, 6, 7, 8, 9, 10, 11, 12, 13, 14, 15, 17, 19], [16, 21, 0, 1, 2, 3, 4, 5, 6, 7, 8, 9, 10, 11, 12, 13, 14, 15, 17, 18, 19, 20], [16, 22, 0, 1, 2, 3, 4, 5, 6, 7, 8, 9, 10, 11, 12, 13, 14, 15, 17, 18, 19, 20, 21]] [[], [], [], [], [], [], [], [], [], [], [], [], [], [], [], [], [], [], [], [], [], [], [], []] [] [] (fun i9 => ([fun _ => Is (.bool true), fun _ => Is (.agg #[.bool (ng z1), .slice p1 n1 c1, .bool (ng z2), .slice p2 n2 c2]), fun _ => Is (.int .i64 0), fun _ => Is (.agg #[.bool bA, .slice qA nA kA, .bool bB, .slice qB nB kB]), fun _ => Rrt z8 z9, fun _ => Is (.bool true), fun _ => Is (.bool false), fun _ => Is (.bool false), fun _ => Is (.bool true), fun _ => Is (.agg #[.bool (ng z3), .slice p3 n3 c3, .bool (ng z4), .slice p4 n4 c4]), fun _ => Is (.int .i64 0), fun _ => Is (.agg #[.bool bA, .slice qA nA kA, .bool bB, .slice qB nB kB]), fun _ => Rrt z10 z11, fun _ => Is (.bool true), fun _ => Is (.bool false), fun _ => Is (.bool false), fun _ => Is (.bool false), fun _ => Is (.int .i64 nn), fun _ => Rrt nn 1, fun _ => Is (.int .i64 nn), fun _ => Rrt nn 1, fun _ => Is (.bool true), fun _ => Is (.bool false), fun _ => Is (.bool false)] : List (List Value → Tell)).getD i9 (fun _ _ _ => False)) (heldNil) (fun d _ _ _ _ h => (by cases d <;> exact h)) (by kernel_rfl) (by kernel_rfl) (by kernel_rfl) hS ?_ ?_
          ·
            refine stepsCons rfl ?_ ?_
            · intro Q f' w' ρ S ho hT hS hB
              exact .inl ⟨want_none rfl, omove (v := .bool true) rfl rfl (ev (v := .bool true) rfl (ho 19 rfl)) ⟨_, _, rfl, isI, New.same _⟩⟩
            refine stepsCons rfl ?_ ?_
            · intro Q f' w' ρ S ho hT hS hB
              exact .inl ⟨want_none rfl, oload (vs := [.bool (ng z1), .slice p1 n1 c1, .bool (ng z2), .slice p2 n2 c2]) aggR hS 5 rfl rfl (ev rfl (ho 9 rfl)) rfl rfl rfl ⟨_, _, rfl, isI, New.same _⟩⟩
            refine stepsCons rfl ?_ ?_
            · intro Q f' w' ρ S ho hT hS hB
              exact .inl ⟨want_none rfl, omove (v := .int .i64 0) rfl rfl (ev (v := .int .i64 0) rfl (ho 10 rfl)) ⟨_, _, rfl, isI, New.same _⟩⟩
            refine stepsCons rfl ?_ ?_
            · intro Q f' w' ρ S ho hT hS hB
              exact .inl ⟨want_none rfl, oload (vs := [.bool bA, .slice qA nA kA, .bool bB, .slice qB nB kB]) aggR hS 9 rfl rfl (ev rfl (ho 7 rfl)) rfl rfl rfl ⟨_, _, rfl, isI, New.same _⟩⟩
            refine stepsCons rfl ?_ ?_
            · intro Q f' w' ρ S ho hT hS hB
              obtain ⟨hv3, hr3⟩ := (hT 3 65 rfl rfl : (Is (.agg #[.bool bA, .slice qA nA kA, .bool bB, .slice qB nB kB])) (f' 65) (ρ 3))
              obtain hS := hS.flat1 hr3
              refine .inl ⟨want_none rfl, ocall rfl rfl Try.call37 rfl ((wsnorm ((hzA.at hS).mono (by omega)) ((hzB.at hS).mono (by omega)) (hy) hz8 hz9)) (args1 (ev rfl hv3)) ?_⟩
              rintro _ w9 ⟨_, _, rfl, hTT, hN⟩
              exact ⟨_, rfl, _, _, rfl, hTT, hN⟩
            refine stepsCons rfl ?_ ?_
            · intro Q f' w' ρ S ho hT hS hB
              obtain ⟨hv0, hr0⟩ := (hT 0 62 rfl rfl : (Is (.bool true)) (f' 62) (ρ 0))
              obtain ⟨hv1, hr1⟩ := (hT 1 63 rfl rfl : (Is (.agg #[.bool (ng z1), .slice p1 n1 c1, .bool (ng z2), .slice p2 n2 c2])) (f' 63) (ρ 1))
              obtain ⟨hv2, hr2⟩ := (hT 2 64 rfl rfl : (Is (.int .i64 0)) (f' 64) (ρ 2))
              obtain ⟨p8, n8, c8, p9, n9, c9, hv4, hr4⟩ := (hT 4 66 rfl rfl : (Rrt z8 z9) (f' 66) (ρ 4))
              obtain hS := hS.flat4 hr0 hr1 hr2 hr4
              refine .inl ⟨want_none rfl, ocall rfl rfl Try.call32 rfl (wltold (x := z1) (y := z2) (u := z8) (v := z9) (hS.slm 6 rfl) (hS.slm 7 rfl) (hS.slm 12 rfl) (hS.slm 13 rfl) ((hz1.out.symm).trans (hz8.out.symm).symm) ((hz2.out.symm).trans (hz9.out.symm).symm)) (args4 (ev rfl hv0) (ev rfl hv1) (ev rfl hv2) (ev rfl hv4)) ?_⟩
              rintro _ w9 ⟨_, _, rfl, hTT, hN⟩
              exact ⟨_, rfl, _, _, rfl, hTT, hN⟩
            refine stepsCons rfl ?_ ?_
            · intro Q f' w' ρ S ho hT hS hB
              obtain ⟨hv5, hr5⟩ := (hT 5 67 rfl rfl : (Is (.bool true)) (f' 67) (ρ 5))
              obtain hS := hS.flat1 hr5
              exact .inl ⟨want_none rfl, onot (b := true) rfl rfl (ev (v := .bool true) rfl hv5) ⟨_, _, rfl, isI, New.same _⟩⟩
            refine stepsCons rfl ?_ ?_
            · intro Q f' w' ρ S ho hT hS hB
              obtain ⟨hv6, hr6⟩ := (hT 6 68 rfl rfl : (Is (.bool false)) (f' 68) (ρ 6))
              obtain hS := hS.flat1 hr6
              exact .inl ⟨want_none rfl, omove (v := .bool false) rfl rfl (ev (v := .bool false) rfl hv6) ⟨_, _, rfl, isI, New.same _⟩⟩
            refine stepsCons rfl ?_ ?_
            · intro Q f' w' ρ S ho hT hS hB
              obtain ⟨hv7, hr7⟩ := (hT 7 69 rfl rfl : (Is (.bool false)) (f' 69) (ρ 7))
              obtain hS := hS.flat1 hr7
              exact .inl ⟨want_on (e := 69) rfl rfl rfl hv7, omove (v := .bool true) rfl rfl (ev (v := .bool true) rfl (ho 19 rfl)) ⟨_, _, rfl, isI, New.same _⟩⟩
            refine stepsCons rfl ?_ ?_
            · intro Q f' w' ρ S ho hT hS hB
              obtain ⟨hv7, hr7⟩ := (hT 7 69 rfl rfl : (Is (.bool false)) (f' 69) (ρ 7))
              obtain hS := hS.flat1 hr7
              exact .inl ⟨want_on (e := 69) rfl rfl rfl hv7, oload (vs := [.bool (ng z3), .slice p3 n3 c3, .bool (ng z4), .slice p4 n4 c4]) aggR hS 2 rfl rfl (ev rfl (ho 11 rfl)) rfl rfl rfl ⟨_, _, rfl, isI, New.same _⟩⟩
            refine stepsCons rfl ?_ ?_
            · intro Q f' w' ρ S ho hT hS hB
              obtain ⟨hv7, hr7⟩ := (hT 7 69 rfl rfl : (Is (.bool false)) (f' 69) (ρ 7))
              obtain hS := hS.flat1 hr7
              exact .inl ⟨want_on (e := 69) rfl rfl rfl hv7, omove (v := .int .i64 0) rfl rfl (ev (v := .int .i64 0) rfl (ho 12 rfl)) ⟨_, _, rfl, isI, New.same _⟩⟩
            refine stepsCons rfl ?_ ?_
            · intro Q f' w' ρ S ho hT hS hB
              obtain ⟨hv7, hr7⟩ := (hT 7 69 rfl rfl : (Is (.bool false)) (f' 69) (ρ 7))
              obtain hS := hS.flat1 hr7
              exact .inl ⟨want_on (e := 69) rfl rfl rfl hv7, oload (vs := [.bool bA, .slice qA nA kA, .bool bB, .slice qB nB kB]) aggR hS 9 rfl rfl (ev rfl (ho 7 rfl)) rfl rfl rfl ⟨_, _, rfl, isI, New.same _⟩⟩
            refine stepsCons rfl ?_ ?_
            · intro Q f' w' ρ S ho hT hS hB
              obtain ⟨hv7, hr7⟩ := (hT 7 69 rfl rfl : (Is (.bool false)) (f' 69) (ρ 7))
              obtain ⟨hv11, hr11⟩ := (hT 11 73 rfl rfl : (Is (.agg #[.bool bA, .slice qA nA kA, .bool bB, .slice qB nB kB])) (f' 73) (ρ 11))
              obtain hS := hS.flat2 hr7 hr11
              refine .inl ⟨want_on (e := 69) rfl rfl rfl hv7, ocall rfl rfl Try.call37 rfl ((wsnorm ((hzA.at hS).mono (by omega)) ((hzB.at hS).mono (by omega)) (hy) hz10 hz11)) (args1 (ev rfl hv11)) ?_⟩
              rintro _ w9 ⟨_, _, rfl, hTT, hN⟩
              exact ⟨_, rfl, _, _, rfl, hTT, hN⟩
            refine stepsCons rfl ?_ ?_
            · intro Q f' w' ρ S ho hT hS hB
              obtain ⟨hv7, hr7⟩ := (hT 7 69 rfl rfl : (Is (.bool false)) (f' 69) (ρ 7))
              obtain ⟨hv8, hr8⟩ := (hT 8 70 rfl rfl : (Is (.bool true)) (f' 70) (ρ 8))
              obtain ⟨hv9, hr9⟩ := (hT 9 71 rfl rfl : (Is (.agg #[.bool (ng z3), .slice p3 n3 c3, .bool (ng z4), .slice p4 n4 c4])) (f' 71) (ρ 9))
              obtain ⟨hv10, hr10⟩ := (hT 10 72 rfl rfl : (Is (.int .i64 0)) (f' 72) (ρ 10))
              obtain ⟨p10, n10, c10, p11, n11, c11, hv12, hr12⟩ := (hT 12 74 rfl rfl : (Rrt z10 z11) (f' 74) (ρ 12))
              obtain hS := hS.flat5 hr7 hr8 hr9 hr10 hr12
              refine .inl ⟨want_on (e := 69) rfl rfl rfl hv7, ocall rfl rfl Try.call32 rfl (wltold (x := z3) (y := z4) (u := z10) (v := z11) (hS.slm 3 rfl) (hS.slm 4 rfl) (hS.slm 12 rfl) (hS.slm 13 rfl) ((hz3.out.symm).trans (hz10.out.symm).symm) ((hz4.out.symm).trans (hz11.out.symm).symm)) (args4 (ev rfl hv8) (ev rfl hv9) (ev rfl hv10) (ev rfl hv12)) ?_⟩
              rintro _ w9 ⟨_, _, rfl, hTT, hN⟩
              exact ⟨_, rfl, _, _, rfl, hTT, hN⟩
            refine stepsCons rfl ?_ ?_
            · intro Q f' w' ρ S ho hT hS hB
              obtain ⟨hv7, hr7⟩ := (hT 7 69 rfl rfl : (Is (.bool false)) (f' 69) (ρ 7))
              obtain ⟨hv13, hr13⟩ := (hT 13 75 rfl rfl : (Is (.bool true)) (f' 75) (ρ 13))
              obtain hS := hS.flat2 hr7 hr13
              exact .inl ⟨want_on (e := 69) rfl rfl rfl hv7, onot (b := true) rfl rfl (ev (v := .bool true) rfl hv13) ⟨_, _, rfl, isI, New.same _⟩⟩
            refine stepsCons rfl ?_ ?_
            · intro Q f' w' ρ S ho hT hS hB
              obtain ⟨hv7, hr7⟩ := (hT 7 69 rfl rfl : (Is (.bool false)) (f' 69) (ρ 7))
              obtain ⟨hv14, hr14⟩ := (hT 14 76 rfl rfl : (Is (.bool false)) (f' 76) (ρ 14))
              obtain hS := hS.flat2 hr7 hr14
              exact .inl ⟨want_none rfl, opick (b := false) (v := .bool false) rfl rfl (ev (v := .bool false) rfl hv7) (ev (v := .bool false) rfl hv14) ⟨_, _, rfl, isI, New.same _⟩⟩
            refine stepsCons rfl ?_ ?_
            · intro Q f' w' ρ S ho hT hS hB
              obtain ⟨hv15, hr15⟩ := (hT 15 77 rfl rfl : (Is (.bool false)) (f' 77) (ρ 15))
              obtain hS := hS.flat1 hr15
              exact .inl ⟨want_none rfl, omove (v := .bool false) rfl rfl (ev (v := .bool false) rfl hv15) ⟨_, _, rfl, isI, New.same _⟩⟩
            refine stepsCons rfl ?_ ?_
            · intro Q f' w' ρ S ho hT hS hB
              obtain ⟨hv16, hr16⟩ := (hT 16 78 rfl rfl : (Is (.bool false)) (f' 78) (ρ 16))
              obtain hS := hS.flat1 hr16
              exact .inl ⟨want_on (e := 78) rfl rfl rfl hv16, omove (v := .int .i64 nn) rfl rfl (ev (v := .int .i64 nn) rfl (ho 2 rfl)) ⟨_, _, rfl, isI, New.same _⟩⟩
            refine stepsCons rfl ?_ ?_
            · intro Q f' w' ρ S ho hT hS hB
              obtain ⟨hv16, hr16⟩ := (hT 16 78 rfl rfl : (Is (.bool false)) (f' 78) (ρ 16))
              obtain ⟨hv17, hr17⟩ := (hT 17 79 rfl rfl : (Is (.int .i64 nn)) (f' 79) (ρ 17))
              obtain hS := hS.flat2 hr16 hr17
              refine .inl ⟨want_on (e := 78) rfl rfl rfl hv16, ocall rfl rfl Try.call47 rfl (wrof (x := nn) (h1) (h2)) (args1 (ev rfl hv17)) ?_⟩
              rintro _ w9 ⟨_, _, rfl, hTT, hN⟩
              exact ⟨_, rfl, _, _, rfl, hTT, hN⟩
            refine stepsCons rfl ?_ ?_
            · intro Q f' w' ρ S ho hT hS hB
              obtain ⟨hv16, hr16⟩ := (hT 16 78 rfl rfl : (Is (.bool false)) (f' 78) (ρ 16))
              obtain hS := hS.flat1 hr16
              exact .inl ⟨want_on (e := 78) rfl rfl rfl hv16, omove (v := .int .i64 nn) rfl rfl (ev (v := .int .i64 nn) rfl (ho 2 rfl)) ⟨_, _, rfl, isI, New.same _⟩⟩
            refine stepsCons rfl ?_ ?_
            · intro Q f' w' ρ S ho hT hS hB
              obtain ⟨hv16, hr16⟩ := (hT 16 78 rfl rfl : (Is (.bool false)) (f' 78) (ρ 16))
              obtain ⟨hv19, hr19⟩ := (hT 19 81 rfl rfl : (Is (.int .i64 nn)) (f' 81) (ρ 19))
              obtain hS := hS.flat2 hr16 hr19
              refine .inl ⟨want_on (e := 78) rfl rfl rfl hv16, ocall rfl rfl Try.call48 rfl (wsof (x := nn) (h1) (h2)) (args1 (ev rfl hv19)) ?_⟩
              rintro _ w9 ⟨_, _, rfl, hTT, hN⟩
              exact ⟨_, rfl, _, _, rfl, hTT, hN⟩
            refine stepsCons rfl ?_ ?_
            · intro Q f' w' ρ S ho hT hS hB
              obtain ⟨hv16, hr16⟩ := (hT 16 78 rfl rfl : (Is (.bool false)) (f' 78) (ρ 16))
              obtain ⟨p12, n12, c12, p13, n13, c13, hv18, hr18⟩ := (hT 18 80 rfl rfl : (Rrt nn 1) (f' 80) (ρ 18))
              obtain ⟨p14, n14, c14, p15, n15, c15, hv20, hr20⟩ := (hT 20 82 rfl rfl : (Rrt nn 1) (f' 82) (ρ 20))
              obtain hS := hS.flat3 hr16 hr18 hr20
              refine .inl ⟨want_on (e := 78) rfl rfl rfl hv16, ocall rfl rfl Try.call13 rfl (wlsame5 (x := nn) (y := 1) (u := nn) (v := 1) (hS.slm 12 rfl) (hS.slm 13 rfl) (hS.slm 14 rfl) (hS.slm 15 rfl) (rfl) (rfl)) (args2 (ev rfl hv18) (ev rfl hv20)) ?_⟩
              rintro _ w9 ⟨_, _, rfl, hTT, hN⟩
              exact ⟨_, rfl, _, _, rfl, hTT, hN⟩
            refine stepsCons rfl ?_ ?_
            · intro Q f' w' ρ S ho hT hS hB
              obtain ⟨hv16, hr16⟩ := (hT 16 78 rfl rfl : (Is (.bool false)) (f' 78) (ρ 16))
              obtain ⟨hv21, hr21⟩ := (hT 21 83 rfl rfl : (Is (.bool true)) (f' 83) (ρ 21))
              obtain hS := hS.flat2 hr16 hr21
              exact .inl ⟨want_on (e := 78) rfl rfl rfl hv16, onot (b := true) rfl rfl (ev (v := .bool true) rfl hv21) ⟨_, _, rfl, isI, New.same _⟩⟩
            refine stepsCons rfl ?_ ?_
            · intro Q f' w' ρ S ho hT hS hB
              obtain ⟨hv16, hr16⟩ := (hT 16 78 rfl rfl : (Is (.bool false)) (f' 78) (ρ 16))
              obtain ⟨hv22, hr22⟩ := (hT 22 84 rfl rfl : (Is (.bool false)) (f' 84) (ρ 22))
              obtain hS := hS.flat2 hr16 hr22
              exact .inl ⟨want_none rfl, opick (b := false) (v := .bool false) rfl rfl (ev (v := .bool false) rfl hv16) (ev (v := .bool false) rfl hv22) ⟨_, _, rfl, isI, New.same _⟩⟩
            exact stepsNil
          ·
            intro vs ρ w25 f' hf hT hS
            obtain ⟨hv0, hr0⟩ := (hT 0 (by decide) : (Is (.bool true)) (vs 0) (ρ 0))
            obtain ⟨hv1, hr1⟩ := (hT 1 (by decide) : (Is (.agg #[.bool (ng z1), .slice p1 n1 c1, .bool (ng z2), .slice p2 n2 c2])) (vs 1) (ρ 1))
            obtain ⟨hv2, hr2⟩ := (hT 2 (by decide) : (Is (.int .i64 0)) (vs 2) (ρ 2))
            obtain ⟨hv3, hr3⟩ := (hT 3 (by decide) : (Is (.agg #[.bool bA, .slice qA nA kA, .bool bB, .slice qB nB kB])) (vs 3) (ρ 3))
            obtain ⟨p8, n8, c8, p9, n9, c9, hv4, hr4⟩ := (hT 4 (by decide) : (Rrt z8 z9) (vs 4) (ρ 4))
            obtain ⟨hv5, hr5⟩ := (hT 5 (by decide) : (Is (.bool true)) (vs 5) (ρ 5))
            obtain ⟨hv6, hr6⟩ := (hT 6 (by decide) : (Is (.bool false)) (vs 6) (ρ 6))
            obtain ⟨hv7, hr7⟩ := (hT 7 (by decide) : (Is (.bool false)) (vs 7) (ρ 7))
            obtain ⟨hv8, hr8⟩ := (hT 8 (by decide) : (Is (.bool true)) (vs 8) (ρ 8))
            obtain ⟨hv9, hr9⟩ := (hT 9 (by decide) : (Is (.agg #[.bool (ng z3), .slice p3 n3 c3, .bool (ng z4), .slice p4 n4 c4])) (vs 9) (ρ 9))
            obtain ⟨hv10, hr10⟩ := (hT 10 (by decide) : (Is (.int .i64 0)) (vs 10) (ρ 10))
            obtain ⟨hv11, hr11⟩ := (hT 11 (by decide) : (Is (.agg #[.bool bA, .slice qA nA kA, .bool bB, .slice qB nB kB])) (vs 11) (ρ 11))
            obtain ⟨p10, n10, c10, p11, n11, c11, hv12, hr12⟩ := (hT 12 (by decide) : (Rrt z10 z11) (vs 12) (ρ 12))
            obtain ⟨hv13, hr13⟩ := (hT 13 (by decide) : (Is (.bool true)) (vs 13) (ρ 13))
            obtain ⟨hv14, hr14⟩ := (hT 14 (by decide) : (Is (.bool false)) (vs 14) (ρ 14))
            obtain ⟨hv15, hr15⟩ := (hT 15 (by decide) : (Is (.bool false)) (vs 15) (ρ 15))
            obtain ⟨hv16, hr16⟩ := (hT 16 (by decide) : (Is (.bool false)) (vs 16) (ρ 16))
            obtain ⟨hv17, hr17⟩ := (hT 17 (by decide) : (Is (.int .i64 nn)) (vs 17) (ρ 17))
            obtain ⟨p12, n12, c12, p13, n13, c13, hv18, hr18⟩ := (hT 18 (by decide) : (Rrt nn 1) (vs 18) (ρ 18))
            obtain ⟨hv19, hr19⟩ := (hT 19 (by decide) : (Is (.int .i64 nn)) (vs 19) (ρ 19))
            obtain ⟨p14, n14, c14, p15, n15, c15, hv20, hr20⟩ := (hT 20 (by decide) : (Rrt nn 1) (vs 20) (ρ 20))
            obtain ⟨hv21, hr21⟩ := (hT 21 (by decide) : (Is (.bool true)) (vs 21) (ρ 21))
            obtain ⟨hv22, hr22⟩ := (hT 22 (by decide) : (Is (.bool false)) (vs 22) (ρ 22))
            obtain ⟨hv23, hr23⟩ := (hT 23 (by decide) : (Is (.bool false)) (vs 23) (ρ 23))
            simp only [pool, if_true, hr0, hr1, hr2, hr3, hr4, hr5, hr6, hr7, hr8, hr9, hr10, hr11, hr12, hr13, hr14, hr15, hr16, hr17, hr18, hr19, hr20, hr21, hr22, hr23, List.nil_append, List.cons_append, List.append_nil] at hS
            simp only [layf, hv0, hv1, hv2, hv3, hv4, hv5, hv6, hv7, hv8, hv9, hv10, hv11, hv12, hv13, hv14, hv15, hv16, hv17, hv18, hv19, hv20, hv21, hv22, hv23] at hf
            subst hf; clear hT hv0 hv1 hv2 hv3 hv4 hv5 hv6 hv7 hv8 hv9 hv10 hv11 hv12 hv13 hv14 hv15 hv16 hv17 hv18 hv19 hv20 hv21 hv22 hv23 hr0 hr1 hr2 hr3 hr4 hr5 hr6 hr7 hr8 hr9 hr10 hr11 hr12 hr13 hr14 hr15 hr16 hr17 hr18 hr19 hr20 hr21 hr22 hr23
            refine wdone rfl ?_
            refine thenN ?_
            refine wF (ev (v := .bool false) rfl rfl) ?_
            refine wskip ?_
            refine thenN ?_
            refine wseq ?_
            refine wseq ?_
            obtain ⟨s16, hs16⟩ : ∃ z : Int, Hid ((x : Int).sign * (y : Int).sign = z) := ⟨_, rfl⟩
            obtain ⟨z17, hz17⟩ : ∃ z : Int, Hid (RN x y / RD x y = z) := ⟨_, rfl⟩
            have hk17 : Wd z17 1048576 := Wd.ediv (Wd.rn hzA.wd rfl) hz17
            refine wstage 44 [86, 87, 88, 89, 90, 91, 92, 93, 94, 95, 96, 97, 98, 99, 100, 101, 102, 103, 104, 105, 106, 107, 108, 109, 110, 111, 112, 113, 114, 115, 116, 117, 118, 119, 120, 121, 122, 123, 124, 125, 126, 127, 128, 129] [[], [0], [1, 0], [2, 0, 1], [2, 3, 0, 1], [2, 4, 0, 1, 3], [5, 0, 1, 2, 3, 4], [5, 6, 0, 1, 2, 3, 4], [2, 5, 7, 0, 1, 3, 4, 6], [2, 8, 0, 1, 3, 4, 5, 6, 7], [9, 0, 1, 2, 3, 4, 5, 6, 7, 8], [9, 10, 0, 1, 2, 3, 4, 5, 6, 7, 8], [2, 9, 11, 0, 1, 3, 4, 5, 6, 7, 8, 10], [2, 12, 0, 1, 3, 4, 5, 6, 7, 8, 9, 10, 11], [13, 0, 1, 2, 3, 4, 5, 6, 7, 8, 9, 10, 11, 12], [13, 0, 1, 2, 3, 4, 5, 6, 7, 8, 9, 10, 11, 12], [13, 14, 15, 0, 1, 2, 3, 4, 5, 6, 7, 8, 9, 10, 11, 12], [13, 16, 0, 1, 2, 3, 4, 5, 6, 7, 8, 9, 10, 11, 12, 14, 15], [2, 13, 17, 0, 1, 3, 4, 5, 6, 7, 8, 9, 10, 11, 12, 14, 15, 16], [2, 18, 0, 1, 3, 4, 5, 6, 7, 8, 9, 10, 11, 12, 13, 14, 15, 16, 17], [19, 0, 1, 2, 3, 4, 5, 6, 7, 8, 9, 10, 11, 12, 13, 14, 15, 16, 17, 18], [20, 0, 1, 2, 3, 4, 5, 6, 7, 8, 9, 10, 11, 12, 13, 14, 15, 16, 17, 18, 19], [20, 21, 0, 1, 2, 3, 4, 5, 6, 7, 8, 9, 10, 11, 12, 13, 14, 15, 16, 17, 18, 19], [22, 0, 1, 2, 3, 4, 5, 6, 7, 8, 9, 10, 11, 12, 13, 14, 15, 16, 17, 18, 19, 20, 21], [22, 0, 1, 2, 3, 4, 5, 6, 7, 8, 9, 10, 11, 12, 13, 14, 15, 16, 17, 18, 19, 20, 21], [22, 24, 0, 1, 2, 3, 4, 5, 6, 7, 8, 9, 10, 11, 12, 13, 14, 15, 16, 17, 18, 19, 20, 21], [22, 23, 25, 0, 1, 2, 3, 4, 5, 6, 7, 8, 9, 10, 11, 12, 13, 14, 15, 16, 17, 18, 19, 20, 21, 24], [22, 26, 0, 1, 2, 3, 4, 5, 6, 7, 8, 9, 10, 11, 12, 13, 14, 15, 16, 17, 18, 19, 20, 21, 23, 24, 25], [27, 0, 1, 2, 3, 4, 5, 6, 7, 8, 9, 10, 11, 12, 13, 14, 15, 16, 17, 18, 19, 20, 21, 22, 23, 24, 25, 26], [27, 28, 0, 1, 2, 3, 4, 5, 6, 7, 8, 9, 10, 11, 12, 13, 14, 15, 16, 17, 18, 19, 20, 21, 22, 23, 24, 25, 26], [22, 27, 29, 0, 1, 2, 3, 4, 5, 6, 7, 8, 9, 10, 11, 12, 13, 14, 15, 16, 17, 18, 19, 20, 21, 23, 24, 25, 26, 28], [22, 30, 0, 1, 2, 3, 4, 5, 6, 7, 8, 9, 10, 11, 12, 13, 14, 15, 16, 17, 18, 19, 20, 21, 23, 24, 25, 26, 27, 28, 29], [31, 0, 1, 2, 3, 4, 5, 6, 7, 8, 9, 10, 11, 12, 13, 14, 15, 16, 17, 18, 19, 20, 21, 22, 23, 24, 25, 26, 27, 28, 29, 30], [31, 32, 0, 1, 2, 3, 4, 5, 6, 7, 8, 9, 10, 11, 12, 13, 14, 15, 16, 17, 18, 19, 20, 21, 22, 23, 24, 25, 26, 27, 28, 29, 30], [22, 31, 33, 0, 1, 2, 3, 4, 5, 6, 7, 8, 9, 10, 11, 12, 13, 14, 15, 16, 17, 18, 19, 20, 21, 23, 24, 25, 26, 27, 28, 29, 30, 32], [22, 34, 0, 1, 2, 3, 4, 5, 6, 7, 8, 9, 10, 11, 12, 13, 14, 15, 16, 17, 18, 19, 20, 21, 23, 24, 25, 26, 27, 28, 29, 30, 31, 32, 33], [35, 0, 1, 2, 3, 4, 5, 6, 7, 8, 9, 10, 11, 12, 13, 14, 15, 16, 17, 18, 19, 20, 21, 22, 23, 24, 25, 26, 27, 28, 29, 30, 31, 32, 33, 34], [35, 0, 1, 2, 3, 4, 5, 6, 7, 8, 9, 10, 11, 12, 13, 14, 15, 16, 17, 18, 19, 20, 21, 22, 23, 24, 25, 26, 27, 28, 29, 30, 31, 32, 33, 34], [35, 37, 0, 1, 2, 3, 4, 5, 6, 7, 8, 9, 10, 11, 12, 13, 14, 15, 16, 17, 18, 19, 20, 21, 22, 23, 24, 25, 26, 27, 28, 29, 30, 31, 32, 33, 34], [35, 36, 38, 0, 1, 2, 3, 4, 5, 6, 7, 8, 9, 10, 11, 12, 13, 14, 15, 16, 17, 18, 19, 20, 21, 22, 23, 24, 25, 26, 27, 28, 29, 30, 31, 32, 33, 34, 37], [35, 39, 0, 1, 2, 3, 4, 5, 6, 7, 8, 9, 10, 11, 12, 13, 14, 15, 16, 17, 18, 19, 20, 21, 22, 23, 24, 25, 26, 27, 28, 29, 30, 31, 32, 33, 34, 36, 37, 38], [22, 35, 40, 0, 1, 2, 3, 4, 5, 6, 7, 8, 9, 10, 11, 12, 13, 14, 15, 16, 17, 18, 19, 20, 21, 23, 24, 25, 26, 27, 28, 29, 30, 31, 32, 33, 34, 36, 37, 38, 39], [20, 22, 41, 0, 1, 2, 3, 4, 5, 6, 7, 8, 9, 10, 11, 12, 13, 14, 15, 16, 17, 18, 19, 21, 23, 24, 25, 26, 27, 28, 29, 30, 31, 32, 33, 34, 35, 36, 37, 38, 39, 40], [20, 42, 0, 1, 2, 3, 4, 5, 6, 7, 8, 9, 10, 11, 12, 13, 14, 15, 16, 17, 18, 19, 21, 22, 23, 24, 25, 26, 27, 28, 29, 30, 31, 32, 33, 34, 35, 36, 37, 38, 39, 40, 41]] [[], [], [], [], [], [], [], [], [], [], [], [], [], [], [], [], [], [], [], [], [], [], [], [], [], [], [], [], [], [], [], [], [], [], [], [], [], [], [], [], [], [], [], []] [] [] (fun i9 => ([fun _ => Is (.bool true), fun _ => Is (.bool false), fun _ => Is (.bool false), fun _ => Is undef, fun _ => Is undef, fun _ => Is undef, fun _ => Is undef, fun _ => Is undef, fun _ => Is undef, fun _ => Is undef, fun _ => Is undef, fun _ => Is undef, fun _ => Is undef, fun _ => Is undef, fun _ => Is undef, fun _ => Is undef, fun _ => Is undef, fun _ => Is undef, fun _ => Is undef, fun _ => Is (.bool false), fun _ => Is (.bool false), fun _ => Is (.bool true), fun _ => Is (.bool true), fun _ => Is (.int .i64 s5), fun _ => Is (.agg #[.bool bA, .slice qA nA kA, .bool bB, .slice qB nB kB]), fun _ => Is (.int .i64 s16), fun _ => Is (.bool false), fun _ => Is (.bool false), fun _ => Is (.int .i64 0), fun _ => Is (.bool false), fun _ => Is (.bool false), fun _ => Is (.bool false), fun _ => Is (.int .i64 0), fun _ => Is (.bool false), fun _ => Is (.bool false), fun _ => Is (.bool false), fun _ => Is (.agg #[.bool (ng z7), .slice p7 n7 c7]), fun _ => Is (.agg #[.bool bA, .slice qA nA kA, .bool bB, .slice qB nB kB]), fun _ => Zt z17, fun _ => Is (.bool true), fun _ => Is (.bool false), fun _ => Is (.bool false), fun _ => Is (.bool false), fun _ => Is (.bool false)] : List (List Value → Tell)).getD i9 (fun _ _ _ => False)) (heldNil) (fun d _ _ _ _ h => (by cases d <;> exact h)) (by kernel_rfl) (by kernel_rfl) (by kernel_rfl) hS ?_ ?_
            ·
              refine stepsCons rfl ?_ ?_
              · intro Q f' w' ρ S ho hT hS hB
                exact .inl ⟨want_none rfl, omove (v := .bool true) rfl rfl (ev (v := .bool true) rfl (ho 19 rfl)) ⟨_, _, rfl, isI, New.same _⟩⟩
              refine stepsCons rfl ?_ ?_
              · intro Q f' w' ρ S ho hT hS hB
                obtain ⟨hv0, hr0⟩ := (hT 0 86 rfl rfl : (Is (.bool true)) (f' 86) (ρ 0))
                obtain hS := hS.flat1 hr0
                exact .inl ⟨want_none rfl, onot (b := true) rfl rfl (ev (v := .bool true) rfl hv0) ⟨_, _, rfl, isI, New.same _⟩⟩
              refine stepsCons rfl ?_ ?_
              · intro Q f' w' ρ S ho hT hS hB
                obtain ⟨hv1, hr1⟩ := (hT 1 87 rfl rfl : (Is (.bool false)) (f' 87) (ρ 1))
                obtain hS := hS.flat1 hr1
                exact .inl ⟨want_none rfl, omove (v := .bool false) rfl rfl (ev (v := .bool false) rfl hv1) ⟨_, _, rfl, isI, New.same _⟩⟩
              refine stepsCons rfl ?_ ?_
              · intro Q f' w' ρ S ho hT hS hB
                obtain ⟨hv2, hr2⟩ := (hT 2 88 rfl rfl : (Is (.bool false)) (f' 88) (ρ 2))
                obtain hS := hS.flat1 hr2
                exact .inr ⟨want_off (e := 88) (b' := false) rfl rfl rfl hv2 rfl, isI⟩
              refine stepsCons rfl ?_ ?_
              · intro Q f' w' ρ S ho hT hS hB
                obtain ⟨hv2, hr2⟩ := (hT 2 88 rfl rfl : (Is (.bool false)) (f' 88) (ρ 2))
                obtain ⟨hv3, hr3⟩ := (hT 3 89 rfl rfl : (Is undef) (f' 89) (ρ 3))
                obtain hS := hS.flat2 hr2 hr3
                exact .inr ⟨want_off (e := 88) (b' := false) rfl rfl rfl hv2 rfl, isI⟩
              refine stepsCons rfl ?_ ?_
              · intro Q f' w' ρ S ho hT hS hB
                obtain ⟨hv2, hr2⟩ := (hT 2 88 rfl rfl : (Is (.bool false)) (f' 88) (ρ 2))
                obtain ⟨hv4, hr4⟩ := (hT 4 90 rfl rfl : (Is undef) (f' 90) (ρ 4))
                obtain hS := hS.flat2 hr2 hr4
                exact .inr ⟨want_off (e := 88) (b' := false) rfl rfl rfl hv2 rfl, isI⟩
              refine stepsCons rfl ?_ ?_
              · intro Q f' w' ρ S ho hT hS hB
                obtain ⟨hv5, hr5⟩ := (hT 5 91 rfl rfl : (Is undef) (f' 91) (ρ 5))
                obtain hS := hS.flat1 hr5
                exact .inr ⟨want_undef (e := 91) rfl rfl rfl hv5, isI⟩
              refine stepsCons rfl ?_ ?_
              · intro Q f' w' ρ S ho hT hS hB
                obtain ⟨hv5, hr5⟩ := (hT 5 91 rfl rfl : (Is undef) (f' 91) (ρ 5))
                obtain ⟨hv6, hr6⟩ := (hT 6 92 rfl rfl : (Is undef) (f' 92) (ρ 6))
                obtain hS := hS.flat2 hr5 hr6
                exact .inr ⟨want_undef (e := 91) rfl rfl rfl hv5, isI⟩
              refine stepsCons rfl ?_ ?_
              · intro Q f' w' ρ S ho hT hS hB
                obtain ⟨hv2, hr2⟩ := (hT 2 88 rfl rfl : (Is (.bool false)) (f' 88) (ρ 2))
                obtain ⟨hv5, hr5⟩ := (hT 5 91 rfl rfl : (Is undef) (f' 91) (ρ 5))
                obtain ⟨hv7, hr7⟩ := (hT 7 93 rfl rfl : (Is undef) (f' 93) (ρ 7))
                obtain hS := hS.flat3 hr2 hr5 hr7
                exact .inr ⟨want_off (e := 88) (b' := false) rfl rfl rfl hv2 rfl, isI⟩
              refine stepsCons rfl ?_ ?_
              · intro Q f' w' ρ S ho hT hS hB
                obtain ⟨hv2, hr2⟩ := (hT 2 88 rfl rfl : (Is (.bool false)) (f' 88) (ρ 2))
                obtain ⟨hv8, hr8⟩ := (hT 8 94 rfl rfl : (Is undef) (f' 94) (ρ 8))
                obtain hS := hS.flat2 hr2 hr8
                exact .inr ⟨want_off (e := 88) (b' := false) rfl rfl rfl hv2 rfl, isI⟩
              refine stepsCons rfl ?_ ?_
              · intro Q f' w' ρ S ho hT hS hB
                obtain ⟨hv9, hr9⟩ := (hT 9 95 rfl rfl : (Is undef) (f' 95) (ρ 9))
                obtain hS := hS.flat1 hr9
                exact .inr ⟨want_undef (e := 95) rfl rfl rfl hv9, isI⟩
              refine stepsCons rfl ?_ ?_
              · intro Q f' w' ρ S ho hT hS hB
                obtain ⟨hv9, hr9⟩ := (hT 9 95 rfl rfl : (Is undef) (f' 95) (ρ 9))
                obtain ⟨hv10, hr10⟩ := (hT 10 96 rfl rfl : (Is undef) (f' 96) (ρ 10))
                obtain hS := hS.flat2 hr9 hr10
                exact .inr ⟨want_undef (e := 95) rfl rfl rfl hv9, isI⟩
              refine stepsCons rfl ?_ ?_
              · intro Q f' w' ρ S ho hT hS hB
                obtain ⟨hv2, hr2⟩ := (hT 2 88 rfl rfl : (Is (.bool false)) (f' 88) (ρ 2))
                obtain ⟨hv9, hr9⟩ := (hT 9 95 rfl rfl : (Is undef) (f' 95) (ρ 9))
                obtain ⟨hv11, hr11⟩ := (hT 11 97 rfl rfl : (Is undef) (f' 97) (ρ 11))
                obtain hS := hS.flat3 hr2 hr9 hr11
                exact .inr ⟨want_off (e := 88) (b' := false) rfl rfl rfl hv2 rfl, isI⟩
              refine stepsCons rfl ?_ ?_
              · intro Q f' w' ρ S ho hT hS hB
                obtain ⟨hv2, hr2⟩ := (hT 2 88 rfl rfl : (Is (.bool false)) (f' 88) (ρ 2))
                obtain ⟨hv12, hr12⟩ := (hT 12 98 rfl rfl : (Is undef) (f' 98) (ρ 12))
                obtain hS := hS.flat2 hr2 hr12
                exact .inr ⟨want_off (e := 88) (b' := false) rfl rfl rfl hv2 rfl, isI⟩
              refine stepsCons rfl ?_ ?_
              · intro Q f' w' ρ S ho hT hS hB
                obtain ⟨hv13, hr13⟩ := (hT 13 99 rfl rfl : (Is undef) (f' 99) (ρ 13))
                obtain hS := hS.flat1 hr13
                exact .inr ⟨want_undef (e := 99) rfl rfl rfl hv13, isI⟩
              refine stepsCons rfl ?_ ?_
              · intro Q f' w' ρ S ho hT hS hB
                obtain ⟨hv13, hr13⟩ := (hT 13 99 rfl rfl : (Is undef) (f' 99) (ρ 13))
                obtain hS := hS.flat1 hr13
                exact .inr ⟨want_undef (e := 99) rfl rfl rfl hv13, isI⟩
              refine stepsCons rfl ?_ ?_
              · intro Q f' w' ρ S ho hT hS hB
                obtain ⟨hv13, hr13⟩ := (hT 13 99 rfl rfl : (Is undef) (f' 99) (ρ 13))
                obtain ⟨hv14, hr14⟩ := (hT 14 100 rfl rfl : (Is undef) (f' 100) (ρ 14))
                obtain ⟨hv15, hr15⟩ := (hT 15 101 rfl rfl : (Is undef) (f' 101) (ρ 15))
                obtain hS := hS.flat3 hr13 hr14 hr15
                exact .inr ⟨want_undef (e := 99) rfl rfl rfl hv13, isI⟩
              refine stepsCons rfl ?_ ?_
              · intro Q f' w' ρ S ho hT hS hB
                obtain ⟨hv13, hr13⟩ := (hT 13 99 rfl rfl : (Is undef) (f' 99) (ρ 13))
                obtain ⟨hv16, hr16⟩ := (hT 16 102 rfl rfl : (Is undef) (f' 102) (ρ 16))
                obtain hS := hS.flat2 hr13 hr16
                exact .inr ⟨want_undef (e := 99) rfl rfl rfl hv13, isI⟩
              refine stepsCons rfl ?_ ?_
              · intro Q f' w' ρ S ho hT hS hB
                obtain ⟨hv2, hr2⟩ := (hT 2 88 rfl rfl : (Is (.bool false)) (f' 88) (ρ 2))
                obtain ⟨hv13, hr13⟩ := (hT 13 99 rfl rfl : (Is undef) (f' 99) (ρ 13))
                obtain ⟨hv17, hr17⟩ := (hT 17 103 rfl rfl : (Is undef) (f' 103) (ρ 17))
                obtain hS := hS.flat3 hr2 hr13 hr17
                exact .inr ⟨want_off (e := 88) (b' := false) rfl rfl rfl hv2 rfl, isI⟩
              refine stepsCons rfl ?_ ?_
              · intro Q f' w' ρ S ho hT hS hB
                obtain ⟨hv2, hr2⟩ := (hT 2 88 rfl rfl : (Is (.bool false)) (f' 88) (ρ 2))
                obtain ⟨hv18, hr18⟩ := (hT 18 104 rfl rfl : (Is undef) (f' 104) (ρ 18))
                obtain hS := hS.flat2 hr2 hr18
                exact .inl ⟨want_none rfl, opick (b := false) (v := .bool false) rfl rfl (ev (v := .bool false) rfl hv2) (evc (v := .bool false)) ⟨_, _, rfl, isI, New.same _⟩⟩
              refine stepsCons rfl ?_ ?_
              · intro Q f' w' ρ S ho hT hS hB
                obtain ⟨hv19, hr19⟩ := (hT 19 105 rfl rfl : (Is (.bool false)) (f' 105) (ρ 19))
                obtain hS := hS.flat1 hr19
                exact .inl ⟨want_none rfl, omove (v := .bool false) rfl rfl (ev (v := .bool false) rfl hv19) ⟨_, _, rfl, isI, New.same _⟩⟩
              refine stepsCons rfl ?_ ?_
              · intro Q f' w' ρ S ho hT hS hB
                obtain ⟨hv20, hr20⟩ := (hT 20 106 rfl rfl : (Is (.bool false)) (f' 106) (ρ 20))
                obtain hS := hS.flat1 hr20
                exact .inl ⟨want_on (e := 106) rfl rfl rfl hv20, omove (v := .bool true) rfl rfl (ev (v := .bool true) rfl (ho 19 rfl)) ⟨_, _, rfl, isI, New.same _⟩⟩
              refine stepsCons rfl ?_ ?_
              · intro Q f' w' ρ S ho hT hS hB
                obtain ⟨hv20, hr20⟩ := (hT 20 106 rfl rfl : (Is (.bool false)) (f' 106) (ρ 20))
                obtain ⟨hv21, hr21⟩ := (hT 21 107 rfl rfl : (Is (.bool true)) (f' 107) (ρ 21))
                obtain hS := hS.flat2 hr20 hr21
                exact .inl ⟨want_on (e := 106) rfl rfl rfl hv20, omove (v := .bool true) rfl rfl (ev (v := .bool true) rfl hv21) ⟨_, _, rfl, isI, New.same _⟩⟩
              refine stepsCons rfl ?_ ?_
              · intro Q f' w' ρ S ho hT hS hB
                obtain ⟨hv22, hr22⟩ := (hT 22 108 rfl rfl : (Is (.bool true)) (f' 108) (ρ 22))
                obtain hS := hS.flat1 hr22
                exact .inl ⟨want_on (e := 108) rfl rfl rfl hv22, omove (v := .int .i64 s5) rfl rfl (ev (v := .int .i64 s5) rfl (ho 13 rfl)) ⟨_, _, rfl, isI, New.same _⟩⟩
              refine stepsCons rfl ?_ ?_
              · intro Q f' w' ρ S ho hT hS hB
                obtain ⟨hv22, hr22⟩ := (hT 22 108 rfl rfl : (Is (.bool true)) (f' 108) (ρ 22))
                obtain hS := hS.flat1 hr22
                exact .inl ⟨want_on (e := 108) rfl rfl rfl hv22, oload (vs := [.bool bA, .slice qA nA kA, .bool bB, .slice qB nB kB]) aggR hS 17 rfl rfl (ev rfl (ho 7 rfl)) rfl rfl rfl ⟨_, _, rfl, isI, New.same _⟩⟩
              refine stepsCons rfl ?_ ?_
              · intro Q f' w' ρ S ho hT hS hB
                obtain ⟨hv22, hr22⟩ := (hT 22 108 rfl rfl : (Is (.bool true)) (f' 108) (ρ 22))
                obtain ⟨hv24, hr24⟩ := (hT 24 110 rfl rfl : (Is (.agg #[.bool bA, .slice qA nA kA, .bool bB, .slice qB nB kB])) (f' 110) (ρ 24))
                obtain hS := hS.flat2 hr22 hr24
                refine .inl ⟨want_on (e := 108) rfl rfl rfl hv22, ocall rfl rfl Try.call12 rfl (wssign ((hzA.at hS).mono (by omega)) ((hzB.at hS).mono (by omega)) (hy) hs16) (args1 (ev rfl hv24)) ?_⟩
                rintro _ w9 ⟨_, _, rfl, hTT, hN⟩
                exact ⟨_, rfl, _, _, rfl, hTT, hN⟩
              refine stepsCons rfl ?_ ?_
              · intro Q f' w' ρ S ho hT hS hB
                obtain ⟨hv22, hr22⟩ := (hT 22 108 rfl rfl : (Is (.bool true)) (f' 108) (ρ 22))
                obtain ⟨hv23, hr23⟩ := (hT 23 109 rfl rfl : (Is (.int .i64 s5)) (f' 109) (ρ 23))
                obtain ⟨hv25, hr25⟩ := (hT 25 111 rfl rfl : (Is (.int .i64 s16)) (f' 111) (ρ 25))
                obtain hS := hS.flat3 hr22 hr23 hr25
                exact .inl ⟨want_on (e := 108) rfl rfl rfl hv22, obin (u := .int .i64 s5) (v := .int .i64 s16) (z := .bool false) rfl rfl (ev (v := .int .i64 s5) rfl hv23) (ev (v := .int .i64 s16) rfl hv25) (bin_neq (neF ((hs5.out.symm).trans (hs16.out.symm).symm))) ⟨_, _, rfl, isI, New.same _⟩⟩
              refine stepsCons rfl ?_ ?_
              · intro Q f' w' ρ S ho hT hS hB
                obtain ⟨hv22, hr22⟩ := (hT 22 108 rfl rfl : (Is (.bool true)) (f' 108) (ρ 22))
                obtain ⟨hv26, hr26⟩ := (hT 26 112 rfl rfl : (Is (.bool false)) (f' 112) (ρ 26))
                obtain hS := hS.flat2 hr22 hr26
                exact .inl ⟨want_on (e := 108) rfl rfl rfl hv22, omove (v := .bool false) rfl rfl (ev (v := .bool false) rfl hv26) ⟨_, _, rfl, isI, New.same _⟩⟩
              refine stepsCons rfl ?_ ?_
              · intro Q f' w' ρ S ho hT hS hB
                obtain ⟨hv27, hr27⟩ := (hT 27 113 rfl rfl : (Is (.bool false)) (f' 113) (ρ 27))
                obtain hS := hS.flat1 hr27
                exact .inl ⟨want_on (e := 113) rfl rfl rfl hv27, omove (v := .int .i64 0) rfl rfl (ev (v := .int .i64 0) rfl (ho 14 rfl)) ⟨_, _, rfl, isI, New.same _⟩⟩
              refine stepsCons rfl ?_ ?_
              · intro Q f' w' ρ S ho hT hS hB
                obtain ⟨hv27, hr27⟩ := (hT 27 113 rfl rfl : (Is (.bool false)) (f' 113) (ρ 27))
                obtain ⟨hv28, hr28⟩ := (hT 28 114 rfl rfl : (Is (.int .i64 0)) (f' 114) (ρ 28))
                obtain hS := hS.flat2 hr27 hr28
                exact .inl ⟨want_on (e := 113) rfl rfl rfl hv27, obin (u := .int .i64 0) (v := .int .i64 0) (z := .bool false) rfl rfl (ev (v := .int .i64 0) rfl hv28) (evc (v := .int .i64 0)) (bin_neq (by decide)) ⟨_, _, rfl, isI, New.same _⟩⟩
              refine stepsCons rfl ?_ ?_
              · intro Q f' w' ρ S ho hT hS hB
                obtain ⟨hv22, hr22⟩ := (hT 22 108 rfl rfl : (Is (.bool true)) (f' 108) (ρ 22))
                obtain ⟨hv27, hr27⟩ := (hT 27 113 rfl rfl : (Is (.bool false)) (f' 113) (ρ 27))
                obtain ⟨hv29, hr29⟩ := (hT 29 115 rfl rfl : (Is (.bool false)) (f' 115) (ρ 29))
                obtain hS := hS.flat3 hr22 hr27 hr29
                exact .inl ⟨want_on (e := 108) rfl rfl rfl hv22, opick (b := false) (v := .bool false) rfl rfl (ev (v := .bool false) rfl hv27) (ev (v := .bool false) rfl hv29) ⟨_, _, rfl, isI, New.same _⟩⟩
              refine stepsCons rfl ?_ ?_
              · intro Q f' w' ρ S ho hT hS hB
                obtain ⟨hv22, hr22⟩ := (hT 22 108 rfl rfl : (Is (.bool true)) (f' 108) (ρ 22))
                obtain ⟨hv30, hr30⟩ := (hT 30 116 rfl rfl : (Is (.bool false)) (f' 116) (ρ 30))
                obtain hS := hS.flat2 hr22 hr30
                exact .inl ⟨want_on (e := 108) rfl rfl rfl hv22, omove (v := .bool false) rfl rfl (ev (v := .bool false) rfl hv30) ⟨_, _, rfl, isI, New.same _⟩⟩
              refine stepsCons rfl ?_ ?_
              · intro Q f' w' ρ S ho hT hS hB
                obtain ⟨hv31, hr31⟩ := (hT 31 117 rfl rfl : (Is (.bool false)) (f' 117) (ρ 31))
                obtain hS := hS.flat1 hr31
                exact .inl ⟨want_on (e := 117) rfl rfl rfl hv31, omove (v := .int .i64 0) rfl rfl (ev (v := .int .i64 0) rfl (ho 18 rfl)) ⟨_, _, rfl, isI, New.same _⟩⟩
              refine stepsCons rfl ?_ ?_
              · intro Q f' w' ρ S ho hT hS hB
                obtain ⟨hv31, hr31⟩ := (hT 31 117 rfl rfl : (Is (.bool false)) (f' 117) (ρ 31))
                obtain ⟨hv32, hr32⟩ := (hT 32 118 rfl rfl : (Is (.int .i64 0)) (f' 118) (ρ 32))
                obtain hS := hS.flat2 hr31 hr32
                exact .inl ⟨want_on (e := 117) rfl rfl rfl hv31, obin (u := .int .i64 0) (v := .int .i64 0) (z := .bool false) rfl rfl (ev (v := .int .i64 0) rfl hv32) (evc (v := .int .i64 0)) (bin_neq (by decide)) ⟨_, _, rfl, isI, New.same _⟩⟩
              refine stepsCons rfl ?_ ?_
              · intro Q f' w' ρ S ho hT hS hB
                obtain ⟨hv22, hr22⟩ := (hT 22 108 rfl rfl : (Is (.bool true)) (f' 108) (ρ 22))
                obtain ⟨hv31, hr31⟩ := (hT 31 117 rfl rfl : (Is (.bool false)) (f' 117) (ρ 31))
                obtain ⟨hv33, hr33⟩ := (hT 33 119 rfl rfl : (Is (.bool false)) (f' 119) (ρ 33))
                obtain hS := hS.flat3 hr22 hr31 hr33
                exact .inl ⟨want_on (e := 108) rfl rfl rfl hv22, opick (b := false) (v := .bool false) rfl rfl (ev (v := .bool false) rfl hv31) (ev (v := .bool false) rfl hv33) ⟨_, _, rfl, isI, New.same _⟩⟩
              refine stepsCons rfl ?_ ?_
              · intro Q f' w' ρ S ho hT hS hB
                obtain ⟨hv22, hr22⟩ := (hT 22 108 rfl rfl : (Is (.bool true)) (f' 108) (ρ 22))
                obtain ⟨hv34, hr34⟩ := (hT 34 120 rfl rfl : (Is (.bool false)) (f' 120) (ρ 34))
                obtain hS := hS.flat2 hr22 hr34
                exact .inl ⟨want_on (e := 108) rfl rfl rfl hv22, omove (v := .bool false) rfl rfl (ev (v := .bool false) rfl hv34) ⟨_, _, rfl, isI, New.same _⟩⟩
              refine stepsCons rfl ?_ ?_
              · intro Q f' w' ρ S ho hT hS hB
                obtain ⟨hv35, hr35⟩ := (hT 35 121 rfl rfl : (Is (.bool false)) (f' 121) (ρ 35))
                obtain hS := hS.flat1 hr35
                exact .inl ⟨want_on (e := 121) rfl rfl rfl hv35, oload (vs := [.bool (ng z7), .slice p7 n7 c7]) aggZ hS 8 rfl rfl (ev rfl (ho 17 rfl)) rfl rfl rfl ⟨_, _, rfl, isI, New.same _⟩⟩
              refine stepsCons rfl ?_ ?_
              · intro Q f' w' ρ S ho hT hS hB
                obtain ⟨hv35, hr35⟩ := (hT 35 121 rfl rfl : (Is (.bool false)) (f' 121) (ρ 35))
                obtain hS := hS.flat1 hr35
                exact .inl ⟨want_on (e := 121) rfl rfl rfl hv35, oload (vs := [.bool bA, .slice qA nA kA, .bool bB, .slice qB nB kB]) aggR hS 17 rfl rfl (ev rfl (ho 7 rfl)) rfl rfl rfl ⟨_, _, rfl, isI, New.same _⟩⟩
              refine stepsCons rfl ?_ ?_
              · intro Q f' w' ρ S ho hT hS hB
                obtain ⟨hv35, hr35⟩ := (hT 35 121 rfl rfl : (Is (.bool false)) (f' 121) (ρ 35))
                obtain ⟨hv37, hr37⟩ := (hT 37 123 rfl rfl : (Is (.agg #[.bool bA, .slice qA nA kA, .bool bB, .slice qB nB kB])) (f' 123) (ρ 37))
                obtain hS := hS.flat2 hr35 hr37
                refine .inl ⟨want_on (e := 121) rfl rfl rfl hv35, ocall rfl rfl Try.call49 rfl (wsfloor ((hzA.at hS).mono (by omega)) ((hzB.at hS).mono (by omega)) (hy) hz17) (args1 (ev rfl hv37)) ?_⟩
                rintro _ w9 ⟨_, _, rfl, hTT, hN⟩
                exact ⟨_, rfl, _, _, rfl, hTT, hN⟩
              refine stepsCons rfl ?_ ?_
              · intro Q f' w' ρ S ho hT hS hB
                obtain ⟨hv35, hr35⟩ := (hT 35 121 rfl rfl : (Is (.bool false)) (f' 121) (ρ 35))
                obtain ⟨hv36, hr36⟩ := (hT 36 122 rfl rfl : (Is (.agg #[.bool (ng z7), .slice p7 n7 c7])) (f' 122) (ρ 36))
                obtain ⟨p17, n17, c17, hv38, hr38⟩ := (hT 38 124 rfl rfl : (Zt z17) (f' 124) (ρ 38))
                obtain hS := hS.flat3 hr35 hr36 hr38
                refine .inl ⟨want_on (e := 121) rfl rfl rfl hv35, ocall rfl rfl Try.call22 rfl (wqsame (x := z7) (y := z17) (hS.sl 9 rfl) (hS.sl 20 rfl) ((hz7.out.symm).trans (hz17.out.symm).symm)) (args2 (ev rfl hv36) (ev rfl hv38)) ?_⟩
                rintro _ w9 ⟨_, _, rfl, hTT, hN⟩
                exact ⟨_, rfl, _, _, rfl, hTT, hN⟩
              refine stepsCons rfl ?_ ?_
              · intro Q f' w' ρ S ho hT hS hB
                obtain ⟨hv35, hr35⟩ := (hT 35 121 rfl rfl : (Is (.bool false)) (f' 121) (ρ 35))
                obtain ⟨hv39, hr39⟩ := (hT 39 125 rfl rfl : (Is (.bool true)) (f' 125) (ρ 39))
                obtain hS := hS.flat2 hr35 hr39
                exact .inl ⟨want_on (e := 121) rfl rfl rfl hv35, onot (b := true) rfl rfl (ev (v := .bool true) rfl hv39) ⟨_, _, rfl, isI, New.same _⟩⟩
              refine stepsCons rfl ?_ ?_
              · intro Q f' w' ρ S ho hT hS hB
                obtain ⟨hv22, hr22⟩ := (hT 22 108 rfl rfl : (Is (.bool true)) (f' 108) (ρ 22))
                obtain ⟨hv35, hr35⟩ := (hT 35 121 rfl rfl : (Is (.bool false)) (f' 121) (ρ 35))
                obtain ⟨hv40, hr40⟩ := (hT 40 126 rfl rfl : (Is (.bool false)) (f' 126) (ρ 40))
                obtain hS := hS.flat3 hr22 hr35 hr40
                exact .inl ⟨want_on (e := 108) rfl rfl rfl hv22, opick (b := false) (v := .bool false) rfl rfl (ev (v := .bool false) rfl hv35) (ev (v := .bool false) rfl hv40) ⟨_, _, rfl, isI, New.same _⟩⟩
              refine stepsCons rfl ?_ ?_
              · intro Q f' w' ρ S ho hT hS hB
                obtain ⟨hv20, hr20⟩ := (hT 20 106 rfl rfl : (Is (.bool false)) (f' 106) (ρ 20))
                obtain ⟨hv22, hr22⟩ := (hT 22 108 rfl rfl : (Is (.bool true)) (f' 108) (ρ 22))
                obtain ⟨hv41, hr41⟩ := (hT 41 127 rfl rfl : (Is (.bool false)) (f' 127) (ρ 41))
                obtain hS := hS.flat3 hr20 hr22 hr41
                exact .inl ⟨want_on (e := 106) rfl rfl rfl hv20, opick (b := true) (v := .bool false) rfl rfl (ev (v := .bool true) rfl hv22) (ev (v := .bool false) rfl hv41) ⟨_, _, rfl, isI, New.same _⟩⟩
              refine stepsCons rfl ?_ ?_
              · intro Q f' w' ρ S ho hT hS hB
                obtain ⟨hv20, hr20⟩ := (hT 20 106 rfl rfl : (Is (.bool false)) (f' 106) (ρ 20))
                obtain ⟨hv42, hr42⟩ := (hT 42 128 rfl rfl : (Is (.bool false)) (f' 128) (ρ 42))
                obtain hS := hS.flat2 hr20 hr42
                exact .inl ⟨want_none rfl, opick (b := false) (v := .bool false) rfl rfl (ev (v := .bool false) rfl hv20) (ev (v := .bool false) rfl hv42) ⟨_, _, rfl, isI, New.same _⟩⟩
              exact stepsNil
            ·
              intro vs ρ w26 f' hf hT hS
              obtain ⟨hv0, hr0⟩ := (hT 0 (by decide) : (Is (.bool true)) (vs 0) (ρ 0))
              obtain ⟨hv1, hr1⟩ := (hT 1 (by decide) : (Is (.bool false)) (vs 1) (ρ 1))
              obtain ⟨hv2, hr2⟩ := (hT 2 (by decide) : (Is (.bool false)) (vs 2) (ρ 2))
              obtain ⟨hv3, hr3⟩ := (hT 3 (by decide) : (Is undef) (vs 3) (ρ 3))
              obtain ⟨hv4, hr4⟩ := (hT 4 (by decide) : (Is undef) (vs 4) (ρ 4))
              obtain ⟨hv5, hr5⟩ := (hT 5 (by decide) : (Is undef) (vs 5) (ρ 5))
              obtain ⟨hv6, hr6⟩ := (hT 6 (by decide) : (Is undef) (vs 6) (ρ 6))
              obtain ⟨hv7, hr7⟩ := (hT 7 (by decide) : (Is undef) (vs 7) (ρ 7))
              obtain ⟨hv8, hr8⟩ := (hT 8 (by decide) : (Is undef) (vs 8) (ρ 8))
              obtain ⟨hv9, hr9⟩ := (hT 9 (by decide) : (Is undef) (vs 9) (ρ 9))
              obtain ⟨hv10, hr10⟩ := (hT 10 (by decide) : (Is undef) (vs 10) (ρ 10))
              obtain ⟨hv11, hr11⟩ := (hT 11 (by decide) : (Is undef) (vs 11) (ρ 11))
              obtain ⟨hv12, hr12⟩ := (hT 12 (by decide) : (Is undef) (vs 12) (ρ 12))
              obtain ⟨hv13, hr13⟩ := (hT 13 (by decide) : (Is undef) (vs 13) (ρ 13))
              obtain ⟨hv14, hr14⟩ := (hT 14 (by decide) : (Is undef) (vs 14) (ρ 14))
              obtain ⟨hv15, hr15⟩ := (hT 15 (by decide) : (Is undef) (vs 15) (ρ 15))
              obtain ⟨hv16, hr16⟩ := (hT 16 (by decide) : (Is undef) (vs 16) (ρ 16))
              obtain ⟨hv17, hr17⟩ := (hT 17 (by decide) : (Is undef) (vs 17) (ρ 17))
              obtain ⟨hv18, hr18⟩ := (hT 18 (by decide) : (Is undef) (vs 18) (ρ 18))
              obtain ⟨hv19, hr19⟩ := (hT 19 (by decide) : (Is (.bool false)) (vs 19) (ρ 19))
              obtain ⟨hv20, hr20⟩ := (hT 20 (by decide) : (Is (.bool false)) (vs 20) (ρ 20))
              obtain ⟨hv21, hr21⟩ := (hT 21 (by decide) : (Is (.bool true)) (vs 21) (ρ 21))
              obtain ⟨hv22, hr22⟩ := (hT 22 (by decide) : (Is (.bool true)) (vs 22) (ρ 22))
              obtain ⟨hv23, hr23⟩ := (hT 23 (by decide) : (Is (.int .i64 s5)) (vs 23) (ρ 23))
              obtain ⟨hv24, hr24⟩ := (hT 24 (by decide) : (Is (.agg #[.bool bA, .slice qA nA kA, .bool bB, .slice qB nB kB])) (vs 24) (ρ 24))
              obtain ⟨hv25, hr25⟩ := (hT 25 (by decide) : (Is (.int .i64 s16)) (vs 25) (ρ 25))
              obtain ⟨hv26, hr26⟩ := (hT 26 (by decide) : (Is (.bool false)) (vs 26) (ρ 26))
              obtain ⟨hv27, hr27⟩ := (hT 27 (by decide) : (Is (.bool false)) (vs 27) (ρ 27))
              obtain ⟨hv28, hr28⟩ := (hT 28 (by decide) : (Is (.int .i64 0)) (vs 28) (ρ 28))
              obtain ⟨hv29, hr29⟩ := (hT 29 (by decide) : (Is (.bool false)) (vs 29) (ρ 29))
              obtain ⟨hv30, hr30⟩ := (hT 30 (by decide) : (Is (.bool false)) (vs 30) (ρ 30))
              obtain ⟨hv31, hr31⟩ := (hT 31 (by decide) : (Is (.bool false)) (vs 31) (ρ 31))
              obtain ⟨hv32, hr32⟩ := (hT 32 (by decide) : (Is (.int .i64 0)) (vs 32) (ρ 32))
              obtain ⟨hv33, hr33⟩ := (hT 33 (by decide) : (Is (.bool false)) (vs 33) (ρ 33))
              obtain ⟨hv34, hr34⟩ := (hT 34 (by decide) : (Is (.bool false)) (vs 34) (ρ 34))
              obtain ⟨hv35, hr35⟩ := (hT 35 (by decide) : (Is (.bool false)) (vs 35) (ρ 35))
              obtain ⟨hv36, hr36⟩ := (hT 36 (by decide) : (Is (.agg #[.bool (ng z7), .slice p7 n7 c7])) (vs 36) (ρ 36))
              obtain ⟨hv37, hr37⟩ := (hT 37 (by decide) : (Is (.agg #[.bool bA, .slice qA nA kA, .bool bB, .slice qB nB kB])) (vs 37) (ρ 37))
              obtain ⟨p17, n17, c17, hv38, hr38⟩ := (hT 38 (by decide) : (Zt z17) (vs 38) (ρ 38))
              obtain ⟨hv39, hr39⟩ := (hT 39 (by decide) : (Is (.bool true)) (vs 39) (ρ 39))
              obtain ⟨hv40, hr40⟩ := (hT 40 (by decide) : (Is (.bool false)) (vs 40) (ρ 40))
              obtain ⟨hv41, hr41⟩ := (hT 41 (by decide) : (Is (.bool false)) (vs 41) (ρ 41))
              obtain ⟨hv42, hr42⟩ := (hT 42 (by decide) : (Is (.bool false)) (vs 42) (ρ 42))
              obtain ⟨hv43, hr43⟩ := (hT 43 (by decide) : (Is (.bool false)) (vs 43) (ρ 43))
              simp only [pool, if_true, hr0, hr1, hr2, hr3, hr4, hr5, hr6, hr7, hr8, hr9, hr10, hr11, hr12, hr13, hr14, hr15, hr16, hr17, hr18, hr19, hr20, hr21, hr22, hr23, hr24, hr25, hr26, hr27, hr28, hr29, hr30, hr31, hr32, hr33, hr34, hr35, hr36, hr37, hr38, hr39, hr40, hr41, hr42, hr43, List.nil_append, List.cons_append, List.append_nil] at hS
              simp only [layf, hv0, hv1, hv2, hv3, hv4, hv5, hv6, hv7, hv8, hv9, hv10, hv11, hv12, hv13, hv14, hv15, hv16, hv17, hv18, hv19, hv20, hv21, hv22, hv23, hv24, hv25, hv26, hv27, hv28, hv29, hv30, hv31, hv32, hv33, hv34, hv35, hv36, hv37, hv38, hv39, hv40, hv41, hv42, hv43] at hf
              subst hf; clear hT hv0 hv1 hv2 hv3 hv4 hv5 hv6 hv7 hv8 hv9 hv10 hv11 hv12 hv13 hv14 hv15 hv16 hv17 hv18 hv19 hv20 hv21 hv22 hv23 hv24 hv25 hv26 hv27 hv28 hv29 hv30 hv31 hv32 hv33 hv34 hv35 hv36 hv37 hv38 hv39 hv40 hv41 hv42 hv43 hr0 hr1 hr2 hr3 hr4 hr5 hr6 hr7 hr8 hr9 hr10 hr11 hr12 hr13 hr14 hr15 hr16 hr17 hr18 hr19 hr20 hr21 hr22 hr23 hr24 hr25 hr26 hr27 hr28 hr29 hr30 hr31 hr32 hr33 hr34 hr35 hr36 hr37 hr38 hr39 hr40 hr41 hr42 hr43
              refine wdone rfl ?_
              refine thenN ?_
              refine wF (ev (v := .bool false) rfl rfl) ?_
              refine wskip ?_
              refine thenN ?_
              refine wseq ?_
              refine wseq ?_
              refine wreg ?_
              refine wl rfl (omove (v := .bool true) rfl rfl (ev (v := .bool true) rfl rfl) ?_)
              refine wl rfl (onot (b := true) rfl rfl (ev (v := .bool true) rfl rfl) ?_)
              refine wnil ?_
              refine thenN ?_
              refine wF (ev (v := .bool false) rfl rfl) ?_
              refine wskip ?_
              refine thenN ?_
              refine wseq ?_
              refine wreg ?_
              refine wl rfl (omove (v := .int .i64 s6) rfl rfl (ev (v := .int .i64 s6) rfl rfl) ?_)
              refine wl rfl (oload (vs := [.bool bA, .slice qA nA kA, .bool bB, .slice qB nB kB]) aggR hS 18 rfl rfl (ev rfl rfl) rfl rfl rfl ?_)
              refine wl rfl (oload (vs := [.bool bC, .slice qC nC kC, .bool bD, .slice qD nD kD]) aggR hS 17 rfl rfl (ev rfl rfl) rfl rfl rfl ?_)
              obtain ⟨s18, hs18⟩ : ∃ z : Int, Hid (cmpQ x y u v = z) := ⟨_, rfl⟩
              refine wl rfl (ocall rfl rfl Try.call50 rfl (wscmp ((hzA.at hS).mono (by omega)) ((hzB.at hS).mono (by omega)) ((hzC.at hS).mono (by omega)) ((hzD.at hS).mono (by omega)) (hy) (hv) hs18) (args2 (ev rfl rfl) (ev rfl rfl)) ?_)
              rintro _ w27 ⟨_, _, rfl, ⟨rfl, rfl⟩, hN⟩
              refine ⟨_, rfl, ?_⟩
              replace hS := hS.news hN; clear hN
              refine wl rfl (obin (u := .int .i64 s6) (v := .int .i64 s18) (z := .bool true) rfl rfl (ev (v := .int .i64 s6) rfl rfl) (ev (v := .int .i64 s18) rfl rfl) (bin_eql (eqT ((hs6.out.symm).trans (hs18.out.symm).symm))) ?_)
              refine wl rfl (omove (v := .bool true) rfl rfl (ev (v := .bool true) rfl rfl) ?_)
              refine wlOn (e := 146) rfl rfl rfl rfl (omove (v := .int .i64 0) rfl rfl (ev (v := .int .i64 0) rfl rfl) ?_)
              refine wlOn (e := 146) rfl rfl rfl rfl (obin (u := .int .i64 0) (v := .int .i64 0) (z := .bool true) rfl rfl (ev (v := .int .i64 0) rfl rfl) (evc (v := .int .i64 0)) (bin_eql (by decide)) ?_)
              refine wl rfl (opick (b := true) (v := .bool true) rfl rfl (ev (v := .bool true) rfl rfl) (ev (v := .bool true) rfl rfl) ?_)
              refine wl rfl (omove (v := .bool true) rfl rfl (ev (v := .bool true) rfl rfl) ?_)
              refine wlOn (e := 150) rfl rfl rfl rfl (ocall rfl rfl Try.call15 rfl (wllives5) (args0 ) ?_)
              rintro _ w28 ⟨_, _, rfl, ⟨rfl, rfl⟩, hN⟩
              refine ⟨_, rfl, ?_⟩
              replace hS := hS.news hN; clear hN
              refine wl rfl (opick (b := true) (v := .bool true) rfl rfl (ev (v := .bool true) rfl rfl) (ev (v := .bool true) rfl rfl) ?_)
              refine wl rfl (oassign (v := .bool true) rfl rfl (ev (v := .bool true) rfl rfl) ?_)
              refine wnil ?_
              refine thenN ?_
              refine wleave ?_
              refine wret1 Try.results7 (tellT (v := .bool true) rfl rfl) ?_
              exact ⟨_, _, rfl, isI, hS.new0⟩

theorem rforms_law {bA bB bC bD : Bool} {qA qB qC qD : Option Addr} {nA kA nB kB nC kC nD kD : Nat} {la lb lc ld : List Nat} {s : Int} {w : World} (hsA : Sl w qA nA kA la) (hsB : Sl w qB nB kB lb) (hsC : Sl w qC nC kC lc) (hsD : Sl w qD nD kD ld) (hA : nA ≤ 1048576 ∧ nB ≤ 1048576) (hB : nC ≤ 1048576 ∧ nD ≤ 1048576) (hs : -9223372036854775808 ≤ s ∧ s ≤ 9223372036854775807) :
    Calls Try.prog 7 #[.agg #[.bool bA, .slice qA nA kA, .bool bB, .slice qB nB kB], .agg #[.bool bC, .slice qC nC kC, .bool bD, .slice qD nD kD], .int .i64 s] w (RetB w true) :=
  (rforms_w ⟨_, hsA, rfl, hA.1⟩ ⟨_, hsB, rfl, hA.2⟩ ⟨_, hsC, rfl, hB.1⟩ ⟨_, hsD, rfl, hB.2⟩ hs.1 hs.2).mono Ret.b

end Go.Proofs.Ytoinfkimlhhmpaa
