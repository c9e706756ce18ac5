
/-
  The walk of similelaw05.RatSums.
-/
import Derived.Test.YtoinfkimlhhmpaaRatNeg
set_option linter.unusedVariables false
set_option linter.unusedSimpArgs false
namespace Go.Proofs.Ytoinfkimlhhmpaa
open Go.RowKit

set_option maxRecDepth 100000 in
set_option maxHeartbeats 16000000 in
theorem rsums_w {bA bB bC bD : Bool} {qA qB qC qD : Option Addr} {nA kA nB kB nC kC nD kD : Nat} {la lb lc ld : List Nat} {w : World} (hsA : Sl w qA nA kA la) (hsB : Sl w qB nB kB lb) (hsC : Sl w qC nC kC lc) (hsD : Sl w qD nD kD ld) (hnA : nA ≤ 1048576 ∧ nB ≤ 1048576) (hnC : nC ≤ 1048576 ∧ nD ≤ 1048576) :
    Calls Try.prog 5 #[.agg #[.bool bA, .slice qA nA kA, .bool bB, .slice qB nB kB], .agg #[.bool bC, .slice qC nC kC, .bool bD, .slice qD nD kD]] w (Ret (Is (.bool true)) w) := by
  obtain ⟨hnA, hnB⟩ := hnA
  obtain ⟨hnC, hnD⟩ := hnC
  obtain ⟨x, heA⟩ : ∃ x : Int, zv bA (val la) = x := ⟨_, rfl⟩
  have hzA : Zr w bA qA nA kA x 1048576 := ⟨la, hsA, heA, hnA⟩
  obtain ⟨y, heB⟩ : ∃ x : Int, zv bB (val lb) = x := ⟨_, rfl⟩
  have hzB : Zr w bB qB nB kB y 1048576 := ⟨lb, hsB, heB, hnB⟩
  obtain ⟨u, heC⟩ : ∃ x : Int, zv bC (val lc) = x := ⟨_, rfl⟩
  have hzC : Zr w bC qC nC kC u 1048576 := ⟨lc, hsC, heC, hnC⟩
  obtain ⟨v, heD⟩ : ∃ x : Int, zv bD (val ld) = x := ⟨_, rfl⟩
  have hzD : Zr w bD qD nD kD v 1048576 := ⟨ld, hsD, heD, hnD⟩
  have hS := Sep.init w
  refine went Try.func5 rfl (n := 120) rfl rfl ?_
  refine wseq ?_
  refine wreg ?_
  refine wl rfl (obox [.bool bA, .slice qA nA kA, .bool bB, .slice qB nB kB] hS rfl rfl (ev (v := .agg #[.bool bA, .slice qA nA kA, .bool bB, .slice qB nB kB]) rfl rfl) rfl ?_)
  clear hS; intro g1 w2 hS
  refine wl rfl (obox [.bool bC, .slice qC nC kC, .bool bD, .slice qD nD kD] hS rfl rfl (ev (v := .agg #[.bool bC, .slice qC nC kC, .bool bD, .slice qD nD kD]) rfl rfl) rfl ?_)
  clear hS; intro g3 w4 hS
  refine wl rfl (oassign (v := .bool false) rfl rfl (evc (v := .bool false)) ?_)
  refine wnil ?_
  refine thenN ?_
  refine wseq ?_
  refine wstage 6 [21, 22, 23, 24, 5, 6] [[], [0], [], [2, 0, 1], [], []] [[], [], [], [], [], []] [] [] (fun i9 => ([fun _ => Is (.agg #[.bool bA, .slice qA nA kA, .bool bB, .slice qB nB kB]), fun _ => Rct bA nA la bB nB lb, fun _ => Is (.agg #[.bool bC, .slice qC nC kC, .bool bD, .slice qD nD kD]), fun _ => Rct bC nC lc bD nD ld, fun _ => Ptr [.bool false, .slice none 0 0, .bool false, .slice none 0 0] 27, fun _ => Ptr [.bool false, .slice none 0 0, .bool false, .slice none 0 0] 27] : List (List Value → Tell)).getD i9 (fun _ _ _ => False)) (heldNil) (fun d _ _ _ _ h => (by cases d <;> exact h)) (by kernel_rfl) (by kernel_rfl) (by kernel_rfl) hS ?_ ?_
  ·
    refine stepsCons rfl ?_ ?_
    · intro Q f' w' ρ S ho hT hS hB
      exact .inl ⟨want_none rfl, oload (vs := [.bool bA, .slice qA nA kA, .bool bB, .slice qB nB kB]) aggR hS 1 rfl rfl (ev rfl (ho 2 rfl)) rfl rfl rfl ⟨_, _, rfl, isI, New.same _⟩⟩
    refine stepsCons rfl ?_ ?_
    · intro Q f' w' ρ S ho hT hS hB
      obtain ⟨hv0, hr0⟩ := (hT 0 21 rfl rfl : (Is (.agg #[.bool bA, .slice qA nA kA, .bool bB, .slice qB nB kB])) (f' 21) (ρ 0))
      obtain hS := hS.flat1 hr0
      refine .inl ⟨want_none rfl, ocall rfl rfl Try.call26 rfl (wscopy (hsA.below hS.below (Nat.le_refl _)) (hsB.below hS.below (Nat.le_refl _)) (by omega) (by omega)) (args1 (ev rfl hv0)) ?_⟩
      rintro _ w9 ⟨_, _, rfl, hTT, hN⟩
      exact ⟨_, rfl, _, _, rfl, hTT, hN⟩
    refine stepsCons rfl ?_ ?_
    · intro Q f' w' ρ S ho hT hS hB
      exact .inl ⟨want_none rfl, oload (vs := [.bool bC, .slice qC nC kC, .bool bD, .slice qD nD kD]) aggR hS 0 rfl rfl (ev rfl (ho 3 rfl)) rfl rfl rfl ⟨_, _, rfl, isI, New.same _⟩⟩
    refine stepsCons rfl ?_ ?_
    · intro Q f' w' ρ S ho hT hS hB
      obtain ⟨hv2, hr2⟩ := (hT 2 23 rfl rfl : (Is (.agg #[.bool bC, .slice qC nC kC, .bool bD, .slice qD nD kD])) (f' 23) (ρ 2))
      obtain hS := hS.flat1 hr2
      refine .inl ⟨want_none rfl, ocall rfl rfl Try.call26 rfl (wscopy (hsC.below hS.below (Nat.le_refl _)) (hsD.below hS.below (Nat.le_refl _)) (by omega) (by omega)) (args1 (ev rfl hv2)) ?_⟩
      rintro _ w9 ⟨_, _, rfl, hTT, hN⟩
      exact ⟨_, rfl, _, _, rfl, hTT, hN⟩
    refine stepsCons rfl ?_ ?_
    · intro Q f' w' ρ S ho hT hS hB
      exact .inl ⟨want_none rfl, oallocN [.bool false, .slice none 0 0, .bool false, .slice none 0 0] rfl rfl Try.zeroValue27 rfl ⟨_, _, rfl, ptrI, New.blk _ _ _⟩⟩
    refine stepsCons rfl ?_ ?_
    · intro Q f' w' ρ S ho hT hS hB
      exact .inl ⟨want_none rfl, oallocN [.bool false, .slice none 0 0, .bool false, .slice none 0 0] rfl rfl Try.zeroValue27 rfl ⟨_, _, rfl, ptrI, New.blk _ _ _⟩⟩
    exact stepsNil
  ·
    intro vs ρ w7 f' hf hT hS
    obtain ⟨hv0, hr0⟩ := (hT 0 (by decide) : (Is (.agg #[.bool bA, .slice qA nA kA, .bool bB, .slice qB nB kB])) (vs 0) (ρ 0))
    obtain ⟨pc1, cc1, pc2, cc2, hv1, hr1⟩ := (hT 1 (by decide) : (Rct bA nA la bB nB lb) (vs 1) (ρ 1))
    obtain ⟨hv2, hr2⟩ := (hT 2 (by decide) : (Is (.agg #[.bool bC, .slice qC nC kC, .bool bD, .slice qD nD kD])) (vs 2) (ρ 2))
    obtain ⟨pc3, cc3, pc4, cc4, hv3, hr3⟩ := (hT 3 (by decide) : (Rct bC nC lc bD nD ld) (vs 3) (ρ 3))
    obtain ⟨g5, hv4, hr4⟩ := (hT 4 (by decide) : (Ptr [.bool false, .slice none 0 0, .bool false, .slice none 0 0] 27) (vs 4) (ρ 4))
    obtain ⟨g6, hv5, hr5⟩ := (hT 5 (by decide) : (Ptr [.bool false, .slice none 0 0, .bool false, .slice none 0 0] 27) (vs 5) (ρ 5))
    simp only [pool, if_true, hr0, hr1, hr2, hr3, hr4, hr5, List.nil_append, List.cons_append, List.append_nil] at hS
    simp only [layf, hv0, hv1, hv2, hv3, hv4, hv5] at hf
    subst hf; clear hT hv0 hv1 hv2 hv3 hv4 hv5 hr0 hr1 hr2 hr3 hr4 hr5
    refine wlate 6 rfl (by kernel_rfl) (ostore [.bool bA, .slice pc1 nA cc1, .bool bB, .slice pc2 nB cc2] [.bool bA, .slice pc1 nA cc1, .bool bB, .slice pc2 nB cc2] Try.sizeOf27 hS 1 rfl rfl (ev rfl rfl) (ev (v := .agg #[.bool bA, .slice pc1 nA cc1, .bool bB, .slice pc2 nB cc2]) rfl rfl) rfl rfl rfl rfl rfl rfl ?_)
    clear hS; intro w8 hS
    refine ⟨heldNil, ?_⟩
    refine wlate 7 rfl (by kernel_rfl) (ostore [.bool bC, .slice pc3 nC cc3, .bool bD, .slice pc4 nD cc4] [.bool bC, .slice pc3 nC cc3, .bool bD, .slice pc4 nD cc4] Try.sizeOf27 hS 0 rfl rfl (ev rfl rfl) (ev (v := .agg #[.bool bC, .slice pc3 nC cc3, .bool bD, .slice pc4 nD cc4]) rfl rfl) rfl rfl rfl rfl rfl rfl ?_)
    clear hS; intro w9 hS
    refine ⟨heldNil, ?_⟩
    refine wdone rfl ?_
    refine thenN ?_
    refine wseq ?_
    by_cases hy : y = 0
    ·
      by_cases hv : v = 0
      ·
        have hk5 : Wd 1 2 := Wd.i64 (by omega) (by omega)
        have hk6 : Wd 1 2 := Wd.i64 (by omega) (by omega)
        have hk7 : Wd 1 2 := Wd.i64 (by omega) (by omega)
        have hk8 : Wd 1 2 := Wd.i64 (by omega) (by omega)
        refine wstage 6 [25, 26, 27, 28, 7, 8] [[], [0], [], [2, 0, 1], [], []] [[], [], [], [], [], []] [] [] (fun i9 => ([fun _ => Is (.agg #[.bool bA, .slice qA nA kA, .bool bB, .slice qB nB kB]), fun _ => Rrt 1 1, fun _ => Is (.agg #[.bool bC, .slice qC nC kC, .bool bD, .slice qD nD kD]), fun _ => Rrt 1 1, fun _ => Ptr [.bool false, .slice none 0 0, .bool false, .slice none 0 0] 27, fun _ => Ptr [.bool false, .slice none 0 0, .bool false, .slice none 0 0] 27] : List (List Value → Tell)).getD i9 (fun _ _ _ => False)) (heldNil) (fun d _ _ _ _ h => (by cases d <;> exact h)) (by kernel_rfl) (by kernel_rfl) (by kernel_rfl) hS ?_ ?_
        ·
          refine stepsCons rfl ?_ ?_
          · intro Q f' w' ρ S ho hT hS hB
            exact .inl ⟨want_none rfl, oload (vs := [.bool bA, .slice qA nA kA, .bool bB, .slice qB nB kB]) aggR hS 7 rfl rfl (ev rfl (ho 2 rfl)) rfl rfl rfl ⟨_, _, rfl, isI, New.same _⟩⟩
          refine stepsCons rfl ?_ ?_
          · intro Q f' w' ρ S ho hT hS hB
            obtain ⟨hv0, hr0⟩ := (hT 0 25 rfl rfl : (Is (.agg #[.bool bA, .slice qA nA kA, .bool bB, .slice qB nB kB])) (f' 25) (ρ 0))
            obtain hS := hS.flat1 hr0
            refine .inl ⟨want_none rfl, ocall rfl rfl Try.call27 rfl (wlsome0 ((hzB.at hS).mono (by omega)) (hy)) (args1 (ev rfl hv0)) ?_⟩
            rintro _ w9 ⟨_, _, rfl, hTT, hN⟩
            exact ⟨_, rfl, _, _, rfl, hTT, hN⟩
          refine stepsCons rfl ?_ ?_
          · intro Q f' w' ρ S ho hT hS hB
            exact .inl ⟨want_none rfl, oload (vs := [.bool bC, .slice qC nC kC, .bool bD, .slice qD nD kD]) aggR hS 6 rfl rfl (ev rfl (ho 3 rfl)) rfl rfl rfl ⟨_, _, rfl, isI, New.same _⟩⟩
          refine stepsCons rfl ?_ ?_
          · intro Q f' w' ρ S ho hT hS hB
            obtain ⟨hv2, hr2⟩ := (hT 2 27 rfl rfl : (Is (.agg #[.bool bC, .slice qC nC kC, .bool bD, .slice qD nD kD])) (f' 27) (ρ 2))
            obtain hS := hS.flat1 hr2
            refine .inl ⟨want_none rfl, ocall rfl rfl Try.call27 rfl (wlsome0 ((hzD.at hS).mono (by omega)) (hv)) (args1 (ev rfl hv2)) ?_⟩
            rintro _ w9 ⟨_, _, rfl, hTT, hN⟩
            exact ⟨_, rfl, _, _, rfl, hTT, hN⟩
          refine stepsCons rfl ?_ ?_
          · intro Q f' w' ρ S ho hT hS hB
            exact .inl ⟨want_none rfl, oallocN [.bool false, .slice none 0 0, .bool false, .slice none 0 0] rfl rfl Try.zeroValue27 rfl ⟨_, _, rfl, ptrI, New.blk _ _ _⟩⟩
          refine stepsCons rfl ?_ ?_
          · intro Q f' w' ρ S ho hT hS hB
            exact .inl ⟨want_none rfl, oallocN [.bool false, .slice none 0 0, .bool false, .slice none 0 0] rfl rfl Try.zeroValue27 rfl ⟨_, _, rfl, ptrI, New.blk _ _ _⟩⟩
          exact stepsNil
        ·
          intro vs ρ w12 f' hf hT hS
          obtain ⟨hv0, hr0⟩ := (hT 0 (by decide) : (Is (.agg #[.bool bA, .slice qA nA kA, .bool bB, .slice qB nB kB])) (vs 0) (ρ 0))
          obtain ⟨p5, n5, c5, p6, n6, c6, hv1, hr1⟩ := (hT 1 (by decide) : (Rrt 1 1) (vs 1) (ρ 1))
          obtain ⟨hv2, hr2⟩ := (hT 2 (by decide) : (Is (.agg #[.bool bC, .slice qC nC kC, .bool bD, .slice qD nD kD])) (vs 2) (ρ 2))
          obtain ⟨p7, n7, c7, p8, n8, c8, hv3, hr3⟩ := (hT 3 (by decide) : (Rrt 1 1) (vs 3) (ρ 3))
          obtain ⟨g10, hv4, hr4⟩ := (hT 4 (by decide) : (Ptr [.bool false, .slice none 0 0, .bool false, .slice none 0 0] 27) (vs 4) (ρ 4))
          obtain ⟨g11, hv5, hr5⟩ := (hT 5 (by decide) : (Ptr [.bool false, .slice none 0 0, .bool false, .slice none 0 0] 27) (vs 5) (ρ 5))
          simp only [pool, if_true, hr0, hr1, hr2, hr3, hr4, hr5, List.nil_append, List.cons_append, List.append_nil] at hS
          simp only [layf, hv0, hv1, hv2, hv3, hv4, hv5] at hf
          subst hf; clear hT hv0 hv1 hv2 hv3 hv4 hv5 hr0 hr1 hr2 hr3 hr4 hr5
          refine wlate 6 rfl (by kernel_rfl) (ostore [.bool (ng 1), .slice p5 n5 c5, .bool (ng 1), .slice p6 n6 c6] [.bool (ng 1), .slice p5 n5 c5, .bool (ng 1), .slice p6 n6 c6] Try.sizeOf27 hS 1 rfl rfl (ev rfl rfl) (ev (v := .agg #[.bool (ng 1), .slice p5 n5 c5, .bool (ng 1), .slice p6 n6 c6]) rfl rfl) rfl rfl rfl rfl rfl rfl ?_)
          clear hS; intro w13 hS
          refine ⟨heldNil, ?_⟩
          refine wlate 7 rfl (by kernel_rfl) (ostore [.bool (ng 1), .slice p7 n7 c7, .bool (ng 1), .slice p8 n8 c8] [.bool (ng 1), .slice p7 n7 c7, .bool (ng 1), .slice p8 n8 c8] Try.sizeOf27 hS 0 rfl rfl (ev rfl rfl) (ev (v := .agg #[.bool (ng 1), .slice p7 n7 c7, .bool (ng 1), .slice p8 n8 c8]) rfl rfl) rfl rfl rfl rfl rfl rfl ?_)
          clear hS; intro w14 hS
          refine ⟨heldNil, ?_⟩
          refine wdone rfl ?_
          refine thenN ?_
          refine wseq ?_
          refine wstage 10 [29, 30, 31, 32, 33, 34, 35, 36, 9, 10] [[], [0], [], [2, 0, 1], [3, 0, 1, 2], [4, 0, 1, 2, 3], [4, 5, 0, 1, 2, 3], [4, 6, 0, 1, 2, 3, 5], [1, 0, 2, 3, 4, 5, 6], [7, 0, 1, 2, 3, 4, 5, 6, 8]] [[], [], [], [], [], [], [], [], [], []] [] [] (fun i9 => ([fun _ => Is (.agg #[.bool bA, .slice qA nA kA, .bool bB, .slice qB nB kB]), fun _ => Is (.bool false), fun _ => Is (.agg #[.bool bA, .slice qA nA kA, .bool bB, .slice qB nB kB]), fun _ => Is (.bool false), fun _ => Is (.bool false), fun _ => Is undef, fun _ => Is undef, fun _ => Is (.bool false), fun _ => Is (.bool false), fun _ => Is (.bool false)] : List (List Value → Tell)).getD i9 (fun _ _ _ => False)) (heldNil) (fun d _ _ _ _ h => (by cases d <;> exact h)) (by kernel_rfl) (by kernel_rfl) (by kernel_rfl) hS ?_ ?_
          ·
            refine stepsCons rfl ?_ ?_
            · intro Q f' w' ρ S ho hT hS hB
              exact .inl ⟨want_none rfl, oload (vs := [.bool bA, .slice qA nA kA, .bool bB, .slice qB nB kB]) aggR hS 13 rfl rfl (ev rfl (ho 2 rfl)) rfl rfl rfl ⟨_, _, rfl, isI, New.same _⟩⟩
            refine stepsCons rfl ?_ ?_
            · intro Q f' w' ρ S ho hT hS hB
              obtain ⟨hv0, hr0⟩ := (hT 0 29 rfl rfl : (Is (.agg #[.bool bA, .slice qA nA kA, .bool bB, .slice qB nB kB])) (f' 29) (ρ 0))
              obtain hS := hS.flat1 hr0
              refine .inl ⟨want_none rfl, ocall rfl rfl Try.call11 rfl (wsmay0 ((hzB.at hS).mono (by omega)) (hy)) (args1 (ev rfl hv0)) ?_⟩
              rintro _ w9 ⟨_, _, rfl, hTT, hN⟩
              exact ⟨_, rfl, _, _, rfl, hTT, hN⟩
            refine stepsCons rfl ?_ ?_
            · intro Q f' w' ρ S ho hT hS hB
              exact .inl ⟨want_none rfl, oload (vs := [.bool bA, .slice qA nA kA, .bool bB, .slice qB nB kB]) aggR hS 13 rfl rfl (ev rfl (ho 2 rfl)) rfl rfl rfl ⟨_, _, rfl, isI, New.same _⟩⟩
            refine stepsCons rfl ?_ ?_
            · intro Q f' w' ρ S ho hT hS hB
              obtain ⟨hv2, hr2⟩ := (hT 2 31 rfl rfl : (Is (.agg #[.bool bA, .slice qA nA kA, .bool bB, .slice qB nB kB])) (f' 31) (ρ 2))
              obtain hS := hS.flat1 hr2
              refine .inl ⟨want_none rfl, ocall rfl rfl Try.call11 rfl (wsmay0 ((hzB.at hS).mono (by omega)) (hy)) (args1 (ev rfl hv2)) ?_⟩
              rintro _ w9 ⟨_, _, rfl, hTT, hN⟩
              exact ⟨_, rfl, _, _, rfl, hTT, hN⟩
            refine stepsCons rfl ?_ ?_
            · intro Q f' w' ρ S ho hT hS hB
              obtain ⟨hv3, hr3⟩ := (hT 3 32 rfl rfl : (Is (.bool false)) (f' 32) (ρ 3))
              obtain hS := hS.flat1 hr3
              exact .inl ⟨want_none rfl, omove (v := .bool false) rfl rfl (ev (v := .bool false) rfl hv3) ⟨_, _, rfl, isI, New.same _⟩⟩
            refine stepsCons rfl ?_ ?_
            · intro Q f' w' ρ S ho hT hS hB
              obtain ⟨hv4, hr4⟩ := (hT 4 33 rfl rfl : (Is (.bool false)) (f' 33) (ρ 4))
              obtain hS := hS.flat1 hr4
              exact .inr ⟨want_off (e := 33) (b' := false) rfl rfl rfl hv4 rfl, isI⟩
            refine stepsCons rfl ?_ ?_
            · intro Q f' w' ρ S ho hT hS hB
              obtain ⟨hv4, hr4⟩ := (hT 4 33 rfl rfl : (Is (.bool false)) (f' 33) (ρ 4))
              obtain ⟨hv5, hr5⟩ := (hT 5 34 rfl rfl : (Is undef) (f' 34) (ρ 5))
              obtain hS := hS.flat2 hr4 hr5
              exact .inr ⟨want_off (e := 33) (b' := false) rfl rfl rfl hv4 rfl, isI⟩
            refine stepsCons rfl ?_ ?_
            · intro Q f' w' ρ S ho hT hS hB
              obtain ⟨hv4, hr4⟩ := (hT 4 33 rfl rfl : (Is (.bool false)) (f' 33) (ρ 4))
              obtain ⟨hv6, hr6⟩ := (hT 6 35 rfl rfl : (Is undef) (f' 35) (ρ 6))
              obtain hS := hS.flat2 hr4 hr6
              exact .inl ⟨want_none rfl, opick (b := false) (v := .bool false) rfl rfl (ev (v := .bool false) rfl hv4) (evc (v := .bool false)) ⟨_, _, rfl, isI, New.same _⟩⟩
            refine stepsCons rfl ?_ ?_
            · intro Q f' w' ρ S ho hT hS hB
              obtain ⟨hv1, hr1⟩ := (hT 1 30 rfl rfl : (Is (.bool false)) (f' 30) (ρ 1))
              obtain hS := hS.flat1 hr1
              exact .inl ⟨want_none rfl, oassign (v := .bool false) rfl rfl (ev (v := .bool false) rfl hv1) ⟨_, _, rfl, isI, New.same _⟩⟩
            refine stepsCons rfl ?_ ?_
            · intro Q f' w' ρ S ho hT hS hB
              obtain ⟨hv7, hr7⟩ := (hT 7 36 rfl rfl : (Is (.bool false)) (f' 36) (ρ 7))
              obtain hS := hS.flat1 hr7
              exact .inl ⟨want_none rfl, oassign (v := .bool false) rfl rfl (ev (v := .bool false) rfl hv7) ⟨_, _, rfl, isI, New.same _⟩⟩
            exact stepsNil
          ·
            intro vs ρ w15 f' hf hT hS
            obtain ⟨hv0, hr0⟩ := (hT 0 (by decide) : (Is (.agg #[.bool bA, .slice qA nA kA, .bool bB, .slice qB nB kB])) (vs 0) (ρ 0))
            obtain ⟨hv1, hr1⟩ := (hT 1 (by decide) : (Is (.bool false)) (vs 1) (ρ 1))
            obtain ⟨hv2, hr2⟩ := (hT 2 (by decide) : (Is (.agg #[.bool bA, .slice qA nA kA, .bool bB, .slice qB nB kB])) (vs 2) (ρ 2))
            obtain ⟨hv3, hr3⟩ := (hT 3 (by decide) : (Is (.bool false)) (vs 3) (ρ 3))
            obtain ⟨hv4, hr4⟩ := (hT 4 (by decide) : (Is (.bool false)) (vs 4) (ρ 4))
            obtain ⟨hv5, hr5⟩ := (hT 5 (by decide) : (Is undef) (vs 5) (ρ 5))
            obtain ⟨hv6, hr6⟩ := (hT 6 (by decide) : (Is undef) (vs 6) (ρ 6))
            obtain ⟨hv7, hr7⟩ := (hT 7 (by decide) : (Is (.bool false)) (vs 7) (ρ 7))
            obtain ⟨hv8, hr8⟩ := (hT 8 (by decide) : (Is (.bool false)) (vs 8) (ρ 8))
            obtain ⟨hv9, hr9⟩ := (hT 9 (by decide) : (Is (.bool false)) (vs 9) (ρ 9))
            simp only [pool, if_true, hr0, hr1, hr2, hr3, hr4, hr5, hr6, hr7, hr8, hr9, List.nil_append, List.cons_append, List.append_nil] at hS
            simp only [layf, hv0, hv1, hv2, hv3, hv4, hv5, hv6, hv7, hv8, hv9] at hf
            subst hf; clear hT hv0 hv1 hv2 hv3 hv4 hv5 hv6 hv7 hv8 hv9 hr0 hr1 hr2 hr3 hr4 hr5 hr6 hr7 hr8 hr9
            refine wdone rfl ?_
            refine thenN ?_
            refine wseq ?_
            refine wreg ?_
            refine wl rfl (oload (vs := [.bool bA, .slice pc1 nA cc1, .bool bB, .slice pc2 nB cc2]) aggR hS 7 rfl rfl (ev rfl rfl) rfl rfl rfl ?_)
            refine wl rfl (ocall rfl rfl Try.call28 rfl (wrneg0 ((show Zr _ _ _ _ _ x 1048576 from ⟨_, hS.slm 10 rfl, heA, hnA⟩).mono (by omega)) ((show Zr _ _ _ _ _ y 1048576 from ⟨_, hS.slm 11 rfl, heB, hnB⟩).mono (by omega)) (hy)) (args1 (ev rfl rfl)) ?_)
            rintro _ w16 ⟨_, _, rfl, ⟨rfl, rfl⟩, hN⟩
            refine ⟨_, rfl, ?_⟩
            replace hS := hS.news hN; clear hN
            refine wl rfl (omove (v := .tuple #[.agg #[.bool false, .slice none 0 0, .bool false, .slice none 0 0], .int .i64 6]) rfl rfl (ev (v := .tuple #[.agg #[.bool false, .slice none 0 0, .bool false, .slice none 0 0], .int .i64 6]) rfl rfl) ?_)
            refine wl rfl (oextract (vs := [.agg #[.bool false, .slice none 0 0, .bool false, .slice none 0 0], .int .i64 6]) (v := .agg #[.bool false, .slice none 0 0, .bool false, .slice none 0 0]) rfl rfl (ev (v := .tuple #[.agg #[.bool false, .slice none 0 0, .bool false, .slice none 0 0], .int .i64 6]) rfl rfl) rfl ?_)
            refine wl rfl (oextract (vs := [.agg #[.bool false, .slice none 0 0, .bool false, .slice none 0 0], .int .i64 6]) (v := .int .i64 6) rfl rfl (ev (v := .tuple #[.agg #[.bool false, .slice none 0 0, .bool false, .slice none 0 0], .int .i64 6]) rfl rfl) rfl ?_)
            refine wl rfl (oalloc [.bool false, .slice none 0 0, .bool false, .slice none 0 0] hS rfl rfl Try.zeroValue27 rfl ?_)
            clear hS; intro g17 w18 hS
            refine wl rfl (ostore [.bool false, .slice none 0 0, .bool false, .slice none 0 0] [.bool false, .slice none 0 0, .bool false, .slice none 0 0] Try.sizeOf27 hS 0 rfl rfl (ev rfl rfl) (ev (v := .agg #[.bool false, .slice none 0 0, .bool false, .slice none 0 0]) rfl rfl) rfl rfl rfl rfl rfl rfl ?_)
            clear hS; intro w19 hS
            refine wl rfl (oassign (v := .int .i64 6) rfl rfl (ev (v := .int .i64 6) rfl rfl) ?_)
            refine wnil ?_
            refine thenN ?_
            refine wseq ?_
            refine wreg ?_
            refine wl rfl (oload (vs := [.bool bA, .slice pc1 nA cc1, .bool bB, .slice pc2 nB cc2]) aggR hS 8 rfl rfl (ev rfl rfl) rfl rfl rfl ?_)
            refine wl rfl (oload (vs := [.bool bC, .slice pc3 nC cc3, .bool bD, .slice pc4 nD cc4]) aggR hS 7 rfl rfl (ev rfl rfl) rfl rfl rfl ?_)
            refine wl rfl (ocall rfl rfl Try.call29 rfl (wradd0 ((show Zr _ _ _ _ _ x 1048576 from ⟨_, hS.slm 11 rfl, heA, hnA⟩).mono (by omega)) ((show Zr _ _ _ _ _ y 1048576 from ⟨_, hS.slm 12 rfl, heB, hnB⟩).mono (by omega)) ((show Zr _ _ _ _ _ u 1048576 from ⟨_, hS.slm 9 rfl, heC, hnC⟩).mono (by omega)) ((show Zr _ _ _ _ _ v 1048576 from ⟨_, hS.slm 10 rfl, heD, hnD⟩).mono (by omega)) (.inl hy)) (args2 (ev rfl rfl) (ev rfl rfl)) ?_)
            rintro _ w20 ⟨_, _, rfl, ⟨rfl, rfl⟩, hN⟩
            refine ⟨_, rfl, ?_⟩
            replace hS := hS.news hN; clear hN
            refine wl rfl (omove (v := .tuple #[.agg #[.bool false, .slice none 0 0, .bool false, .slice none 0 0], .int .i64 6]) rfl rfl (ev (v := .tuple #[.agg #[.bool false, .slice none 0 0, .bool false, .slice none 0 0], .int .i64 6]) rfl rfl) ?_)
            refine wl rfl (oextract (vs := [.agg #[.bool false, .slice none 0 0, .bool false, .slice none 0 0], .int .i64 6]) (v := .agg #[.bool false, .slice none 0 0, .bool false, .slice none 0 0]) rfl rfl (ev (v := .tuple #[.agg #[.bool false, .slice none 0 0, .bool false, .slice none 0 0], .int .i64 6]) rfl rfl) rfl ?_)
            refine wl rfl (oextract (vs := [.agg #[.bool false, .slice none 0 0, .bool false, .slice none 0 0], .int .i64 6]) (v := .int .i64 6) rfl rfl (ev (v := .tuple #[.agg #[.bool false, .slice none 0 0, .bool false, .slice none 0 0], .int .i64 6]) rfl rfl) rfl ?_)
            refine wl rfl (oalloc [.bool false, .slice none 0 0, .bool false, .slice none 0 0] hS rfl rfl Try.zeroValue27 rfl ?_)
            clear hS; intro g21 w22 hS
            refine wl rfl (ostore [.bool false, .slice none 0 0, .bool false, .slice none 0 0] [.bool false, .slice none 0 0, .bool false, .slice none 0 0] Try.sizeOf27 hS 0 rfl rfl (ev rfl rfl) (ev (v := .agg #[.bool false, .slice none 0 0, .bool false, .slice none 0 0]) rfl rfl) rfl rfl rfl rfl rfl rfl ?_)
            clear hS; intro w23 hS
            refine wl rfl (oassign (v := .int .i64 6) rfl rfl (ev (v := .int .i64 6) rfl rfl) ?_)
            refine wnil ?_
            refine thenN ?_
            refine wseq ?_
            refine wreg ?_
            refine wl rfl (oload (vs := [.bool bA, .slice pc1 nA cc1, .bool bB, .slice pc2 nB cc2]) aggR hS 9 rfl rfl (ev rfl rfl) rfl rfl rfl ?_)
            refine wl rfl (oload (vs := [.bool bC, .slice pc3 nC cc3, .bool bD, .slice pc4 nD cc4]) aggR hS 8 rfl rfl (ev rfl rfl) rfl rfl rfl ?_)
            refine wl rfl (ocall rfl rfl Try.call30 rfl (wrsub0 ((show Zr _ _ _ _ _ x 1048576 from ⟨_, hS.slm 12 rfl, heA, hnA⟩).mono (by omega)) ((show Zr _ _ _ _ _ y 1048576 from ⟨_, hS.slm 13 rfl, heB, hnB⟩).mono (by omega)) ((show Zr _ _ _ _ _ u 1048576 from ⟨_, hS.slm 10 rfl, heC, hnC⟩).mono (by omega)) ((show Zr _ _ _ _ _ v 1048576 from ⟨_, hS.slm 11 rfl, heD, hnD⟩).mono (by omega)) (.inl hy)) (args2 (ev rfl rfl) (ev rfl rfl)) ?_)
            rintro _ w24 ⟨_, _, rfl, ⟨rfl, rfl⟩, hN⟩
            refine ⟨_, rfl, ?_⟩
            replace hS := hS.news hN; clear hN
            refine wl rfl (omove (v := .tuple #[.agg #[.bool false, .slice none 0 0, .bool false, .slice none 0 0], .int .i64 6]) rfl rfl (ev (v := .tuple #[.agg #[.bool false, .slice none 0 0, .bool false, .slice none 0 0], .int .i64 6]) rfl rfl) ?_)
            refine wl rfl (oextract (vs := [.agg #[.bool false, .slice none 0 0, .bool false, .slice none 0 0], .int .i64 6]) (v := .agg #[.bool false, .slice none 0 0, .bool false, .slice none 0 0]) rfl rfl (ev (v := .tuple #[.agg #[.bool false, .slice none 0 0, .bool false, .slice none 0 0], .int .i64 6]) rfl rfl) rfl ?_)
            refine wl rfl (oextract (vs := [.agg #[.bool false, .slice none 0 0, .bool false, .slice none 0 0], .int .i64 6]) (v := .int .i64 6) rfl rfl (ev (v := .tuple #[.agg #[.bool false, .slice none 0 0, .bool false, .slice none 0 0], .int .i64 6]) rfl rfl) rfl ?_)
            refine wl rfl (oalloc [.bool false, .slice none 0 0, .bool false, .slice none 0 0] hS rfl rfl Try.zeroValue27 rfl ?_)
            clear hS; intro g25 w26 hS
            refine wl rfl (ostore [.bool false, .slice none 0 0, .bool false, .slice none 0 0] [.bool false, .slice none 0 0, .bool false, .slice none 0 0] Try.sizeOf27 hS 0 rfl rfl (ev rfl rfl) (ev (v := .agg #[.bool false, .slice none 0 0, .bool false, .slice none 0 0]) rfl rfl) rfl rfl rfl rfl rfl rfl ?_)
            clear hS; intro w27 hS
            refine wl rfl (oassign (v := .int .i64 6) rfl rfl (ev (v := .int .i64 6) rfl rfl) ?_)
            refine wnil ?_
            refine thenN ?_
            refine wseq ?_
            refine wreg ?_
            refine wl rfl (oload (vs := [.bool bA, .slice pc1 nA cc1, .bool bB, .slice pc2 nB cc2]) aggR hS 10 rfl rfl (ev rfl rfl) rfl rfl rfl ?_)
            refine wl rfl (oload (vs := [.bool bC, .slice pc3 nC cc3, .bool bD, .slice pc4 nD cc4]) aggR hS 9 rfl rfl (ev rfl rfl) rfl rfl rfl ?_)
            refine wl rfl (ocall rfl rfl Try.call31 rfl (wrmul0 ((show Zr _ _ _ _ _ x 1048576 from ⟨_, hS.slm 13 rfl, heA, hnA⟩).mono (by omega)) ((show Zr _ _ _ _ _ y 1048576 from ⟨_, hS.slm 14 rfl, heB, hnB⟩).mono (by omega)) ((show Zr _ _ _ _ _ u 1048576 from ⟨_, hS.slm 11 rfl, heC, hnC⟩).mono (by omega)) ((show Zr _ _ _ _ _ v 1048576 from ⟨_, hS.slm 12 rfl, heD, hnD⟩).mono (by omega)) (.inl hy)) (args2 (ev rfl rfl) (ev rfl rfl)) ?_)
            rintro _ w28 ⟨_, _, rfl, ⟨rfl, rfl⟩, hN⟩
            refine ⟨_, rfl, ?_⟩
            replace hS := hS.news hN; clear hN
            refine wl rfl (omove (v := .tuple #[.agg #[.bool false, .slice none 0 0, .bool false, .slice none 0 0], .int .i64 6]) rfl rfl (ev (v := .tuple #[.agg #[.bool false, .slice none 0 0, .bool false, .slice none 0 0], .int .i64 6]) rfl rfl) ?_)
            refine wl rfl (oextract (vs := [.agg #[.bool false, .slice none 0 0, .bool false, .slice none 0 0], .int .i64 6]) (v := .agg #[.bool false, .slice none 0 0, .bool false, .slice none 0 0]) rfl rfl (ev (v := .tuple #[.agg #[.bool false, .slice none 0 0, .bool false, .slice none 0 0], .int .i64 6]) rfl rfl) rfl ?_)
            refine wl rfl (oextract (vs := [.agg #[.bool false, .slice none 0 0, .bool false, .slice none 0 0], .int .i64 6]) (v := .int .i64 6) rfl rfl (ev (v := .tuple #[.agg #[.bool false, .slice none 0 0, .bool false, .slice none 0 0], .int .i64 6]) rfl rfl) rfl ?_)
            refine wl rfl (oalloc [.bool false, .slice none 0 0, .bool false, .slice none 0 0] hS rfl rfl Try.zeroValue27 rfl ?_)
            clear hS; intro g29 w30 hS
            refine wl rfl (ostore [.bool false, .slice none 0 0, .bool false, .slice none 0 0] [.bool false, .slice none 0 0, .bool false, .slice none 0 0] Try.sizeOf27 hS 0 rfl rfl (ev rfl rfl) (ev (v := .agg #[.bool false, .slice none 0 0, .bool false, .slice none 0 0]) rfl rfl) rfl rfl rfl rfl rfl rfl ?_)
            clear hS; intro w31 hS
            refine wl rfl (oassign (v := .int .i64 6) rfl rfl (ev (v := .int .i64 6) rfl rfl) ?_)
            refine wnil ?_
            refine thenN ?_
            refine wseq ?_
            obtain ⟨z9, hz9⟩ : ∃ z : Int, Hid (RN (-1) 1 = z) := ⟨_, rfl⟩
            have hk9 : Wd z9 2 := Wd.rn (Wd.neg hk5 rfl) hz9
            obtain ⟨z10, hz10⟩ : ∃ z : Int, Hid (RD (-1) 1 = z) := ⟨_, rfl⟩
            have hk10 : Wd z10 2 := Wd.rd hk6 hz10
            obtain ⟨z11, hz11⟩ : ∃ z : Int, Hid (RN (1 * 1 + 1 * 1) (1 * 1) = z) := ⟨_, rfl⟩
            have hk11 : Wd z11 5 := Wd.rn (Wd.add (m := 5) (Wd.mul (m := 4) hk5 hk8 rfl (by omega)) (Wd.mul (m := 4) hk7 hk6 rfl (by omega)) rfl (by omega)) hz11
            obtain ⟨z12, hz12⟩ : ∃ z : Int, Hid (RD (1 * 1 + 1 * 1) (1 * 1) = z) := ⟨_, rfl⟩
            have hk12 : Wd z12 4 := Wd.rd (Wd.mul (m := 4) hk6 hk8 rfl (by omega)) hz12
            obtain ⟨z13, hz13⟩ : ∃ z : Int, Hid (RN (1 * 1 - 1 * 1) (1 * 1) = z) := ⟨_, rfl⟩
            have hk13 : Wd z13 5 := Wd.rn (Wd.sub (m := 5) (Wd.mul (m := 4) hk5 hk8 rfl (by omega)) (Wd.mul (m := 4) hk7 hk6 rfl (by omega)) rfl (by omega)) hz13
            obtain ⟨z14, hz14⟩ : ∃ z : Int, Hid (RD (1 * 1 - 1 * 1) (1 * 1) = z) := ⟨_, rfl⟩
            have hk14 : Wd z14 4 := Wd.rd (Wd.mul (m := 4) hk6 hk8 rfl (by omega)) hz14
            obtain ⟨z15, hz15⟩ : ∃ z : Int, Hid (RN (1 * 1) (1 * 1) = z) := ⟨_, rfl⟩
            have hk15 : Wd z15 4 := Wd.rn (Wd.mul (m := 4) hk5 hk7 rfl (by omega)) hz15
            obtain ⟨z16, hz16⟩ : ∃ z : Int, Hid (RD (1 * 1) (1 * 1) = z) := ⟨_, rfl⟩
            have hk16 : Wd z16 4 := Wd.rd (Wd.mul (m := 4) hk6 hk8 rfl (by omega)) hz16
            refine wstage 34 [60, 61, 62, 63, 64, 65, 66, 67, 68, 69, 70, 71, 72, 73, 74, 75, 76, 77, 78, 79, 80, 81, 82, 83, 84, 85, 86, 87, 88, 89, 90, 91, 92, 19] [[], [], [], [], [3], [0, 1, 2, 4, 3], [5, 0, 1, 2, 3, 4], [6, 0, 1, 2, 3, 4, 5], [6, 0, 1, 2, 3, 4, 5], [6, 0, 1, 2, 3, 4, 5], [6, 0, 1, 2, 3, 4, 5], [6, 0, 1, 2, 3, 4, 5], [6, 10, 11, 0, 1, 2, 3, 4, 5], [6, 7, 8, 9, 12, 0, 1, 2, 3, 4, 5, 10, 11], [6, 13, 0, 1, 2, 3, 4, 5, 7, 8, 9, 10, 11, 12], [14, 0, 1, 2, 3, 4, 5, 6, 7, 8, 9, 10, 11, 12, 13], [15, 0, 1, 2, 3, 4, 5, 6, 7, 8, 9, 10, 11, 12, 13, 14], [15, 0, 1, 2, 3, 4, 5, 6, 7, 8, 9, 10, 11, 12, 13, 14], [15, 0, 1, 2, 3, 4, 5, 6, 7, 8, 9, 10, 11, 12, 13, 14], [15, 0, 1, 2, 3, 4, 5, 6, 7, 8, 9, 10, 11, 12, 13, 14], [15, 0, 1, 2, 3, 4, 5, 6, 7, 8, 9, 10, 11, 12, 13, 14], [15, 19, 20, 0, 1, 2, 3, 4, 5, 6, 7, 8, 9, 10, 11, 12, 13, 14], [15, 16, 17, 18, 21, 0, 1, 2, 3, 4, 5, 6, 7, 8, 9, 10, 11, 12, 13, 14, 19, 20], [15, 22, 0, 1, 2, 3, 4, 5, 6, 7, 8, 9, 10, 11, 12, 13, 14, 16, 17, 18, 19, 20, 21], [23, 0, 1, 2, 3, 4, 5, 6, 7, 8, 9, 10, 11, 12, 13, 14, 15, 16, 17, 18, 19, 20, 21, 22], [24, 0, 1, 2, 3, 4, 5, 6, 7, 8, 9, 10, 11, 12, 13, 14, 15, 16, 17, 18, 19, 20, 21, 22, 23], [24, 0, 1, 2, 3, 4, 5, 6, 7, 8, 9, 10, 11, 12, 13, 14, 15, 16, 17, 18, 19, 20, 21, 22, 23], [24, 0, 1, 2, 3, 4, 5, 6, 7, 8, 9, 10, 11, 12, 13, 14, 15, 16, 17, 18, 19, 20, 21, 22, 23], [24, 0, 1, 2, 3, 4, 5, 6, 7, 8, 9, 10, 11, 12, 13, 14, 15, 16, 17, 18, 19, 20, 21, 22, 23], [24, 0, 1, 2, 3, 4, 5, 6, 7, 8, 9, 10, 11, 12, 13, 14, 15, 16, 17, 18, 19, 20, 21, 22, 23], [24, 28, 29, 0, 1, 2, 3, 4, 5, 6, 7, 8, 9, 10, 11, 12, 13, 14, 15, 16, 17, 18, 19, 20, 21, 22, 23], [24, 25, 26, 27, 30, 0, 1, 2, 3, 4, 5, 6, 7, 8, 9, 10, 11, 12, 13, 14, 15, 16, 17, 18, 19, 20, 21, 22, 23, 28, 29], [24, 31, 0, 1, 2, 3, 4, 5, 6, 7, 8, 9, 10, 11, 12, 13, 14, 15, 16, 17, 18, 19, 20, 21, 22, 23, 25, 26, 27, 28, 29, 30], [32, 0, 1, 2, 3, 4, 5, 6, 7, 8, 9, 10, 11, 12, 13, 14, 15, 16, 17, 18, 19, 20, 21, 22, 23, 24, 25, 26, 27, 28, 29, 30, 31]] [[], [], [], [], [], [], [], [], [], [], [], [], [], [], [], [], [], [], [], [], [], [], [], [], [], [], [], [], [], [], [], [], [], []] [] [] (fun i9 => ([fun _ => Is (.bool false), fun _ => Is (.agg #[.bool false, .slice none 0 0, .bool false, .slice none 0 0]), fun _ => Is (.int .i64 6), fun _ => Is (.agg #[.bool (ng 1), .slice p5 n5 c5, .bool (ng 1), .slice p6 n6 c6]), fun _ => Rrt z9 z10, fun _ => Is (.bool true), fun _ => Is (.bool true), fun _ => Is (.bool false), fun _ => Is (.agg #[.bool false, .slice none 0 0, .bool false, .slice none 0 0]), fun _ => Is (.int .i64 6), fun _ => Is (.agg #[.bool (ng 1), .slice p5 n5 c5, .bool (ng 1), .slice p6 n6 c6]), fun _ => Is (.agg #[.bool (ng 1), .slice p7 n7 c7, .bool (ng 1), .slice p8 n8 c8]), fun _ => Rrt z11 z12, fun _ => Is (.bool true), fun _ => Is (.bool true), fun _ => Is (.bool true), fun _ => Is (.bool false), fun _ => Is (.agg #[.bool false, .slice none 0 0, .bool false, .slice none 0 0]), fun _ => Is (.int .i64 6), fun _ => Is (.agg #[.bool (ng 1), .slice p5 n5 c5, .bool (ng 1), .slice p6 n6 c6]), fun _ => Is (.agg #[.bool (ng 1), .slice p7 n7 c7, .bool (ng 1), .slice p8 n8 c8]), fun _ => Rrt z13 z14, fun _ => Is (.bool true), fun _ => Is (.bool true), fun _ => Is (.bool true), fun _ => Is (.bool false), fun _ => Is (.agg #[.bool false, .slice none 0 0, .bool false, .slice none 0 0]), fun _ => Is (.int .i64 6), fun _ => Is (.agg #[.bool (ng 1), .slice p5 n5 c5, .bool (ng 1), .slice p6 n6 c6]), fun _ => Is (.agg #[.bool (ng 1), .slice p7 n7 c7, .bool (ng 1), .slice p8 n8 c8]), fun _ => Rrt z15 z16, fun _ => Is (.bool true), fun _ => Is (.bool true), fun _ => Is (.bool true)] : List (List Value → Tell)).getD i9 (fun _ _ _ => False)) (heldNil) (fun d _ _ _ _ h => (by cases d <;> exact h)) (by kernel_rfl) (by kernel_rfl) (by kernel_rfl) hS ?_ ?_
            ·
              refine stepsCons rfl ?_ ?_
              · intro Q f' w' ρ S ho hT hS hB
                exact .inl ⟨want_none rfl, omove (v := .bool false) rfl rfl (ev (v := .bool false) rfl (ho 9 rfl)) ⟨_, _, rfl, isI, New.same _⟩⟩
              refine stepsCons rfl ?_ ?_
              · intro Q f' w' ρ S ho hT hS hB
                exact .inl ⟨want_none rfl, oload (vs := [.bool false, .slice none 0 0, .bool false, .slice none 0 0]) aggR hS 3 rfl rfl (ev rfl (ho 11 rfl)) rfl rfl rfl ⟨_, _, rfl, isI, New.same _⟩⟩
              refine stepsCons rfl ?_ ?_
              · intro Q f' w' ρ S ho hT hS hB
                exact .inl ⟨want_none rfl, omove (v := .int .i64 6) rfl rfl (ev (v := .int .i64 6) rfl (ho 12 rfl)) ⟨_, _, rfl, isI, New.same _⟩⟩
              refine stepsCons rfl ?_ ?_
              · intro Q f' w' ρ S ho hT hS hB
                exact .inl ⟨want_none rfl, oload (vs := [.bool (ng 1), .slice p5 n5 c5, .bool (ng 1), .slice p6 n6 c6]) aggR hS 5 rfl rfl (ev rfl (ho 7 rfl)) rfl rfl rfl ⟨_, _, rfl, isI, New.same _⟩⟩
              refine stepsCons rfl ?_ ?_
              · intro Q f' w' ρ S ho hT hS hB
                obtain ⟨hv3, hr3⟩ := (hT 3 63 rfl rfl : (Is (.agg #[.bool (ng 1), .slice p5 n5 c5, .bool (ng 1), .slice p6 n6 c6])) (f' 63) (ρ 3))
                obtain hS := hS.flat1 hr3
                refine .inl ⟨want_none rfl, ocall rfl rfl Try.call33 rfl (wsneg (((hS.slm 8 rfl).zr hk5).mono (by omega)) (((hS.slm 9 rfl).zr hk6).mono (by omega)) (by omega) hz9 hz10) (args1 (ev rfl hv3)) ?_⟩
                rintro _ w9 ⟨_, _, rfl, hTT, hN⟩
                exact ⟨_, rfl, _, _, rfl, hTT, hN⟩
              refine stepsCons rfl ?_ ?_
              · intro Q f' w' ρ S ho hT hS hB
                obtain ⟨hv0, hr0⟩ := (hT 0 60 rfl rfl : (Is (.bool false)) (f' 60) (ρ 0))
                obtain ⟨hv1, hr1⟩ := (hT 1 61 rfl rfl : (Is (.agg #[.bool false, .slice none 0 0, .bool false, .slice none 0 0])) (f' 61) (ρ 1))
                obtain ⟨hv2, hr2⟩ := (hT 2 62 rfl rfl : (Is (.int .i64 6)) (f' 62) (ρ 2))
                obtain ⟨p9, n9, c9, p10, n10, c10, hv4, hr4⟩ := (hT 4 64 rfl rfl : (Rrt z9 z10) (f' 64) (ρ 4))
                obtain hS := hS.flat4 hr0 hr1 hr2 hr4
                refine .inl ⟨want_none rfl, ocall rfl rfl Try.call32 rfl (wltold0) (args4 (ev rfl hv0) (ev rfl hv1) (ev rfl hv2) (ev rfl hv4)) ?_⟩
                rintro _ w9 ⟨_, _, rfl, hTT, hN⟩
                exact ⟨_, rfl, _, _, rfl, hTT, hN⟩
              refine stepsCons rfl ?_ ?_
              · intro Q f' w' ρ S ho hT hS hB
                obtain ⟨hv5, hr5⟩ := (hT 5 65 rfl rfl : (Is (.bool true)) (f' 65) (ρ 5))
                obtain hS := hS.flat1 hr5
                exact .inl ⟨want_none rfl, omove (v := .bool true) rfl rfl (ev (v := .bool true) rfl hv5) ⟨_, _, rfl, isI, New.same _⟩⟩
              refine stepsCons rfl ?_ ?_
              · intro Q f' w' ρ S ho hT hS hB
                obtain ⟨hv6, hr6⟩ := (hT 6 66 rfl rfl : (Is (.bool true)) (f' 66) (ρ 6))
                obtain hS := hS.flat1 hr6
                exact .inl ⟨want_on (e := 66) rfl rfl rfl hv6, omove (v := .bool false) rfl rfl (ev (v := .bool false) rfl (ho 10 rfl)) ⟨_, _, rfl, isI, New.same _⟩⟩
              refine stepsCons rfl ?_ ?_
              · intro Q f' w' ρ S ho hT hS hB
                obtain ⟨hv6, hr6⟩ := (hT 6 66 rfl rfl : (Is (.bool true)) (f' 66) (ρ 6))
                obtain hS := hS.flat1 hr6
                exact .inl ⟨want_on (e := 66) rfl rfl rfl hv6, oload (vs := [.bool false, .slice none 0 0, .bool false, .slice none 0 0]) aggR hS 2 rfl rfl (ev rfl (ho 13 rfl)) rfl rfl rfl ⟨_, _, rfl, isI, New.same _⟩⟩
              refine stepsCons rfl ?_ ?_
              · intro Q f' w' ρ S ho hT hS hB
                obtain ⟨hv6, hr6⟩ := (hT 6 66 rfl rfl : (Is (.bool true)) (f' 66) (ρ 6))
                obtain hS := hS.flat1 hr6
                exact .inl ⟨want_on (e := 66) rfl rfl rfl hv6, omove (v := .int .i64 6) rfl rfl (ev (v := .int .i64 6) rfl (ho 14 rfl)) ⟨_, _, rfl, isI, New.same _⟩⟩
              refine stepsCons rfl ?_ ?_
              · intro Q f' w' ρ S ho hT hS hB
                obtain ⟨hv6, hr6⟩ := (hT 6 66 rfl rfl : (Is (.bool true)) (f' 66) (ρ 6))
                obtain hS := hS.flat1 hr6
                exact .inl ⟨want_on (e := 66) rfl rfl rfl hv6, oload (vs := [.bool (ng 1), .slice p5 n5 c5, .bool (ng 1), .slice p6 n6 c6]) aggR hS 5 rfl rfl (ev rfl (ho 7 rfl)) rfl rfl rfl ⟨_, _, rfl, isI, New.same _⟩⟩
              refine stepsCons rfl ?_ ?_
              · intro Q f' w' ρ S ho hT hS hB
                obtain ⟨hv6, hr6⟩ := (hT 6 66 rfl rfl : (Is (.bool true)) (f' 66) (ρ 6))
                obtain hS := hS.flat1 hr6
                exact .inl ⟨want_on (e := 66) rfl rfl rfl hv6, oload (vs := [.bool (ng 1), .slice p7 n7 c7, .bool (ng 1), .slice p8 n8 c8]) aggR hS 4 rfl rfl (ev rfl (ho 8 rfl)) rfl rfl rfl ⟨_, _, rfl, isI, New.same _⟩⟩
              refine stepsCons rfl ?_ ?_
              · intro Q f' w' ρ S ho hT hS hB
                obtain ⟨hv6, hr6⟩ := (hT 6 66 rfl rfl : (Is (.bool true)) (f' 66) (ρ 6))
                obtain ⟨hv10, hr10⟩ := (hT 10 70 rfl rfl : (Is (.agg #[.bool (ng 1), .slice p5 n5 c5, .bool (ng 1), .slice p6 n6 c6])) (f' 70) (ρ 10))
                obtain ⟨hv11, hr11⟩ := (hT 11 71 rfl rfl : (Is (.agg #[.bool (ng 1), .slice p7 n7 c7, .bool (ng 1), .slice p8 n8 c8])) (f' 71) (ρ 11))
                obtain hS := hS.flat3 hr6 hr10 hr11
                refine .inl ⟨want_on (e := 66) rfl rfl rfl hv6, ocall rfl rfl Try.call34 rfl (wsadd (((hS.slm 8 rfl).zr hk5).mono (by omega)) (((hS.slm 9 rfl).zr hk6).mono (by omega)) (((hS.slm 6 rfl).zr hk7).mono (by omega)) (((hS.slm 7 rfl).zr hk8).mono (by omega)) (by omega) (by omega) hz11 hz12) (args2 (ev rfl hv10) (ev rfl hv11)) ?_⟩
                rintro _ w9 ⟨_, _, rfl, hTT, hN⟩
                exact ⟨_, rfl, _, _, rfl, hTT, hN⟩
              refine stepsCons rfl ?_ ?_
              · intro Q f' w' ρ S ho hT hS hB
                obtain ⟨hv6, hr6⟩ := (hT 6 66 rfl rfl : (Is (.bool true)) (f' 66) (ρ 6))
                obtain ⟨hv7, hr7⟩ := (hT 7 67 rfl rfl : (Is (.bool false)) (f' 67) (ρ 7))
                obtain ⟨hv8, hr8⟩ := (hT 8 68 rfl rfl : (Is (.agg #[.bool false, .slice none 0 0, .bool false, .slice none 0 0])) (f' 68) (ρ 8))
                obtain ⟨hv9, hr9⟩ := (hT 9 69 rfl rfl : (Is (.int .i64 6)) (f' 69) (ρ 9))
                obtain ⟨p11, n11, c11, p12, n12, c12, hv12, hr12⟩ := (hT 12 72 rfl rfl : (Rrt z11 z12) (f' 72) (ρ 12))
                obtain hS := hS.flat5 hr6 hr7 hr8 hr9 hr12
                refine .inl ⟨want_on (e := 66) rfl rfl rfl hv6, ocall rfl rfl Try.call32 rfl (wltold0) (args4 (ev rfl hv7) (ev rfl hv8) (ev rfl hv9) (ev rfl hv12)) ?_⟩
                rintro _ w9 ⟨_, _, rfl, hTT, hN⟩
                exact ⟨_, rfl, _, _, rfl, hTT, hN⟩
              refine stepsCons rfl ?_ ?_
              · intro Q f' w' ρ S ho hT hS hB
                obtain ⟨hv6, hr6⟩ := (hT 6 66 rfl rfl : (Is (.bool true)) (f' 66) (ρ 6))
                obtain ⟨hv13, hr13⟩ := (hT 13 73 rfl rfl : (Is (.bool true)) (f' 73) (ρ 13))
                obtain hS := hS.flat2 hr6 hr13
                exact .inl ⟨want_none rfl, opick (b := true) (v := .bool true) rfl rfl (ev (v := .bool true) rfl hv6) (ev (v := .bool true) rfl hv13) ⟨_, _, rfl, isI, New.same _⟩⟩
              refine stepsCons rfl ?_ ?_
              · intro Q f' w' ρ S ho hT hS hB
                obtain ⟨hv14, hr14⟩ := (hT 14 74 rfl rfl : (Is (.bool true)) (f' 74) (ρ 14))
                obtain hS := hS.flat1 hr14
                exact .inl ⟨want_none rfl, omove (v := .bool true) rfl rfl (ev (v := .bool true) rfl hv14) ⟨_, _, rfl, isI, New.same _⟩⟩
              refine stepsCons rfl ?_ ?_
              · intro Q f' w' ρ S ho hT hS hB
                obtain ⟨hv15, hr15⟩ := (hT 15 75 rfl rfl : (Is (.bool true)) (f' 75) (ρ 15))
                obtain hS := hS.flat1 hr15
                exact .inl ⟨want_on (e := 75) rfl rfl rfl hv15, omove (v := .bool false) rfl rfl (ev (v := .bool false) rfl (ho 10 rfl)) ⟨_, _, rfl, isI, New.same _⟩⟩
              refine stepsCons rfl ?_ ?_
              · intro Q f' w' ρ S ho hT hS hB
                obtain ⟨hv15, hr15⟩ := (hT 15 75 rfl rfl : (Is (.bool true)) (f' 75) (ρ 15))
                obtain hS := hS.flat1 hr15
                exact .inl ⟨want_on (e := 75) rfl rfl rfl hv15, oload (vs := [.bool false, .slice none 0 0, .bool false, .slice none 0 0]) aggR hS 1 rfl rfl (ev rfl (ho 15 rfl)) rfl rfl rfl ⟨_, _, rfl, isI, New.same _⟩⟩
              refine stepsCons rfl ?_ ?_
              · intro Q f' w' ρ S ho hT hS hB
                obtain ⟨hv15, hr15⟩ := (hT 15 75 rfl rfl : (Is (.bool true)) (f' 75) (ρ 15))
                obtain hS := hS.flat1 hr15
                exact .inl ⟨want_on (e := 75) rfl rfl rfl hv15, omove (v := .int .i64 6) rfl rfl (ev (v := .int .i64 6) rfl (ho 16 rfl)) ⟨_, _, rfl, isI, New.same _⟩⟩
              refine stepsCons rfl ?_ ?_
              · intro Q f' w' ρ S ho hT hS hB
                obtain ⟨hv15, hr15⟩ := (hT 15 75 rfl rfl : (Is (.bool true)) (f' 75) (ρ 15))
                obtain hS := hS.flat1 hr15
                exact .inl ⟨want_on (e := 75) rfl rfl rfl hv15, oload (vs := [.bool (ng 1), .slice p5 n5 c5, .bool (ng 1), .slice p6 n6 c6]) aggR hS 5 rfl rfl (ev rfl (ho 7 rfl)) rfl rfl rfl ⟨_, _, rfl, isI, New.same _⟩⟩
              refine stepsCons rfl ?_ ?_
              · intro Q f' w' ρ S ho hT hS hB
                obtain ⟨hv15, hr15⟩ := (hT 15 75 rfl rfl : (Is (.bool true)) (f' 75) (ρ 15))
                obtain hS := hS.flat1 hr15
                exact .inl ⟨want_on (e := 75) rfl rfl rfl hv15, oload (vs := [.bool (ng 1), .slice p7 n7 c7, .bool (ng 1), .slice p8 n8 c8]) aggR hS 4 rfl rfl (ev rfl (ho 8 rfl)) rfl rfl rfl ⟨_, _, rfl, isI, New.same _⟩⟩
              refine stepsCons rfl ?_ ?_
              · intro Q f' w' ρ S ho hT hS hB
                obtain ⟨hv15, hr15⟩ := (hT 15 75 rfl rfl : (Is (.bool true)) (f' 75) (ρ 15))
                obtain ⟨hv19, hr19⟩ := (hT 19 79 rfl rfl : (Is (.agg #[.bool (ng 1), .slice p5 n5 c5, .bool (ng 1), .slice p6 n6 c6])) (f' 79) (ρ 19))
                obtain ⟨hv20, hr20⟩ := (hT 20 80 rfl rfl : (Is (.agg #[.bool (ng 1), .slice p7 n7 c7, .bool (ng 1), .slice p8 n8 c8])) (f' 80) (ρ 20))
                obtain hS := hS.flat3 hr15 hr19 hr20
                refine .inl ⟨want_on (e := 75) rfl rfl rfl hv15, ocall rfl rfl Try.call35 rfl (wssub (((hS.slm 8 rfl).zr hk5).mono (by omega)) (((hS.slm 9 rfl).zr hk6).mono (by omega)) (((hS.slm 6 rfl).zr hk7).mono (by omega)) (((hS.slm 7 rfl).zr hk8).mono (by omega)) (by omega) (by omega) hz13 hz14) (args2 (ev rfl hv19) (ev rfl hv20)) ?_⟩
                rintro _ w9 ⟨_, _, rfl, hTT, hN⟩
                exact ⟨_, rfl, _, _, rfl, hTT, hN⟩
              refine stepsCons rfl ?_ ?_
              · intro Q f' w' ρ S ho hT hS hB
                obtain ⟨hv15, hr15⟩ := (hT 15 75 rfl rfl : (Is (.bool true)) (f' 75) (ρ 15))
                obtain ⟨hv16, hr16⟩ := (hT 16 76 rfl rfl : (Is (.bool false)) (f' 76) (ρ 16))
                obtain ⟨hv17, hr17⟩ := (hT 17 77 rfl rfl : (Is (.agg #[.bool false, .slice none 0 0, .bool false, .slice none 0 0])) (f' 77) (ρ 17))
                obtain ⟨hv18, hr18⟩ := (hT 18 78 rfl rfl : (Is (.int .i64 6)) (f' 78) (ρ 18))
                obtain ⟨p13, n13, c13, p14, n14, c14, hv21, hr21⟩ := (hT 21 81 rfl rfl : (Rrt z13 z14) (f' 81) (ρ 21))
                obtain hS := hS.flat5 hr15 hr16 hr17 hr18 hr21
                refine .inl ⟨want_on (e := 75) rfl rfl rfl hv15, ocall rfl rfl Try.call32 rfl (wltold0) (args4 (ev rfl hv16) (ev rfl hv17) (ev rfl hv18) (ev rfl hv21)) ?_⟩
                rintro _ w9 ⟨_, _, rfl, hTT, hN⟩
                exact ⟨_, rfl, _, _, rfl, hTT, hN⟩
              refine stepsCons rfl ?_ ?_
              · intro Q f' w' ρ S ho hT hS hB
                obtain ⟨hv15, hr15⟩ := (hT 15 75 rfl rfl : (Is (.bool true)) (f' 75) (ρ 15))
                obtain ⟨hv22, hr22⟩ := (hT 22 82 rfl rfl : (Is (.bool true)) (f' 82) (ρ 22))
                obtain hS := hS.flat2 hr15 hr22
                exact .inl ⟨want_none rfl, opick (b := true) (v := .bool true) rfl rfl (ev (v := .bool true) rfl hv15) (ev (v := .bool true) rfl hv22) ⟨_, _, rfl, isI, New.same _⟩⟩
              refine stepsCons rfl ?_ ?_
              · intro Q f' w' ρ S ho hT hS hB
                obtain ⟨hv23, hr23⟩ := (hT 23 83 rfl rfl : (Is (.bool true)) (f' 83) (ρ 23))
                obtain hS := hS.flat1 hr23
                exact .inl ⟨want_none rfl, omove (v := .bool true) rfl rfl (ev (v := .bool true) rfl hv23) ⟨_, _, rfl, isI, New.same _⟩⟩
              refine stepsCons rfl ?_ ?_
              · intro Q f' w' ρ S ho hT hS hB
                obtain ⟨hv24, hr24⟩ := (hT 24 84 rfl rfl : (Is (.bool true)) (f' 84) (ρ 24))
                obtain hS := hS.flat1 hr24
                exact .inl ⟨want_on (e := 84) rfl rfl rfl hv24, omove (v := .bool false) rfl rfl (ev (v := .bool false) rfl (ho 10 rfl)) ⟨_, _, rfl, isI, New.same _⟩⟩
              refine stepsCons rfl ?_ ?_
              · intro Q f' w' ρ S ho hT hS hB
                obtain ⟨hv24, hr24⟩ := (hT 24 84 rfl rfl : (Is (.bool true)) (f' 84) (ρ 24))
                obtain hS := hS.flat1 hr24
                exact .inl ⟨want_on (e := 84) rfl rfl rfl hv24, oload (vs := [.bool false, .slice none 0 0, .bool false, .slice none 0 0]) aggR hS 0 rfl rfl (ev rfl (ho 17 rfl)) rfl rfl rfl ⟨_, _, rfl, isI, New.same _⟩⟩
              refine stepsCons rfl ?_ ?_
              · intro Q f' w' ρ S ho hT hS hB
                obtain ⟨hv24, hr24⟩ := (hT 24 84 rfl rfl : (Is (.bool true)) (f' 84) (ρ 24))
                obtain hS := hS.flat1 hr24
                exact .inl ⟨want_on (e := 84) rfl rfl rfl hv24, omove (v := .int .i64 6) rfl rfl (ev (v := .int .i64 6) rfl (ho 18 rfl)) ⟨_, _, rfl, isI, New.same _⟩⟩
              refine stepsCons rfl ?_ ?_
              · intro Q f' w' ρ S ho hT hS hB
                obtain ⟨hv24, hr24⟩ := (hT 24 84 rfl rfl : (Is (.bool true)) (f' 84) (ρ 24))
                obtain hS := hS.flat1 hr24
                exact .inl ⟨want_on (e := 84) rfl rfl rfl hv24, oload (vs := [.bool (ng 1), .slice p5 n5 c5, .bool (ng 1), .slice p6 n6 c6]) aggR hS 5 rfl rfl (ev rfl (ho 7 rfl)) rfl rfl rfl ⟨_, _, rfl, isI, New.same _⟩⟩
              refine stepsCons rfl ?_ ?_
              · intro Q f' w' ρ S ho hT hS hB
                obtain ⟨hv24, hr24⟩ := (hT 24 84 rfl rfl : (Is (.bool true)) (f' 84) (ρ 24))
                obtain hS := hS.flat1 hr24
                exact .inl ⟨want_on (e := 84) rfl rfl rfl hv24, oload (vs := [.bool (ng 1), .slice p7 n7 c7, .bool (ng 1), .slice p8 n8 c8]) aggR hS 4 rfl rfl (ev rfl (ho 8 rfl)) rfl rfl rfl ⟨_, _, rfl, isI, New.same _⟩⟩
              refine stepsCons rfl ?_ ?_
              · intro Q f' w' ρ S ho hT hS hB
                obtain ⟨hv24, hr24⟩ := (hT 24 84 rfl rfl : (Is (.bool true)) (f' 84) (ρ 24))
                obtain ⟨hv28, hr28⟩ := (hT 28 88 rfl rfl : (Is (.agg #[.bool (ng 1), .slice p5 n5 c5, .bool (ng 1), .slice p6 n6 c6])) (f' 88) (ρ 28))
                obtain ⟨hv29, hr29⟩ := (hT 29 89 rfl rfl : (Is (.agg #[.bool (ng 1), .slice p7 n7 c7, .bool (ng 1), .slice p8 n8 c8])) (f' 89) (ρ 29))
                obtain hS := hS.flat3 hr24 hr28 hr29
                refine .inl ⟨want_on (e := 84) rfl rfl rfl hv24, ocall rfl rfl Try.call36 rfl (wsmul (((hS.slm 8 rfl).zr hk5).mono (by omega)) (((hS.slm 9 rfl).zr hk6).mono (by omega)) (((hS.slm 6 rfl).zr hk7).mono (by omega)) (((hS.slm 7 rfl).zr hk8).mono (by omega)) (by omega) (by omega) hz15 hz16) (args2 (ev rfl hv28) (ev rfl hv29)) ?_⟩
                rintro _ w9 ⟨_, _, rfl, hTT, hN⟩
                exact ⟨_, rfl, _, _, rfl, hTT, hN⟩
              refine stepsCons rfl ?_ ?_
              · intro Q f' w' ρ S ho hT hS hB
                obtain ⟨hv24, hr24⟩ := (hT 24 84 rfl rfl : (Is (.bool true)) (f' 84) (ρ 24))
                obtain ⟨hv25, hr25⟩ := (hT 25 85 rfl rfl : (Is (.bool false)) (f' 85) (ρ 25))
                obtain ⟨hv26, hr26⟩ := (hT 26 86 rfl rfl : (Is (.agg #[.bool false, .slice none 0 0, .bool false, .slice none 0 0])) (f' 86) (ρ 26))
                obtain ⟨hv27, hr27⟩ := (hT 27 87 rfl rfl : (Is (.int .i64 6)) (f' 87) (ρ 27))
                obtain ⟨p15, n15, c15, p16, n16, c16, hv30, hr30⟩ := (hT 30 90 rfl rfl : (Rrt z15 z16) (f' 90) (ρ 30))
                obtain hS := hS.flat5 hr24 hr25 hr26 hr27 hr30
                refine .inl ⟨want_on (e := 84) rfl rfl rfl hv24, ocall rfl rfl Try.call32 rfl (wltold0) (args4 (ev rfl hv25) (ev rfl hv26) (ev rfl hv27) (ev rfl hv30)) ?_⟩
                rintro _ w9 ⟨_, _, rfl, hTT, hN⟩
                exact ⟨_, rfl, _, _, rfl, hTT, hN⟩
              refine stepsCons rfl ?_ ?_
              · intro Q f' w' ρ S ho hT hS hB
                obtain ⟨hv24, hr24⟩ := (hT 24 84 rfl rfl : (Is (.bool true)) (f' 84) (ρ 24))
                obtain ⟨hv31, hr31⟩ := (hT 31 91 rfl rfl : (Is (.bool true)) (f' 91) (ρ 31))
                obtain hS := hS.flat2 hr24 hr31
                exact .inl ⟨want_none rfl, opick (b := true) (v := .bool true) rfl rfl (ev (v := .bool true) rfl hv24) (ev (v := .bool true) rfl hv31) ⟨_, _, rfl, isI, New.same _⟩⟩
              refine stepsCons rfl ?_ ?_
              · intro Q f' w' ρ S ho hT hS hB
                obtain ⟨hv32, hr32⟩ := (hT 32 92 rfl rfl : (Is (.bool true)) (f' 92) (ρ 32))
                obtain hS := hS.flat1 hr32
                exact .inl ⟨want_none rfl, oassign (v := .bool true) rfl rfl (ev (v := .bool true) rfl hv32) ⟨_, _, rfl, isI, New.same _⟩⟩
              exact stepsNil
            ·
              intro vs ρ w32 f' hf hT hS
              obtain ⟨hv0, hr0⟩ := (hT 0 (by decide) : (Is (.bool false)) (vs 0) (ρ 0))
              obtain ⟨hv1, hr1⟩ := (hT 1 (by decide) : (Is (.agg #[.bool false, .slice none 0 0, .bool false, .slice none 0 0])) (vs 1) (ρ 1))
              obtain ⟨hv2, hr2⟩ := (hT 2 (by decide) : (Is (.int .i64 6)) (vs 2) (ρ 2))
              obtain ⟨hv3, hr3⟩ := (hT 3 (by decide) : (Is (.agg #[.bool (ng 1), .slice p5 n5 c5, .bool (ng 1), .slice p6 n6 c6])) (vs 3) (ρ 3))
              obtain ⟨p9, n9, c9, p10, n10, c10, hv4, hr4⟩ := (hT 4 (by decide) : (Rrt z9 z10) (vs 4) (ρ 4))
              obtain ⟨hv5, hr5⟩ := (hT 5 (by decide) : (Is (.bool true)) (vs 5) (ρ 5))
              obtain ⟨hv6, hr6⟩ := (hT 6 (by decide) : (Is (.bool true)) (vs 6) (ρ 6))
              obtain ⟨hv7, hr7⟩ := (hT 7 (by decide) : (Is (.bool false)) (vs 7) (ρ 7))
              obtain ⟨hv8, hr8⟩ := (hT 8 (by decide) : (Is (.agg #[.bool false, .slice none 0 0, .bool false, .slice none 0 0])) (vs 8) (ρ 8))
              obtain ⟨hv9, hr9⟩ := (hT 9 (by decide) : (Is (.int .i64 6)) (vs 9) (ρ 9))
              obtain ⟨hv10, hr10⟩ := (hT 10 (by decide) : (Is (.agg #[.bool (ng 1), .slice p5 n5 c5, .bool (ng 1), .slice p6 n6 c6])) (vs 10) (ρ 10))
              obtain ⟨hv11, hr11⟩ := (hT 11 (by decide) : (Is (.agg #[.bool (ng 1), .slice p7 n7 c7, .bool (ng 1), .slice p8 n8 c8])) (vs 11) (ρ 11))
              obtain ⟨p11, n11, c11, p12, n12, c12, hv12, hr12⟩ := (hT 12 (by decide) : (Rrt z11 z12) (vs 12) (ρ 12))
              obtain ⟨hv13, hr13⟩ := (hT 13 (by decide) : (Is (.bool true)) (vs 13) (ρ 13))
              obtain ⟨hv14, hr14⟩ := (hT 14 (by decide) : (Is (.bool true)) (vs 14) (ρ 14))
              obtain ⟨hv15, hr15⟩ := (hT 15 (by decide) : (Is (.bool true)) (vs 15) (ρ 15))
              obtain ⟨hv16, hr16⟩ := (hT 16 (by decide) : (Is (.bool false)) (vs 16) (ρ 16))
              obtain ⟨hv17, hr17⟩ := (hT 17 (by decide) : (Is (.agg #[.bool false, .slice none 0 0, .bool false, .slice none 0 0])) (vs 17) (ρ 17))
              obtain ⟨hv18, hr18⟩ := (hT 18 (by decide) : (Is (.int .i64 6)) (vs 18) (ρ 18))
              obtain ⟨hv19, hr19⟩ := (hT 19 (by decide) : (Is (.agg #[.bool (ng 1), .slice p5 n5 c5, .bool (ng 1), .slice p6 n6 c6])) (vs 19) (ρ 19))
              obtain ⟨hv20, hr20⟩ := (hT 20 (by decide) : (Is (.agg #[.bool (ng 1), .slice p7 n7 c7, .bool (ng 1), .slice p8 n8 c8])) (vs 20) (ρ 20))
              obtain ⟨p13, n13, c13, p14, n14, c14, hv21, hr21⟩ := (hT 21 (by decide) : (Rrt z13 z14) (vs 21) (ρ 21))
              obtain ⟨hv22, hr22⟩ := (hT 22 (by decide) : (Is (.bool true)) (vs 22) (ρ 22))
              obtain ⟨hv23, hr23⟩ := (hT 23 (by decide) : (Is (.bool true)) (vs 23) (ρ 23))
              obtain ⟨hv24, hr24⟩ := (hT 24 (by decide) : (Is (.bool true)) (vs 24) (ρ 24))
              obtain ⟨hv25, hr25⟩ := (hT 25 (by decide) : (Is (.bool false)) (vs 25) (ρ 25))
              obtain ⟨hv26, hr26⟩ := (hT 26 (by decide) : (Is (.agg #[.bool false, .slice none 0 0, .bool false, .slice none 0 0])) (vs 26) (ρ 26))
              obtain ⟨hv27, hr27⟩ := (hT 27 (by decide) : (Is (.int .i64 6)) (vs 27) (ρ 27))
              obtain ⟨hv28, hr28⟩ := (hT 28 (by decide) : (Is (.agg #[.bool (ng 1), .slice p5 n5 c5, .bool (ng 1), .slice p6 n6 c6])) (vs 28) (ρ 28))
              obtain ⟨hv29, hr29⟩ := (hT 29 (by decide) : (Is (.agg #[.bool (ng 1), .slice p7 n7 c7, .bool (ng 1), .slice p8 n8 c8])) (vs 29) (ρ 29))
              obtain ⟨p15, n15, c15, p16, n16, c16, hv30, hr30⟩ := (hT 30 (by decide) : (Rrt z15 z16) (vs 30) (ρ 30))
              obtain ⟨hv31, hr31⟩ := (hT 31 (by decide) : (Is (.bool true)) (vs 31) (ρ 31))
              obtain ⟨hv32, hr32⟩ := (hT 32 (by decide) : (Is (.bool true)) (vs 32) (ρ 32))
              obtain ⟨hv33, hr33⟩ := (hT 33 (by decide) : (Is (.bool true)) (vs 33) (ρ 33))
              simp only [pool, if_true, hr0, hr1, hr2, hr3, hr4, hr5, hr6, hr7, hr8, hr9, hr10, hr11, hr12, hr13, hr14, hr15, hr16, hr17, hr18, hr19, hr20, hr21, hr22, hr23, hr24, hr25, hr26, hr27, hr28, hr29, hr30, hr31, hr32, hr33, List.nil_append, List.cons_append, List.append_nil] at hS
              simp only [layf, hv0, hv1, hv2, hv3, hv4, hv5, hv6, hv7, hv8, hv9, hv10, hv11, hv12, hv13, hv14, hv15, hv16, hv17, hv18, hv19, hv20, hv21, hv22, hv23, hv24, hv25, hv26, hv27, hv28, hv29, hv30, hv31, hv32, hv33] at hf
              subst hf; clear hT hv0 hv1 hv2 hv3 hv4 hv5 hv6 hv7 hv8 hv9 hv10 hv11 hv12 hv13 hv14 hv15 hv16 hv17 hv18 hv19 hv20 hv21 hv22 hv23 hv24 hv25 hv26 hv27 hv28 hv29 hv30 hv31 hv32 hv33 hr0 hr1 hr2 hr3 hr4 hr5 hr6 hr7 hr8 hr9 hr10 hr11 hr12 hr13 hr14 hr15 hr16 hr17 hr18 hr19 hr20 hr21 hr22 hr23 hr24 hr25 hr26 hr27 hr28 hr29 hr30 hr31 hr32 hr33
              refine wdone rfl ?_
              refine thenN ?_
              refine wseq ?_
              refine wseq ?_
              refine wreg ?_
              refine wl rfl (ofieldAddr (g := g21) (off := 0) 0 rfl rfl (ev (v := .pointer (some ⟨g21, 0, none⟩)) rfl rfl) Try.runUnderlying27 rfl Try.sizeOf25 rfl ?_)
              refine wl rfl (ofieldAddr (g := g21) (off := 0) 1 rfl rfl (ev (v := .pointer (some ⟨g21, 0, none⟩)) rfl rfl) Try.runUnderlying25 rfl Try.sizeOf23 rfl ?_)
              refine wl rfl (oload1 (v := .slice none 0 0) oneN hS 10 rfl rfl (ev rfl rfl) rfl rfl ?_)
              refine wl rfl (olen rfl rfl rfl Try.runUnderlying23 (p := none) (k := 0) (m := 0) (ev (v := .slice none 0 0) rfl rfl) ?_)
              refine wl rfl (omove (v := .int .i64 0) rfl rfl (evc (v := .int .i64 0)) ?_)
              refine wnil ?_
              refine thenN ?_
              refine wblock ?_
              refine wloop (σ := Nat) (fun k a w' => ∃ (fb : Nat → Value), a = act 120 (sets fb [(2, .pointer (some ⟨g1, 0, none⟩)), (3, .pointer (some ⟨g3, 0, none⟩)), (4, .bool false), (5, .pointer (some ⟨g5, 0, none⟩)), (6, .pointer (some ⟨g6, 0, none⟩)), (13, .pointer (some ⟨g21, 0, none⟩)), (19, .bool true), (96, .int .i64 (((0 : Nat) : Int))), (97, .int .i64 0)]) ∧ Sep w [.rowm p15 n15 c15 (lim z15.natAbs), .rowm p16 n16 c16 (lim z16.natAbs), .rowm p13 n13 c13 (lim z13.natAbs), .rowm p14 n14 c14 (lim z14.natAbs), .rowm p11 n11 c11 (lim z11.natAbs), .rowm p12 n12 c12 (lim z12.natAbs), .rowm p9 n9 c9 (lim z9.natAbs), .rowm p10 n10 c10 (lim z10.natAbs), .blk g29 [.bool false, .slice none 0 0, .bool false, .slice none 0 0] 27, .blk g25 [.bool false, .slice none 0 0, .bool false, .slice none 0 0] 27, .blk g21 [.bool false, .slice none 0 0, .bool false, .slice none 0 0] 27, .blk g17 [.bool false, .slice none 0 0, .bool false, .slice none 0 0] 27, .blk g11 [.bool (ng 1), .slice p7 n7 c7, .bool (ng 1), .slice p8 n8 c8] 27, .blk g10 [.bool (ng 1), .slice p5 n5 c5, .bool (ng 1), .slice p6 n6 c6] 27, .rowm p7 n7 c7 (lim (1 : Int).natAbs), .rowm p8 n8 c8 (lim (1 : Int).natAbs), .rowm p5 n5 c5 (lim (1 : Int).natAbs), .rowm p6 n6 c6 (lim (1 : Int).natAbs), .blk g6 [.bool bC, .slice pc3 nC cc3, .bool bD, .slice pc4 nD cc4] 27, .blk g5 [.bool bA, .slice pc1 nA cc1, .bool bB, .slice pc2 nB cc2] 27, .rowm pc3 nC cc3 lc, .rowm pc4 nD cc4 ld, .rowm pc1 nA cc1 la, .rowm pc2 nB cc2 lb, .blk g3 [.bool bC, .slice qC nC kC, .bool bD, .slice qD nD kD] 27, .blk g1 [.bool bA, .slice qA nA kA, .bool bB, .slice qB nB kB] 27] w') (fun k => k) (0) ⟨_, act_sets (l := [(2, .pointer (some ⟨g1, 0, none⟩)), (3, .pointer (some ⟨g3, 0, none⟩)), (4, .bool false), (5, .pointer (some ⟨g5, 0, none⟩)), (6, .pointer (some ⟨g6, 0, none⟩)), (13, .pointer (some ⟨g21, 0, none⟩)), (19, .bool true), (96, .int .i64 (((0 : Nat) : Int))), (97, .int .i64 0)]) ⟨rfl, rfl, rfl, rfl, rfl, rfl, rfl, rfl, rfl, trivial⟩, hS⟩ ?_
              clear hS; rintro k _ w33 ⟨fb, rfl, hS⟩
              refine wseq ?_
              refine wreg ?_
              refine wl rfl (obin (u := .int .i64 0) (v := .int .i64 (((0 : Nat) : Int))) (z := .bool false) rfl rfl (ev (v := .int .i64 0) rfl rfl) (ev (v := .int .i64 (((0 : Nat) : Int))) rfl rfl) (bin_lss (decide_eq_false (by omega))) ?_)
              refine wnil ?_
              refine thenN ?_
              refine wseq ?_
              refine wF (ev (v := .bool false) rfl rfl) ?_
              refine wexit ?_
              refine thenE ?_
              refine thenE ?_
              refine blkE ?_
              refine thenN ?_
              refine wseq ?_
              refine wreg ?_
              refine wl rfl (omove (v := .bool true) rfl rfl (ev (v := .bool true) rfl rfl) ?_)
              refine wl rfl (omove (v := .bool true) rfl rfl (ev (v := .bool true) rfl rfl) ?_)
              refine wlOn (e := 107) rfl rfl rfl rfl (oload (vs := [.bool bA, .slice pc1 nA cc1, .bool bB, .slice pc2 nB cc2]) aggR hS 19 rfl rfl (ev rfl rfl) rfl rfl rfl ?_)
              refine wlOn (e := 107) rfl rfl rfl rfl (oload (vs := [.bool bA, .slice qA nA kA, .bool bB, .slice qB nB kB]) aggR hS 25 rfl rfl (ev rfl rfl) rfl rfl rfl ?_)
              refine wlOn (e := 107) rfl rfl rfl rfl (ocall rfl rfl Try.call13 rfl (wlsame5X (hS.slm 22 rfl) (hS.slm 23 rfl) (hsA.below hS.below (Nat.le_refl _)) (hsB.below hS.below (Nat.le_refl _))) (args2 (ev rfl rfl) (ev rfl rfl)) ?_)
              rintro _ w34 ⟨_, _, rfl, ⟨rfl, rfl⟩, hN⟩
              refine ⟨_, rfl, ?_⟩
              replace hS := hS.news hN; clear hN
              refine wl rfl (opick (b := true) (v := .bool true) rfl rfl (ev (v := .bool true) rfl rfl) (ev (v := .bool true) rfl rfl) ?_)
              refine wl rfl (omove (v := .bool true) rfl rfl (ev (v := .bool true) rfl rfl) ?_)
              refine wlOn (e := 112) rfl rfl rfl rfl (oload (vs := [.bool bC, .slice pc3 nC cc3, .bool bD, .slice pc4 nD cc4]) aggR hS 18 rfl rfl (ev rfl rfl) rfl rfl rfl ?_)
              refine wlOn (e := 112) rfl rfl rfl rfl (oload (vs := [.bool bC, .slice qC nC kC, .bool bD, .slice qD nD kD]) aggR hS 24 rfl rfl (ev rfl rfl) rfl rfl rfl ?_)
              refine wlOn (e := 112) rfl rfl rfl rfl (ocall rfl rfl Try.call13 rfl (wlsame5X (hS.slm 20 rfl) (hS.slm 21 rfl) (hsC.below hS.below (Nat.le_refl _)) (hsD.below hS.below (Nat.le_refl _))) (args2 (ev rfl rfl) (ev rfl rfl)) ?_)
              rintro _ w35 ⟨_, _, rfl, ⟨rfl, rfl⟩, hN⟩
              refine ⟨_, rfl, ?_⟩
              replace hS := hS.news hN; clear hN
              refine wl rfl (opick (b := true) (v := .bool true) rfl rfl (ev (v := .bool true) rfl rfl) (ev (v := .bool true) rfl rfl) ?_)
              refine wl rfl (omove (v := .bool true) rfl rfl (ev (v := .bool true) rfl rfl) ?_)
              refine wlOn (e := 117) rfl rfl rfl rfl (ocall rfl rfl Try.call15 rfl (wllives5) (args0 ) ?_)
              rintro _ w36 ⟨_, _, rfl, ⟨rfl, rfl⟩, hN⟩
              refine ⟨_, rfl, ?_⟩
              replace hS := hS.news hN; clear hN
              refine wl rfl (opick (b := true) (v := .bool true) rfl rfl (ev (v := .bool true) rfl rfl) (ev (v := .bool true) rfl rfl) ?_)
              refine wl rfl (oassign (v := .bool true) rfl rfl (ev (v := .bool true) rfl rfl) ?_)
              refine wnil ?_
              refine thenN ?_
              refine wleave ?_
              refine wret1 Try.results5 (tellT (v := .bool true) rfl rfl) ?_
              exact ⟨_, _, rfl, isI, hS.new0⟩
      ·
        have hk5 : Wd 1 2 := Wd.i64 (by omega) (by omega)
        have hk6 : Wd 1 2 := Wd.i64 (by omega) (by omega)
        refine wstage 6 [25, 26, 27, 28, 7, 8] [[], [0], [], [2, 0, 1], [], []] [[], [], [], [], [], []] [] [] (fun i9 => ([fun _ => Is (.agg #[.bool bA, .slice qA nA kA, .bool bB, .slice qB nB kB]), fun _ => Rrt 1 1, fun _ => Is (.agg #[.bool bC, .slice qC nC kC, .bool bD, .slice qD nD kD]), fun _ => Is (.agg #[.bool bC, .slice qC nC kC, .bool bD, .slice qD nD kD]), fun _ => Ptr [.bool false, .slice none 0 0, .bool false, .slice none 0 0] 27, fun _ => Ptr [.bool false, .slice none 0 0, .bool false, .slice none 0 0] 27] : List (List Value → Tell)).getD i9 (fun _ _ _ => False)) (heldNil) (fun d _ _ _ _ h => (by cases d <;> exact h)) (by kernel_rfl) (by kernel_rfl) (by kernel_rfl) hS ?_ ?_
        ·
          refine stepsCons rfl ?_ ?_
          · intro Q f' w' ρ S ho hT hS hB
            exact .inl ⟨want_none rfl, oload (vs := [.bool bA, .slice qA nA kA, .bool bB, .slice qB nB kB]) aggR hS 7 rfl rfl (ev rfl (ho 2 rfl)) rfl rfl rfl ⟨_, _, rfl, isI, New.same _⟩⟩
          refine stepsCons rfl ?_ ?_
          · intro Q f' w' ρ S ho hT hS hB
            obtain ⟨hv0, hr0⟩ := (hT 0 25 rfl rfl : (Is (.agg #[.bool bA, .slice qA nA kA, .bool bB, .slice qB nB kB])) (f' 25) (ρ 0))
            obtain hS := hS.flat1 hr0
            refine .inl ⟨want_none rfl, ocall rfl rfl Try.call27 rfl (wlsome0 ((hzB.at hS).mono (by omega)) (hy)) (args1 (ev rfl hv0)) ?_⟩
            rintro _ w9 ⟨_, _, rfl, hTT, hN⟩
            exact ⟨_, rfl, _, _, rfl, hTT, hN⟩
          refine stepsCons rfl ?_ ?_
          · intro Q f' w' ρ S ho hT hS hB
            exact .inl ⟨want_none rfl, oload (vs := [.bool bC, .slice qC nC kC, .bool bD, .slice qD nD kD]) aggR hS 6 rfl rfl (ev rfl (ho 3 rfl)) rfl rfl rfl ⟨_, _, rfl, isI, New.same _⟩⟩
          refine stepsCons rfl ?_ ?_
          · intro Q f' w' ρ S ho hT hS hB
            obtain ⟨hv2, hr2⟩ := (hT 2 27 rfl rfl : (Is (.agg #[.bool bC, .slice qC nC kC, .bool bD, .slice qD nD kD])) (f' 27) (ρ 2))
            obtain hS := hS.flat1 hr2
            refine .inl ⟨want_none rfl, ocall rfl rfl Try.call27 rfl (wlsome ((hzD.at hS).mono (by omega)) (hv)) (args1 (ev rfl hv2)) ?_⟩
            rintro _ w9 ⟨_, _, rfl, hTT, hN⟩
            exact ⟨_, rfl, _, _, rfl, hTT, hN⟩
          refine stepsCons rfl ?_ ?_
          · intro Q f' w' ρ S ho hT hS hB
            exact .inl ⟨want_none rfl, oallocN [.bool false, .slice none 0 0, .bool false, .slice none 0 0] rfl rfl Try.zeroValue27 rfl ⟨_, _, rfl, ptrI, New.blk _ _ _⟩⟩
          refine stepsCons rfl ?_ ?_
          · intro Q f' w' ρ S ho hT hS hB
            exact .inl ⟨want_none rfl, oallocN [.bool false, .slice none 0 0, .bool false, .slice none 0 0] rfl rfl Try.zeroValue27 rfl ⟨_, _, rfl, ptrI, New.blk _ _ _⟩⟩
          exact stepsNil
        ·
          intro vs ρ w12 f' hf hT hS
          obtain ⟨hv0, hr0⟩ := (hT 0 (by decide) : (Is (.agg #[.bool bA, .slice qA nA kA, .bool bB, .slice qB nB kB])) (vs 0) (ρ 0))
          obtain ⟨p5, n5, c5, p6, n6, c6, hv1, hr1⟩ := (hT 1 (by decide) : (Rrt 1 1) (vs 1) (ρ 1))
          obtain ⟨hv2, hr2⟩ := (hT 2 (by decide) : (Is (.agg #[.bool bC, .slice qC nC kC, .bool bD, .slice qD nD kD])) (vs 2) (ρ 2))
          obtain ⟨hv3, hr3⟩ := (hT 3 (by decide) : (Is (.agg #[.bool bC, .slice qC nC kC, .bool bD, .slice qD nD kD])) (vs 3) (ρ 3))
          obtain ⟨g10, hv4, hr4⟩ := (hT 4 (by decide) : (Ptr [.bool false, .slice none 0 0, .bool false, .slice none 0 0] 27) (vs 4) (ρ 4))
          obtain ⟨g11, hv5, hr5⟩ := (hT 5 (by decide) : (Ptr [.bool false, .slice none 0 0, .bool false, .slice none 0 0] 27) (vs 5) (ρ 5))
          simp only [pool, if_true, hr0, hr1, hr2, hr3, hr4, hr5, List.nil_append, List.cons_append, List.append_nil] at hS
          simp only [layf, hv0, hv1, hv2, hv3, hv4, hv5] at hf
          subst hf; clear hT hv0 hv1 hv2 hv3 hv4 hv5 hr0 hr1 hr2 hr3 hr4 hr5
          refine wlate 6 rfl (by kernel_rfl) (ostore [.bool (ng 1), .slice p5 n5 c5, .bool (ng 1), .slice p6 n6 c6] [.bool (ng 1), .slice p5 n5 c5, .bool (ng 1), .slice p6 n6 c6] Try.sizeOf27 hS 1 rfl rfl (ev rfl rfl) (ev (v := .agg #[.bool (ng 1), .slice p5 n5 c5, .bool (ng 1), .slice p6 n6 c6]) rfl rfl) rfl rfl rfl rfl rfl rfl ?_)
          clear hS; intro w13 hS
          refine ⟨heldNil, ?_⟩
          refine wlate 7 rfl (by kernel_rfl) (ostore [.bool bC, .slice qC nC kC, .bool bD, .slice qD nD kD] [.bool bC, .slice qC nC kC, .bool bD, .slice qD nD kD] Try.sizeOf27 hS 0 rfl rfl (ev rfl rfl) (ev (v := .agg #[.bool bC, .slice qC nC kC, .bool bD, .slice qD nD kD]) rfl rfl) rfl rfl rfl rfl rfl rfl ?_)
          clear hS; intro w14 hS
          refine ⟨heldNil, ?_⟩
          refine wdone rfl ?_
          refine thenN ?_
          refine wseq ?_
          refine wstage 10 [29, 30, 31, 32, 33, 34, 35, 36, 9, 10] [[], [0], [], [2, 0, 1], [3, 0, 1, 2], [4, 0, 1, 2, 3], [4, 5, 0, 1, 2, 3], [4, 6, 0, 1, 2, 3, 5], [1, 0, 2, 3, 4, 5, 6], [7, 0, 1, 2, 3, 4, 5, 6, 8]] [[], [], [], [], [], [], [], [], [], []] [] [] (fun i9 => ([fun _ => Is (.agg #[.bool bA, .slice qA nA kA, .bool bB, .slice qB nB kB]), fun _ => Is (.bool false), fun _ => Is (.agg #[.bool bA, .slice qA nA kA, .bool bB, .slice qB nB kB]), fun _ => Is (.bool false), fun _ => Is (.bool false), fun _ => Is undef, fun _ => Is undef, fun _ => Is (.bool false), fun _ => Is (.bool false), fun _ => Is (.bool false)] : List (List Value → Tell)).getD i9 (fun _ _ _ => False)) (heldNil) (fun d _ _ _ _ h => (by cases d <;> exact h)) (by kernel_rfl) (by kernel_rfl) (by kernel_rfl) hS ?_ ?_
          ·
            refine stepsCons rfl ?_ ?_
            · intro Q f' w' ρ S ho hT hS hB
              exact .inl ⟨want_none rfl, oload (vs := [.bool bA, .slice qA nA kA, .bool bB, .slice qB nB kB]) aggR hS 11 rfl rfl (ev rfl (ho 2 rfl)) rfl rfl rfl ⟨_, _, rfl, isI, New.same _⟩⟩
            refine stepsCons rfl ?_ ?_
            · intro Q f' w' ρ S ho hT hS hB
              obtain ⟨hv0, hr0⟩ := (hT 0 29 rfl rfl : (Is (.agg #[.bool bA, .slice qA nA kA, .bool bB, .slice qB nB kB])) (f' 29) (ρ 0))
              obtain hS := hS.flat1 hr0
              refine .inl ⟨want_none rfl, ocall rfl rfl Try.call11 rfl (wsmay0 ((hzB.at hS).mono (by omega)) (hy)) (args1 (ev rfl hv0)) ?_⟩
              rintro _ w9 ⟨_, _, rfl, hTT, hN⟩
              exact ⟨_, rfl, _, _, rfl, hTT, hN⟩
            refine stepsCons rfl ?_ ?_
            · intro Q f' w' ρ S ho hT hS hB
              exact .inl ⟨want_none rfl, oload (vs := [.bool bA, .slice qA nA kA, .bool bB, .slice qB nB kB]) aggR hS 11 rfl rfl (ev rfl (ho 2 rfl)) rfl rfl rfl ⟨_, _, rfl, isI, New.same _⟩⟩
            refine stepsCons rfl ?_ ?_
            · intro Q f' w' ρ S ho hT hS hB
              obtain ⟨hv2, hr2⟩ := (hT 2 31 rfl rfl : (Is (.agg #[.bool bA, .slice qA nA kA, .bool bB, .slice qB nB kB])) (f' 31) (ρ 2))
              obtain hS := hS.flat1 hr2
              refine .inl ⟨want_none rfl, ocall rfl rfl Try.call11 rfl (wsmay0 ((hzB.at hS).mono (by omega)) (hy)) (args1 (ev rfl hv2)) ?_⟩
              rintro _ w9 ⟨_, _, rfl, hTT, hN⟩
              exact ⟨_, rfl, _, _, rfl, hTT, hN⟩
            refine stepsCons rfl ?_ ?_
            · intro Q f' w' ρ S ho hT hS hB
              obtain ⟨hv3, hr3⟩ := (hT 3 32 rfl rfl : (Is (.bool false)) (f' 32) (ρ 3))
              obtain hS := hS.flat1 hr3
              exact .inl ⟨want_none rfl, omove (v := .bool false) rfl rfl (ev (v := .bool false) rfl hv3) ⟨_, _, rfl, isI, New.same _⟩⟩
            refine stepsCons rfl ?_ ?_
            · intro Q f' w' ρ S ho hT hS hB
              obtain ⟨hv4, hr4⟩ := (hT 4 33 rfl rfl : (Is (.bool false)) (f' 33) (ρ 4))
              obtain hS := hS.flat1 hr4
              exact .inr ⟨want_off (e := 33) (b' := false) rfl rfl rfl hv4 rfl, isI⟩
            refine stepsCons rfl ?_ ?_
            · intro Q f' w' ρ S ho hT hS hB
              obtain ⟨hv4, hr4⟩ := (hT 4 33 rfl rfl : (Is (.bool false)) (f' 33) (ρ 4))
              obtain ⟨hv5, hr5⟩ := (hT 5 34 rfl rfl : (Is undef) (f' 34) (ρ 5))
              obtain hS := hS.flat2 hr4 hr5
              exact .inr ⟨want_off (e := 33) (b' := false) rfl rfl rfl hv4 rfl, isI⟩
            refine stepsCons rfl ?_ ?_
            · intro Q f' w' ρ S ho hT hS hB
              obtain ⟨hv4, hr4⟩ := (hT 4 33 rfl rfl : (Is (.bool false)) (f' 33) (ρ 4))
              obtain ⟨hv6, hr6⟩ := (hT 6 35 rfl rfl : (Is undef) (f' 35) (ρ 6))
              obtain hS := hS.flat2 hr4 hr6
              exact .inl ⟨want_none rfl, opick (b := false) (v := .bool false) rfl rfl (ev (v := .bool false) rfl hv4) (evc (v := .bool false)) ⟨_, _, rfl, isI, New.same _⟩⟩
            refine stepsCons rfl ?_ ?_
            · intro Q f' w' ρ S ho hT hS hB
              obtain ⟨hv1, hr1⟩ := (hT 1 30 rfl rfl : (Is (.bool false)) (f' 30) (ρ 1))
              obtain hS := hS.flat1 hr1
              exact .inl ⟨want_none rfl, oassign (v := .bool false) rfl rfl (ev (v := .bool false) rfl hv1) ⟨_, _, rfl, isI, New.same _⟩⟩
            refine stepsCons rfl ?_ ?_
            · intro Q f' w' ρ S ho hT hS hB
              obtain ⟨hv7, hr7⟩ := (hT 7 36 rfl rfl : (Is (.bool false)) (f' 36) (ρ 7))
              obtain hS := hS.flat1 hr7
              exact .inl ⟨want_none rfl, oassign (v := .bool false) rfl rfl (ev (v := .bool false) rfl hv7) ⟨_, _, rfl, isI, New.same _⟩⟩
            exact stepsNil
          ·
            intro vs ρ w15 f' hf hT hS
            obtain ⟨hv0, hr0⟩ := (hT 0 (by decide) : (Is (.agg #[.bool bA, .slice qA nA kA, .bool bB, .slice qB nB kB])) (vs 0) (ρ 0))
            obtain ⟨hv1, hr1⟩ := (hT 1 (by decide) : (Is (.bool false)) (vs 1) (ρ 1))
            obtain ⟨hv2, hr2⟩ := (hT 2 (by decide) : (Is (.agg #[.bool bA, .slice qA nA kA, .bool bB, .slice qB nB kB])) (vs 2) (ρ 2))
            obtain ⟨hv3, hr3⟩ := (hT 3 (by decide) : (Is (.bool false)) (vs 3) (ρ 3))
            obtain ⟨hv4, hr4⟩ := (hT 4 (by decide) : (Is (.bool false)) (vs 4) (ρ 4))
            obtain ⟨hv5, hr5⟩ := (hT 5 (by decide) : (Is undef) (vs 5) (ρ 5))
            obtain ⟨hv6, hr6⟩ := (hT 6 (by decide) : (Is undef) (vs 6) (ρ 6))
            obtain ⟨hv7, hr7⟩ := (hT 7 (by decide) : (Is (.bool false)) (vs 7) (ρ 7))
            obtain ⟨hv8, hr8⟩ := (hT 8 (by decide) : (Is (.bool false)) (vs 8) (ρ 8))
            obtain ⟨hv9, hr9⟩ := (hT 9 (by decide) : (Is (.bool false)) (vs 9) (ρ 9))
            simp only [pool, if_true, hr0, hr1, hr2, hr3, hr4, hr5, hr6, hr7, hr8, hr9, List.nil_append, List.cons_append, List.append_nil] at hS
            simp only [layf, hv0, hv1, hv2, hv3, hv4, hv5, hv6, hv7, hv8, hv9] at hf
            subst hf; clear hT hv0 hv1 hv2 hv3 hv4 hv5 hv6 hv7 hv8 hv9 hr0 hr1 hr2 hr3 hr4 hr5 hr6 hr7 hr8 hr9
            refine wdone rfl ?_
            refine thenN ?_
            refine wseq ?_
            refine wreg ?_
            refine wl rfl (oload (vs := [.bool bA, .slice pc1 nA cc1, .bool bB, .slice pc2 nB cc2]) aggR hS 5 rfl rfl (ev rfl rfl) rfl rfl rfl ?_)
            refine wl rfl (ocall rfl rfl Try.call28 rfl (wrneg0 ((show Zr _ _ _ _ _ x 1048576 from ⟨_, hS.slm 8 rfl, heA, hnA⟩).mono (by omega)) ((show Zr _ _ _ _ _ y 1048576 from ⟨_, hS.slm 9 rfl, heB, hnB⟩).mono (by omega)) (hy)) (args1 (ev rfl rfl)) ?_)
            rintro _ w16 ⟨_, _, rfl, ⟨rfl, rfl⟩, hN⟩
            refine ⟨_, rfl, ?_⟩
            replace hS := hS.news hN; clear hN
            refine wl rfl (omove (v := .tuple #[.agg #[.bool false, .slice none 0 0, .bool false, .slice none 0 0], .int .i64 6]) rfl rfl (ev (v := .tuple #[.agg #[.bool false, .slice none 0 0, .bool false, .slice none 0 0], .int .i64 6]) rfl rfl) ?_)
            refine wl rfl (oextract (vs := [.agg #[.bool false, .slice none 0 0, .bool false, .slice none 0 0], .int .i64 6]) (v := .agg #[.bool false, .slice none 0 0, .bool false, .slice none 0 0]) rfl rfl (ev (v := .tuple #[.agg #[.bool false, .slice none 0 0, .bool false, .slice none 0 0], .int .i64 6]) rfl rfl) rfl ?_)
            refine wl rfl (oextract (vs := [.agg #[.bool false, .slice none 0 0, .bool false, .slice none 0 0], .int .i64 6]) (v := .int .i64 6) rfl rfl (ev (v := .tuple #[.agg #[.bool false, .slice none 0 0, .bool false, .slice none 0 0], .int .i64 6]) rfl rfl) rfl ?_)
            refine wl rfl (oalloc [.bool false, .slice none 0 0, .bool false, .slice none 0 0] hS rfl rfl Try.zeroValue27 rfl ?_)
            clear hS; intro g17 w18 hS
            refine wl rfl (ostore [.bool false, .slice none 0 0, .bool false, .slice none 0 0] [.bool false, .slice none 0 0, .bool false, .slice none 0 0] Try.sizeOf27 hS 0 rfl rfl (ev rfl rfl) (ev (v := .agg #[.bool false, .slice none 0 0, .bool false, .slice none 0 0]) rfl rfl) rfl rfl rfl rfl rfl rfl ?_)
            clear hS; intro w19 hS
            refine wl rfl (oassign (v := .int .i64 6) rfl rfl (ev (v := .int .i64 6) rfl rfl) ?_)
            refine wnil ?_
            refine thenN ?_
            refine wseq ?_
            refine wreg ?_
            refine wl rfl (oload (vs := [.bool bA, .slice pc1 nA cc1, .bool bB, .slice pc2 nB cc2]) aggR hS 6 rfl rfl (ev rfl rfl) rfl rfl rfl ?_)
            refine wl rfl (oload (vs := [.bool bC, .slice pc3 nC cc3, .bool bD, .slice pc4 nD cc4]) aggR hS 5 rfl rfl (ev rfl rfl) rfl rfl rfl ?_)
            refine wl rfl (ocall rfl rfl Try.call29 rfl (wradd0 ((show Zr _ _ _ _ _ x 1048576 from ⟨_, hS.slm 9 rfl, heA, hnA⟩).mono (by omega)) ((show Zr _ _ _ _ _ y 1048576 from ⟨_, hS.slm 10 rfl, heB, hnB⟩).mono (by omega)) ((show Zr _ _ _ _ _ u 1048576 from ⟨_, hS.slm 7 rfl, heC, hnC⟩).mono (by omega)) ((show Zr _ _ _ _ _ v 1048576 from ⟨_, hS.slm 8 rfl, heD, hnD⟩).mono (by omega)) (.inl hy)) (args2 (ev rfl rfl) (ev rfl rfl)) ?_)
            rintro _ w20 ⟨_, _, rfl, ⟨rfl, rfl⟩, hN⟩
            refine ⟨_, rfl, ?_⟩
            replace hS := hS.news hN; clear hN
            refine wl rfl (omove (v := .tuple #[.agg #[.bool false, .slice none 0 0, .bool false, .slice none 0 0], .int .i64 6]) rfl rfl (ev (v := .tuple #[.agg #[.bool false, .slice none 0 0, .bool false, .slice none 0 0], .int .i64 6]) rfl rfl) ?_)
            refine wl rfl (oextract (vs := [.agg #[.bool false, .slice none 0 0, .bool false, .slice none 0 0], .int .i64 6]) (v := .agg #[.bool false, .slice none 0 0, .bool false, .slice none 0 0]) rfl rfl (ev (v := .tuple #[.agg #[.bool false, .slice none 0 0, .bool false, .slice none 0 0], .int .i64 6]) rfl rfl) rfl ?_)
            refine wl rfl (oextract (vs := [.agg #[.bool false, .slice none 0 0, .bool false, .slice none 0 0], .int .i64 6]) (v := .int .i64 6) rfl rfl (ev (v := .tuple #[.agg #[.bool false, .slice none 0 0, .bool false, .slice none 0 0], .int .i64 6]) rfl rfl) rfl ?_)
            refine wl rfl (oalloc [.bool false, .slice none 0 0, .bool false, .slice none 0 0] hS rfl rfl Try.zeroValue27 rfl ?_)
            clear hS; intro g21 w22 hS
            refine wl rfl (ostore [.bool false, .slice none 0 0, .bool false, .slice none 0 0] [.bool false, .slice none 0 0, .bool false, .slice none 0 0] Try.sizeOf27 hS 0 rfl rfl (ev rfl rfl) (ev (v := .agg #[.bool false, .slice none 0 0, .bool false, .slice none 0 0]) rfl rfl) rfl rfl rfl rfl rfl rfl ?_)
            clear hS; intro w23 hS
            refine wl rfl (oassign (v := .int .i64 6) rfl rfl (ev (v := .int .i64 6) rfl rfl) ?_)
            refine wnil ?_
            refine thenN ?_
            refine wseq ?_
            refine wreg ?_
            refine wl rfl (oload (vs := [.bool bA, .slice pc1 nA cc1, .bool bB, .slice pc2 nB cc2]) aggR hS 7 rfl rfl (ev rfl rfl) rfl rfl rfl ?_)
            refine wl rfl (oload (vs := [.bool bC, .slice pc3 nC cc3, .bool bD, .slice pc4 nD cc4]) aggR hS 6 rfl rfl (ev rfl rfl) rfl rfl rfl ?_)
            refine wl rfl (ocall rfl rfl Try.call30 rfl (wrsub0 ((show Zr _ _ _ _ _ x 1048576 from ⟨_, hS.slm 10 rfl, heA, hnA⟩).mono (by omega)) ((show Zr _ _ _ _ _ y 1048576 from ⟨_, hS.slm 11 rfl, heB, hnB⟩).mono (by omega)) ((show Zr _ _ _ _ _ u 1048576 from ⟨_, hS.slm 8 rfl, heC, hnC⟩).mono (by omega)) ((show Zr _ _ _ _ _ v 1048576 from ⟨_, hS.slm 9 rfl, heD, hnD⟩).mono (by omega)) (.inl hy)) (args2 (ev rfl rfl) (ev rfl rfl)) ?_)
            rintro _ w24 ⟨_, _, rfl, ⟨rfl, rfl⟩, hN⟩
            refine ⟨_, rfl, ?_⟩
            replace hS := hS.news hN; clear hN
            refine wl rfl (omove (v := .tuple #[.agg #[.bool false, .slice none 0 0, .bool false, .slice none 0 0], .int .i64 6]) rfl rfl (ev (v := .tuple #[.agg #[.bool false, .slice none 0 0, .bool false, .slice none 0 0], .int .i64 6]) rfl rfl) ?_)
            refine wl rfl (oextract (vs := [.agg #[.bool false, .slice none 0 0, .bool false, .slice none 0 0], .int .i64 6]) (v := .agg #[.bool false, .slice none 0 0, .bool false, .slice none 0 0]) rfl rfl (ev (v := .tuple #[.agg #[.bool false, .slice none 0 0, .bool false, .slice none 0 0], .int .i64 6]) rfl rfl) rfl ?_)
            refine wl rfl (oextract (vs := [.agg #[.bool false, .slice none 0 0, .bool false, .slice none 0 0], .int .i64 6]) (v := .int .i64 6) rfl rfl (ev (v := .tuple #[.agg #[.bool false, .slice none 0 0, .bool false, .slice none 0 0], .int .i64 6]) rfl rfl) rfl ?_)
            refine wl rfl (oalloc [.bool false, .slice none 0 0, .bool false, .slice none 0 0] hS rfl rfl Try.zeroValue27 rfl ?_)
            clear hS; intro g25 w26 hS
            refine wl rfl (ostore [.bool false, .slice none 0 0, .bool false, .slice none 0 0] [.bool false, .slice none 0 0, .bool false, .slice none 0 0] Try.sizeOf27 hS 0 rfl rfl (ev rfl rfl) (ev (v := .agg #[.bool false, .slice none 0 0, .bool false, .slice none 0 0]) rfl rfl) rfl rfl rfl rfl rfl rfl ?_)
            clear hS; intro w27 hS
            refine wl rfl (oassign (v := .int .i64 6) rfl rfl (ev (v := .int .i64 6) rfl rfl) ?_)
            refine wnil ?_
            refine thenN ?_
            refine wseq ?_
            refine wreg ?_
            refine wl rfl (oload (vs := [.bool bA, .slice pc1 nA cc1, .bool bB, .slice pc2 nB cc2]) aggR hS 8 rfl rfl (ev rfl rfl) rfl rfl rfl ?_)
            refine wl rfl (oload (vs := [.bool bC, .slice pc3 nC cc3, .bool bD, .slice pc4 nD cc4]) aggR hS 7 rfl rfl (ev rfl rfl) rfl rfl rfl ?_)
            refine wl rfl (ocall rfl rfl Try.call31 rfl (wrmul0 ((show Zr _ _ _ _ _ x 1048576 from ⟨_, hS.slm 11 rfl, heA, hnA⟩).mono (by omega)) ((show Zr _ _ _ _ _ y 1048576 from ⟨_, hS.slm 12 rfl, heB, hnB⟩).mono (by omega)) ((show Zr _ _ _ _ _ u 1048576 from ⟨_, hS.slm 9 rfl, heC, hnC⟩).mono (by omega)) ((show Zr _ _ _ _ _ v 1048576 from ⟨_, hS.slm 10 rfl, heD, hnD⟩).mono (by omega)) (.inl hy)) (args2 (ev rfl rfl) (ev rfl rfl)) ?_)
            rintro _ w28 ⟨_, _, rfl, ⟨rfl, rfl⟩, hN⟩
            refine ⟨_, rfl, ?_⟩
            replace hS := hS.news hN; clear hN
            refine wl rfl (omove (v := .tuple #[.agg #[.bool false, .slice none 0 0, .bool false, .slice none 0 0], .int .i64 6]) rfl rfl (ev (v := .tuple #[.agg #[.bool false, .slice none 0 0, .bool false, .slice none 0 0], .int .i64 6]) rfl rfl) ?_)
            refine wl rfl (oextract (vs := [.agg #[.bool false, .slice none 0 0, .bool false, .slice none 0 0], .int .i64 6]) (v := .agg #[.bool false, .slice none 0 0, .bool false, .slice none 0 0]) rfl rfl (ev (v := .tuple #[.agg #[.bool false, .slice none 0 0, .bool false, .slice none 0 0], .int .i64 6]) rfl rfl) rfl ?_)
            refine wl rfl (oextract (vs := [.agg #[.bool false, .slice none 0 0, .bool false, .slice none 0 0], .int .i64 6]) (v := .int .i64 6) rfl rfl (ev (v := .tuple #[.agg #[.bool false, .slice none 0 0, .bool false, .slice none 0 0], .int .i64 6]) rfl rfl) rfl ?_)
            refine wl rfl (oalloc [.bool false, .slice none 0 0, .bool false, .slice none 0 0] hS rfl rfl Try.zeroValue27 rfl ?_)
            clear hS; intro g29 w30 hS
            refine wl rfl (ostore [.bool false, .slice none 0 0, .bool false, .slice none 0 0] [.bool false, .slice none 0 0, .bool false, .slice none 0 0] Try.sizeOf27 hS 0 rfl rfl (ev rfl rfl) (ev (v := .agg #[.bool false, .slice none 0 0, .bool false, .slice none 0 0]) rfl rfl) rfl rfl rfl rfl rfl rfl ?_)
            clear hS; intro w31 hS
            refine wl rfl (oassign (v := .int .i64 6) rfl rfl (ev (v := .int .i64 6) rfl rfl) ?_)
            refine wnil ?_
            refine thenN ?_
            refine wseq ?_
            obtain ⟨z7, hz7⟩ : ∃ z : Int, Hid (RN (-1) 1 = z) := ⟨_, rfl⟩
            have hk7 : Wd z7 2 := Wd.rn (Wd.neg hk5 rfl) hz7
            obtain ⟨z8, hz8⟩ : ∃ z : Int, Hid (RD (-1) 1 = z) := ⟨_, rfl⟩
            have hk8 : Wd z8 2 := Wd.rd hk6 hz8
            obtain ⟨z9, hz9⟩ : ∃ z : Int, Hid (RN (1 * v + u * 1) (1 * v) = z) := ⟨_, rfl⟩
            have hk9 : Wd z9 1048579 := Wd.rn (Wd.add (m := 1048579) (Wd.mul (m := 1048578) hk5 hzD.wd rfl (by omega)) (Wd.mul (m := 1048578) hzC.wd hk6 rfl (by omega)) rfl (by omega)) hz9
            obtain ⟨z10, hz10⟩ : ∃ z : Int, Hid (RD (1 * v + u * 1) (1 * v) = z) := ⟨_, rfl⟩
            have hk10 : Wd z10 1048578 := Wd.rd (Wd.mul (m := 1048578) hk6 hzD.wd rfl (by omega)) hz10
            obtain ⟨z11, hz11⟩ : ∃ z : Int, Hid (RN (1 * v - u * 1) (1 * v) = z) := ⟨_, rfl⟩
            have hk11 : Wd z11 1048579 := Wd.rn (Wd.sub (m := 1048579) (Wd.mul (m := 1048578) hk5 hzD.wd rfl (by omega)) (Wd.mul (m := 1048578) hzC.wd hk6 rfl (by omega)) rfl (by omega)) hz11
            obtain ⟨z12, hz12⟩ : ∃ z : Int, Hid (RD (1 * v - u * 1) (1 * v) = z) := ⟨_, rfl⟩
            have hk12 : Wd z12 1048578 := Wd.rd (Wd.mul (m := 1048578) hk6 hzD.wd rfl (by omega)) hz12
            obtain ⟨z13, hz13⟩ : ∃ z : Int, Hid (RN (1 * u) (1 * v) = z) := ⟨_, rfl⟩
            have hk13 : Wd z13 1048578 := Wd.rn (Wd.mul (m := 1048578) hk5 hzC.wd rfl (by omega)) hz13
            obtain ⟨z14, hz14⟩ : ∃ z : Int, Hid (RD (1 * u) (1 * v) = z) := ⟨_, rfl⟩
            have hk14 : Wd z14 1048578 := Wd.rd (Wd.mul (m := 1048578) hk6 hzD.wd rfl (by omega)) hz14
            refine wstage 34 [60, 61, 62, 63, 64, 65, 66, 67, 68, 69, 70, 71, 72, 73, 74, 75, 76, 77, 78, 79, 80, 81, 82, 83, 84, 85, 86, 87, 88, 89, 90, 91, 92, 19] [[], [], [], [], [3], [0, 1, 2, 4, 3], [5, 0, 1, 2, 3, 4], [6, 0, 1, 2, 3, 4, 5], [6, 0, 1, 2, 3, 4, 5], [6, 0, 1, 2, 3, 4, 5], [6, 0, 1, 2, 3, 4, 5], [6, 0, 1, 2, 3, 4, 5], [6, 10, 11, 0, 1, 2, 3, 4, 5], [6, 7, 8, 9, 12, 0, 1, 2, 3, 4, 5, 10, 11], [6, 13, 0, 1, 2, 3, 4, 5, 7, 8, 9, 10, 11, 12], [14, 0, 1, 2, 3, 4, 5, 6, 7, 8, 9, 10, 11, 12, 13], [15, 0, 1, 2, 3, 4, 5, 6, 7, 8, 9, 10, 11, 12, 13, 14], [15, 0, 1, 2, 3, 4, 5, 6, 7, 8, 9, 10, 11, 12, 13, 14], [15, 0, 1, 2, 3, 4, 5, 6, 7, 8, 9, 10, 11, 12, 13, 14], [15, 0, 1, 2, 3, 4, 5, 6, 7, 8, 9, 10, 11, 12, 13, 14], [15, 0, 1, 2, 3, 4, 5, 6, 7, 8, 9, 10, 11, 12, 13, 14], [15, 19, 20, 0, 1, 2, 3, 4, 5, 6, 7, 8, 9, 10, 11, 12, 13, 14], [15, 16, 17, 18, 21, 0, 1, 2, 3, 4, 5, 6, 7, 8, 9, 10, 11, 12, 13, 14, 19, 20], [15, 22, 0, 1, 2, 3, 4, 5, 6, 7, 8, 9, 10, 11, 12, 13, 14, 16, 17, 18, 19, 20, 21], [23, 0, 1, 2, 3, 4, 5, 6, 7, 8, 9, 10, 11, 12, 13, 14, 15, 16, 17, 18, 19, 20, 21, 22], [24, 0, 1, 2, 3, 4, 5, 6, 7, 8, 9, 10, 11, 12, 13, 14, 15, 16, 17, 18, 19, 20, 21, 22, 23], [24, 0, 1, 2, 3, 4, 5, 6, 7, 8, 9, 10, 11, 12, 13, 14, 15, 16, 17, 18, 19, 20, 21, 22, 23], [24, 0, 1, 2, 3, 4, 5, 6, 7, 8, 9, 10, 11, 12, 13, 14, 15, 16, 17, 18, 19, 20, 21, 22, 23], [24, 0, 1, 2, 3, 4, 5, 6, 7, 8, 9, 10, 11, 12, 13, 14, 15, 16, 17, 18, 19, 20, 21, 22, 23], [24, 0, 1, 2, 3, 4, 5, 6, 7, 8, 9, 10, 11, 12, 13, 14, 15, 16, 17, 18, 19, 20, 21, 22, 23], [24, 28, 29, 0, 1, 2, 3, 4, 5, 6, 7, 8, 9, 10, 11, 12, 13, 14, 15, 16, 17, 18, 19, 20, 21, 22, 23], [24, 25, 26, 27, 30, 0, 1, 2, 3, 4, 5, 6, 7, 8, 9, 10, 11, 12, 13, 14, 15, 16, 17, 18, 19, 20, 21, 22, 23, 28, 29], [24, 31, 0, 1, 2, 3, 4, 5, 6, 7, 8, 9, 10, 11, 12, 13, 14, 15, 16, 17, 18, 19, 20, 21, 22, 23, 25, 26, 27, 28, 29, 30], [32, 0, 1, 2, 3, 4, 5, 6, 7, 8, 9, 10, 11, 12, 13, 14, 15, 16, 17, 18, 19, 20, 21, 22, 23, 24, 25, 26, 27, 28, 29, 30, 31]] [[], [], [], [], [], [], [], [], [], [], [], [], [], [], [], [], [], [], [], [], [], [], [], [], [], [], [], [], [], [], [], [], [], []] [] [] (fun i9 => ([fun _ => Is (.bool false), fun _ => Is (.agg #[.bool false, .slice none 0 0, .bool false, .slice none 0 0]), fun _ => Is (.int .i64 6), fun _ => Is (.agg #[.bool (ng 1), .slice p5 n5 c5, .bool (ng 1), .slice p6 n6 c6]), fun _ => Rrt z7 z8, fun _ => Is (.bool true), fun _ => Is (.bool true), fun _ => Is (.bool false), fun _ => Is (.agg #[.bool false, .slice none 0 0, .bool false, .slice none 0 0]), fun _ => Is (.int .i64 6), fun _ => Is (.agg #[.bool (ng 1), .slice p5 n5 c5, .bool (ng 1), .slice p6 n6 c6]), fun _ => Is (.agg #[.bool bC, .slice qC nC kC, .bool bD, .slice qD nD kD]), fun _ => Rrt z9 z10, fun _ => Is (.bool true), fun _ => Is (.bool true), fun _ => Is (.bool true), fun _ => Is (.bool false), fun _ => Is (.agg #[.bool false, .slice none 0 0, .bool false, .slice none 0 0]), fun _ => Is (.int .i64 6), fun _ => Is (.agg #[.bool (ng 1), .slice p5 n5 c5, .bool (ng 1), .slice p6 n6 c6]), fun _ => Is (.agg #[.bool bC, .slice qC nC kC, .bool bD, .slice qD nD kD]), fun _ => Rrt z11 z12, fun _ => Is (.bool true), fun _ => Is (.bool true), fun _ => Is (.bool true), fun _ => Is (.bool false), fun _ => Is (.agg #[.bool false, .slice none 0 0, .bool false, .slice none 0 0]), fun _ => Is (.int .i64 6), fun _ => Is (.agg #[.bool (ng 1), .slice p5 n5 c5, .bool (ng 1), .slice p6 n6 c6]), fun _ => Is (.agg #[.bool bC, .slice qC nC kC, .bool bD, .slice qD nD kD]), fun _ => Rrt z13 z14, fun _ => Is (.bool true), fun _ => Is (.bool true), fun _ => Is (.bool true)] : List (List Value → Tell)).getD i9 (fun _ _ _ => False)) (heldNil) (fun d _ _ _ _ h => (by cases d <;> exact h)) (by kernel_rfl) (by kernel_rfl) (by kernel_rfl) hS ?_ ?_
            ·
              refine stepsCons rfl ?_ ?_
              · intro Q f' w' ρ S ho hT hS hB
                exact .inl ⟨want_none rfl, omove (v := .bool false) rfl rfl (ev (v := .bool false) rfl (ho 9 rfl)) ⟨_, _, rfl, isI, New.same _⟩⟩
              refine stepsCons rfl ?_ ?_
              · intro Q f' w' ρ S ho hT hS hB
                exact .inl ⟨want_none rfl, oload (vs := [.bool false, .slice none 0 0, .bool false, .slice none 0 0]) aggR hS 3 rfl rfl (ev rfl (ho 11 rfl)) rfl rfl rfl ⟨_, _, rfl, isI, New.same _⟩⟩
              refine stepsCons rfl ?_ ?_
              · intro Q f' w' ρ S ho hT hS hB
                exact .inl ⟨want_none rfl, omove (v := .int .i64 6) rfl rfl (ev (v := .int .i64 6) rfl (ho 12 rfl)) ⟨_, _, rfl, isI, New.same _⟩⟩
              refine stepsCons rfl ?_ ?_
              · intro Q f' w' ρ S ho hT hS hB
                exact .inl ⟨want_none rfl, oload (vs := [.bool (ng 1), .slice p5 n5 c5, .bool (ng 1), .slice p6 n6 c6]) aggR hS 5 rfl rfl (ev rfl (ho 7 rfl)) rfl rfl rfl ⟨_, _, rfl, isI, New.same _⟩⟩
              refine stepsCons rfl ?_ ?_
              · intro Q f' w' ρ S ho hT hS hB
                obtain ⟨hv3, hr3⟩ := (hT 3 63 rfl rfl : (Is (.agg #[.bool (ng 1), .slice p5 n5 c5, .bool (ng 1), .slice p6 n6 c6])) (f' 63) (ρ 3))
                obtain hS := hS.flat1 hr3
                refine .inl ⟨want_none rfl, ocall rfl rfl Try.call33 rfl (wsneg (((hS.slm 6 rfl).zr hk5).mono (by omega)) (((hS.slm 7 rfl).zr hk6).mono (by omega)) (by omega) hz7 hz8) (args1 (ev rfl hv3)) ?_⟩
                rintro _ w9 ⟨_, _, rfl, hTT, hN⟩
                exact ⟨_, rfl, _, _, rfl, hTT, hN⟩
              refine stepsCons rfl ?_ ?_
              · intro Q f' w' ρ S ho hT hS hB
                obtain ⟨hv0, hr0⟩ := (hT 0 60 rfl rfl : (Is (.bool false)) (f' 60) (ρ 0))
                obtain ⟨hv1, hr1⟩ := (hT 1 61 rfl rfl : (Is (.agg #[.bool false, .slice none 0 0, .bool false, .slice none 0 0])) (f' 61) (ρ 1))
                obtain ⟨hv2, hr2⟩ := (hT 2 62 rfl rfl : (Is (.int .i64 6)) (f' 62) (ρ 2))
                obtain ⟨p7, n7, c7, p8, n8, c8, hv4, hr4⟩ := (hT 4 64 rfl rfl : (Rrt z7 z8) (f' 64) (ρ 4))
                obtain hS := hS.flat4 hr0 hr1 hr2 hr4
                refine .inl ⟨want_none rfl, ocall rfl rfl Try.call32 rfl (wltold0) (args4 (ev rfl hv0) (ev rfl hv1) (ev rfl hv2) (ev rfl hv4)) ?_⟩
                rintro _ w9 ⟨_, _, rfl, hTT, hN⟩
                exact ⟨_, rfl, _, _, rfl, hTT, hN⟩
              refine stepsCons rfl ?_ ?_
              · intro Q f' w' ρ S ho hT hS hB
                obtain ⟨hv5, hr5⟩ := (hT 5 65 rfl rfl : (Is (.bool true)) (f' 65) (ρ 5))
                obtain hS := hS.flat1 hr5
                exact .inl ⟨want_none rfl, omove (v := .bool true) rfl rfl (ev (v := .bool true) rfl hv5) ⟨_, _, rfl, isI, New.same _⟩⟩
              refine stepsCons rfl ?_ ?_
              · intro Q f' w' ρ S ho hT hS hB
                obtain ⟨hv6, hr6⟩ := (hT 6 66 rfl rfl : (Is (.bool true)) (f' 66) (ρ 6))
                obtain hS := hS.flat1 hr6
                exact .inl ⟨want_on (e := 66) rfl rfl rfl hv6, omove (v := .bool false) rfl rfl (ev (v := .bool false) rfl (ho 10 rfl)) ⟨_, _, rfl, isI, New.same _⟩⟩
              refine stepsCons rfl ?_ ?_
              · intro Q f' w' ρ S ho hT hS hB
                obtain ⟨hv6, hr6⟩ := (hT 6 66 rfl rfl : (Is (.bool true)) (f' 66) (ρ 6))
                obtain hS := hS.flat1 hr6
                exact .inl ⟨want_on (e := 66) rfl rfl rfl hv6, oload (vs := [.bool false, .slice none 0 0, .bool false, .slice none 0 0]) aggR hS 2 rfl rfl (ev rfl (ho 13 rfl)) rfl rfl rfl ⟨_, _, rfl, isI, New.same _⟩⟩
              refine stepsCons rfl ?_ ?_
              · intro Q f' w' ρ S ho hT hS hB
                obtain ⟨hv6, hr6⟩ := (hT 6 66 rfl rfl : (Is (.bool true)) (f' 66) (ρ 6))
                obtain hS := hS.flat1 hr6
                exact .inl ⟨want_on (e := 66) rfl rfl rfl hv6, omove (v := .int .i64 6) rfl rfl (ev (v := .int .i64 6) rfl (ho 14 rfl)) ⟨_, _, rfl, isI, New.same _⟩⟩
              refine stepsCons rfl ?_ ?_
              · intro Q f' w' ρ S ho hT hS hB
                obtain ⟨hv6, hr6⟩ := (hT 6 66 rfl rfl : (Is (.bool true)) (f' 66) (ρ 6))
                obtain hS := hS.flat1 hr6
                exact .inl ⟨want_on (e := 66) rfl rfl rfl hv6, oload (vs := [.bool (ng 1), .slice p5 n5 c5, .bool (ng 1), .slice p6 n6 c6]) aggR hS 5 rfl rfl (ev rfl (ho 7 rfl)) rfl rfl rfl ⟨_, _, rfl, isI, New.same _⟩⟩
              refine stepsCons rfl ?_ ?_
              · intro Q f' w' ρ S ho hT hS hB
                obtain ⟨hv6, hr6⟩ := (hT 6 66 rfl rfl : (Is (.bool true)) (f' 66) (ρ 6))
                obtain hS := hS.flat1 hr6
                exact .inl ⟨want_on (e := 66) rfl rfl rfl hv6, oload (vs := [.bool bC, .slice qC nC kC, .bool bD, .slice qD nD kD]) aggR hS 4 rfl rfl (ev rfl (ho 8 rfl)) rfl rfl rfl ⟨_, _, rfl, isI, New.same _⟩⟩
              refine stepsCons rfl ?_ ?_
              · intro Q f' w' ρ S ho hT hS hB
                obtain ⟨hv6, hr6⟩ := (hT 6 66 rfl rfl : (Is (.bool true)) (f' 66) (ρ 6))
                obtain ⟨hv10, hr10⟩ := (hT 10 70 rfl rfl : (Is (.agg #[.bool (ng 1), .slice p5 n5 c5, .bool (ng 1), .slice p6 n6 c6])) (f' 70) (ρ 10))
                obtain ⟨hv11, hr11⟩ := (hT 11 71 rfl rfl : (Is (.agg #[.bool bC, .slice qC nC kC, .bool bD, .slice qD nD kD])) (f' 71) (ρ 11))
                obtain hS := hS.flat3 hr6 hr10 hr11
                refine .inl ⟨want_on (e := 66) rfl rfl rfl hv6, ocall rfl rfl Try.call34 rfl (wsadd (((hS.slm 6 rfl).zr hk5).mono (by omega)) (((hS.slm 7 rfl).zr hk6).mono (by omega)) ((hzC.at hS).mono (by omega)) ((hzD.at hS).mono (by omega)) (by omega) (hv) hz9 hz10) (args2 (ev rfl hv10) (ev rfl hv11)) ?_⟩
                rintro _ w9 ⟨_, _, rfl, hTT, hN⟩
                exact ⟨_, rfl, _, _, rfl, hTT, hN⟩
              refine stepsCons rfl ?_ ?_
              · intro Q f' w' ρ S ho hT hS hB
                obtain ⟨hv6, hr6⟩ := (hT 6 66 rfl rfl : (Is (.bool true)) (f' 66) (ρ 6))
                obtain ⟨hv7, hr7⟩ := (hT 7 67 rfl rfl : (Is (.bool false)) (f' 67) (ρ 7))
                obtain ⟨hv8, hr8⟩ := (hT 8 68 rfl rfl : (Is (.agg #[.bool false, .slice none 0 0, .bool false, .slice none 0 0])) (f' 68) (ρ 8))
                obtain ⟨hv9, hr9⟩ := (hT 9 69 rfl rfl : (Is (.int .i64 6)) (f' 69) (ρ 9))
                obtain ⟨p9, n9, c9, p10, n10, c10, hv12, hr12⟩ := (hT 12 72 rfl rfl : (Rrt z9 z10) (f' 72) (ρ 12))
                obtain hS := hS.flat5 hr6 hr7 hr8 hr9 hr12
                refine .inl ⟨want_on (e := 66) rfl rfl rfl hv6, ocall rfl rfl Try.call32 rfl (wltold0) (args4 (ev rfl hv7) (ev rfl hv8) (ev rfl hv9) (ev rfl hv12)) ?_⟩
                rintro _ w9 ⟨_, _, rfl, hTT, hN⟩
                exact ⟨_, rfl, _, _, rfl, hTT, hN⟩
              refine stepsCons rfl ?_ ?_
              · intro Q f' w' ρ S ho hT hS hB
                obtain ⟨hv6, hr6⟩ := (hT 6 66 rfl rfl : (Is (.bool true)) (f' 66) (ρ 6))
                obtain ⟨hv13, hr13⟩ := (hT 13 73 rfl rfl : (Is (.bool true)) (f' 73) (ρ 13))
                obtain hS := hS.flat2 hr6 hr13
                exact .inl ⟨want_none rfl, opick (b := true) (v := .bool true) rfl rfl (ev (v := .bool true) rfl hv6) (ev (v := .bool true) rfl hv13) ⟨_, _, rfl, isI, New.same _⟩⟩
              refine stepsCons rfl ?_ ?_
              · intro Q f' w' ρ S ho hT hS hB
                obtain ⟨hv14, hr14⟩ := (hT 14 74 rfl rfl : (Is (.bool true)) (f' 74) (ρ 14))
                obtain hS := hS.flat1 hr14
                exact .inl ⟨want_none rfl, omove (v := .bool true) rfl rfl (ev (v := .bool true) rfl hv14) ⟨_, _, rfl, isI, New.same _⟩⟩
              refine stepsCons rfl ?_ ?_
              · intro Q f' w' ρ S ho hT hS hB
                obtain ⟨hv15, hr15⟩ := (hT 15 75 rfl rfl : (Is (.bool true)) (f' 75) (ρ 15))
                obtain hS := hS.flat1 hr15
                exact .inl ⟨want_on (e := 75) rfl rfl rfl hv15, omove (v := .bool false) rfl rfl (ev (v := .bool false) rfl (ho 10 rfl)) ⟨_, _, rfl, isI, New.same _⟩⟩
              refine stepsCons rfl ?_ ?_
              · intro Q f' w' ρ S ho hT hS hB
                obtain ⟨hv15, hr15⟩ := (hT 15 75 rfl rfl : (Is (.bool true)) (f' 75) (ρ 15))
                obtain hS := hS.flat1 hr15
                exact .inl ⟨want_on (e := 75) rfl rfl rfl hv15, oload (vs := [.bool false, .slice none 0 0, .bool false, .slice none 0 0]) aggR hS 1 rfl rfl (ev rfl (ho 15 rfl)) rfl rfl rfl ⟨_, _, rfl, isI, New.same _⟩⟩
              refine stepsCons rfl ?_ ?_
              · intro Q f' w' ρ S ho hT hS hB
                obtain ⟨hv15, hr15⟩ := (hT 15 75 rfl rfl : (Is (.bool true)) (f' 75) (ρ 15))
                obtain hS := hS.flat1 hr15
                exact .inl ⟨want_on (e := 75) rfl rfl rfl hv15, omove (v := .int .i64 6) rfl rfl (ev (v := .int .i64 6) rfl (ho 16 rfl)) ⟨_, _, rfl, isI, New.same _⟩⟩
              refine stepsCons rfl ?_ ?_
              · intro Q f' w' ρ S ho hT hS hB
                obtain ⟨hv15, hr15⟩ := (hT 15 75 rfl rfl : (Is (.bool true)) (f' 75) (ρ 15))
                obtain hS := hS.flat1 hr15
                exact .inl ⟨want_on (e := 75) rfl rfl rfl hv15, oload (vs := [.bool (ng 1), .slice p5 n5 c5, .bool (ng 1), .slice p6 n6 c6]) aggR hS 5 rfl rfl (ev rfl (ho 7 rfl)) rfl rfl rfl ⟨_, _, rfl, isI, New.same _⟩⟩
              refine stepsCons rfl ?_ ?_
              · intro Q f' w' ρ S ho hT hS hB
                obtain ⟨hv15, hr15⟩ := (hT 15 75 rfl rfl : (Is (.bool true)) (f' 75) (ρ 15))
                obtain hS := hS.flat1 hr15
                exact .inl ⟨want_on (e := 75) rfl rfl rfl hv15, oload (vs := [.bool bC, .slice qC nC kC, .bool bD, .slice qD nD kD]) aggR hS 4 rfl rfl (ev rfl (ho 8 rfl)) rfl rfl rfl ⟨_, _, rfl, isI, New.same _⟩⟩
              refine stepsCons rfl ?_ ?_
              · intro Q f' w' ρ S ho hT hS hB
                obtain ⟨hv15, hr15⟩ := (hT 15 75 rfl rfl : (Is (.bool true)) (f' 75) (ρ 15))
                obtain ⟨hv19, hr19⟩ := (hT 19 79 rfl rfl : (Is (.agg #[.bool (ng 1), .slice p5 n5 c5, .bool (ng 1), .slice p6 n6 c6])) (f' 79) (ρ 19))
                obtain ⟨hv20, hr20⟩ := (hT 20 80 rfl rfl : (Is (.agg #[.bool bC, .slice qC nC kC, .bool bD, .slice qD nD kD])) (f' 80) (ρ 20))
                obtain hS := hS.flat3 hr15 hr19 hr20
                refine .inl ⟨want_on (e := 75) rfl rfl rfl hv15, ocall rfl rfl Try.call35 rfl (wssub (((hS.slm 6 rfl).zr hk5).mono (by omega)) (((hS.slm 7 rfl).zr hk6).mono (by omega)) ((hzC.at hS).mono (by omega)) ((hzD.at hS).mono (by omega)) (by omega) (hv) hz11 hz12) (args2 (ev rfl hv19) (ev rfl hv20)) ?_⟩
                rintro _ w9 ⟨_, _, rfl, hTT, hN⟩
                exact ⟨_, rfl, _, _, rfl, hTT, hN⟩
              refine stepsCons rfl ?_ ?_
              · intro Q f' w' ρ S ho hT hS hB
                obtain ⟨hv15, hr15⟩ := (hT 15 75 rfl rfl : (Is (.bool true)) (f' 75) (ρ 15))
                obtain ⟨hv16, hr16⟩ := (hT 16 76 rfl rfl : (Is (.bool false)) (f' 76) (ρ 16))
                obtain ⟨hv17, hr17⟩ := (hT 17 77 rfl rfl : (Is (.agg #[.bool false, .slice none 0 0, .bool false, .slice none 0 0])) (f' 77) (ρ 17))
                obtain ⟨hv18, hr18⟩ := (hT 18 78 rfl rfl : (Is (.int .i64 6)) (f' 78) (ρ 18))
                obtain ⟨p11, n11, c11, p12, n12, c12, hv21, hr21⟩ := (hT 21 81 rfl rfl : (Rrt z11 z12) (f' 81) (ρ 21))
                obtain hS := hS.flat5 hr15 hr16 hr17 hr18 hr21
                refine .inl ⟨want_on (e := 75) rfl rfl rfl hv15, ocall rfl rfl Try.call32 rfl (wltold0) (args4 (ev rfl hv16) (ev rfl hv17) (ev rfl hv18) (ev rfl hv21)) ?_⟩
                rintro _ w9 ⟨_, _, rfl, hTT, hN⟩
                exact ⟨_, rfl, _, _, rfl, hTT, hN⟩
              refine stepsCons rfl ?_ ?_
              · intro Q f' w' ρ S ho hT hS hB
                obtain ⟨hv15, hr15⟩ := (hT 15 75 rfl rfl : (Is (.bool true)) (f' 75) (ρ 15))
                obtain ⟨hv22, hr22⟩ := (hT 22 82 rfl rfl : (Is (.bool true)) (f' 82) (ρ 22))
                obtain hS := hS.flat2 hr15 hr22
                exact .inl ⟨want_none rfl, opick (b := true) (v := .bool true) rfl rfl (ev (v := .bool true) rfl hv15) (ev (v := .bool true) rfl hv22) ⟨_, _, rfl, isI, New.same _⟩⟩
              refine stepsCons rfl ?_ ?_
              · intro Q f' w' ρ S ho hT hS hB
                obtain ⟨hv23, hr23⟩ := (hT 23 83 rfl rfl : (Is (.bool true)) (f' 83) (ρ 23))
                obtain hS := hS.flat1 hr23
                exact .inl ⟨want_none rfl, omove (v := .bool true) rfl rfl (ev (v := .bool true) rfl hv23) ⟨_, _, rfl, isI, New.same _⟩⟩
              refine stepsCons rfl ?_ ?_
              · intro Q f' w' ρ S ho hT hS hB
                obtain ⟨hv24, hr24⟩ := (hT 24 84 rfl rfl : (Is (.bool true)) (f' 84) (ρ 24))
                obtain hS := hS.flat1 hr24
                exact .inl ⟨want_on (e := 84) rfl rfl rfl hv24, omove (v := .bool false) rfl rfl (ev (v := .bool false) rfl (ho 10 rfl)) ⟨_, _, rfl, isI, New.same _⟩⟩
              refine stepsCons rfl ?_ ?_
              · intro Q f' w' ρ S ho hT hS hB
                obtain ⟨hv24, hr24⟩ := (hT 24 84 rfl rfl : (Is (.bool true)) (f' 84) (ρ 24))
                obtain hS := hS.flat1 hr24
                exact .inl ⟨want_on (e := 84) rfl rfl rfl hv24, oload (vs := [.bool false, .slice none 0 0, .bool false, .slice none 0 0]) aggR hS 0 rfl rfl (ev rfl (ho 17 rfl)) rfl rfl rfl ⟨_, _, rfl, isI, New.same _⟩⟩
              refine stepsCons rfl ?_ ?_
              · intro Q f' w' ρ S ho hT hS hB
                obtain ⟨hv24, hr24⟩ := (hT 24 84 rfl rfl : (Is (.bool true)) (f' 84) (ρ 24))
                obtain hS := hS.flat1 hr24
                exact .inl ⟨want_on (e := 84) rfl rfl rfl hv24, omove (v := .int .i64 6) rfl rfl (ev (v := .int .i64 6) rfl (ho 18 rfl)) ⟨_, _, rfl, isI, New.same _⟩⟩
              refine stepsCons rfl ?_ ?_
              · intro Q f' w' ρ S ho hT hS hB
                obtain ⟨hv24, hr24⟩ := (hT 24 84 rfl rfl : (Is (.bool true)) (f' 84) (ρ 24))
                obtain hS := hS.flat1 hr24
                exact .inl ⟨want_on (e := 84) rfl rfl rfl hv24, oload (vs := [.bool (ng 1), .slice p5 n5 c5, .bool (ng 1), .slice p6 n6 c6]) aggR hS 5 rfl rfl (ev rfl (ho 7 rfl)) rfl rfl rfl ⟨_, _, rfl, isI, New.same _⟩⟩
              refine stepsCons rfl ?_ ?_
              · intro Q f' w' ρ S ho hT hS hB
                obtain ⟨hv24, hr24⟩ := (hT 24 84 rfl rfl : (Is (.bool true)) (f' 84) (ρ 24))
                obtain hS := hS.flat1 hr24
                exact .inl ⟨want_on (e := 84) rfl rfl rfl hv24, oload (vs := [.bool bC, .slice qC nC kC, .bool bD, .slice qD nD kD]) aggR hS 4 rfl rfl (ev rfl (ho 8 rfl)) rfl rfl rfl ⟨_, _, rfl, isI, New.same _⟩⟩
              refine stepsCons rfl ?_ ?_
              · intro Q f' w' ρ S ho hT hS hB
                obtain ⟨hv24, hr24⟩ := (hT 24 84 rfl rfl : (Is (.bool true)) (f' 84) (ρ 24))
                obtain ⟨hv28, hr28⟩ := (hT 28 88 rfl rfl : (Is (.agg #[.bool (ng 1), .slice p5 n5 c5, .bool (ng 1), .slice p6 n6 c6])) (f' 88) (ρ 28))
                obtain ⟨hv29, hr29⟩ := (hT 29 89 rfl rfl : (Is (.agg #[.bool bC, .slice qC nC kC, .bool bD, .slice qD nD kD])) (f' 89) (ρ 29))
                obtain hS := hS.flat3 hr24 hr28 hr29
                refine .inl ⟨want_on (e := 84) rfl rfl rfl hv24, ocall rfl rfl Try.call36 rfl (wsmul (((hS.slm 6 rfl).zr hk5).mono (by omega)) (((hS.slm 7 rfl).zr hk6).mono (by omega)) ((hzC.at hS).mono (by omega)) ((hzD.at hS).mono (by omega)) (by omega) (hv) hz13 hz14) (args2 (ev rfl hv28) (ev rfl hv29)) ?_⟩
                rintro _ w9 ⟨_, _, rfl, hTT, hN⟩
                exact ⟨_, rfl, _, _, rfl, hTT, hN⟩
              refine stepsCons rfl ?_ ?_
              · intro Q f' w' ρ S ho hT hS hB
                obtain ⟨hv24, hr24⟩ := (hT 24 84 rfl rfl : (Is (.bool true)) (f' 84) (ρ 24))
                obtain ⟨hv25, hr25⟩ := (hT 25 85 rfl rfl : (Is (.bool false)) (f' 85) (ρ 25))
                obtain ⟨hv26, hr26⟩ := (hT 26 86 rfl rfl : (Is (.agg #[.bool false, .slice none 0 0, .bool false, .slice none 0 0])) (f' 86) (ρ 26))
                obtain ⟨hv27, hr27⟩ := (hT 27 87 rfl rfl : (Is (.int .i64 6)) (f' 87) (ρ 27))
                obtain ⟨p13, n13, c13, p14, n14, c14, hv30, hr30⟩ := (hT 30 90 rfl rfl : (Rrt z13 z14) (f' 90) (ρ 30))
                obtain hS := hS.flat5 hr24 hr25 hr26 hr27 hr30
                refine .inl ⟨want_on (e := 84) rfl rfl rfl hv24, ocall rfl rfl Try.call32 rfl (wltold0) (args4 (ev rfl hv25) (ev rfl hv26) (ev rfl hv27) (ev rfl hv30)) ?_⟩
                rintro _ w9 ⟨_, _, rfl, hTT, hN⟩
                exact ⟨_, rfl, _, _, rfl, hTT, hN⟩
              refine stepsCons rfl ?_ ?_
              · intro Q f' w' ρ S ho hT hS hB
                obtain ⟨hv24, hr24⟩ := (hT 24 84 rfl rfl : (Is (.bool true)) (f' 84) (ρ 24))
                obtain ⟨hv31, hr31⟩ := (hT 31 91 rfl rfl : (Is (.bool true)) (f' 91) (ρ 31))
                obtain hS := hS.flat2 hr24 hr31
                exact .inl ⟨want_none rfl, opick (b := true) (v := .bool true) rfl rfl (ev (v := .bool true) rfl hv24) (ev (v := .bool true) rfl hv31) ⟨_, _, rfl, isI, New.same _⟩⟩
              refine stepsCons rfl ?_ ?_
              · intro Q f' w' ρ S ho hT hS hB
                obtain ⟨hv32, hr32⟩ := (hT 32 92 rfl rfl : (Is (.bool true)) (f' 92) (ρ 32))
                obtain hS := hS.flat1 hr32
                exact .inl ⟨want_none rfl, oassign (v := .bool true) rfl rfl (ev (v := .bool true) rfl hv32) ⟨_, _, rfl, isI, New.same _⟩⟩
              exact stepsNil
            ·
              intro vs ρ w32 f' hf hT hS
              obtain ⟨hv0, hr0⟩ := (hT 0 (by decide) : (Is (.bool false)) (vs 0) (ρ 0))
              obtain ⟨hv1, hr1⟩ := (hT 1 (by decide) : (Is (.agg #[.bool false, .slice none 0 0, .bool false, .slice none 0 0])) (vs 1) (ρ 1))
              obtain ⟨hv2, hr2⟩ := (hT 2 (by decide) : (Is (.int .i64 6)) (vs 2) (ρ 2))
              obtain ⟨hv3, hr3⟩ := (hT 3 (by decide) : (Is (.agg #[.bool (ng 1), .slice p5 n5 c5, .bool (ng 1), .slice p6 n6 c6])) (vs 3) (ρ 3))
              obtain ⟨p7, n7, c7, p8, n8, c8, hv4, hr4⟩ := (hT 4 (by decide) : (Rrt z7 z8) (vs 4) (ρ 4))
              obtain ⟨hv5, hr5⟩ := (hT 5 (by decide) : (Is (.bool true)) (vs 5) (ρ 5))
              obtain ⟨hv6, hr6⟩ := (hT 6 (by decide) : (Is (.bool true)) (vs 6) (ρ 6))
              obtain ⟨hv7, hr7⟩ := (hT 7 (by decide) : (Is (.bool false)) (vs 7) (ρ 7))
              obtain ⟨hv8, hr8⟩ := (hT 8 (by decide) : (Is (.agg #[.bool false, .slice none 0 0, .bool false, .slice none 0 0])) (vs 8) (ρ 8))
              obtain ⟨hv9, hr9⟩ := (hT 9 (by decide) : (Is (.int .i64 6)) (vs 9) (ρ 9))
              obtain ⟨hv10, hr10⟩ := (hT 10 (by decide) : (Is (.agg #[.bool (ng 1), .slice p5 n5 c5, .bool (ng 1), .slice p6 n6 c6])) (vs 10) (ρ 10))
              obtain ⟨hv11, hr11⟩ := (hT 11 (by decide) : (Is (.agg #[.bool bC, .slice qC nC kC, .bool bD, .slice qD nD kD])) (vs 11) (ρ 11))
              obtain ⟨p9, n9, c9, p10, n10, c10, hv12, hr12⟩ := (hT 12 (by decide) : (Rrt z9 z10) (vs 12) (ρ 12))
              obtain ⟨hv13, hr13⟩ := (hT 13 (by decide) : (Is (.bool true)) (vs 13) (ρ 13))
              obtain ⟨hv14, hr14⟩ := (hT 14 (by decide) : (Is (.bool true)) (vs 14) (ρ 14))
              obtain ⟨hv15, hr15⟩ := (hT 15 (by decide) : (Is (.bool true)) (vs 15) (ρ 15))
              obtain ⟨hv16, hr16⟩ := (hT 16 (by decide) : (Is (.bool false)) (vs 16) (ρ 16))
              obtain ⟨hv17, hr17⟩ := (hT 17 (by decide) : (Is (.agg #[.bool false, .slice none 0 0, .bool false, .slice none 0 0])) (vs 17) (ρ 17))
              obtain ⟨hv18, hr18⟩ := (hT 18 (by decide) : (Is (.int .i64 6)) (vs 18) (ρ 18))
              obtain ⟨hv19, hr19⟩ := (hT 19 (by decide) : (Is (.agg #[.bool (ng 1), .slice p5 n5 c5, .bool (ng 1), .slice p6 n6 c6])) (vs 19) (ρ 19))
              obtain ⟨hv20, hr20⟩ := (hT 20 (by decide) : (Is (.agg #[.bool bC, .slice qC nC kC, .bool bD, .slice qD nD kD])) (vs 20) (ρ 20))
              obtain ⟨p11, n11, c11, p12, n12, c12, hv21, hr21⟩ := (hT 21 (by decide) : (Rrt z11 z12) (vs 21) (ρ 21))
              obtain ⟨hv22, hr22⟩ := (hT 22 (by decide) : (Is (.bool true)) (vs 22) (ρ 22))
              obtain ⟨hv23, hr23⟩ := (hT 23 (by decide) : (Is (.bool true)) (vs 23) (ρ 23))
              obtain ⟨hv24, hr24⟩ := (hT 24 (by decide) : (Is (.bool true)) (vs 24) (ρ 24))
              obtain ⟨hv25, hr25⟩ := (hT 25 (by decide) : (Is (.bool false)) (vs 25) (ρ 25))
              obtain ⟨hv26, hr26⟩ := (hT 26 (by decide) : (Is (.agg #[.bool false, .slice none 0 0, .bool false, .slice none 0 0])) (vs 26) (ρ 26))
              obtain ⟨hv27, hr27⟩ := (hT 27 (by decide) : (Is (.int .i64 6)) (vs 27) (ρ 27))
              obtain ⟨hv28, hr28⟩ := (hT 28 (by decide) : (Is (.agg #[.bool (ng 1), .slice p5 n5 c5, .bool (ng 1), .slice p6 n6 c6])) (vs 28) (ρ 28))
              obtain ⟨hv29, hr29⟩ := (hT 29 (by decide) : (Is (.agg #[.bool bC, .slice qC nC kC, .bool bD, .slice qD nD kD])) (vs 29) (ρ 29))
              obtain ⟨p13, n13, c13, p14, n14, c14, hv30, hr30⟩ := (hT 30 (by decide) : (Rrt z13 z14) (vs 30) (ρ 30))
              obtain ⟨hv31, hr31⟩ := (hT 31 (by decide) : (Is (.bool true)) (vs 31) (ρ 31))
              obtain ⟨hv32, hr32⟩ := (hT 32 (by decide) : (Is (.bool true)) (vs 32) (ρ 32))
              obtain ⟨hv33, hr33⟩ := (hT 33 (by decide) : (Is (.bool true)) (vs 33) (ρ 33))
              simp only [pool, if_true, hr0, hr1, hr2, hr3, hr4, hr5, hr6, hr7, hr8, hr9, hr10, hr11, hr12, hr13, hr14, hr15, hr16, hr17, hr18, hr19, hr20, hr21, hr22, hr23, hr24, hr25, hr26, hr27, hr28, hr29, hr30, hr31, hr32, hr33, List.nil_append, List.cons_append, List.append_nil] at hS
              simp only [layf, hv0, hv1, hv2, hv3, hv4, hv5, hv6, hv7, hv8, hv9, hv10, hv11, hv12, hv13, hv14, hv15, hv16, hv17, hv18, hv19, hv20, hv21, hv22, hv23, hv24, hv25, hv26, hv27, hv28, hv29, hv30, hv31, hv32, hv33] at hf
              subst hf; clear hT hv0 hv1 hv2 hv3 hv4 hv5 hv6 hv7 hv8 hv9 hv10 hv11 hv12 hv13 hv14 hv15 hv16 hv17 hv18 hv19 hv20 hv21 hv22 hv23 hv24 hv25 hv26 hv27 hv28 hv29 hv30 hv31 hv32 hv33 hr0 hr1 hr2 hr3 hr4 hr5 hr6 hr7 hr8 hr9 hr10 hr11 hr12 hr13 hr14 hr15 hr16 hr17 hr18 hr19 hr20 hr21 hr22 hr23 hr24 hr25 hr26 hr27 hr28 hr29 hr30 hr31 hr32 hr33
              refine wdone rfl ?_
              refine thenN ?_
              refine wseq ?_
              refine wseq ?_
              refine wreg ?_
              refine wl rfl (ofieldAddr (g := g21) (off := 0) 0 rfl rfl (ev (v := .pointer (some ⟨g21, 0, none⟩)) rfl rfl) Try.runUnderlying27 rfl Try.sizeOf25 rfl ?_)
              refine wl rfl (ofieldAddr (g := g21) (off := 0) 1 rfl rfl (ev (v := .pointer (some ⟨g21, 0, none⟩)) rfl rfl) Try.runUnderlying25 rfl Try.sizeOf23 rfl ?_)
              refine wl rfl (oload1 (v := .slice none 0 0) oneN hS 10 rfl rfl (ev rfl rfl) rfl rfl ?_)
              refine wl rfl (olen rfl rfl rfl Try.runUnderlying23 (p := none) (k := 0) (m := 0) (ev (v := .slice none 0 0) rfl rfl) ?_)
              refine wl rfl (omove (v := .int .i64 0) rfl rfl (evc (v := .int .i64 0)) ?_)
              refine wnil ?_
              refine thenN ?_
              refine wblock ?_
              refine wloop (σ := Nat) (fun k a w' => ∃ (fb : Nat → Value), a = act 120 (sets fb [(2, .pointer (some ⟨g1, 0, none⟩)), (3, .pointer (some ⟨g3, 0, none⟩)), (4, .bool false), (5, .pointer (some ⟨g5, 0, none⟩)), (6, .pointer (some ⟨g6, 0, none⟩)), (13, .pointer (some ⟨g21, 0, none⟩)), (19, .bool true), (96, .int .i64 (((0 : Nat) : Int))), (97, .int .i64 0)]) ∧ Sep w [.rowm p13 n13 c13 (lim z13.natAbs), .rowm p14 n14 c14 (lim z14.natAbs), .rowm p11 n11 c11 (lim z11.natAbs), .rowm p12 n12 c12 (lim z12.natAbs), .rowm p9 n9 c9 (lim z9.natAbs), .rowm p10 n10 c10 (lim z10.natAbs), .rowm p7 n7 c7 (lim z7.natAbs), .rowm p8 n8 c8 (lim z8.natAbs), .blk g29 [.bool false, .slice none 0 0, .bool false, .slice none 0 0] 27, .blk g25 [.bool false, .slice none 0 0, .bool false, .slice none 0 0] 27, .blk g21 [.bool false, .slice none 0 0, .bool false, .slice none 0 0] 27, .blk g17 [.bool false, .slice none 0 0, .bool false, .slice none 0 0] 27, .blk g11 [.bool bC, .slice qC nC kC, .bool bD, .slice qD nD kD] 27, .blk g10 [.bool (ng 1), .slice p5 n5 c5, .bool (ng 1), .slice p6 n6 c6] 27, .rowm p5 n5 c5 (lim (1 : Int).natAbs), .rowm p6 n6 c6 (lim (1 : Int).natAbs), .blk g6 [.bool bC, .slice pc3 nC cc3, .bool bD, .slice pc4 nD cc4] 27, .blk g5 [.bool bA, .slice pc1 nA cc1, .bool bB, .slice pc2 nB cc2] 27, .rowm pc3 nC cc3 lc, .rowm pc4 nD cc4 ld, .rowm pc1 nA cc1 la, .rowm pc2 nB cc2 lb, .blk g3 [.bool bC, .slice qC nC kC, .bool bD, .slice qD nD kD] 27, .blk g1 [.bool bA, .slice qA nA kA, .bool bB, .slice qB nB kB] 27] w') (fun k => k) (0) ⟨_, act_sets (l := [(2, .pointer (some ⟨g1, 0, none⟩)), (3, .pointer (some ⟨g3, 0, none⟩)), (4, .bool false), (5, .pointer (some ⟨g5, 0, none⟩)), (6, .pointer (some ⟨g6, 0, none⟩)), (13, .pointer (some ⟨g21, 0, none⟩)), (19, .bool true), (96, .int .i64 (((0 : Nat) : Int))), (97, .int .i64 0)]) ⟨rfl, rfl, rfl, rfl, rfl, rfl, rfl, rfl, rfl, trivial⟩, hS⟩ ?_
              clear hS; rintro k _ w33 ⟨fb, rfl, hS⟩
              refine wseq ?_
              refine wreg ?_
              refine wl rfl (obin (u := .int .i64 0) (v := .int .i64 (((0 : Nat) : Int))) (z := .bool false) rfl rfl (ev (v := .int .i64 0) rfl rfl) (ev (v := .int .i64 (((0 : Nat) : Int))) rfl rfl) (bin_lss (decide_eq_false (by omega))) ?_)
              refine wnil ?_
              refine thenN ?_
              refine wseq ?_
              refine wF (ev (v := .bool false) rfl rfl) ?_
              refine wexit ?_
              refine thenE ?_
              refine thenE ?_
              refine blkE ?_
              refine thenN ?_
              refine wseq ?_
              refine wreg ?_
              refine wl rfl (omove (v := .bool true) rfl rfl (ev (v := .bool true) rfl rfl) ?_)
              refine wl rfl (omove (v := .bool true) rfl rfl (ev (v := .bool true) rfl rfl) ?_)
              refine wlOn (e := 107) rfl rfl rfl rfl (oload (vs := [.bool bA, .slice pc1 nA cc1, .bool bB, .slice pc2 nB cc2]) aggR hS 17 rfl rfl (ev rfl rfl) rfl rfl rfl ?_)
              refine wlOn (e := 107) rfl rfl rfl rfl (oload (vs := [.bool bA, .slice qA nA kA, .bool bB, .slice qB nB kB]) aggR hS 23 rfl rfl (ev rfl rfl) rfl rfl rfl ?_)
              refine wlOn (e := 107) rfl rfl rfl rfl (ocall rfl rfl Try.call13 rfl (wlsame5X (hS.slm 20 rfl) (hS.slm 21 rfl) (hsA.below hS.below (Nat.le_refl _)) (hsB.below hS.below (Nat.le_refl _))) (args2 (ev rfl rfl) (ev rfl rfl)) ?_)
              rintro _ w34 ⟨_, _, rfl, ⟨rfl, rfl⟩, hN⟩
              refine ⟨_, rfl, ?_⟩
              replace hS := hS.news hN; clear hN
              refine wl rfl (opick (b := true) (v := .bool true) rfl rfl (ev (v := .bool true) rfl rfl) (ev (v := .bool true) rfl rfl) ?_)
              refine wl rfl (omove (v := .bool true) rfl rfl (ev (v := .bool true) rfl rfl) ?_)
              refine wlOn (e := 112) rfl rfl rfl rfl (oload (vs := [.bool bC, .slice pc3 nC cc3, .bool bD, .slice pc4 nD cc4]) aggR hS 16 rfl rfl (ev rfl rfl) rfl rfl rfl ?_)
              refine wlOn (e := 112) rfl rfl rfl rfl (oload (vs := [.bool bC, .slice qC nC kC, .bool bD, .slice qD nD kD]) aggR hS 22 rfl rfl (ev rfl rfl) rfl rfl rfl ?_)
              refine wlOn (e := 112) rfl rfl rfl rfl (ocall rfl rfl Try.call13 rfl (wlsame5X (hS.slm 18 rfl) (hS.slm 19 rfl) (hsC.below hS.below (Nat.le_refl _)) (hsD.below hS.below (Nat.le_refl _))) (args2 (ev rfl rfl) (ev rfl rfl)) ?_)
              rintro _ w35 ⟨_, _, rfl, ⟨rfl, rfl⟩, hN⟩
              refine ⟨_, rfl, ?_⟩
              replace hS := hS.news hN; clear hN
              refine wl rfl (opick (b := true) (v := .bool true) rfl rfl (ev (v := .bool true) rfl rfl) (ev (v := .bool true) rfl rfl) ?_)
              refine wl rfl (omove (v := .bool true) rfl rfl (ev (v := .bool true) rfl rfl) ?_)
              refine wlOn (e := 117) rfl rfl rfl rfl (ocall rfl rfl Try.call15 rfl (wllives5) (args0 ) ?_)
              rintro _ w36 ⟨_, _, rfl, ⟨rfl, rfl⟩, hN⟩
              refine ⟨_, rfl, ?_⟩
              replace hS := hS.news hN; clear hN
              refine wl rfl (opick (b := true) (v := .bool true) rfl rfl (ev (v := .bool true) rfl rfl) (ev (v := .bool true) rfl rfl) ?_)
              refine wl rfl (oassign (v := .bool true) rfl rfl (ev (v := .bool true) rfl rfl) ?_)
              refine wnil ?_
              refine thenN ?_
              refine wleave ?_
              refine wret1 Try.results5 (tellT (v := .bool true) rfl rfl) ?_
              exact ⟨_, _, rfl, isI, hS.new0⟩
    ·
      by_cases hv : v = 0
      ·
        have hk5 : Wd 1 2 := Wd.i64 (by omega) (by omega)
        have hk6 : Wd 1 2 := Wd.i64 (by omega) (by omega)
        refine wstage 6 [25, 26, 27, 28, 7, 8] [[], [0], [], [2, 0, 1], [], []] [[], [], [], [], [], []] [] [] (fun i9 => ([fun _ => Is (.agg #[.bool bA, .slice qA nA kA, .bool bB, .slice qB nB kB]), fun _ => Is (.agg #[.bool bA, .slice qA nA kA, .bool bB, .slice qB nB kB]), fun _ => Is (.agg #[.bool bC, .slice qC nC kC, .bool bD, .slice qD nD kD]), fun _ => Rrt 1 1, fun _ => Ptr [.bool false, .slice none 0 0, .bool false, .slice none 0 0] 27, fun _ => Ptr [.bool false, .slice none 0 0, .bool false, .slice none 0 0] 27] : List (List Value → Tell)).getD i9 (fun _ _ _ => False)) (heldNil) (fun d _ _ _ _ h => (by cases d <;> exact h)) (by kernel_rfl) (by kernel_rfl) (by kernel_rfl) hS ?_ ?_
        ·
          refine stepsCons rfl ?_ ?_
          · intro Q f' w' ρ S ho hT hS hB
            exact .inl ⟨want_none rfl, oload (vs := [.bool bA, .slice qA nA kA, .bool bB, .slice qB nB kB]) aggR hS 7 rfl rfl (ev rfl (ho 2 rfl)) rfl rfl rfl ⟨_, _, rfl, isI, New.same _⟩⟩
          refine stepsCons rfl ?_ ?_
          · intro Q f' w' ρ S ho hT hS hB
            obtain ⟨hv0, hr0⟩ := (hT 0 25 rfl rfl : (Is (.agg #[.bool bA, .slice qA nA kA, .bool bB, .slice qB nB kB])) (f' 25) (ρ 0))
            obtain hS := hS.flat1 hr0
            refine .inl ⟨want_none rfl, ocall rfl rfl Try.call27 rfl (wlsome ((hzB.at hS).mono (by omega)) (hy)) (args1 (ev rfl hv0)) ?_⟩
            rintro _ w9 ⟨_, _, rfl, hTT, hN⟩
            exact ⟨_, rfl, _, _, rfl, hTT, hN⟩
          refine stepsCons rfl ?_ ?_
          · intro Q f' w' ρ S ho hT hS hB
            exact .inl ⟨want_none rfl, oload (vs := [.bool bC, .slice qC nC kC, .bool bD, .slice qD nD kD]) aggR hS 6 rfl rfl (ev rfl (ho 3 rfl)) rfl rfl rfl ⟨_, _, rfl, isI, New.same _⟩⟩
          refine stepsCons rfl ?_ ?_
          · intro Q f' w' ρ S ho hT hS hB
            obtain ⟨hv2, hr2⟩ := (hT 2 27 rfl rfl : (Is (.agg #[.bool bC, .slice qC nC kC, .bool bD, .slice qD nD kD])) (f' 27) (ρ 2))
            obtain hS := hS.flat1 hr2
            refine .inl ⟨want_none rfl, ocall rfl rfl Try.call27 rfl (wlsome0 ((hzD.at hS).mono (by omega)) (hv)) (args1 (ev rfl hv2)) ?_⟩
            rintro _ w9 ⟨_, _, rfl, hTT, hN⟩
            exact ⟨_, rfl, _, _, rfl, hTT, hN⟩
          refine stepsCons rfl ?_ ?_
          · intro Q f' w' ρ S ho hT hS hB
            exact .inl ⟨want_none rfl, oallocN [.bool false, .slice none 0 0, .bool false, .slice none 0 0] rfl rfl Try.zeroValue27 rfl ⟨_, _, rfl, ptrI, New.blk _ _ _⟩⟩
          refine stepsCons rfl ?_ ?_
          · intro Q f' w' ρ S ho hT hS hB
            exact .inl ⟨want_none rfl, oallocN [.bool false, .slice none 0 0, .bool false, .slice none 0 0] rfl rfl Try.zeroValue27 rfl ⟨_, _, rfl, ptrI, New.blk _ _ _⟩⟩
          exact stepsNil
        ·
          intro vs ρ w12 f' hf hT hS
          obtain ⟨hv0, hr0⟩ := (hT 0 (by decide) : (Is (.agg #[.bool bA, .slice qA nA kA, .bool bB, .slice qB nB kB])) (vs 0) (ρ 0))
          obtain ⟨hv1, hr1⟩ := (hT 1 (by decide) : (Is (.agg #[.bool bA, .slice qA nA kA, .bool bB, .slice qB nB kB])) (vs 1) (ρ 1))
          obtain ⟨hv2, hr2⟩ := (hT 2 (by decide) : (Is (.agg #[.bool bC, .slice qC nC kC, .bool bD, .slice qD nD kD])) (vs 2) (ρ 2))
          obtain ⟨p5, n5, c5, p6, n6, c6, hv3, hr3⟩ := (hT 3 (by decide) : (Rrt 1 1) (vs 3) (ρ 3))
          obtain ⟨g10, hv4, hr4⟩ := (hT 4 (by decide) : (Ptr [.bool false, .slice none 0 0, .bool false, .slice none 0 0] 27) (vs 4) (ρ 4))
          obtain ⟨g11, hv5, hr5⟩ := (hT 5 (by decide) : (Ptr [.bool false, .slice none 0 0, .bool false, .slice none 0 0] 27) (vs 5) (ρ 5))
          simp only [pool, if_true, hr0, hr1, hr2, hr3, hr4, hr5, List.nil_append, List.cons_append, List.append_nil] at hS
          simp only [layf, hv0, hv1, hv2, hv3, hv4, hv5] at hf
          subst hf; clear hT hv0 hv1 hv2 hv3 hv4 hv5 hr0 hr1 hr2 hr3 hr4 hr5
          refine wlate 6 rfl (by kernel_rfl) (ostore [.bool bA, .slice qA nA kA, .bool bB, .slice qB nB kB] [.bool bA, .slice qA nA kA, .bool bB, .slice qB nB kB] Try.sizeOf27 hS 1 rfl rfl (ev rfl rfl) (ev (v := .agg #[.bool bA, .slice qA nA kA, .bool bB, .slice qB nB kB]) rfl rfl) rfl rfl rfl rfl rfl rfl ?_)
          clear hS; intro w13 hS
          refine ⟨heldNil, ?_⟩
          refine wlate 7 rfl (by kernel_rfl) (ostore [.bool (ng 1), .slice p5 n5 c5, .bool (ng 1), .slice p6 n6 c6] [.bool (ng 1), .slice p5 n5 c5, .bool (ng 1), .slice p6 n6 c6] Try.sizeOf27 hS 0 rfl rfl (ev rfl rfl) (ev (v := .agg #[.bool (ng 1), .slice p5 n5 c5, .bool (ng 1), .slice p6 n6 c6]) rfl rfl) rfl rfl rfl rfl rfl rfl ?_)
          clear hS; intro w14 hS
          refine ⟨heldNil, ?_⟩
          refine wdone rfl ?_
          refine thenN ?_
          refine wseq ?_
          refine wstage 10 [29, 30, 31, 32, 33, 34, 35, 36, 9, 10] [[], [0], [], [2, 0, 1], [3, 0, 1, 2], [4, 0, 1, 2, 3], [4, 5, 0, 1, 2, 3], [4, 6, 0, 1, 2, 3, 5], [1, 0, 2, 3, 4, 5, 6], [7, 0, 1, 2, 3, 4, 5, 6, 8]] [[], [], [], [], [], [], [], [], [], []] [] [] (fun i9 => ([fun _ => Is (.agg #[.bool bA, .slice qA nA kA, .bool bB, .slice qB nB kB]), fun _ => Is (.bool true), fun _ => Is (.agg #[.bool bA, .slice qA nA kA, .bool bB, .slice qB nB kB]), fun _ => Is (.bool true), fun _ => Is (.bool true), fun _ => Is (.agg #[.bool bC, .slice qC nC kC, .bool bD, .slice qD nD kD]), fun _ => Is (.bool false), fun _ => Is (.bool false), fun _ => Is (.bool true), fun _ => Is (.bool false)] : List (List Value → Tell)).getD i9 (fun _ _ _ => False)) (heldNil) (fun d _ _ _ _ h => (by cases d <;> exact h)) (by kernel_rfl) (by kernel_rfl) (by kernel_rfl) hS ?_ ?_
          ·
            refine stepsCons rfl ?_ ?_
            · intro Q f' w' ρ S ho hT hS hB
              exact .inl ⟨want_none rfl, oload (vs := [.bool bA, .slice qA nA kA, .bool bB, .slice qB nB kB]) aggR hS 11 rfl rfl (ev rfl (ho 2 rfl)) rfl rfl rfl ⟨_, _, rfl, isI, New.same _⟩⟩
            refine stepsCons rfl ?_ ?_
            · intro Q f' w' ρ S ho hT hS hB
              obtain ⟨hv0, hr0⟩ := (hT 0 29 rfl rfl : (Is (.agg #[.bool bA, .slice qA nA kA, .bool bB, .slice qB nB kB])) (f' 29) (ρ 0))
              obtain hS := hS.flat1 hr0
              refine .inl ⟨want_none rfl, ocall rfl rfl Try.call11 rfl (wsmay ((hzB.at hS).mono (by omega)) (hy)) (args1 (ev rfl hv0)) ?_⟩
              rintro _ w9 ⟨_, _, rfl, hTT, hN⟩
              exact ⟨_, rfl, _, _, rfl, hTT, hN⟩
            refine stepsCons rfl ?_ ?_
            · intro Q f' w' ρ S ho hT hS hB
              exact .inl ⟨want_none rfl, oload (vs := [.bool bA, .slice qA nA kA, .bool bB, .slice qB nB kB]) aggR hS 11 rfl rfl (ev rfl (ho 2 rfl)) rfl rfl rfl ⟨_, _, rfl, isI, New.same _⟩⟩
            refine stepsCons rfl ?_ ?_
            · intro Q f' w' ρ S ho hT hS hB
              obtain ⟨hv2, hr2⟩ := (hT 2 31 rfl rfl : (Is (.agg #[.bool bA, .slice qA nA kA, .bool bB, .slice qB nB kB])) (f' 31) (ρ 2))
              obtain hS := hS.flat1 hr2
              refine .inl ⟨want_none rfl, ocall rfl rfl Try.call11 rfl (wsmay ((hzB.at hS).mono (by omega)) (hy)) (args1 (ev rfl hv2)) ?_⟩
              rintro _ w9 ⟨_, _, rfl, hTT, hN⟩
              exact ⟨_, rfl, _, _, rfl, hTT, hN⟩
            refine stepsCons rfl ?_ ?_
            · intro Q f' w' ρ S ho hT hS hB
              obtain ⟨hv3, hr3⟩ := (hT 3 32 rfl rfl : (Is (.bool true)) (f' 32) (ρ 3))
              obtain hS := hS.flat1 hr3
              exact .inl ⟨want_none rfl, omove (v := .bool true) rfl rfl (ev (v := .bool true) rfl hv3) ⟨_, _, rfl, isI, New.same _⟩⟩
            refine stepsCons rfl ?_ ?_
            · intro Q f' w' ρ S ho hT hS hB
              obtain ⟨hv4, hr4⟩ := (hT 4 33 rfl rfl : (Is (.bool true)) (f' 33) (ρ 4))
              obtain hS := hS.flat1 hr4
              exact .inl ⟨want_on (e := 33) rfl rfl rfl hv4, oload (vs := [.bool bC, .slice qC nC kC, .bool bD, .slice qD nD kD]) aggR hS 10 rfl rfl (ev rfl (ho 3 rfl)) rfl rfl rfl ⟨_, _, rfl, isI, New.same _⟩⟩
            refine stepsCons rfl ?_ ?_
            · intro Q f' w' ρ S ho hT hS hB
              obtain ⟨hv4, hr4⟩ := (hT 4 33 rfl rfl : (Is (.bool true)) (f' 33) (ρ 4))
              obtain ⟨hv5, hr5⟩ := (hT 5 34 rfl rfl : (Is (.agg #[.bool bC, .slice qC nC kC, .bool bD, .slice qD nD kD])) (f' 34) (ρ 5))
              obtain hS := hS.flat2 hr4 hr5
              refine .inl ⟨want_on (e := 33) rfl rfl rfl hv4, ocall rfl rfl Try.call11 rfl (wsmay0 ((hzD.at hS).mono (by omega)) (hv)) (args1 (ev rfl hv5)) ?_⟩
              rintro _ w9 ⟨_, _, rfl, hTT, hN⟩
              exact ⟨_, rfl, _, _, rfl, hTT, hN⟩
            refine stepsCons rfl ?_ ?_
            · intro Q f' w' ρ S ho hT hS hB
              obtain ⟨hv4, hr4⟩ := (hT 4 33 rfl rfl : (Is (.bool true)) (f' 33) (ρ 4))
              obtain ⟨hv6, hr6⟩ := (hT 6 35 rfl rfl : (Is (.bool false)) (f' 35) (ρ 6))
              obtain hS := hS.flat2 hr4 hr6
              exact .inl ⟨want_none rfl, opick (b := true) (v := .bool false) rfl rfl (ev (v := .bool true) rfl hv4) (ev (v := .bool false) rfl hv6) ⟨_, _, rfl, isI, New.same _⟩⟩
            refine stepsCons rfl ?_ ?_
            · intro Q f' w' ρ S ho hT hS hB
              obtain ⟨hv1, hr1⟩ := (hT 1 30 rfl rfl : (Is (.bool true)) (f' 30) (ρ 1))
              obtain hS := hS.flat1 hr1
              exact .inl ⟨want_none rfl, oassign (v := .bool true) rfl rfl (ev (v := .bool true) rfl hv1) ⟨_, _, rfl, isI, New.same _⟩⟩
            refine stepsCons rfl ?_ ?_
            · intro Q f' w' ρ S ho hT hS hB
              obtain ⟨hv7, hr7⟩ := (hT 7 36 rfl rfl : (Is (.bool false)) (f' 36) (ρ 7))
              obtain hS := hS.flat1 hr7
              exact .inl ⟨want_none rfl, oassign (v := .bool false) rfl rfl (ev (v := .bool false) rfl hv7) ⟨_, _, rfl, isI, New.same _⟩⟩
            exact stepsNil
          ·
            intro vs ρ w15 f' hf hT hS
            obtain ⟨hv0, hr0⟩ := (hT 0 (by decide) : (Is (.agg #[.bool bA, .slice qA nA kA, .bool bB, .slice qB nB kB])) (vs 0) (ρ 0))
            obtain ⟨hv1, hr1⟩ := (hT 1 (by decide) : (Is (.bool true)) (vs 1) (ρ 1))
            obtain ⟨hv2, hr2⟩ := (hT 2 (by decide) : (Is (.agg #[.bool bA, .slice qA nA kA, .bool bB, .slice qB nB kB])) (vs 2) (ρ 2))
            obtain ⟨hv3, hr3⟩ := (hT 3 (by decide) : (Is (.bool true)) (vs 3) (ρ 3))
            obtain ⟨hv4, hr4⟩ := (hT 4 (by decide) : (Is (.bool true)) (vs 4) (ρ 4))
            obtain ⟨hv5, hr5⟩ := (hT 5 (by decide) : (Is (.agg #[.bool bC, .slice qC nC kC, .bool bD, .slice qD nD kD])) (vs 5) (ρ 5))
            obtain ⟨hv6, hr6⟩ := (hT 6 (by decide) : (Is (.bool false)) (vs 6) (ρ 6))
            obtain ⟨hv7, hr7⟩ := (hT 7 (by decide) : (Is (.bool false)) (vs 7) (ρ 7))
            obtain ⟨hv8, hr8⟩ := (hT 8 (by decide) : (Is (.bool true)) (vs 8) (ρ 8))
            obtain ⟨hv9, hr9⟩ := (hT 9 (by decide) : (Is (.bool false)) (vs 9) (ρ 9))
            simp only [pool, if_true, hr0, hr1, hr2, hr3, hr4, hr5, hr6, hr7, hr8, hr9, List.nil_append, List.cons_append, List.append_nil] at hS
            simp only [layf, hv0, hv1, hv2, hv3, hv4, hv5, hv6, hv7, hv8, hv9] at hf
            subst hf; clear hT hv0 hv1 hv2 hv3 hv4 hv5 hv6 hv7 hv8 hv9 hr0 hr1 hr2 hr3 hr4 hr5 hr6 hr7 hr8 hr9
            refine wdone rfl ?_
            refine thenN ?_
            refine wseq ?_
            refine wreg ?_
            refine wl rfl (oload (vs := [.bool bA, .slice pc1 nA cc1, .bool bB, .slice pc2 nB cc2]) aggR hS 5 rfl rfl (ev rfl rfl) rfl rfl rfl ?_)
            obtain ⟨z7, hz7⟩ : ∃ z : Int, Hid (RN (-x) y = z) := ⟨_, rfl⟩
            have hk7 : Wd z7 1048576 := Wd.rn (Wd.neg hzA.wd rfl) hz7
            obtain ⟨z8, hz8⟩ : ∃ z : Int, Hid (RD (-x) y = z) := ⟨_, rfl⟩
            have hk8 : Wd z8 1048576 := Wd.rd hzB.wd hz8
            refine wl rfl (ocall rfl rfl Try.call28 rfl (wrneg ((show Zr _ _ _ _ _ x 1048576 from ⟨_, hS.slm 8 rfl, heA, hnA⟩).mono (by omega)) ((show Zr _ _ _ _ _ y 1048576 from ⟨_, hS.slm 9 rfl, heB, hnB⟩).mono (by omega)) (hy) hz7 hz8) (args1 (ev rfl rfl)) ?_)
            rintro _ w16 ⟨_, _, rfl, ⟨p7, n7, c7, p8, n8, c8, rfl, rfl⟩, hN⟩
            refine ⟨_, rfl, ?_⟩
            replace hS := hS.news hN; clear hN
            refine wl rfl (omove (v := .tuple #[.agg #[.bool (ng z7), .slice p7 n7 c7, .bool (ng z8), .slice p8 n8 c8], .int .i64 0]) rfl rfl (ev (v := .tuple #[.agg #[.bool (ng z7), .slice p7 n7 c7, .bool (ng z8), .slice p8 n8 c8], .int .i64 0]) rfl rfl) ?_)
            refine wl rfl (oextract (vs := [.agg #[.bool (ng z7), .slice p7 n7 c7, .bool (ng z8), .slice p8 n8 c8], .int .i64 0]) (v := .agg #[.bool (ng z7), .slice p7 n7 c7, .bool (ng z8), .slice p8 n8 c8]) rfl rfl (ev (v := .tuple #[.agg #[.bool (ng z7), .slice p7 n7 c7, .bool (ng z8), .slice p8 n8 c8], .int .i64 0]) rfl rfl) rfl ?_)
            refine wl rfl (oextract (vs := [.agg #[.bool (ng z7), .slice p7 n7 c7, .bool (ng z8), .slice p8 n8 c8], .int .i64 0]) (v := .int .i64 0) rfl rfl (ev (v := .tuple #[.agg #[.bool (ng z7), .slice p7 n7 c7, .bool (ng z8), .slice p8 n8 c8], .int .i64 0]) rfl rfl) rfl ?_)
            refine wl rfl (oalloc [.bool false, .slice none 0 0, .bool false, .slice none 0 0] hS rfl rfl Try.zeroValue27 rfl ?_)
            clear hS; intro g17 w18 hS
            refine wl rfl (ostore [.bool (ng z7), .slice p7 n7 c7, .bool (ng z8), .slice p8 n8 c8] [.bool (ng z7), .slice p7 n7 c7, .bool (ng z8), .slice p8 n8 c8] Try.sizeOf27 hS 0 rfl rfl (ev rfl rfl) (ev (v := .agg #[.bool (ng z7), .slice p7 n7 c7, .bool (ng z8), .slice p8 n8 c8]) rfl rfl) rfl rfl rfl rfl rfl rfl ?_)
            clear hS; intro w19 hS
            refine wl rfl (oassign (v := .int .i64 0) rfl rfl (ev (v := .int .i64 0) rfl rfl) ?_)
            refine wnil ?_
            refine thenN ?_
            refine wseq ?_
            refine wreg ?_
            refine wl rfl (oload (vs := [.bool bA, .slice pc1 nA cc1, .bool bB, .slice pc2 nB cc2]) aggR hS 8 rfl rfl (ev rfl rfl) rfl rfl rfl ?_)
            refine wl rfl (oload (vs := [.bool bC, .slice pc3 nC cc3, .bool bD, .slice pc4 nD cc4]) aggR hS 7 rfl rfl (ev rfl rfl) rfl rfl rfl ?_)
            refine wl rfl (ocall rfl rfl Try.call29 rfl (wradd0 ((show Zr _ _ _ _ _ x 1048576 from ⟨_, hS.slm 11 rfl, heA, hnA⟩).mono (by omega)) ((show Zr _ _ _ _ _ y 1048576 from ⟨_, hS.slm 12 rfl, heB, hnB⟩).mono (by omega)) ((show Zr _ _ _ _ _ u 1048576 from ⟨_, hS.slm 9 rfl, heC, hnC⟩).mono (by omega)) ((show Zr _ _ _ _ _ v 1048576 from ⟨_, hS.slm 10 rfl, heD, hnD⟩).mono (by omega)) (.inr hv)) (args2 (ev rfl rfl) (ev rfl rfl)) ?_)
            rintro _ w20 ⟨_, _, rfl, ⟨rfl, rfl⟩, hN⟩
            refine ⟨_, rfl, ?_⟩
            replace hS := hS.news hN; clear hN
            refine wl rfl (omove (v := .tuple #[.agg #[.bool false, .slice none 0 0, .bool false, .slice none 0 0], .int .i64 6]) rfl rfl (ev (v := .tuple #[.agg #[.bool false, .slice none 0 0, .bool false, .slice none 0 0], .int .i64 6]) rfl rfl) ?_)
            refine wl rfl (oextract (vs := [.agg #[.bool false, .slice none 0 0, .bool false, .slice none 0 0], .int .i64 6]) (v := .agg #[.bool false, .slice none 0 0, .bool false, .slice none 0 0]) rfl rfl (ev (v := .tuple #[.agg #[.bool false, .slice none 0 0, .bool false, .slice none 0 0], .int .i64 6]) rfl rfl) rfl ?_)
            refine wl rfl (oextract (vs := [.agg #[.bool false, .slice none 0 0, .bool false, .slice none 0 0], .int .i64 6]) (v := .int .i64 6) rfl rfl (ev (v := .tuple #[.agg #[.bool false, .slice none 0 0, .bool false, .slice none 0 0], .int .i64 6]) rfl rfl) rfl ?_)
            refine wl rfl (oalloc [.bool false, .slice none 0 0, .bool false, .slice none 0 0] hS rfl rfl Try.zeroValue27 rfl ?_)
            clear hS; intro g21 w22 hS
            refine wl rfl (ostore [.bool false, .slice none 0 0, .bool false, .slice none 0 0] [.bool false, .slice none 0 0, .bool false, .slice none 0 0] Try.sizeOf27 hS 0 rfl rfl (ev rfl rfl) (ev (v := .agg #[.bool false, .slice none 0 0, .bool false, .slice none 0 0]) rfl rfl) rfl rfl rfl rfl rfl rfl ?_)
            clear hS; intro w23 hS
            refine wl rfl (oassign (v := .int .i64 6) rfl rfl (ev (v := .int .i64 6) rfl rfl) ?_)
            refine wnil ?_
            refine thenN ?_
            refine wseq ?_
            refine wreg ?_
            refine wl rfl (oload (vs := [.bool bA, .slice pc1 nA cc1, .bool bB, .slice pc2 nB cc2]) aggR hS 9 rfl rfl (ev rfl rfl) rfl rfl rfl ?_)
            refine wl rfl (oload (vs := [.bool bC, .slice pc3 nC cc3, .bool bD, .slice pc4 nD cc4]) aggR hS 8 rfl rfl (ev rfl rfl) rfl rfl rfl ?_)
            refine wl rfl (ocall rfl rfl Try.call30 rfl (wrsub0 ((show Zr _ _ _ _ _ x 1048576 from ⟨_, hS.slm 12 rfl, heA, hnA⟩).mono (by omega)) ((show Zr _ _ _ _ _ y 1048576 from ⟨_, hS.slm 13 rfl, heB, hnB⟩).mono (by omega)) ((show Zr _ _ _ _ _ u 1048576 from ⟨_, hS.slm 10 rfl, heC, hnC⟩).mono (by omega)) ((show Zr _ _ _ _ _ v 1048576 from ⟨_, hS.slm 11 rfl, heD, hnD⟩).mono (by omega)) (.inr hv)) (args2 (ev rfl rfl) (ev rfl rfl)) ?_)
            rintro _ w24 ⟨_, _, rfl, ⟨rfl, rfl⟩, hN⟩
            refine ⟨_, rfl, ?_⟩
            replace hS := hS.news hN; clear hN
            refine wl rfl (omove (v := .tuple #[.agg #[.bool false, .slice none 0 0, .bool false, .slice none 0 0], .int .i64 6]) rfl rfl (ev (v := .tuple #[.agg #[.bool false, .slice none 0 0, .bool false, .slice none 0 0], .int .i64 6]) rfl rfl) ?_)
            refine wl rfl (oextract (vs := [.agg #[.bool false, .slice none 0 0, .bool false, .slice none 0 0], .int .i64 6]) (v := .agg #[.bool false, .slice none 0 0, .bool false, .slice none 0 0]) rfl rfl (ev (v := .tuple #[.agg #[.bool false, .slice none 0 0, .bool false, .slice none 0 0], .int .i64 6]) rfl rfl) rfl ?_)
            refine wl rfl (oextract (vs := [.agg #[.bool false, .slice none 0 0, .bool false, .slice none 0 0], .int .i64 6]) (v := .int .i64 6) rfl rfl (ev (v := .tuple #[.agg #[.bool false, .slice none 0 0, .bool false, .slice none 0 0], .int .i64 6]) rfl rfl) rfl ?_)
            refine wl rfl (oalloc [.bool false, .slice none 0 0, .bool false, .slice none 0 0] hS rfl rfl Try.zeroValue27 rfl ?_)
            clear hS; intro g25 w26 hS
            refine wl rfl (ostore [.bool false, .slice none 0 0, .bool false, .slice none 0 0] [.bool false, .slice none 0 0, .bool false, .slice none 0 0] Try.sizeOf27 hS 0 rfl rfl (ev rfl rfl) (ev (v := .agg #[.bool false, .slice none 0 0, .bool false, .slice none 0 0]) rfl rfl) rfl rfl rfl rfl rfl rfl ?_)
            clear hS; intro w27 hS
            refine wl rfl (oassign (v := .int .i64 6) rfl rfl (ev (v := .int .i64 6) rfl rfl) ?_)
            refine wnil ?_
            refine thenN ?_
            refine wseq ?_
            refine wreg ?_
            refine wl rfl (oload (vs := [.bool bA, .slice pc1 nA cc1, .bool bB, .slice pc2 nB cc2]) aggR hS 10 rfl rfl (ev rfl rfl) rfl rfl rfl ?_)
            refine wl rfl (oload (vs := [.bool bC, .slice pc3 nC cc3, .bool bD, .slice pc4 nD cc4]) aggR hS 9 rfl rfl (ev rfl rfl) rfl rfl rfl ?_)
            refine wl rfl (ocall rfl rfl Try.call31 rfl (wrmul0 ((show Zr _ _ _ _ _ x 1048576 from ⟨_, hS.slm 13 rfl, heA, hnA⟩).mono (by omega)) ((show Zr _ _ _ _ _ y 1048576 from ⟨_, hS.slm 14 rfl, heB, hnB⟩).mono (by omega)) ((show Zr _ _ _ _ _ u 1048576 from ⟨_, hS.slm 11 rfl, heC, hnC⟩).mono (by omega)) ((show Zr _ _ _ _ _ v 1048576 from ⟨_, hS.slm 12 rfl, heD, hnD⟩).mono (by omega)) (.inr hv)) (args2 (ev rfl rfl) (ev rfl rfl)) ?_)
            rintro _ w28 ⟨_, _, rfl, ⟨rfl, rfl⟩, hN⟩
            refine ⟨_, rfl, ?_⟩
            replace hS := hS.news hN; clear hN
            refine wl rfl (omove (v := .tuple #[.agg #[.bool false, .slice none 0 0, .bool false, .slice none 0 0], .int .i64 6]) rfl rfl (ev (v := .tuple #[.agg #[.bool false, .slice none 0 0, .bool false, .slice none 0 0], .int .i64 6]) rfl rfl) ?_)
            refine wl rfl (oextract (vs := [.agg #[.bool false, .slice none 0 0, .bool false, .slice none 0 0], .int .i64 6]) (v := .agg #[.bool false, .slice none 0 0, .bool false, .slice none 0 0]) rfl rfl (ev (v := .tuple #[.agg #[.bool false, .slice none 0 0, .bool false, .slice none 0 0], .int .i64 6]) rfl rfl) rfl ?_)
            refine wl rfl (oextract (vs := [.agg #[.bool false, .slice none 0 0, .bool false, .slice none 0 0], .int .i64 6]) (v := .int .i64 6) rfl rfl (ev (v := .tuple #[.agg #[.bool false, .slice none 0 0, .bool false, .slice none 0 0], .int .i64 6]) rfl rfl) rfl ?_)
            refine wl rfl (oalloc [.bool false, .slice none 0 0, .bool false, .slice none 0 0] hS rfl rfl Try.zeroValue27 rfl ?_)
            clear hS; intro g29 w30 hS
            refine wl rfl (ostore [.bool false, .slice none 0 0, .bool false, .slice none 0 0] [.bool false, .slice none 0 0, .bool false, .slice none 0 0] Try.sizeOf27 hS 0 rfl rfl (ev rfl rfl) (ev (v := .agg #[.bool false, .slice none 0 0, .bool false, .slice none 0 0]) rfl rfl) rfl rfl rfl rfl rfl rfl ?_)
            clear hS; intro w31 hS
            refine wl rfl (oassign (v := .int .i64 6) rfl rfl (ev (v := .int .i64 6) rfl rfl) ?_)
            refine wnil ?_
            refine thenN ?_
            refine wseq ?_
            obtain ⟨z9, hz9⟩ : ∃ z : Int, Hid (RN (-x) y = z) := ⟨_, rfl⟩
            have hk9 : Wd z9 1048576 := Wd.rn (Wd.neg hzA.wd rfl) hz9
            obtain ⟨z10, hz10⟩ : ∃ z : Int, Hid (RD (-x) y = z) := ⟨_, rfl⟩
            have hk10 : Wd z10 1048576 := Wd.rd hzB.wd hz10
            obtain ⟨z11, hz11⟩ : ∃ z : Int, Hid (RN (x * 1 + 1 * y) (y * 1) = z) := ⟨_, rfl⟩
            have hk11 : Wd z11 1048579 := Wd.rn (Wd.add (m := 1048579) (Wd.mul (m := 1048578) hzA.wd hk6 rfl (by omega)) (Wd.mul (m := 1048578) hk5 hzB.wd rfl (by omega)) rfl (by omega)) hz11
            obtain ⟨z12, hz12⟩ : ∃ z : Int, Hid (RD (x * 1 + 1 * y) (y * 1) = z) := ⟨_, rfl⟩
            have hk12 : Wd z12 1048578 := Wd.rd (Wd.mul (m := 1048578) hzB.wd hk6 rfl (by omega)) hz12
            obtain ⟨z13, hz13⟩ : ∃ z : Int, Hid (RN (x * 1 - 1 * y) (y * 1) = z) := ⟨_, rfl⟩
            have hk13 : Wd z13 1048579 := Wd.rn (Wd.sub (m := 1048579) (Wd.mul (m := 1048578) hzA.wd hk6 rfl (by omega)) (Wd.mul (m := 1048578) hk5 hzB.wd rfl (by omega)) rfl (by omega)) hz13
            obtain ⟨z14, hz14⟩ : ∃ z : Int, Hid (RD (x * 1 - 1 * y) (y * 1) = z) := ⟨_, rfl⟩
            have hk14 : Wd z14 1048578 := Wd.rd (Wd.mul (m := 1048578) hzB.wd hk6 rfl (by omega)) hz14
            obtain ⟨z15, hz15⟩ : ∃ z : Int, Hid (RN (x * 1) (y * 1) = z) := ⟨_, rfl⟩
            have hk15 : Wd z15 1048578 := Wd.rn (Wd.mul (m := 1048578) hzA.wd hk5 rfl (by omega)) hz15
            obtain ⟨z16, hz16⟩ : ∃ z : Int, Hid (RD (x * 1) (y * 1) = z) := ⟨_, rfl⟩
            have hk16 : Wd z16 1048578 := Wd.rd (Wd.mul (m := 1048578) hzB.wd hk6 rfl (by omega)) hz16
            refine wstage 34 [60, 61, 62, 63, 64, 65, 66, 67, 68, 69, 70, 71, 72, 73, 74, 75, 76, 77, 78, 79, 80, 81, 82, 83, 84, 85, 86, 87, 88, 89, 90, 91, 92, 19] [[], [], [], [], [3], [0, 1, 2, 4, 3], [5, 0, 1, 2, 3, 4], [6, 0, 1, 2, 3, 4, 5], [6, 0, 1, 2, 3, 4, 5], [6, 0, 1, 2, 3, 4, 5], [6, 0, 1, 2, 3, 4, 5], [6, 0, 1, 2, 3, 4, 5], [6, 10, 11, 0, 1, 2, 3, 4, 5], [6, 7, 8, 9, 12, 0, 1, 2, 3, 4, 5, 10, 11], [6, 13, 0, 1, 2, 3, 4, 5, 7, 8, 9, 10, 11, 12], [14, 0, 1, 2, 3, 4, 5, 6, 7, 8, 9, 10, 11, 12, 13], [15, 0, 1, 2, 3, 4, 5, 6, 7, 8, 9, 10, 11, 12, 13, 14], [15, 0, 1, 2, 3, 4, 5, 6, 7, 8, 9, 10, 11, 12, 13, 14], [15, 0, 1, 2, 3, 4, 5, 6, 7, 8, 9, 10, 11, 12, 13, 14], [15, 0, 1, 2, 3, 4, 5, 6, 7, 8, 9, 10, 11, 12, 13, 14], [15, 0, 1, 2, 3, 4, 5, 6, 7, 8, 9, 10, 11, 12, 13, 14], [15, 19, 20, 0, 1, 2, 3, 4, 5, 6, 7, 8, 9, 10, 11, 12, 13, 14], [15, 16, 17, 18, 21, 0, 1, 2, 3, 4, 5, 6, 7, 8, 9, 10, 11, 12, 13, 14, 19, 20], [15, 22, 0, 1, 2, 3, 4, 5, 6, 7, 8, 9, 10, 11, 12, 13, 14, 16, 17, 18, 19, 20, 21], [23, 0, 1, 2, 3, 4, 5, 6, 7, 8, 9, 10, 11, 12, 13, 14, 15, 16, 17, 18, 19, 20, 21, 22], [24, 0, 1, 2, 3, 4, 5, 6, 7, 8, 9, 10, 11, 12, 13, 14, 15, 16, 17, 18, 19, 20, 21, 22, 23], [24, 0, 1, 2, 3, 4, 5, 6, 7, 8, 9, 10, 11, 12, 13, 14, 15, 16, 17, 18, 19, 20, 21, 22, 23], [24, 0, 1, 2, 3, 4, 5, 6, 7, 8, 9, 10, 11, 12, 13, 14, 15, 16, 17, 18, 19, 20, 21, 22, 23], [24, 0, 1, 2, 3, 4, 5, 6, 7, 8, 9, 10, 11, 12, 13, 14, 15, 16, 17, 18, 19, 20, 21, 22, 23], [24, 0, 1, 2, 3, 4, 5, 6, 7, 8, 9, 10, 11, 12, 13, 14, 15, 16, 17, 18, 19, 20, 21, 22, 23], [24, 28, 29, 0, 1, 2, 3, 4, 5, 6, 7, 8, 9, 10, 11, 12, 13, 14, 15, 16, 17, 18, 19, 20, 21, 22, 23], [24, 25, 26, 27, 30, 0, 1, 2, 3, 4, 5, 6, 7, 8, 9, 10, 11, 12, 13, 14, 15, 16, 17, 18, 19, 20, 21, 22, 23, 28, 29], [24, 31, 0, 1, 2, 3, 4, 5, 6, 7, 8, 9, 10, 11, 12, 13, 14, 15, 16, 17, 18, 19, 20, 21, 22, 23, 25, 26, 27, 28, 29, 30], [32, 0, 1, 2, 3, 4, 5, 6, 7, 8, 9, 10, 11, 12, 13, 14, 15, 16, 17, 18, 19, 20, 21, 22, 23, 24, 25, 26, 27, 28, 29, 30, 31]] [[], [], [], [], [], [], [], [], [], [], [], [], [], [], [], [], [], [], [], [], [], [], [], [], [], [], [], [], [], [], [], [], [], []] [] [] (fun i9 => ([fun _ => Is (.bool true), fun _ => Is (.agg #[.bool (ng z7), .slice p7 n7 c7, .bool (ng z8), .slice p8 n8 c8]), fun _ => Is (.int .i64 0), fun _ => Is (.agg #[.bool bA, .slice qA nA kA, .bool bB, .slice qB nB kB]), fun _ => Rrt z9 z10, fun _ => Is (.bool true), fun _ => Is (.bool true), fun _ => Is (.bool false), fun _ => Is (.agg #[.bool false, .slice none 0 0, .bool false, .slice none 0 0]), fun _ => Is (.int .i64 6), fun _ => Is (.agg #[.bool bA, .slice qA nA kA, .bool bB, .slice qB nB kB]), fun _ => Is (.agg #[.bool (ng 1), .slice p5 n5 c5, .bool (ng 1), .slice p6 n6 c6]), fun _ => Rrt z11 z12, fun _ => Is (.bool true), fun _ => Is (.bool true), fun _ => Is (.bool true), fun _ => Is (.bool false), fun _ => Is (.agg #[.bool false, .slice none 0 0, .bool false, .slice none 0 0]), fun _ => Is (.int .i64 6), fun _ => Is (.agg #[.bool bA, .slice qA nA kA, .bool bB, .slice qB nB kB]), fun _ => Is (.agg #[.bool (ng 1), .slice p5 n5 c5, .bool (ng 1), .slice p6 n6 c6]), fun _ => Rrt z13 z14, fun _ => Is (.bool true), fun _ => Is (.bool true), fun _ => Is (.bool true), fun _ => Is (.bool false), fun _ => Is (.agg #[.bool false, .slice none 0 0, .bool false, .slice none 0 0]), fun _ => Is (.int .i64 6), fun _ => Is (.agg #[.bool bA, .slice qA nA kA, .bool bB, .slice qB nB kB]), fun _ => Is (.agg #[.bool (ng 1), .slice p5 n5 c5, .bool (ng 1), .slice p6 n6 c6]), fun _ => Rrt z15 z16, fun _ => Is (.bool true), fun _ => Is (.bool true), fun _ => Is (.bool true)] : List (List Value → Tell)).getD i9 (fun _ _ _ => False)) (heldNil) (fun d _ _ _ _ h => (by cases d <;> exact h)) (by kernel_rfl) (by kernel_rfl) (by kernel_rfl) hS ?_ ?_
            ·
              refine stepsCons rfl ?_ ?_
              · intro Q f' w' ρ S ho hT hS hB
                exact .inl ⟨want_none rfl, omove (v := .bool true) rfl rfl (ev (v := .bool true) rfl (ho 9 rfl)) ⟨_, _, rfl, isI, New.same _⟩⟩
              refine stepsCons rfl ?_ ?_
              · intro Q f' w' ρ S ho hT hS hB
                exact .inl ⟨want_none rfl, oload (vs := [.bool (ng z7), .slice p7 n7 c7, .bool (ng z8), .slice p8 n8 c8]) aggR hS 3 rfl rfl (ev rfl (ho 11 rfl)) rfl rfl rfl ⟨_, _, rfl, isI, New.same _⟩⟩
              refine stepsCons rfl ?_ ?_
              · intro Q f' w' ρ S ho hT hS hB
                exact .inl ⟨want_none rfl, omove (v := .int .i64 0) rfl rfl (ev (v := .int .i64 0) rfl (ho 12 rfl)) ⟨_, _, rfl, isI, New.same _⟩⟩
              refine stepsCons rfl ?_ ?_
              · intro Q f' w' ρ S ho hT hS hB
                exact .inl ⟨want_none rfl, oload (vs := [.bool bA, .slice qA nA kA, .bool bB, .slice qB nB kB]) aggR hS 7 rfl rfl (ev rfl (ho 7 rfl)) rfl rfl rfl ⟨_, _, rfl, isI, New.same _⟩⟩
              refine stepsCons rfl ?_ ?_
              · intro Q f' w' ρ S ho hT hS hB
                obtain ⟨hv3, hr3⟩ := (hT 3 63 rfl rfl : (Is (.agg #[.bool bA, .slice qA nA kA, .bool bB, .slice qB nB kB])) (f' 63) (ρ 3))
                obtain hS := hS.flat1 hr3
                refine .inl ⟨want_none rfl, ocall rfl rfl Try.call33 rfl (wsneg ((hzA.at hS).mono (by omega)) ((hzB.at hS).mono (by omega)) (hy) hz9 hz10) (args1 (ev rfl hv3)) ?_⟩
                rintro _ w9 ⟨_, _, rfl, hTT, hN⟩
                exact ⟨_, rfl, _, _, rfl, hTT, hN⟩
              refine stepsCons rfl ?_ ?_
              · intro Q f' w' ρ S ho hT hS hB
                obtain ⟨hv0, hr0⟩ := (hT 0 60 rfl rfl : (Is (.bool true)) (f' 60) (ρ 0))
                obtain ⟨hv1, hr1⟩ := (hT 1 61 rfl rfl : (Is (.agg #[.bool (ng z7), .slice p7 n7 c7, .bool (ng z8), .slice p8 n8 c8])) (f' 61) (ρ 1))
                obtain ⟨hv2, hr2⟩ := (hT 2 62 rfl rfl : (Is (.int .i64 0)) (f' 62) (ρ 2))
                obtain ⟨p9, n9, c9, p10, n10, c10, hv4, hr4⟩ := (hT 4 64 rfl rfl : (Rrt z9 z10) (f' 64) (ρ 4))
                obtain hS := hS.flat4 hr0 hr1 hr2 hr4
                refine .inl ⟨want_none rfl, ocall rfl rfl Try.call32 rfl (wltold (x := z7) (y := z8) (u := z9) (v := z10) (hS.slm 4 rfl) (hS.slm 5 rfl) (hS.slm 18 rfl) (hS.slm 19 rfl) ((hz7.out.symm).trans (hz9.out.symm).symm) ((hz8.out.symm).trans (hz10.out.symm).symm)) (args4 (ev rfl hv0) (ev rfl hv1) (ev rfl hv2) (ev rfl hv4)) ?_⟩
                rintro _ w9 ⟨_, _, rfl, hTT, hN⟩
                exact ⟨_, rfl, _, _, rfl, hTT, hN⟩
              refine stepsCons rfl ?_ ?_
              · intro Q f' w' ρ S ho hT hS hB
                obtain ⟨hv5, hr5⟩ := (hT 5 65 rfl rfl : (Is (.bool true)) (f' 65) (ρ 5))
                obtain hS := hS.flat1 hr5
                exact .inl ⟨want_none rfl, omove (v := .bool true) rfl rfl (ev (v := .bool true) rfl hv5) ⟨_, _, rfl, isI, New.same _⟩⟩
              refine stepsCons rfl ?_ ?_
              · intro Q f' w' ρ S ho hT hS hB
                obtain ⟨hv6, hr6⟩ := (hT 6 66 rfl rfl : (Is (.bool true)) (f' 66) (ρ 6))
                obtain hS := hS.flat1 hr6
                exact .inl ⟨want_on (e := 66) rfl rfl rfl hv6, omove (v := .bool false) rfl rfl (ev (v := .bool false) rfl (ho 10 rfl)) ⟨_, _, rfl, isI, New.same _⟩⟩
              refine stepsCons rfl ?_ ?_
              · intro Q f' w' ρ S ho hT hS hB
                obtain ⟨hv6, hr6⟩ := (hT 6 66 rfl rfl : (Is (.bool true)) (f' 66) (ρ 6))
                obtain hS := hS.flat1 hr6
                exact .inl ⟨want_on (e := 66) rfl rfl rfl hv6, oload (vs := [.bool false, .slice none 0 0, .bool false, .slice none 0 0]) aggR hS 2 rfl rfl (ev rfl (ho 13 rfl)) rfl rfl rfl ⟨_, _, rfl, isI, New.same _⟩⟩
              refine stepsCons rfl ?_ ?_
              · intro Q f' w' ρ S ho hT hS hB
                obtain ⟨hv6, hr6⟩ := (hT 6 66 rfl rfl : (Is (.bool true)) (f' 66) (ρ 6))
                obtain hS := hS.flat1 hr6
                exact .inl ⟨want_on (e := 66) rfl rfl rfl hv6, omove (v := .int .i64 6) rfl rfl (ev (v := .int .i64 6) rfl (ho 14 rfl)) ⟨_, _, rfl, isI, New.same _⟩⟩
              refine stepsCons rfl ?_ ?_
              · intro Q f' w' ρ S ho hT hS hB
                obtain ⟨hv6, hr6⟩ := (hT 6 66 rfl rfl : (Is (.bool true)) (f' 66) (ρ 6))
                obtain hS := hS.flat1 hr6
                exact .inl ⟨want_on (e := 66) rfl rfl rfl hv6, oload (vs := [.bool bA, .slice qA nA kA, .bool bB, .slice qB nB kB]) aggR hS 7 rfl rfl (ev rfl (ho 7 rfl)) rfl rfl rfl ⟨_, _, rfl, isI, New.same _⟩⟩
              refine stepsCons rfl ?_ ?_
              · intro Q f' w' ρ S ho hT hS hB
                obtain ⟨hv6, hr6⟩ := (hT 6 66 rfl rfl : (Is (.bool true)) (f' 66) (ρ 6))
                obtain hS := hS.flat1 hr6
                exact .inl ⟨want_on (e := 66) rfl rfl rfl hv6, oload (vs := [.bool (ng 1), .slice p5 n5 c5, .bool (ng 1), .slice p6 n6 c6]) aggR hS 6 rfl rfl (ev rfl (ho 8 rfl)) rfl rfl rfl ⟨_, _, rfl, isI, New.same _⟩⟩
              refine stepsCons rfl ?_ ?_
              · intro Q f' w' ρ S ho hT hS hB
                obtain ⟨hv6, hr6⟩ := (hT 6 66 rfl rfl : (Is (.bool true)) (f' 66) (ρ 6))
                obtain ⟨hv10, hr10⟩ := (hT 10 70 rfl rfl : (Is (.agg #[.bool bA, .slice qA nA kA, .bool bB, .slice qB nB kB])) (f' 70) (ρ 10))
                obtain ⟨hv11, hr11⟩ := (hT 11 71 rfl rfl : (Is (.agg #[.bool (ng 1), .slice p5 n5 c5, .bool (ng 1), .slice p6 n6 c6])) (f' 71) (ρ 11))
                obtain hS := hS.flat3 hr6 hr10 hr11
                refine .inl ⟨want_on (e := 66) rfl rfl rfl hv6, ocall rfl rfl Try.call34 rfl (wsadd ((hzA.at hS).mono (by omega)) ((hzB.at hS).mono (by omega)) (((hS.slm 8 rfl).zr hk5).mono (by omega)) (((hS.slm 9 rfl).zr hk6).mono (by omega)) (hy) (by omega) hz11 hz12) (args2 (ev rfl hv10) (ev rfl hv11)) ?_⟩
                rintro _ w9 ⟨_, _, rfl, hTT, hN⟩
                exact ⟨_, rfl, _, _, rfl, hTT, hN⟩
              refine stepsCons rfl ?_ ?_
              · intro Q f' w' ρ S ho hT hS hB
                obtain ⟨hv6, hr6⟩ := (hT 6 66 rfl rfl : (Is (.bool true)) (f' 66) (ρ 6))
                obtain ⟨hv7, hr7⟩ := (hT 7 67 rfl rfl : (Is (.bool false)) (f' 67) (ρ 7))
                obtain ⟨hv8, hr8⟩ := (hT 8 68 rfl rfl : (Is (.agg #[.bool false, .slice none 0 0, .bool false, .slice none 0 0])) (f' 68) (ρ 8))
                obtain ⟨hv9, hr9⟩ := (hT 9 69 rfl rfl : (Is (.int .i64 6)) (f' 69) (ρ 9))
                obtain ⟨p11, n11, c11, p12, n12, c12, hv12, hr12⟩ := (hT 12 72 rfl rfl : (Rrt z11 z12) (f' 72) (ρ 12))
                obtain hS := hS.flat5 hr6 hr7 hr8 hr9 hr12
                refine .inl ⟨want_on (e := 66) rfl rfl rfl hv6, ocall rfl rfl Try.call32 rfl (wltold0) (args4 (ev rfl hv7) (ev rfl hv8) (ev rfl hv9) (ev rfl hv12)) ?_⟩
                rintro _ w9 ⟨_, _, rfl, hTT, hN⟩
                exact ⟨_, rfl, _, _, rfl, hTT, hN⟩
              refine stepsCons rfl ?_ ?_
              · intro Q f' w' ρ S ho hT hS hB
                obtain ⟨hv6, hr6⟩ := (hT 6 66 rfl rfl : (Is (.bool true)) (f' 66) (ρ 6))
                obtain ⟨hv13, hr13⟩ := (hT 13 73 rfl rfl : (Is (.bool true)) (f' 73) (ρ 13))
                obtain hS := hS.flat2 hr6 hr13
                exact .inl ⟨want_none rfl, opick (b := true) (v := .bool true) rfl rfl (ev (v := .bool true) rfl hv6) (ev (v := .bool true) rfl hv13) ⟨_, _, rfl, isI, New.same _⟩⟩
              refine stepsCons rfl ?_ ?_
              · intro Q f' w' ρ S ho hT hS hB
                obtain ⟨hv14, hr14⟩ := (hT 14 74 rfl rfl : (Is (.bool true)) (f' 74) (ρ 14))
                obtain hS := hS.flat1 hr14
                exact .inl ⟨want_none rfl, omove (v := .bool true) rfl rfl (ev (v := .bool true) rfl hv14) ⟨_, _, rfl, isI, New.same _⟩⟩
              refine stepsCons rfl ?_ ?_
              · intro Q f' w' ρ S ho hT hS hB
                obtain ⟨hv15, hr15⟩ := (hT 15 75 rfl rfl : (Is (.bool true)) (f' 75) (ρ 15))
                obtain hS := hS.flat1 hr15
                exact .inl ⟨want_on (e := 75) rfl rfl rfl hv15, omove (v := .bool false) rfl rfl (ev (v := .bool false) rfl (ho 10 rfl)) ⟨_, _, rfl, isI, New.same _⟩⟩
              refine stepsCons rfl ?_ ?_
              · intro Q f' w' ρ S ho hT hS hB
                obtain ⟨hv15, hr15⟩ := (hT 15 75 rfl rfl : (Is (.bool true)) (f' 75) (ρ 15))
                obtain hS := hS.flat1 hr15
                exact .inl ⟨want_on (e := 75) rfl rfl rfl hv15, oload (vs := [.bool false, .slice none 0 0, .bool false, .slice none 0 0]) aggR hS 1 rfl rfl (ev rfl (ho 15 rfl)) rfl rfl rfl ⟨_, _, rfl, isI, New.same _⟩⟩
              refine stepsCons rfl ?_ ?_
              · intro Q f' w' ρ S ho hT hS hB
                obtain ⟨hv15, hr15⟩ := (hT 15 75 rfl rfl : (Is (.bool true)) (f' 75) (ρ 15))
                obtain hS := hS.flat1 hr15
                exact .inl ⟨want_on (e := 75) rfl rfl rfl hv15, omove (v := .int .i64 6) rfl rfl (ev (v := .int .i64 6) rfl (ho 16 rfl)) ⟨_, _, rfl, isI, New.same _⟩⟩
              refine stepsCons rfl ?_ ?_
              · intro Q f' w' ρ S ho hT hS hB
                obtain ⟨hv15, hr15⟩ := (hT 15 75 rfl rfl : (Is (.bool true)) (f' 75) (ρ 15))
                obtain hS := hS.flat1 hr15
                exact .inl ⟨want_on (e := 75) rfl rfl rfl hv15, oload (vs := [.bool bA, .slice qA nA kA, .bool bB, .slice qB nB kB]) aggR hS 7 rfl rfl (ev rfl (ho 7 rfl)) rfl rfl rfl ⟨_, _, rfl, isI, New.same _⟩⟩
              refine stepsCons rfl ?_ ?_
              · intro Q f' w' ρ S ho hT hS hB
                obtain ⟨hv15, hr15⟩ := (hT 15 75 rfl rfl : (Is (.bool true)) (f' 75) (ρ 15))
                obtain hS := hS.flat1 hr15
                exact .inl ⟨want_on (e := 75) rfl rfl rfl hv15, oload (vs := [.bool (ng 1), .slice p5 n5 c5, .bool (ng 1), .slice p6 n6 c6]) aggR hS 6 rfl rfl (ev rfl (ho 8 rfl)) rfl rfl rfl ⟨_, _, rfl, isI, New.same _⟩⟩
              refine stepsCons rfl ?_ ?_
              · intro Q f' w' ρ S ho hT hS hB
                obtain ⟨hv15, hr15⟩ := (hT 15 75 rfl rfl : (Is (.bool true)) (f' 75) (ρ 15))
                obtain ⟨hv19, hr19⟩ := (hT 19 79 rfl rfl : (Is (.agg #[.bool bA, .slice qA nA kA, .bool bB, .slice qB nB kB])) (f' 79) (ρ 19))
                obtain ⟨hv20, hr20⟩ := (hT 20 80 rfl rfl : (Is (.agg #[.bool (ng 1), .slice p5 n5 c5, .bool (ng 1), .slice p6 n6 c6])) (f' 80) (ρ 20))
                obtain hS := hS.flat3 hr15 hr19 hr20
                refine .inl ⟨want_on (e := 75) rfl rfl rfl hv15, ocall rfl rfl Try.call35 rfl (wssub ((hzA.at hS).mono (by omega)) ((hzB.at hS).mono (by omega)) (((hS.slm 8 rfl).zr hk5).mono (by omega)) (((hS.slm 9 rfl).zr hk6).mono (by omega)) (hy) (by omega) hz13 hz14) (args2 (ev rfl hv19) (ev rfl hv20)) ?_⟩
                rintro _ w9 ⟨_, _, rfl, hTT, hN⟩
                exact ⟨_, rfl, _, _, rfl, hTT, hN⟩
              refine stepsCons rfl ?_ ?_
              · intro Q f' w' ρ S ho hT hS hB
                obtain ⟨hv15, hr15⟩ := (hT 15 75 rfl rfl : (Is (.bool true)) (f' 75) (ρ 15))
                obtain ⟨hv16, hr16⟩ := (hT 16 76 rfl rfl : (Is (.bool false)) (f' 76) (ρ 16))
                obtain ⟨hv17, hr17⟩ := (hT 17 77 rfl rfl : (Is (.agg #[.bool false, .slice none 0 0, .bool false, .slice none 0 0])) (f' 77) (ρ 17))
                obtain ⟨hv18, hr18⟩ := (hT 18 78 rfl rfl : (Is (.int .i64 6)) (f' 78) (ρ 18))
                obtain ⟨p13, n13, c13, p14, n14, c14, hv21, hr21⟩ := (hT 21 81 rfl rfl : (Rrt z13 z14) (f' 81) (ρ 21))
                obtain hS := hS.flat5 hr15 hr16 hr17 hr18 hr21
                refine .inl ⟨want_on (e := 75) rfl rfl rfl hv15, ocall rfl rfl Try.call32 rfl (wltold0) (args4 (ev rfl hv16) (ev rfl hv17) (ev rfl hv18) (ev rfl hv21)) ?_⟩
                rintro _ w9 ⟨_, _, rfl, hTT, hN⟩
                exact ⟨_, rfl, _, _, rfl, hTT, hN⟩
              refine stepsCons rfl ?_ ?_
              · intro Q f' w' ρ S ho hT hS hB
                obtain ⟨hv15, hr15⟩ := (hT 15 75 rfl rfl : (Is (.bool true)) (f' 75) (ρ 15))
                obtain ⟨hv22, hr22⟩ := (hT 22 82 rfl rfl : (Is (.bool true)) (f' 82) (ρ 22))
                obtain hS := hS.flat2 hr15 hr22
                exact .inl ⟨want_none rfl, opick (b := true) (v := .bool true) rfl rfl (ev (v := .bool true) rfl hv15) (ev (v := .bool true) rfl hv22) ⟨_, _, rfl, isI, New.same _⟩⟩
              refine stepsCons rfl ?_ ?_
              · intro Q f' w' ρ S ho hT hS hB
                obtain ⟨hv23, hr23⟩ := (hT 23 83 rfl rfl : (Is (.bool true)) (f' 83) (ρ 23))
                obtain hS := hS.flat1 hr23
                exact .inl ⟨want_none rfl, omove (v := .bool true) rfl rfl (ev (v := .bool true) rfl hv23) ⟨_, _, rfl, isI, New.same _⟩⟩
              refine stepsCons rfl ?_ ?_
              · intro Q f' w' ρ S ho hT hS hB
                obtain ⟨hv24, hr24⟩ := (hT 24 84 rfl rfl : (Is (.bool true)) (f' 84) (ρ 24))
                obtain hS := hS.flat1 hr24
                exact .inl ⟨want_on (e := 84) rfl rfl rfl hv24, omove (v := .bool false) rfl rfl (ev (v := .bool false) rfl (ho 10 rfl)) ⟨_, _, rfl, isI, New.same _⟩⟩
              refine stepsCons rfl ?_ ?_
              · intro Q f' w' ρ S ho hT hS hB
                obtain ⟨hv24, hr24⟩ := (hT 24 84 rfl rfl : (Is (.bool true)) (f' 84) (ρ 24))
                obtain hS := hS.flat1 hr24
                exact .inl ⟨want_on (e := 84) rfl rfl rfl hv24, oload (vs := [.bool false, .slice none 0 0, .bool false, .slice none 0 0]) aggR hS 0 rfl rfl (ev rfl (ho 17 rfl)) rfl rfl rfl ⟨_, _, rfl, isI, New.same _⟩⟩
              refine stepsCons rfl ?_ ?_
              · intro Q f' w' ρ S ho hT hS hB
                obtain ⟨hv24, hr24⟩ := (hT 24 84 rfl rfl : (Is (.bool true)) (f' 84) (ρ 24))
                obtain hS := hS.flat1 hr24
                exact .inl ⟨want_on (e := 84) rfl rfl rfl hv24, omove (v := .int .i64 6) rfl rfl (ev (v := .int .i64 6) rfl (ho 18 rfl)) ⟨_, _, rfl, isI, New.same _⟩⟩
              refine stepsCons rfl ?_ ?_
              · intro Q f' w' ρ S ho hT hS hB
                obtain ⟨hv24, hr24⟩ := (hT 24 84 rfl rfl : (Is (.bool true)) (f' 84) (ρ 24))
                obtain hS := hS.flat1 hr24
                exact .inl ⟨want_on (e := 84) rfl rfl rfl hv24, oload (vs := [.bool bA, .slice qA nA kA, .bool bB, .slice qB nB kB]) aggR hS 7 rfl rfl (ev rfl (ho 7 rfl)) rfl rfl rfl ⟨_, _, rfl, isI, New.same _⟩⟩
              refine stepsCons rfl ?_ ?_
              · intro Q f' w' ρ S ho hT hS hB
                obtain ⟨hv24, hr24⟩ := (hT 24 84 rfl rfl : (Is (.bool true)) (f' 84) (ρ 24))
                obtain hS := hS.flat1 hr24
                exact .inl ⟨want_on (e := 84) rfl rfl rfl hv24, oload (vs := [.bool (ng 1), .slice p5 n5 c5, .bool (ng 1), .slice p6 n6 c6]) aggR hS 6 rfl rfl (ev rfl (ho 8 rfl)) rfl rfl rfl ⟨_, _, rfl, isI, New.same _⟩⟩
              refine stepsCons rfl ?_ ?_
              · intro Q f' w' ρ S ho hT hS hB
                obtain ⟨hv24, hr24⟩ := (hT 24 84 rfl rfl : (Is (.bool true)) (f' 84) (ρ 24))
                obtain ⟨hv28, hr28⟩ := (hT 28 88 rfl rfl : (Is (.agg #[.bool bA, .slice qA nA kA, .bool bB, .slice qB nB kB])) (f' 88) (ρ 28))
                obtain ⟨hv29, hr29⟩ := (hT 29 89 rfl rfl : (Is (.agg #[.bool (ng 1), .slice p5 n5 c5, .bool (ng 1), .slice p6 n6 c6])) (f' 89) (ρ 29))
                obtain hS := hS.flat3 hr24 hr28 hr29
                refine .inl ⟨want_on (e := 84) rfl rfl rfl hv24, ocall rfl rfl Try.call36 rfl (wsmul ((hzA.at hS).mono (by omega)) ((hzB.at hS).mono (by omega)) (((hS.slm 8 rfl).zr hk5).mono (by omega)) (((hS.slm 9 rfl).zr hk6).mono (by omega)) (hy) (by omega) hz15 hz16) (args2 (ev rfl hv28) (ev rfl hv29)) ?_⟩
                rintro _ w9 ⟨_, _, rfl, hTT, hN⟩
                exact ⟨_, rfl, _, _, rfl, hTT, hN⟩
              refine stepsCons rfl ?_ ?_
              · intro Q f' w' ρ S ho hT hS hB
                obtain ⟨hv24, hr24⟩ := (hT 24 84 rfl rfl : (Is (.bool true)) (f' 84) (ρ 24))
                obtain ⟨hv25, hr25⟩ := (hT 25 85 rfl rfl : (Is (.bool false)) (f' 85) (ρ 25))
                obtain ⟨hv26, hr26⟩ := (hT 26 86 rfl rfl : (Is (.agg #[.bool false, .slice none 0 0, .bool false, .slice none 0 0])) (f' 86) (ρ 26))
                obtain ⟨hv27, hr27⟩ := (hT 27 87 rfl rfl : (Is (.int .i64 6)) (f' 87) (ρ 27))
                obtain ⟨p15, n15, c15, p16, n16, c16, hv30, hr30⟩ := (hT 30 90 rfl rfl : (Rrt z15 z16) (f' 90) (ρ 30))
                obtain hS := hS.flat5 hr24 hr25 hr26 hr27 hr30
                refine .inl ⟨want_on (e := 84) rfl rfl rfl hv24, ocall rfl rfl Try.call32 rfl (wltold0) (args4 (ev rfl hv25) (ev rfl hv26) (ev rfl hv27) (ev rfl hv30)) ?_⟩
                rintro _ w9 ⟨_, _, rfl, hTT, hN⟩
                exact ⟨_, rfl, _, _, rfl, hTT, hN⟩
              refine stepsCons rfl ?_ ?_
              · intro Q f' w' ρ S ho hT hS hB
                obtain ⟨hv24, hr24⟩ := (hT 24 84 rfl rfl : (Is (.bool true)) (f' 84) (ρ 24))
                obtain ⟨hv31, hr31⟩ := (hT 31 91 rfl rfl : (Is (.bool true)) (f' 91) (ρ 31))
                obtain hS := hS.flat2 hr24 hr31
                exact .inl ⟨want_none rfl, opick (b := true) (v := .bool true) rfl rfl (ev (v := .bool true) rfl hv24) (ev (v := .bool true) rfl hv31) ⟨_, _, rfl, isI, New.same _⟩⟩
              refine stepsCons rfl ?_ ?_
              · intro Q f' w' ρ S ho hT hS hB
                obtain ⟨hv32, hr32⟩ := (hT 32 92 rfl rfl : (Is (.bool true)) (f' 92) (ρ 32))
                obtain hS := hS.flat1 hr32
                exact .inl ⟨want_none rfl, oassign (v := .bool true) rfl rfl (ev (v := .bool true) rfl hv32) ⟨_, _, rfl, isI, New.same _⟩⟩
              exact stepsNil
            ·
              intro vs ρ w32 f' hf hT hS
              obtain ⟨hv0, hr0⟩ := (hT 0 (by decide) : (Is (.bool true)) (vs 0) (ρ 0))
              obtain ⟨hv1, hr1⟩ := (hT 1 (by decide) : (Is (.agg #[.bool (ng z7), .slice p7 n7 c7, .bool (ng z8), .slice p8 n8 c8])) (vs 1) (ρ 1))
              obtain ⟨hv2, hr2⟩ := (hT 2 (by decide) : (Is (.int .i64 0)) (vs 2) (ρ 2))
              obtain ⟨hv3, hr3⟩ := (hT 3 (by decide) : (Is (.agg #[.bool bA, .slice qA nA kA, .bool bB, .slice qB nB kB])) (vs 3) (ρ 3))
              obtain ⟨p9, n9, c9, p10, n10, c10, hv4, hr4⟩ := (hT 4 (by decide) : (Rrt z9 z10) (vs 4) (ρ 4))
              obtain ⟨hv5, hr5⟩ := (hT 5 (by decide) : (Is (.bool true)) (vs 5) (ρ 5))
              obtain ⟨hv6, hr6⟩ := (hT 6 (by decide) : (Is (.bool true)) (vs 6) (ρ 6))
              obtain ⟨hv7, hr7⟩ := (hT 7 (by decide) : (Is (.bool false)) (vs 7) (ρ 7))
              obtain ⟨hv8, hr8⟩ := (hT 8 (by decide) : (Is (.agg #[.bool false, .slice none 0 0, .bool false, .slice none 0 0])) (vs 8) (ρ 8))
              obtain ⟨hv9, hr9⟩ := (hT 9 (by decide) : (Is (.int .i64 6)) (vs 9) (ρ 9))
              obtain ⟨hv10, hr10⟩ := (hT 10 (by decide) : (Is (.agg #[.bool bA, .slice qA nA kA, .bool bB, .slice qB nB kB])) (vs 10) (ρ 10))
              obtain ⟨hv11, hr11⟩ := (hT 11 (by decide) : (Is (.agg #[.bool (ng 1), .slice p5 n5 c5, .bool (ng 1), .slice p6 n6 c6])) (vs 11) (ρ 11))
              obtain ⟨p11, n11, c11, p12, n12, c12, hv12, hr12⟩ := (hT 12 (by decide) : (Rrt z11 z12) (vs 12) (ρ 12))
              obtain ⟨hv13, hr13⟩ := (hT 13 (by decide) : (Is (.bool true)) (vs 13) (ρ 13))
              obtain ⟨hv14, hr14⟩ := (hT 14 (by decide) : (Is (.bool true)) (vs 14) (ρ 14))
              obtain ⟨hv15, hr15⟩ := (hT 15 (by decide) : (Is (.bool true)) (vs 15) (ρ 15))
              obtain ⟨hv16, hr16⟩ := (hT 16 (by decide) : (Is (.bool false)) (vs 16) (ρ 16))
              obtain ⟨hv17, hr17⟩ := (hT 17 (by decide) : (Is (.agg #[.bool false, .slice none 0 0, .bool false, .slice none 0 0])) (vs 17) (ρ 17))
              obtain ⟨hv18, hr18⟩ := (hT 18 (by decide) : (Is (.int .i64 6)) (vs 18) (ρ 18))
              obtain ⟨hv19, hr19⟩ := (hT 19 (by decide) : (Is (.agg #[.bool bA, .slice qA nA kA, .bool bB, .slice qB nB kB])) (vs 19) (ρ 19))
              obtain ⟨hv20, hr20⟩ := (hT 20 (by decide) : (Is (.agg #[.bool (ng 1), .slice p5 n5 c5, .bool (ng 1), .slice p6 n6 c6])) (vs 20) (ρ 20))
              obtain ⟨p13, n13, c13, p14, n14, c14, hv21, hr21⟩ := (hT 21 (by decide) : (Rrt z13 z14) (vs 21) (ρ 21))
              obtain ⟨hv22, hr22⟩ := (hT 22 (by decide) : (Is (.bool true)) (vs 22) (ρ 22))
              obtain ⟨hv23, hr23⟩ := (hT 23 (by decide) : (Is (.bool true)) (vs 23) (ρ 23))
              obtain ⟨hv24, hr24⟩ := (hT 24 (by decide) : (Is (.bool true)) (vs 24) (ρ 24))
              obtain ⟨hv25, hr25⟩ := (hT 25 (by decide) : (Is (.bool false)) (vs 25) (ρ 25))
              obtain ⟨hv26, hr26⟩ := (hT 26 (by decide) : (Is (.agg #[.bool false, .slice none 0 0, .bool false, .slice none 0 0])) (vs 26) (ρ 26))
              obtain ⟨hv27, hr27⟩ := (hT 27 (by decide) : (Is (.int .i64 6)) (vs 27) (ρ 27))
              obtain ⟨hv28, hr28⟩ := (hT 28 (by decide) : (Is (.agg #[.bool bA, .slice qA nA kA, .bool bB, .slice qB nB kB])) (vs 28) (ρ 28))
              obtain ⟨hv29, hr29⟩ := (hT 29 (by decide) : (Is (.agg #[.bool (ng 1), .slice p5 n5 c5, .bool (ng 1), .slice p6 n6 c6])) (vs 29) (ρ 29))
              obtain ⟨p15, n15, c15, p16, n16, c16, hv30, hr30⟩ := (hT 30 (by decide) : (Rrt z15 z16) (vs 30) (ρ 30))
              obtain ⟨hv31, hr31⟩ := (hT 31 (by decide) : (Is (.bool true)) (vs 31) (ρ 31))
              obtain ⟨hv32, hr32⟩ := (hT 32 (by decide) : (Is (.bool true)) (vs 32) (ρ 32))
              obtain ⟨hv33, hr33⟩ := (hT 33 (by decide) : (Is (.bool true)) (vs 33) (ρ 33))
              simp only [pool, if_true, hr0, hr1, hr2, hr3, hr4, hr5, hr6, hr7, hr8, hr9, hr10, hr11, hr12, hr13, hr14, hr15, hr16, hr17, hr18, hr19, hr20, hr21, hr22, hr23, hr24, hr25, hr26, hr27, hr28, hr29, hr30, hr31, hr32, hr33, List.nil_append, List.cons_append, List.append_nil] at hS
              simp only [layf, hv0, hv1, hv2, hv3, hv4, hv5, hv6, hv7, hv8, hv9, hv10, hv11, hv12, hv13, hv14, hv15, hv16, hv17, hv18, hv19, hv20, hv21, hv22, hv23, hv24, hv25, hv26, hv27, hv28, hv29, hv30, hv31, hv32, hv33] at hf
              subst hf; clear hT hv0 hv1 hv2 hv3 hv4 hv5 hv6 hv7 hv8 hv9 hv10 hv11 hv12 hv13 hv14 hv15 hv16 hv17 hv18 hv19 hv20 hv21 hv22 hv23 hv24 hv25 hv26 hv27 hv28 hv29 hv30 hv31 hv32 hv33 hr0 hr1 hr2 hr3 hr4 hr5 hr6 hr7 hr8 hr9 hr10 hr11 hr12 hr13 hr14 hr15 hr16 hr17 hr18 hr19 hr20 hr21 hr22 hr23 hr24 hr25 hr26 hr27 hr28 hr29 hr30 hr31 hr32 hr33
              refine wdone rfl ?_
              refine thenN ?_
              refine wseq ?_
              refine wseq ?_
              refine wreg ?_
              refine wl rfl (ofieldAddr (g := g21) (off := 0) 0 rfl rfl (ev (v := .pointer (some ⟨g21, 0, none⟩)) rfl rfl) Try.runUnderlying27 rfl Try.sizeOf25 rfl ?_)
              refine wl rfl (ofieldAddr (g := g21) (off := 0) 1 rfl rfl (ev (v := .pointer (some ⟨g21, 0, none⟩)) rfl rfl) Try.runUnderlying25 rfl Try.sizeOf23 rfl ?_)
              refine wl rfl (oload1 (v := .slice none 0 0) oneN hS 10 rfl rfl (ev rfl rfl) rfl rfl ?_)
              refine wl rfl (olen rfl rfl rfl Try.runUnderlying23 (p := none) (k := 0) (m := 0) (ev (v := .slice none 0 0) rfl rfl) ?_)
              refine wl rfl (omove (v := .int .i64 0) rfl rfl (evc (v := .int .i64 0)) ?_)
              refine wnil ?_
              refine thenN ?_
              refine wblock ?_
              refine wloop (σ := Nat) (fun k a w' => ∃ (fb : Nat → Value), a = act 120 (sets fb [(2, .pointer (some ⟨g1, 0, none⟩)), (3, .pointer (some ⟨g3, 0, none⟩)), (4, .bool false), (5, .pointer (some ⟨g5, 0, none⟩)), (6, .pointer (some ⟨g6, 0, none⟩)), (13, .pointer (some ⟨g21, 0, none⟩)), (19, .bool true), (96, .int .i64 (((0 : Nat) : Int))), (97, .int .i64 0)]) ∧ Sep w [.rowm p15 n15 c15 (lim z15.natAbs), .rowm p16 n16 c16 (lim z16.natAbs), .rowm p13 n13 c13 (lim z13.natAbs), .rowm p14 n14 c14 (lim z14.natAbs), .rowm p11 n11 c11 (lim z11.natAbs), .rowm p12 n12 c12 (lim z12.natAbs), .rowm p9 n9 c9 (lim z9.natAbs), .rowm p10 n10 c10 (lim z10.natAbs), .blk g29 [.bool false, .slice none 0 0, .bool false, .slice none 0 0] 27, .blk g25 [.bool false, .slice none 0 0, .bool false, .slice none 0 0] 27, .blk g21 [.bool false, .slice none 0 0, .bool false, .slice none 0 0] 27, .blk g17 [.bool (ng z7), .slice p7 n7 c7, .bool (ng z8), .slice p8 n8 c8] 27, .rowm p7 n7 c7 (lim z7.natAbs), .rowm p8 n8 c8 (lim z8.natAbs), .blk g11 [.bool (ng 1), .slice p5 n5 c5, .bool (ng 1), .slice p6 n6 c6] 27, .blk g10 [.bool bA, .slice qA nA kA, .bool bB, .slice qB nB kB] 27, .rowm p5 n5 c5 (lim (1 : Int).natAbs), .rowm p6 n6 c6 (lim (1 : Int).natAbs), .blk g6 [.bool bC, .slice pc3 nC cc3, .bool bD, .slice pc4 nD cc4] 27, .blk g5 [.bool bA, .slice pc1 nA cc1, .bool bB, .slice pc2 nB cc2] 27, .rowm pc3 nC cc3 lc, .rowm pc4 nD cc4 ld, .rowm pc1 nA cc1 la, .rowm pc2 nB cc2 lb, .blk g3 [.bool bC, .slice qC nC kC, .bool bD, .slice qD nD kD] 27, .blk g1 [.bool bA, .slice qA nA kA, .bool bB, .slice qB nB kB] 27] w') (fun k => k) (0) ⟨_, act_sets (l := [(2, .pointer (some ⟨g1, 0, none⟩)), (3, .pointer (some ⟨g3, 0, none⟩)), (4, .bool false), (5, .pointer (some ⟨g5, 0, none⟩)), (6, .pointer (some ⟨g6, 0, none⟩)), (13, .pointer (some ⟨g21, 0, none⟩)), (19, .bool true), (96, .int .i64 (((0 : Nat) : Int))), (97, .int .i64 0)]) ⟨rfl, rfl, rfl, rfl, rfl, rfl, rfl, rfl, rfl, trivial⟩, hS⟩ ?_
              clear hS; rintro k _ w33 ⟨fb, rfl, hS⟩
              refine wseq ?_
              refine wreg ?_
              refine wl rfl (obin (u := .int .i64 0) (v := .int .i64 (((0 : Nat) : Int))) (z := .bool false) rfl rfl (ev (v := .int .i64 0) rfl rfl) (ev (v := .int .i64 (((0 : Nat) : Int))) rfl rfl) (bin_lss (decide_eq_false (by omega))) ?_)
              refine wnil ?_
              refine thenN ?_
              refine wseq ?_
              refine wF (ev (v := .bool false) rfl rfl) ?_
              refine wexit ?_
              refine thenE ?_
              refine thenE ?_
              refine blkE ?_
              refine thenN ?_
              refine wseq ?_
              refine wreg ?_
              refine wl rfl (omove (v := .bool true) rfl rfl (ev (v := .bool true) rfl rfl) ?_)
              refine wl rfl (omove (v := .bool true) rfl rfl (ev (v := .bool true) rfl rfl) ?_)
              refine wlOn (e := 107) rfl rfl rfl rfl (oload (vs := [.bool bA, .slice pc1 nA cc1, .bool bB, .slice pc2 nB cc2]) aggR hS 19 rfl rfl (ev rfl rfl) rfl rfl rfl ?_)
              refine wlOn (e := 107) rfl rfl rfl rfl (oload (vs := [.bool bA, .slice qA nA kA, .bool bB, .slice qB nB kB]) aggR hS 25 rfl rfl (ev rfl rfl) rfl rfl rfl ?_)
              refine wlOn (e := 107) rfl rfl rfl rfl (ocall rfl rfl Try.call13 rfl (wlsame5X (hS.slm 22 rfl) (hS.slm 23 rfl) (hsA.below hS.below (Nat.le_refl _)) (hsB.below hS.below (Nat.le_refl _))) (args2 (ev rfl rfl) (ev rfl rfl)) ?_)
              rintro _ w34 ⟨_, _, rfl, ⟨rfl, rfl⟩, hN⟩
              refine ⟨_, rfl, ?_⟩
              replace hS := hS.news hN; clear hN
              refine wl rfl (opick (b := true) (v := .bool true) rfl rfl (ev (v := .bool true) rfl rfl) (ev (v := .bool true) rfl rfl) ?_)
              refine wl rfl (omove (v := .bool true) rfl rfl (ev (v := .bool true) rfl rfl) ?_)
              refine wlOn (e := 112) rfl rfl rfl rfl (oload (vs := [.bool bC, .slice pc3 nC cc3, .bool bD, .slice pc4 nD cc4]) aggR hS 18 rfl rfl (ev rfl rfl) rfl rfl rfl ?_)
              refine wlOn (e := 112) rfl rfl rfl rfl (oload (vs := [.bool bC, .slice qC nC kC, .bool bD, .slice qD nD kD]) aggR hS 24 rfl rfl (ev rfl rfl) rfl rfl rfl ?_)
              refine wlOn (e := 112) rfl rfl rfl rfl (ocall rfl rfl Try.call13 rfl (wlsame5X (hS.slm 20 rfl) (hS.slm 21 rfl) (hsC.below hS.below (Nat.le_refl _)) (hsD.below hS.below (Nat.le_refl _))) (args2 (ev rfl rfl) (ev rfl rfl)) ?_)
              rintro _ w35 ⟨_, _, rfl, ⟨rfl, rfl⟩, hN⟩
              refine ⟨_, rfl, ?_⟩
              replace hS := hS.news hN; clear hN
              refine wl rfl (opick (b := true) (v := .bool true) rfl rfl (ev (v := .bool true) rfl rfl) (ev (v := .bool true) rfl rfl) ?_)
              refine wl rfl (omove (v := .bool true) rfl rfl (ev (v := .bool true) rfl rfl) ?_)
              refine wlOn (e := 117) rfl rfl rfl rfl (ocall rfl rfl Try.call15 rfl (wllives5) (args0 ) ?_)
              rintro _ w36 ⟨_, _, rfl, ⟨rfl, rfl⟩, hN⟩
              refine ⟨_, rfl, ?_⟩
              replace hS := hS.news hN; clear hN
              refine wl rfl (opick (b := true) (v := .bool true) rfl rfl (ev (v := .bool true) rfl rfl) (ev (v := .bool true) rfl rfl) ?_)
              refine wl rfl (oassign (v := .bool true) rfl rfl (ev (v := .bool true) rfl rfl) ?_)
              refine wnil ?_
              refine thenN ?_
              refine wleave ?_
              refine wret1 Try.results5 (tellT (v := .bool true) rfl rfl) ?_
              exact ⟨_, _, rfl, isI, hS.new0⟩
      ·
        refine wstage 6 [25, 26, 27, 28, 7, 8] [[], [0], [], [2, 0, 1], [], []] [[], [], [], [], [], []] [] [] (fun i9 => ([fun _ => Is (.agg #[.bool bA, .slice qA nA kA, .bool bB, .slice qB nB kB]), fun _ => Is (.agg #[.bool bA, .slice qA nA kA, .bool bB, .slice qB nB kB]), fun _ => Is (.agg #[.bool bC, .slice qC nC kC, .bool bD, .slice qD nD kD]), fun _ => Is (.agg #[.bool bC, .slice qC nC kC, .bool bD, .slice qD nD kD]), fun _ => Ptr [.bool false, .slice none 0 0, .bool false, .slice none 0 0] 27, fun _ => Ptr [.bool false, .slice none 0 0, .bool false, .slice none 0 0] 27] : List (List Value → Tell)).getD i9 (fun _ _ _ => False)) (heldNil) (fun d _ _ _ _ h => (by cases d <;> exact h)) (by kernel_rfl) (by kernel_rfl) (by kernel_rfl) hS ?_ ?_
        ·
          refine stepsCons rfl ?_ ?_
          · intro Q f' w' ρ S ho hT hS hB
            exact .inl ⟨want_none rfl, oload (vs := [.bool bA, .slice qA nA kA, .bool bB, .slice qB nB kB]) aggR hS 7 rfl rfl (ev rfl (ho 2 rfl)) rfl rfl rfl ⟨_, _, rfl, isI, New.same _⟩⟩
          refine stepsCons rfl ?_ ?_
          · intro Q f' w' ρ S ho hT hS hB
            obtain ⟨hv0, hr0⟩ := (hT 0 25 rfl rfl : (Is (.agg #[.bool bA, .slice qA nA kA, .bool bB, .slice qB nB kB])) (f' 25) (ρ 0))
            obtain hS := hS.flat1 hr0
            refine .inl ⟨want_none rfl, ocall rfl rfl Try.call27 rfl (wlsome ((hzB.at hS).mono (by omega)) (hy)) (args1 (ev rfl hv0)) ?_⟩
            rintro _ w9 ⟨_, _, rfl, hTT, hN⟩
            exact ⟨_, rfl, _, _, rfl, hTT, hN⟩
          refine stepsCons rfl ?_ ?_
          · intro Q f' w' ρ S ho hT hS hB
            exact .inl ⟨want_none rfl, oload (vs := [.bool bC, .slice qC nC kC, .bool bD, .slice qD nD kD]) aggR hS 6 rfl rfl (ev rfl (ho 3 rfl)) rfl rfl rfl ⟨_, _, rfl, isI, New.same _⟩⟩
          refine stepsCons rfl ?_ ?_
          · intro Q f' w' ρ S ho hT hS hB
            obtain ⟨hv2, hr2⟩ := (hT 2 27 rfl rfl : (Is (.agg #[.bool bC, .slice qC nC kC, .bool bD, .slice qD nD kD])) (f' 27) (ρ 2))
            obtain hS := hS.flat1 hr2
            refine .inl ⟨want_none rfl, ocall rfl rfl Try.call27 rfl (wlsome ((hzD.at hS).mono (by omega)) (hv)) (args1 (ev rfl hv2)) ?_⟩
            rintro _ w9 ⟨_, _, rfl, hTT, hN⟩
            exact ⟨_, rfl, _, _, rfl, hTT, hN⟩
          refine stepsCons rfl ?_ ?_
          · intro Q f' w' ρ S ho hT hS hB
            exact .inl ⟨want_none rfl, oallocN [.bool false, .slice none 0 0, .bool false, .slice none 0 0] rfl rfl Try.zeroValue27 rfl ⟨_, _, rfl, ptrI, New.blk _ _ _⟩⟩
          refine stepsCons rfl ?_ ?_
          · intro Q f' w' ρ S ho hT hS hB
            exact .inl ⟨want_none rfl, oallocN [.bool false, .slice none 0 0, .bool false, .slice none 0 0] rfl rfl Try.zeroValue27 rfl ⟨_, _, rfl, ptrI, New.blk _ _ _⟩⟩
          exact stepsNil
        ·
          intro vs ρ w12 f' hf hT hS
          obtain ⟨hv0, hr0⟩ := (hT 0 (by decide) : (Is (.agg #[.bool bA, .slice qA nA kA, .bool bB, .slice qB nB kB])) (vs 0) (ρ 0))
          obtain ⟨hv1, hr1⟩ := (hT 1 (by decide) : (Is (.agg #[.bool bA, .slice qA nA kA, .bool bB, .slice qB nB kB])) (vs 1) (ρ 1))
          obtain ⟨hv2, hr2⟩ := (hT 2 (by decide) : (Is (.agg #[.bool bC, .slice qC nC kC, .bool bD, .slice qD nD kD])) (vs 2) (ρ 2))
          obtain ⟨hv3, hr3⟩ := (hT 3 (by decide) : (Is (.agg #[.bool bC, .slice qC nC kC, .bool bD, .slice qD nD kD])) (vs 3) (ρ 3))
          obtain ⟨g10, hv4, hr4⟩ := (hT 4 (by decide) : (Ptr [.bool false, .slice none 0 0, .bool false, .slice none 0 0] 27) (vs 4) (ρ 4))
          obtain ⟨g11, hv5, hr5⟩ := (hT 5 (by decide) : (Ptr [.bool false, .slice none 0 0, .bool false, .slice none 0 0] 27) (vs 5) (ρ 5))
          simp only [pool, if_true, hr0, hr1, hr2, hr3, hr4, hr5, List.nil_append, List.cons_append, List.append_nil] at hS
          simp only [layf, hv0, hv1, hv2, hv3, hv4, hv5] at hf
          subst hf; clear hT hv0 hv1 hv2 hv3 hv4 hv5 hr0 hr1 hr2 hr3 hr4 hr5
          refine wlate 6 rfl (by kernel_rfl) (ostore [.bool bA, .slice qA nA kA, .bool bB, .slice qB nB kB] [.bool bA, .slice qA nA kA, .bool bB, .slice qB nB kB] Try.sizeOf27 hS 1 rfl rfl (ev rfl rfl) (ev (v := .agg #[.bool bA, .slice qA nA kA, .bool bB, .slice qB nB kB]) rfl rfl) rfl rfl rfl rfl rfl rfl ?_)
          clear hS; intro w13 hS
          refine ⟨heldNil, ?_⟩
          refine wlate 7 rfl (by kernel_rfl) (ostore [.bool bC, .slice qC nC kC, .bool bD, .slice qD nD kD] [.bool bC, .slice qC nC kC, .bool bD, .slice qD nD kD] Try.sizeOf27 hS 0 rfl rfl (ev rfl rfl) (ev (v := .agg #[.bool bC, .slice qC nC kC, .bool bD, .slice qD nD kD]) rfl rfl) rfl rfl rfl rfl rfl rfl ?_)
          clear hS; intro w14 hS
          refine ⟨heldNil, ?_⟩
          refine wdone rfl ?_
          refine thenN ?_
          refine wseq ?_
          refine wstage 10 [29, 30, 31, 32, 33, 34, 35, 36, 9, 10] [[], [0], [], [2, 0, 1], [3, 0, 1, 2], [4, 0, 1, 2, 3], [4, 5, 0, 1, 2, 3], [4, 6, 0, 1, 2, 3, 5], [1, 0, 2, 3, 4, 5, 6], [7, 0, 1, 2, 3, 4, 5, 6, 8]] [[], [], [], [], [], [], [], [], [], []] [] [] (fun i9 => ([fun _ => Is (.agg #[.bool bA, .slice qA nA kA, .bool bB, .slice qB nB kB]), fun _ => Is (.bool true), fun _ => Is (.agg #[.bool bA, .slice qA nA kA, .bool bB, .slice qB nB kB]), fun _ => Is (.bool true), fun _ => Is (.bool true), fun _ => Is (.agg #[.bool bC, .slice qC nC kC, .bool bD, .slice qD nD kD]), fun _ => Is (.bool true), fun _ => Is (.bool true), fun _ => Is (.bool true), fun _ => Is (.bool true)] : List (List Value → Tell)).getD i9 (fun _ _ _ => False)) (heldNil) (fun d _ _ _ _ h => (by cases d <;> exact h)) (by kernel_rfl) (by kernel_rfl) (by kernel_rfl) hS ?_ ?_
          ·
            refine stepsCons rfl ?_ ?_
            · intro Q f' w' ρ S ho hT hS hB
              exact .inl ⟨want_none rfl, oload (vs := [.bool bA, .slice qA nA kA, .bool bB, .slice qB nB kB]) aggR hS 9 rfl rfl (ev rfl (ho 2 rfl)) rfl rfl rfl ⟨_, _, rfl, isI, New.same _⟩⟩
            refine stepsCons rfl ?_ ?_
            · intro Q f' w' ρ S ho hT hS hB
              obtain ⟨hv0, hr0⟩ := (hT 0 29 rfl rfl : (Is (.agg #[.bool bA, .slice qA nA kA, .bool bB, .slice qB nB kB])) (f' 29) (ρ 0))
              obtain hS := hS.flat1 hr0
              refine .inl ⟨want_none rfl, ocall rfl rfl Try.call11 rfl (wsmay ((hzB.at hS).mono (by omega)) (hy)) (args1 (ev rfl hv0)) ?_⟩
              rintro _ w9 ⟨_, _, rfl, hTT, hN⟩
              exact ⟨_, rfl, _, _, rfl, hTT, hN⟩
            refine stepsCons rfl ?_ ?_
            · intro Q f' w' ρ S ho hT hS hB
              exact .inl ⟨want_none rfl, oload (vs := [.bool bA, .slice qA nA kA, .bool bB, .slice qB nB kB]) aggR hS 9 rfl rfl (ev rfl (ho 2 rfl)) rfl rfl rfl ⟨_, _, rfl, isI, New.same _⟩⟩
            refine stepsCons rfl ?_ ?_
            · intro Q f' w' ρ S ho hT hS hB
              obtain ⟨hv2, hr2⟩ := (hT 2 31 rfl rfl : (Is (.agg #[.bool bA, .slice qA nA kA, .bool bB, .slice qB nB kB])) (f' 31) (ρ 2))
              obtain hS := hS.flat1 hr2
              refine .inl ⟨want_none rfl, ocall rfl rfl Try.call11 rfl (wsmay ((hzB.at hS).mono (by omega)) (hy)) (args1 (ev rfl hv2)) ?_⟩
              rintro _ w9 ⟨_, _, rfl, hTT, hN⟩
              exact ⟨_, rfl, _, _, rfl, hTT, hN⟩
            refine stepsCons rfl ?_ ?_
            · intro Q f' w' ρ S ho hT hS hB
              obtain ⟨hv3, hr3⟩ := (hT 3 32 rfl rfl : (Is (.bool true)) (f' 32) (ρ 3))
              obtain hS := hS.flat1 hr3
              exact .inl ⟨want_none rfl, omove (v := .bool true) rfl rfl (ev (v := .bool true) rfl hv3) ⟨_, _, rfl, isI, New.same _⟩⟩
            refine stepsCons rfl ?_ ?_
            · intro Q f' w' ρ S ho hT hS hB
              obtain ⟨hv4, hr4⟩ := (hT 4 33 rfl rfl : (Is (.bool true)) (f' 33) (ρ 4))
              obtain hS := hS.flat1 hr4
              exact .inl ⟨want_on (e := 33) rfl rfl rfl hv4, oload (vs := [.bool bC, .slice qC nC kC, .bool bD, .slice qD nD kD]) aggR hS 8 rfl rfl (ev rfl (ho 3 rfl)) rfl rfl rfl ⟨_, _, rfl, isI, New.same _⟩⟩
            refine stepsCons rfl ?_ ?_
            · intro Q f' w' ρ S ho hT hS hB
              obtain ⟨hv4, hr4⟩ := (hT 4 33 rfl rfl : (Is (.bool true)) (f' 33) (ρ 4))
              obtain ⟨hv5, hr5⟩ := (hT 5 34 rfl rfl : (Is (.agg #[.bool bC, .slice qC nC kC, .bool bD, .slice qD nD kD])) (f' 34) (ρ 5))
              obtain hS := hS.flat2 hr4 hr5
              refine .inl ⟨want_on (e := 33) rfl rfl rfl hv4, ocall rfl rfl Try.call11 rfl (wsmay ((hzD.at hS).mono (by omega)) (hv)) (args1 (ev rfl hv5)) ?_⟩
              rintro _ w9 ⟨_, _, rfl, hTT, hN⟩
              exact ⟨_, rfl, _, _, rfl, hTT, hN⟩
            refine stepsCons rfl ?_ ?_
            · intro Q f' w' ρ S ho hT hS hB
              obtain ⟨hv4, hr4⟩ := (hT 4 33 rfl rfl : (Is (.bool true)) (f' 33) (ρ 4))
              obtain ⟨hv6, hr6⟩ := (hT 6 35 rfl rfl : (Is (.bool true)) (f' 35) (ρ 6))
              obtain hS := hS.flat2 hr4 hr6
              exact .inl ⟨want_none rfl, opick (b := true) (v := .bool true) rfl rfl (ev (v := .bool true) rfl hv4) (ev (v := .bool true) rfl hv6) ⟨_, _, rfl, isI, New.same _⟩⟩
            refine stepsCons rfl ?_ ?_
            · intro Q f' w' ρ S ho hT hS hB
              obtain ⟨hv1, hr1⟩ := (hT 1 30 rfl rfl : (Is (.bool true)) (f' 30) (ρ 1))
              obtain hS := hS.flat1 hr1
              exact .inl ⟨want_none rfl, oassign (v := .bool true) rfl rfl (ev (v := .bool true) rfl hv1) ⟨_, _, rfl, isI, New.same _⟩⟩
            refine stepsCons rfl ?_ ?_
            · intro Q f' w' ρ S ho hT hS hB
              obtain ⟨hv7, hr7⟩ := (hT 7 36 rfl rfl : (Is (.bool true)) (f' 36) (ρ 7))
              obtain hS := hS.flat1 hr7
              exact .inl ⟨want_none rfl, oassign (v := .bool true) rfl rfl (ev (v := .bool true) rfl hv7) ⟨_, _, rfl, isI, New.same _⟩⟩
            exact stepsNil
          ·
            intro vs ρ w15 f' hf hT hS
            obtain ⟨hv0, hr0⟩ := (hT 0 (by decide) : (Is (.agg #[.bool bA, .slice qA nA kA, .bool bB, .slice qB nB kB])) (vs 0) (ρ 0))
            obtain ⟨hv1, hr1⟩ := (hT 1 (by decide) : (Is (.bool true)) (vs 1) (ρ 1))
            obtain ⟨hv2, hr2⟩ := (hT 2 (by decide) : (Is (.agg #[.bool bA, .slice qA nA kA, .bool bB, .slice qB nB kB])) (vs 2) (ρ 2))
            obtain ⟨hv3, hr3⟩ := (hT 3 (by decide) : (Is (.bool true)) (vs 3) (ρ 3))
            obtain ⟨hv4, hr4⟩ := (hT 4 (by decide) : (Is (.bool true)) (vs 4) (ρ 4))
            obtain ⟨hv5, hr5⟩ := (hT 5 (by decide) : (Is (.agg #[.bool bC, .slice qC nC kC, .bool bD, .slice qD nD kD])) (vs 5) (ρ 5))
            obtain ⟨hv6, hr6⟩ := (hT 6 (by decide) : (Is (.bool true)) (vs 6) (ρ 6))
            obtain ⟨hv7, hr7⟩ := (hT 7 (by decide) : (Is (.bool true)) (vs 7) (ρ 7))
            obtain ⟨hv8, hr8⟩ := (hT 8 (by decide) : (Is (.bool true)) (vs 8) (ρ 8))
            obtain ⟨hv9, hr9⟩ := (hT 9 (by decide) : (Is (.bool true)) (vs 9) (ρ 9))
            simp only [pool, if_true, hr0, hr1, hr2, hr3, hr4, hr5, hr6, hr7, hr8, hr9, List.nil_append, List.cons_append, List.append_nil] at hS
            simp only [layf, hv0, hv1, hv2, hv3, hv4, hv5, hv6, hv7, hv8, hv9] at hf
            subst hf; clear hT hv0 hv1 hv2 hv3 hv4 hv5 hv6 hv7 hv8 hv9 hr0 hr1 hr2 hr3 hr4 hr5 hr6 hr7 hr8 hr9
            refine wdone rfl ?_
            refine thenN ?_
            refine wseq ?_
            refine wreg ?_
            refine wl rfl (oload (vs := [.bool bA, .slice pc1 nA cc1, .bool bB, .slice pc2 nB cc2]) aggR hS 3 rfl rfl (ev rfl rfl) rfl rfl rfl ?_)
            obtain ⟨z5, hz5⟩ : ∃ z : Int, Hid (RN (-x) y = z) := ⟨_, rfl⟩
            have hk5 : Wd z5 1048576 := Wd.rn (Wd.neg hzA.wd rfl) hz5
            obtain ⟨z6, hz6⟩ : ∃ z : Int, Hid (RD (-x) y = z) := ⟨_, rfl⟩
            have hk6 : Wd z6 1048576 := Wd.rd hzB.wd hz6
            refine wl rfl (ocall rfl rfl Try.call28 rfl (wrneg ((show Zr _ _ _ _ _ x 1048576 from ⟨_, hS.slm 6 rfl, heA, hnA⟩).mono (by omega)) ((show Zr _ _ _ _ _ y 1048576 from ⟨_, hS.slm 7 rfl, heB, hnB⟩).mono (by omega)) (hy) hz5 hz6) (args1 (ev rfl rfl)) ?_)
            rintro _ w16 ⟨_, _, rfl, ⟨p5, n5, c5, p6, n6, c6, rfl, rfl⟩, hN⟩
            refine ⟨_, rfl, ?_⟩
            replace hS := hS.news hN; clear hN
            refine wl rfl (omove (v := .tuple #[.agg #[.bool (ng z5), .slice p5 n5 c5, .bool (ng z6), .slice p6 n6 c6], .int .i64 0]) rfl rfl (ev (v := .tuple #[.agg #[.bool (ng z5), .slice p5 n5 c5, .bool (ng z6), .slice p6 n6 c6], .int .i64 0]) rfl rfl) ?_)
            refine wl rfl (oextract (vs := [.agg #[.bool (ng z5), .slice p5 n5 c5, .bool (ng z6), .slice p6 n6 c6], .int .i64 0]) (v := .agg #[.bool (ng z5), .slice p5 n5 c5, .bool (ng z6), .slice p6 n6 c6]) rfl rfl (ev (v := .tuple #[.agg #[.bool (ng z5), .slice p5 n5 c5, .bool (ng z6), .slice p6 n6 c6], .int .i64 0]) rfl rfl) rfl ?_)
            refine wl rfl (oextract (vs := [.agg #[.bool (ng z5), .slice p5 n5 c5, .bool (ng z6), .slice p6 n6 c6], .int .i64 0]) (v := .int .i64 0) rfl rfl (ev (v := .tuple #[.agg #[.bool (ng z5), .slice p5 n5 c5, .bool (ng z6), .slice p6 n6 c6], .int .i64 0]) rfl rfl) rfl ?_)
            refine wl rfl (oalloc [.bool false, .slice none 0 0, .bool false, .slice none 0 0] hS rfl rfl Try.zeroValue27 rfl ?_)
            clear hS; intro g17 w18 hS
            refine wl rfl (ostore [.bool (ng z5), .slice p5 n5 c5, .bool (ng z6), .slice p6 n6 c6] [.bool (ng z5), .slice p5 n5 c5, .bool (ng z6), .slice p6 n6 c6] Try.sizeOf27 hS 0 rfl rfl (ev rfl rfl) (ev (v := .agg #[.bool (ng z5), .slice p5 n5 c5, .bool (ng z6), .slice p6 n6 c6]) rfl rfl) rfl rfl rfl rfl rfl rfl ?_)
            clear hS; intro w19 hS
            refine wl rfl (oassign (v := .int .i64 0) rfl rfl (ev (v := .int .i64 0) rfl rfl) ?_)
            refine wnil ?_
            refine thenN ?_
            refine wseq ?_
            refine wreg ?_
            refine wl rfl (oload (vs := [.bool bA, .slice pc1 nA cc1, .bool bB, .slice pc2 nB cc2]) aggR hS 6 rfl rfl (ev rfl rfl) rfl rfl rfl ?_)
            refine wl rfl (oload (vs := [.bool bC, .slice pc3 nC cc3, .bool bD, .slice pc4 nD cc4]) aggR hS 5 rfl rfl (ev rfl rfl) rfl rfl rfl ?_)
            obtain ⟨z7, hz7⟩ : ∃ z : Int, Hid (RN (x * v + u * y) (y * v) = z) := ⟨_, rfl⟩
            have hk7 : Wd z7 2097153 := Wd.rn (Wd.add (m := 2097153) (Wd.mul (m := 2097152) hzA.wd hzD.wd rfl (by omega)) (Wd.mul (m := 2097152) hzC.wd hzB.wd rfl (by omega)) rfl (by omega)) hz7
            obtain ⟨z8, hz8⟩ : ∃ z : Int, Hid (RD (x * v + u * y) (y * v) = z) := ⟨_, rfl⟩
            have hk8 : Wd z8 2097152 := Wd.rd (Wd.mul (m := 2097152) hzB.wd hzD.wd rfl (by omega)) hz8
            refine wl rfl (ocall rfl rfl Try.call29 rfl (wradd ((show Zr _ _ _ _ _ x 1048576 from ⟨_, hS.slm 9 rfl, heA, hnA⟩).mono (by omega)) ((show Zr _ _ _ _ _ y 1048576 from ⟨_, hS.slm 10 rfl, heB, hnB⟩).mono (by omega)) ((show Zr _ _ _ _ _ u 1048576 from ⟨_, hS.slm 7 rfl, heC, hnC⟩).mono (by omega)) ((show Zr _ _ _ _ _ v 1048576 from ⟨_, hS.slm 8 rfl, heD, hnD⟩).mono (by omega)) (hy) (hv) hz7 hz8) (args2 (ev rfl rfl) (ev rfl rfl)) ?_)
            rintro _ w20 ⟨_, _, rfl, ⟨p7, n7, c7, p8, n8, c8, rfl, rfl⟩, hN⟩
            refine ⟨_, rfl, ?_⟩
            replace hS := hS.news hN; clear hN
            refine wl rfl (omove (v := .tuple #[.agg #[.bool (ng z7), .slice p7 n7 c7, .bool (ng z8), .slice p8 n8 c8], .int .i64 0]) rfl rfl (ev (v := .tuple #[.agg #[.bool (ng z7), .slice p7 n7 c7, .bool (ng z8), .slice p8 n8 c8], .int .i64 0]) rfl rfl) ?_)
            refine wl rfl (oextract (vs := [.agg #[.bool (ng z7), .slice p7 n7 c7, .bool (ng z8), .slice p8 n8 c8], .int .i64 0]) (v := .agg #[.bool (ng z7), .slice p7 n7 c7, .bool (ng z8), .slice p8 n8 c8]) rfl rfl (ev (v := .tuple #[.agg #[.bool (ng z7), .slice p7 n7 c7, .bool (ng z8), .slice p8 n8 c8], .int .i64 0]) rfl rfl) rfl ?_)
            refine wl rfl (oextract (vs := [.agg #[.bool (ng z7), .slice p7 n7 c7, .bool (ng z8), .slice p8 n8 c8], .int .i64 0]) (v := .int .i64 0) rfl rfl (ev (v := .tuple #[.agg #[.bool (ng z7), .slice p7 n7 c7, .bool (ng z8), .slice p8 n8 c8], .int .i64 0]) rfl rfl) rfl ?_)
            refine wl rfl (oalloc [.bool false, .slice none 0 0, .bool false, .slice none 0 0] hS rfl rfl Try.zeroValue27 rfl ?_)
            clear hS; intro g21 w22 hS
            refine wl rfl (ostore [.bool (ng z7), .slice p7 n7 c7, .bool (ng z8), .slice p8 n8 c8] [.bool (ng z7), .slice p7 n7 c7, .bool (ng z8), .slice p8 n8 c8] Try.sizeOf27 hS 0 rfl rfl (ev rfl rfl) (ev (v := .agg #[.bool (ng z7), .slice p7 n7 c7, .bool (ng z8), .slice p8 n8 c8]) rfl rfl) rfl rfl rfl rfl rfl rfl ?_)
            clear hS; intro w23 hS
            refine wl rfl (oassign (v := .int .i64 0) rfl rfl (ev (v := .int .i64 0) rfl rfl) ?_)
            refine wnil ?_
            refine thenN ?_
            refine wseq ?_
            refine wreg ?_
            refine wl rfl (oload (vs := [.bool bA, .slice pc1 nA cc1, .bool bB, .slice pc2 nB cc2]) aggR hS 9 rfl rfl (ev rfl rfl) rfl rfl rfl ?_)
            refine wl rfl (oload (vs := [.bool bC, .slice pc3 nC cc3, .bool bD, .slice pc4 nD cc4]) aggR hS 8 rfl rfl (ev rfl rfl) rfl rfl rfl ?_)
            obtain ⟨z9, hz9⟩ : ∃ z : Int, Hid (RN (x * v - u * y) (y * v) = z) := ⟨_, rfl⟩
            have hk9 : Wd z9 2097153 := Wd.rn (Wd.sub (m := 2097153) (Wd.mul (m := 2097152) hzA.wd hzD.wd rfl (by omega)) (Wd.mul (m := 2097152) hzC.wd hzB.wd rfl (by omega)) rfl (by omega)) hz9
            obtain ⟨z10, hz10⟩ : ∃ z : Int, Hid (RD (x * v - u * y) (y * v) = z) := ⟨_, rfl⟩
            have hk10 : Wd z10 2097152 := Wd.rd (Wd.mul (m := 2097152) hzB.wd hzD.wd rfl (by omega)) hz10
            refine wl rfl (ocall rfl rfl Try.call30 rfl (wrsub ((show Zr _ _ _ _ _ x 1048576 from ⟨_, hS.slm 12 rfl, heA, hnA⟩).mono (by omega)) ((show Zr _ _ _ _ _ y 1048576 from ⟨_, hS.slm 13 rfl, heB, hnB⟩).mono (by omega)) ((show Zr _ _ _ _ _ u 1048576 from ⟨_, hS.slm 10 rfl, heC, hnC⟩).mono (by omega)) ((show Zr _ _ _ _ _ v 1048576 from ⟨_, hS.slm 11 rfl, heD, hnD⟩).mono (by omega)) (hy) (hv) hz9 hz10) (args2 (ev rfl rfl) (ev rfl rfl)) ?_)
            rintro _ w24 ⟨_, _, rfl, ⟨p9, n9, c9, p10, n10, c10, rfl, rfl⟩, hN⟩
            refine ⟨_, rfl, ?_⟩
            replace hS := hS.news hN; clear hN
            refine wl rfl (omove (v := .tuple #[.agg #[.bool (ng z9), .slice p9 n9 c9, .bool (ng z10), .slice p10 n10 c10], .int .i64 0]) rfl rfl (ev (v := .tuple #[.agg #[.bool (ng z9), .slice p9 n9 c9, .bool (ng z10), .slice p10 n10 c10], .int .i64 0]) rfl rfl) ?_)
            refine wl rfl (oextract (vs := [.agg #[.bool (ng z9), .slice p9 n9 c9, .bool (ng z10), .slice p10 n10 c10], .int .i64 0]) (v := .agg #[.bool (ng z9), .slice p9 n9 c9, .bool (ng z10), .slice p10 n10 c10]) rfl rfl (ev (v := .tuple #[.agg #[.bool (ng z9), .slice p9 n9 c9, .bool (ng z10), .slice p10 n10 c10], .int .i64 0]) rfl rfl) rfl ?_)
            refine wl rfl (oextract (vs := [.agg #[.bool (ng z9), .slice p9 n9 c9, .bool (ng z10), .slice p10 n10 c10], .int .i64 0]) (v := .int .i64 0) rfl rfl (ev (v := .tuple #[.agg #[.bool (ng z9), .slice p9 n9 c9, .bool (ng z10), .slice p10 n10 c10], .int .i64 0]) rfl rfl) rfl ?_)
            refine wl rfl (oalloc [.bool false, .slice none 0 0, .bool false, .slice none 0 0] hS rfl rfl Try.zeroValue27 rfl ?_)
            clear hS; intro g25 w26 hS
            refine wl rfl (ostore [.bool (ng z9), .slice p9 n9 c9, .bool (ng z10), .slice p10 n10 c10] [.bool (ng z9), .slice p9 n9 c9, .bool (ng z10), .slice p10 n10 c10] Try.sizeOf27 hS 0 rfl rfl (ev rfl rfl) (ev (v := .agg #[.bool (ng z9), .slice p9 n9 c9, .bool (ng z10), .slice p10 n10 c10]) rfl rfl) rfl rfl rfl rfl rfl rfl ?_)
            clear hS; intro w27 hS
            refine wl rfl (oassign (v := .int .i64 0) rfl rfl (ev (v := .int .i64 0) rfl rfl) ?_)
            refine wnil ?_
            refine thenN ?_
            refine wseq ?_
            refine wreg ?_
            refine wl rfl (oload (vs := [.bool bA, .slice pc1 nA cc1, .bool bB, .slice pc2 nB cc2]) aggR hS 12 rfl rfl (ev rfl rfl) rfl rfl rfl ?_)
            refine wl rfl (oload (vs := [.bool bC, .slice pc3 nC cc3, .bool bD, .slice pc4 nD cc4]) aggR hS 11 rfl rfl (ev rfl rfl) rfl rfl rfl ?_)
            obtain ⟨z11, hz11⟩ : ∃ z : Int, Hid (RN (x * u) (y * v) = z) := ⟨_, rfl⟩
            have hk11 : Wd z11 2097152 := Wd.rn (Wd.mul (m := 2097152) hzA.wd hzC.wd rfl (by omega)) hz11
            obtain ⟨z12, hz12⟩ : ∃ z : Int, Hid (RD (x * u) (y * v) = z) := ⟨_, rfl⟩
            have hk12 : Wd z12 2097152 := Wd.rd (Wd.mul (m := 2097152) hzB.wd hzD.wd rfl (by omega)) hz12
            refine wl rfl (ocall rfl rfl Try.call31 rfl (wrmul ((show Zr _ _ _ _ _ x 1048576 from ⟨_, hS.slm 15 rfl, heA, hnA⟩).mono (by omega)) ((show Zr _ _ _ _ _ y 1048576 from ⟨_, hS.slm 16 rfl, heB, hnB⟩).mono (by omega)) ((show Zr _ _ _ _ _ u 1048576 from ⟨_, hS.slm 13 rfl, heC, hnC⟩).mono (by omega)) ((show Zr _ _ _ _ _ v 1048576 from ⟨_, hS.slm 14 rfl, heD, hnD⟩).mono (by omega)) (hy) (hv) hz11 hz12) (args2 (ev rfl rfl) (ev rfl rfl)) ?_)
            rintro _ w28 ⟨_, _, rfl, ⟨p11, n11, c11, p12, n12, c12, rfl, rfl⟩, hN⟩
            refine ⟨_, rfl, ?_⟩
            replace hS := hS.news hN; clear hN
            refine wl rfl (omove (v := .tuple #[.agg #[.bool (ng z11), .slice p11 n11 c11, .bool (ng z12), .slice p12 n12 c12], .int .i64 0]) rfl rfl (ev (v := .tuple #[.agg #[.bool (ng z11), .slice p11 n11 c11, .bool (ng z12), .slice p12 n12 c12], .int .i64 0]) rfl rfl) ?_)
            refine wl rfl (oextract (vs := [.agg #[.bool (ng z11), .slice p11 n11 c11, .bool (ng z12), .slice p12 n12 c12], .int .i64 0]) (v := .agg #[.bool (ng z11), .slice p11 n11 c11, .bool (ng z12), .slice p12 n12 c12]) rfl rfl (ev (v := .tuple #[.agg #[.bool (ng z11), .slice p11 n11 c11, .bool (ng z12), .slice p12 n12 c12], .int .i64 0]) rfl rfl) rfl ?_)
            refine wl rfl (oextract (vs := [.agg #[.bool (ng z11), .slice p11 n11 c11, .bool (ng z12), .slice p12 n12 c12], .int .i64 0]) (v := .int .i64 0) rfl rfl (ev (v := .tuple #[.agg #[.bool (ng z11), .slice p11 n11 c11, .bool (ng z12), .slice p12 n12 c12], .int .i64 0]) rfl rfl) rfl ?_)
            refine wl rfl (oalloc [.bool false, .slice none 0 0, .bool false, .slice none 0 0] hS rfl rfl Try.zeroValue27 rfl ?_)
            clear hS; intro g29 w30 hS
            refine wl rfl (ostore [.bool (ng z11), .slice p11 n11 c11, .bool (ng z12), .slice p12 n12 c12] [.bool (ng z11), .slice p11 n11 c11, .bool (ng z12), .slice p12 n12 c12] Try.sizeOf27 hS 0 rfl rfl (ev rfl rfl) (ev (v := .agg #[.bool (ng z11), .slice p11 n11 c11, .bool (ng z12), .slice p12 n12 c12]) rfl rfl) rfl rfl rfl rfl rfl rfl ?_)
            clear hS; intro w31 hS
            refine wl rfl (oassign (v := .int .i64 0) rfl rfl (ev (v := .int .i64 0) rfl rfl) ?_)
            refine wnil ?_
            refine thenN ?_
            refine wseq ?_
            obtain ⟨z13, hz13⟩ : ∃ z : Int, Hid (RN (-x) y = z) := ⟨_, rfl⟩
            have hk13 : Wd z13 1048576 := Wd.rn (Wd.neg hzA.wd rfl) hz13
            obtain ⟨z14, hz14⟩ : ∃ z : Int, Hid (RD (-x) y = z) := ⟨_, rfl⟩
            have hk14 : Wd z14 1048576 := Wd.rd hzB.wd hz14
            obtain ⟨z15, hz15⟩ : ∃ z : Int, Hid (RN (x * v + u * y) (y * v) = z) := ⟨_, rfl⟩
            have hk15 : Wd z15 2097153 := Wd.rn (Wd.add (m := 2097153) (Wd.mul (m := 2097152) hzA.wd hzD.wd rfl (by omega)) (Wd.mul (m := 2097152) hzC.wd hzB.wd rfl (by omega)) rfl (by omega)) hz15
            obtain ⟨z16, hz16⟩ : ∃ z : Int, Hid (RD (x * v + u * y) (y * v) = z) := ⟨_, rfl⟩
            have hk16 : Wd z16 2097152 := Wd.rd (Wd.mul (m := 2097152) hzB.wd hzD.wd rfl (by omega)) hz16
            obtain ⟨z17, hz17⟩ : ∃ z : Int, Hid (RN (x * v - u * y) (y * v) = z) := ⟨_, rfl⟩
            have hk17 : Wd z17 2097153 := Wd.rn (Wd.sub (m := 2097153) (Wd.mul (m := 2097152) hzA.wd hzD.wd rfl (by omega)) (Wd.mul (m := 2097152) hzC.wd hzB.wd rfl (by omega)) rfl (by omega)) hz17
            obtain ⟨z18, hz18⟩ : ∃ z : Int, Hid (RD (x * v - u * y) (y * v) = z) := ⟨_, rfl⟩
            have hk18 : Wd z18 2097152 := Wd.rd (Wd.mul (m := 2097152) hzB.wd hzD.wd rfl (by omega)) hz18
            obtain ⟨z19, hz19⟩ : ∃ z : Int, Hid (RN (x * u) (y * v) = z) := ⟨_, rfl⟩
            have hk19 : Wd z19 2097152 := Wd.rn (Wd.mul (m := 2097152) hzA.wd hzC.wd rfl (by omega)) hz19
            obtain ⟨z20, hz20⟩ : ∃ z : Int, Hid (RD (x * u) (y * v) = z) := ⟨_, rfl⟩
            have hk20 : Wd z20 2097152 := Wd.rd (Wd.mul (m := 2097152) hzB.wd hzD.wd rfl (by omega)) hz20
            refine wstage 34 [60, 61, 62, 63, 64, 65, 66, 67, 68, 69, 70, 71, 72, 73, 74, 75, 76, 77, 78, 79, 80, 81, 82, 83, 84, 85, 86, 87, 88, 89, 90, 91, 92, 19] [[], [], [], [], [3], [0, 1, 2, 4, 3], [5, 0, 1, 2, 3, 4], [6, 0, 1, 2, 3, 4, 5], [6, 0, 1, 2, 3, 4, 5], [6, 0, 1, 2, 3, 4, 5], [6, 0, 1, 2, 3, 4, 5], [6, 0, 1, 2, 3, 4, 5], [6, 10, 11, 0, 1, 2, 3, 4, 5], [6, 7, 8, 9, 12, 0, 1, 2, 3, 4, 5, 10, 11], [6, 13, 0, 1, 2, 3, 4, 5, 7, 8, 9, 10, 11, 12], [14, 0, 1, 2, 3, 4, 5, 6, 7, 8, 9, 10, 11, 12, 13], [15, 0, 1, 2, 3, 4, 5, 6, 7, 8, 9, 10, 11, 12, 13, 14], [15, 0, 1, 2, 3, 4, 5, 6, 7, 8, 9, 10, 11, 12, 13, 14], [15, 0, 1, 2, 3, 4, 5, 6, 7, 8, 9, 10, 11, 12, 13, 14], [15, 0, 1, 2, 3, 4, 5, 6, 7, 8, 9, 10, 11, 12, 13, 14], [15, 0, 1, 2, 3, 4, 5, 6, 7, 8, 9, 10, 11, 12, 13, 14], [15, 19, 20, 0, 1, 2, 3, 4, 5, 6, 7, 8, 9, 10, 11, 12, 13, 14], [15, 16, 17, 18, 21, 0, 1, 2, 3, 4, 5, 6, 7, 8, 9, 10, 11, 12, 13, 14, 19, 20], [15, 22, 0, 1, 2, 3, 4, 5, 6, 7, 8, 9, 10, 11, 12, 13, 14, 16, 17, 18, 19, 20, 21], [23, 0, 1, 2, 3, 4, 5, 6, 7, 8, 9, 10, 11, 12, 13, 14, 15, 16, 17, 18, 19, 20, 21, 22], [24, 0, 1, 2, 3, 4, 5, 6, 7, 8, 9, 10, 11, 12, 13, 14, 15, 16, 17, 18, 19, 20, 21, 22, 23], [24, 0, 1, 2, 3, 4, 5, 6, 7, 8, 9, 10, 11, 12, 13, 14, 15, 16, 17, 18, 19, 20, 21, 22, 23], [24, 0, 1, 2, 3, 4, 5, 6, 7, 8, 9, 10, 11, 12, 13, 14, 15, 16, 17, 18, 19, 20, 21, 22, 23], [24, 0, 1, 2, 3, 4, 5, 6, 7, 8, 9, 10, 11, 12, 13, 14, 15, 16, 17, 18, 19, 20, 21, 22, 23], [24, 0, 1, 2, 3, 4, 5, 6, 7, 8, 9, 10, 11, 12, 13, 14, 15, 16, 17, 18, 19, 20, 21, 22, 23], [24, 28, 29, 0, 1, 2, 3, 4, 5, 6, 7, 8, 9, 10, 11, 12, 13, 14, 15, 16, 17, 18, 19, 20, 21, 22, 23], [24, 25, 26, 27, 30, 0, 1, 2, 3, 4, 5, 6, 7, 8, 9, 10, 11, 12, 13, 14, 15, 16, 17, 18, 19, 20, 21, 22, 23, 28, 29], [24, 31, 0, 1, 2, 3, 4, 5, 6, 7, 8, 9, 10, 11, 12, 13, 14, 15, 16, 17, 18, 19, 20, 21, 22, 23, 25, 26, 27, 28, 29, 30], [32, 0, 1, 2, 3, 4, 5, 6, 7, 8, 9, 10, 11, 12, 13, 14, 15, 16, 17, 18, 19, 20, 21, 22, 23, 24, 25, 26, 27, 28, 29, 30, 31]] [[], [], [], [], [], [], [], [], [], [], [], [], [], [], [], [], [], [], [], [], [], [], [], [], [], [], [], [], [], [], [], [], [], []] [] [] (fun i9 => ([fun _ => Is (.bool true), fun _ => Is (.agg #[.bool (ng z5), .slice p5 n5 c5, .bool (ng z6), .slice p6 n6 c6]), fun _ => Is (.int .i64 0), fun _ => Is (.agg #[.bool bA, .slice qA nA kA, .bool bB, .slice qB nB kB]), fun _ => Rrt z13 z14, fun _ => Is (.bool true), fun _ => Is (.bool true), fun _ => Is (.bool true), fun _ => Is (.agg #[.bool (ng z7), .slice p7 n7 c7, .bool (ng z8), .slice p8 n8 c8]), fun _ => Is (.int .i64 0), fun _ => Is (.agg #[.bool bA, .slice qA nA kA, .bool bB, .slice qB nB kB]), fun _ => Is (.agg #[.bool bC, .slice qC nC kC, .bool bD, .slice qD nD kD]), fun _ => Rrt z15 z16, fun _ => Is (.bool true), fun _ => Is (.bool true), fun _ => Is (.bool true), fun _ => Is (.bool true), fun _ => Is (.agg #[.bool (ng z9), .slice p9 n9 c9, .bool (ng z10), .slice p10 n10 c10]), fun _ => Is (.int .i64 0), fun _ => Is (.agg #[.bool bA, .slice qA nA kA, .bool bB, .slice qB nB kB]), fun _ => Is (.agg #[.bool bC, .slice qC nC kC, .bool bD, .slice qD nD kD]), fun _ => Rrt z17 z18, fun _ => Is (.bool true), fun _ => Is (.bool true), fun _ => Is (.bool true), fun _ => Is (.bool true), fun _ => Is (.agg #[.bool (ng z11), .slice p11 n11 c11, .bool (ng z12), .slice p12 n12 c12]), fun _ => Is (.int .i64 0), fun _ => Is (.agg #[.bool bA, .slice qA nA kA, .bool bB, .slice qB nB kB]), fun _ => Is (.agg #[.bool bC, .slice qC nC kC, .bool bD, .slice qD nD kD]), fun _ => Rrt z19 z20, fun _ => Is (.bool true), fun _ => Is (.bool true), fun _ => Is (.bool true)] : List (List Value → Tell)).getD i9 (fun _ _ _ => False)) (heldNil) (fun d _ _ _ _ h => (by cases d <;> exact h)) (by kernel_rfl) (by kernel_rfl) (by kernel_rfl) hS ?_ ?_
            ·
              refine stepsCons rfl ?_ ?_
              · intro Q f' w' ρ S ho hT hS hB
                exact .inl ⟨want_none rfl, omove (v := .bool true) rfl rfl (ev (v := .bool true) rfl (ho 9 rfl)) ⟨_, _, rfl, isI, New.same _⟩⟩
              refine stepsCons rfl ?_ ?_
              · intro Q f' w' ρ S ho hT hS hB
                exact .inl ⟨want_none rfl, oload (vs := [.bool (ng z5), .slice p5 n5 c5, .bool (ng z6), .slice p6 n6 c6]) aggR hS 9 rfl rfl (ev rfl (ho 11 rfl)) rfl rfl rfl ⟨_, _, rfl, isI, New.same _⟩⟩
              refine stepsCons rfl ?_ ?_
              · intro Q f' w' ρ S ho hT hS hB
                exact .inl ⟨want_none rfl, omove (v := .int .i64 0) rfl rfl (ev (v := .int .i64 0) rfl (ho 12 rfl)) ⟨_, _, rfl, isI, New.same _⟩⟩
              refine stepsCons rfl ?_ ?_
              · intro Q f' w' ρ S ho hT hS hB
                exact .inl ⟨want_none rfl, oload (vs := [.bool bA, .slice qA nA kA, .bool bB, .slice qB nB kB]) aggR hS 13 rfl rfl (ev rfl (ho 7 rfl)) rfl rfl rfl ⟨_, _, rfl, isI, New.same _⟩⟩
              refine stepsCons rfl ?_ ?_
              · intro Q f' w' ρ S ho hT hS hB
                obtain ⟨hv3, hr3⟩ := (hT 3 63 rfl rfl : (Is (.agg #[.bool bA, .slice qA nA kA, .bool bB, .slice qB nB kB])) (f' 63) (ρ 3))
                obtain hS := hS.flat1 hr3
                refine .inl ⟨want_none rfl, ocall rfl rfl Try.call33 rfl (wsneg ((hzA.at hS).mono (by omega)) ((hzB.at hS).mono (by omega)) (hy) hz13 hz14) (args1 (ev rfl hv3)) ?_⟩
                rintro _ w9 ⟨_, _, rfl, hTT, hN⟩
                exact ⟨_, rfl, _, _, rfl, hTT, hN⟩
              refine stepsCons rfl ?_ ?_
              · intro Q f' w' ρ S ho hT hS hB
                obtain ⟨hv0, hr0⟩ := (hT 0 60 rfl rfl : (Is (.bool true)) (f' 60) (ρ 0))
                obtain ⟨hv1, hr1⟩ := (hT 1 61 rfl rfl : (Is (.agg #[.bool (ng z5), .slice p5 n5 c5, .bool (ng z6), .slice p6 n6 c6])) (f' 61) (ρ 1))
                obtain ⟨hv2, hr2⟩ := (hT 2 62 rfl rfl : (Is (.int .i64 0)) (f' 62) (ρ 2))
                obtain ⟨p13, n13, c13, p14, n14, c14, hv4, hr4⟩ := (hT 4 64 rfl rfl : (Rrt z13 z14) (f' 64) (ρ 4))
                obtain hS := hS.flat4 hr0 hr1 hr2 hr4
                refine .inl ⟨want_none rfl, ocall rfl rfl Try.call32 rfl (wltold (x := z5) (y := z6) (u := z13) (v := z14) (hS.slm 10 rfl) (hS.slm 11 rfl) (hS.slm 22 rfl) (hS.slm 23 rfl) ((hz5.out.symm).trans (hz13.out.symm).symm) ((hz6.out.symm).trans (hz14.out.symm).symm)) (args4 (ev rfl hv0) (ev rfl hv1) (ev rfl hv2) (ev rfl hv4)) ?_⟩
                rintro _ w9 ⟨_, _, rfl, hTT, hN⟩
                exact ⟨_, rfl, _, _, rfl, hTT, hN⟩
              refine stepsCons rfl ?_ ?_
              · intro Q f' w' ρ S ho hT hS hB
                obtain ⟨hv5, hr5⟩ := (hT 5 65 rfl rfl : (Is (.bool true)) (f' 65) (ρ 5))
                obtain hS := hS.flat1 hr5
                exact .inl ⟨want_none rfl, omove (v := .bool true) rfl rfl (ev (v := .bool true) rfl hv5) ⟨_, _, rfl, isI, New.same _⟩⟩
              refine stepsCons rfl ?_ ?_
              · intro Q f' w' ρ S ho hT hS hB
                obtain ⟨hv6, hr6⟩ := (hT 6 66 rfl rfl : (Is (.bool true)) (f' 66) (ρ 6))
                obtain hS := hS.flat1 hr6
                exact .inl ⟨want_on (e := 66) rfl rfl rfl hv6, omove (v := .bool true) rfl rfl (ev (v := .bool true) rfl (ho 10 rfl)) ⟨_, _, rfl, isI, New.same _⟩⟩
              refine stepsCons rfl ?_ ?_
              · intro Q f' w' ρ S ho hT hS hB
                obtain ⟨hv6, hr6⟩ := (hT 6 66 rfl rfl : (Is (.bool true)) (f' 66) (ρ 6))
                obtain hS := hS.flat1 hr6
                exact .inl ⟨want_on (e := 66) rfl rfl rfl hv6, oload (vs := [.bool (ng z7), .slice p7 n7 c7, .bool (ng z8), .slice p8 n8 c8]) aggR hS 6 rfl rfl (ev rfl (ho 13 rfl)) rfl rfl rfl ⟨_, _, rfl, isI, New.same _⟩⟩
              refine stepsCons rfl ?_ ?_
              · intro Q f' w' ρ S ho hT hS hB
                obtain ⟨hv6, hr6⟩ := (hT 6 66 rfl rfl : (Is (.bool true)) (f' 66) (ρ 6))
                obtain hS := hS.flat1 hr6
                exact .inl ⟨want_on (e := 66) rfl rfl rfl hv6, omove (v := .int .i64 0) rfl rfl (ev (v := .int .i64 0) rfl (ho 14 rfl)) ⟨_, _, rfl, isI, New.same _⟩⟩
              refine stepsCons rfl ?_ ?_
              · intro Q f' w' ρ S ho hT hS hB
                obtain ⟨hv6, hr6⟩ := (hT 6 66 rfl rfl : (Is (.bool true)) (f' 66) (ρ 6))
                obtain hS := hS.flat1 hr6
                exact .inl ⟨want_on (e := 66) rfl rfl rfl hv6, oload (vs := [.bool bA, .slice qA nA kA, .bool bB, .slice qB nB kB]) aggR hS 13 rfl rfl (ev rfl (ho 7 rfl)) rfl rfl rfl ⟨_, _, rfl, isI, New.same _⟩⟩
              refine stepsCons rfl ?_ ?_
              · intro Q f' w' ρ S ho hT hS hB
                obtain ⟨hv6, hr6⟩ := (hT 6 66 rfl rfl : (Is (.bool true)) (f' 66) (ρ 6))
                obtain hS := hS.flat1 hr6
                exact .inl ⟨want_on (e := 66) rfl rfl rfl hv6, oload (vs := [.bool bC, .slice qC nC kC, .bool bD, .slice qD nD kD]) aggR hS 12 rfl rfl (ev rfl (ho 8 rfl)) rfl rfl rfl ⟨_, _, rfl, isI, New.same _⟩⟩
              refine stepsCons rfl ?_ ?_
              · intro Q f' w' ρ S ho hT hS hB
                obtain ⟨hv6, hr6⟩ := (hT 6 66 rfl rfl : (Is (.bool true)) (f' 66) (ρ 6))
                obtain ⟨hv10, hr10⟩ := (hT 10 70 rfl rfl : (Is (.agg #[.bool bA, .slice qA nA kA, .bool bB, .slice qB nB kB])) (f' 70) (ρ 10))
                obtain ⟨hv11, hr11⟩ := (hT 11 71 rfl rfl : (Is (.agg #[.bool bC, .slice qC nC kC, .bool bD, .slice qD nD kD])) (f' 71) (ρ 11))
                obtain hS := hS.flat3 hr6 hr10 hr11
                refine .inl ⟨want_on (e := 66) rfl rfl rfl hv6, ocall rfl rfl Try.call34 rfl (wsadd ((hzA.at hS).mono (by omega)) ((hzB.at hS).mono (by omega)) ((hzC.at hS).mono (by omega)) ((hzD.at hS).mono (by omega)) (hy) (hv) hz15 hz16) (args2 (ev rfl hv10) (ev rfl hv11)) ?_⟩
                rintro _ w9 ⟨_, _, rfl, hTT, hN⟩
                exact ⟨_, rfl, _, _, rfl, hTT, hN⟩
              refine stepsCons rfl ?_ ?_
              · intro Q f' w' ρ S ho hT hS hB
                obtain ⟨hv6, hr6⟩ := (hT 6 66 rfl rfl : (Is (.bool true)) (f' 66) (ρ 6))
                obtain ⟨hv7, hr7⟩ := (hT 7 67 rfl rfl : (Is (.bool true)) (f' 67) (ρ 7))
                obtain ⟨hv8, hr8⟩ := (hT 8 68 rfl rfl : (Is (.agg #[.bool (ng z7), .slice p7 n7 c7, .bool (ng z8), .slice p8 n8 c8])) (f' 68) (ρ 8))
                obtain ⟨hv9, hr9⟩ := (hT 9 69 rfl rfl : (Is (.int .i64 0)) (f' 69) (ρ 9))
                obtain ⟨p15, n15, c15, p16, n16, c16, hv12, hr12⟩ := (hT 12 72 rfl rfl : (Rrt z15 z16) (f' 72) (ρ 12))
                obtain hS := hS.flat5 hr6 hr7 hr8 hr9 hr12
                refine .inl ⟨want_on (e := 66) rfl rfl rfl hv6, ocall rfl rfl Try.call32 rfl (wltold (x := z7) (y := z8) (u := z15) (v := z16) (hS.slm 7 rfl) (hS.slm 8 rfl) (hS.slm 22 rfl) (hS.slm 23 rfl) ((hz7.out.symm).trans (hz15.out.symm).symm) ((hz8.out.symm).trans (hz16.out.symm).symm)) (args4 (ev rfl hv7) (ev rfl hv8) (ev rfl hv9) (ev rfl hv12)) ?_⟩
                rintro _ w9 ⟨_, _, rfl, hTT, hN⟩
                exact ⟨_, rfl, _, _, rfl, hTT, hN⟩
              refine stepsCons rfl ?_ ?_
              · intro Q f' w' ρ S ho hT hS hB
                obtain ⟨hv6, hr6⟩ := (hT 6 66 rfl rfl : (Is (.bool true)) (f' 66) (ρ 6))
                obtain ⟨hv13, hr13⟩ := (hT 13 73 rfl rfl : (Is (.bool true)) (f' 73) (ρ 13))
                obtain hS := hS.flat2 hr6 hr13
                exact .inl ⟨want_none rfl, opick (b := true) (v := .bool true) rfl rfl (ev (v := .bool true) rfl hv6) (ev (v := .bool true) rfl hv13) ⟨_, _, rfl, isI, New.same _⟩⟩
              refine stepsCons rfl ?_ ?_
              · intro Q f' w' ρ S ho hT hS hB
                obtain ⟨hv14, hr14⟩ := (hT 14 74 rfl rfl : (Is (.bool true)) (f' 74) (ρ 14))
                obtain hS := hS.flat1 hr14
                exact .inl ⟨want_none rfl, omove (v := .bool true) rfl rfl (ev (v := .bool true) rfl hv14) ⟨_, _, rfl, isI, New.same _⟩⟩
              refine stepsCons rfl ?_ ?_
              · intro Q f' w' ρ S ho hT hS hB
                obtain ⟨hv15, hr15⟩ := (hT 15 75 rfl rfl : (Is (.bool true)) (f' 75) (ρ 15))
                obtain hS := hS.flat1 hr15
                exact .inl ⟨want_on (e := 75) rfl rfl rfl hv15, omove (v := .bool true) rfl rfl (ev (v := .bool true) rfl (ho 10 rfl)) ⟨_, _, rfl, isI, New.same _⟩⟩
              refine stepsCons rfl ?_ ?_
              · intro Q f' w' ρ S ho hT hS hB
                obtain ⟨hv15, hr15⟩ := (hT 15 75 rfl rfl : (Is (.bool true)) (f' 75) (ρ 15))
                obtain hS := hS.flat1 hr15
                exact .inl ⟨want_on (e := 75) rfl rfl rfl hv15, oload (vs := [.bool (ng z9), .slice p9 n9 c9, .bool (ng z10), .slice p10 n10 c10]) aggR hS 3 rfl rfl (ev rfl (ho 15 rfl)) rfl rfl rfl ⟨_, _, rfl, isI, New.same _⟩⟩
              refine stepsCons rfl ?_ ?_
              · intro Q f' w' ρ S ho hT hS hB
                obtain ⟨hv15, hr15⟩ := (hT 15 75 rfl rfl : (Is (.bool true)) (f' 75) (ρ 15))
                obtain hS := hS.flat1 hr15
                exact .inl ⟨want_on (e := 75) rfl rfl rfl hv15, omove (v := .int .i64 0) rfl rfl (ev (v := .int .i64 0) rfl (ho 16 rfl)) ⟨_, _, rfl, isI, New.same _⟩⟩
              refine stepsCons rfl ?_ ?_
              · intro Q f' w' ρ S ho hT hS hB
                obtain ⟨hv15, hr15⟩ := (hT 15 75 rfl rfl : (Is (.bool true)) (f' 75) (ρ 15))
                obtain hS := hS.flat1 hr15
                exact .inl ⟨want_on (e := 75) rfl rfl rfl hv15, oload (vs := [.bool bA, .slice qA nA kA, .bool bB, .slice qB nB kB]) aggR hS 13 rfl rfl (ev rfl (ho 7 rfl)) rfl rfl rfl ⟨_, _, rfl, isI, New.same _⟩⟩
              refine stepsCons rfl ?_ ?_
              · intro Q f' w' ρ S ho hT hS hB
                obtain ⟨hv15, hr15⟩ := (hT 15 75 rfl rfl : (Is (.bool true)) (f' 75) (ρ 15))
                obtain hS := hS.flat1 hr15
                exact .inl ⟨want_on (e := 75) rfl rfl rfl hv15, oload (vs := [.bool bC, .slice qC nC kC, .bool bD, .slice qD nD kD]) aggR hS 12 rfl rfl (ev rfl (ho 8 rfl)) rfl rfl rfl ⟨_, _, rfl, isI, New.same _⟩⟩
              refine stepsCons rfl ?_ ?_
              · intro Q f' w' ρ S ho hT hS hB
                obtain ⟨hv15, hr15⟩ := (hT 15 75 rfl rfl : (Is (.bool true)) (f' 75) (ρ 15))
                obtain ⟨hv19, hr19⟩ := (hT 19 79 rfl rfl : (Is (.agg #[.bool bA, .slice qA nA kA, .bool bB, .slice qB nB kB])) (f' 79) (ρ 19))
                obtain ⟨hv20, hr20⟩ := (hT 20 80 rfl rfl : (Is (.agg #[.bool bC, .slice qC nC kC, .bool bD, .slice qD nD kD])) (f' 80) (ρ 20))
                obtain hS := hS.flat3 hr15 hr19 hr20
                refine .inl ⟨want_on (e := 75) rfl rfl rfl hv15, ocall rfl rfl Try.call35 rfl (wssub ((hzA.at hS).mono (by omega)) ((hzB.at hS).mono (by omega)) ((hzC.at hS).mono (by omega)) ((hzD.at hS).mono (by omega)) (hy) (hv) hz17 hz18) (args2 (ev rfl hv19) (ev rfl hv20)) ?_⟩
                rintro _ w9 ⟨_, _, rfl, hTT, hN⟩
                exact ⟨_, rfl, _, _, rfl, hTT, hN⟩
              refine stepsCons rfl ?_ ?_
              · intro Q f' w' ρ S ho hT hS hB
                obtain ⟨hv15, hr15⟩ := (hT 15 75 rfl rfl : (Is (.bool true)) (f' 75) (ρ 15))
                obtain ⟨hv16, hr16⟩ := (hT 16 76 rfl rfl : (Is (.bool true)) (f' 76) (ρ 16))
                obtain ⟨hv17, hr17⟩ := (hT 17 77 rfl rfl : (Is (.agg #[.bool (ng z9), .slice p9 n9 c9, .bool (ng z10), .slice p10 n10 c10])) (f' 77) (ρ 17))
                obtain ⟨hv18, hr18⟩ := (hT 18 78 rfl rfl : (Is (.int .i64 0)) (f' 78) (ρ 18))
                obtain ⟨p17, n17, c17, p18, n18, c18, hv21, hr21⟩ := (hT 21 81 rfl rfl : (Rrt z17 z18) (f' 81) (ρ 21))
                obtain hS := hS.flat5 hr15 hr16 hr17 hr18 hr21
                refine .inl ⟨want_on (e := 75) rfl rfl rfl hv15, ocall rfl rfl Try.call32 rfl (wltold (x := z9) (y := z10) (u := z17) (v := z18) (hS.slm 4 rfl) (hS.slm 5 rfl) (hS.slm 22 rfl) (hS.slm 23 rfl) ((hz9.out.symm).trans (hz17.out.symm).symm) ((hz10.out.symm).trans (hz18.out.symm).symm)) (args4 (ev rfl hv16) (ev rfl hv17) (ev rfl hv18) (ev rfl hv21)) ?_⟩
                rintro _ w9 ⟨_, _, rfl, hTT, hN⟩
                exact ⟨_, rfl, _, _, rfl, hTT, hN⟩
              refine stepsCons rfl ?_ ?_
              · intro Q f' w' ρ S ho hT hS hB
                obtain ⟨hv15, hr15⟩ := (hT 15 75 rfl rfl : (Is (.bool true)) (f' 75) (ρ 15))
                obtain ⟨hv22, hr22⟩ := (hT 22 82 rfl rfl : (Is (.bool true)) (f' 82) (ρ 22))
                obtain hS := hS.flat2 hr15 hr22
                exact .inl ⟨want_none rfl, opick (b := true) (v := .bool true) rfl rfl (ev (v := .bool true) rfl hv15) (ev (v := .bool true) rfl hv22) ⟨_, _, rfl, isI, New.same _⟩⟩
              refine stepsCons rfl ?_ ?_
              · intro Q f' w' ρ S ho hT hS hB
                obtain ⟨hv23, hr23⟩ := (hT 23 83 rfl rfl : (Is (.bool true)) (f' 83) (ρ 23))
                obtain hS := hS.flat1 hr23
                exact .inl ⟨want_none rfl, omove (v := .bool true) rfl rfl (ev (v := .bool true) rfl hv23) ⟨_, _, rfl, isI, New.same _⟩⟩
              refine stepsCons rfl ?_ ?_
              · intro Q f' w' ρ S ho hT hS hB
                obtain ⟨hv24, hr24⟩ := (hT 24 84 rfl rfl : (Is (.bool true)) (f' 84) (ρ 24))
                obtain hS := hS.flat1 hr24
                exact .inl ⟨want_on (e := 84) rfl rfl rfl hv24, omove (v := .bool true) rfl rfl (ev (v := .bool true) rfl (ho 10 rfl)) ⟨_, _, rfl, isI, New.same _⟩⟩
              refine stepsCons rfl ?_ ?_
              · intro Q f' w' ρ S ho hT hS hB
                obtain ⟨hv24, hr24⟩ := (hT 24 84 rfl rfl : (Is (.bool true)) (f' 84) (ρ 24))
                obtain hS := hS.flat1 hr24
                exact .inl ⟨want_on (e := 84) rfl rfl rfl hv24, oload (vs := [.bool (ng z11), .slice p11 n11 c11, .bool (ng z12), .slice p12 n12 c12]) aggR hS 0 rfl rfl (ev rfl (ho 17 rfl)) rfl rfl rfl ⟨_, _, rfl, isI, New.same _⟩⟩
              refine stepsCons rfl ?_ ?_
              · intro Q f' w' ρ S ho hT hS hB
                obtain ⟨hv24, hr24⟩ := (hT 24 84 rfl rfl : (Is (.bool true)) (f' 84) (ρ 24))
                obtain hS := hS.flat1 hr24
                exact .inl ⟨want_on (e := 84) rfl rfl rfl hv24, omove (v := .int .i64 0) rfl rfl (ev (v := .int .i64 0) rfl (ho 18 rfl)) ⟨_, _, rfl, isI, New.same _⟩⟩
              refine stepsCons rfl ?_ ?_
              · intro Q f' w' ρ S ho hT hS hB
                obtain ⟨hv24, hr24⟩ := (hT 24 84 rfl rfl : (Is (.bool true)) (f' 84) (ρ 24))
                obtain hS := hS.flat1 hr24
                exact .inl ⟨want_on (e := 84) rfl rfl rfl hv24, oload (vs := [.bool bA, .slice qA nA kA, .bool bB, .slice qB nB kB]) aggR hS 13 rfl rfl (ev rfl (ho 7 rfl)) rfl rfl rfl ⟨_, _, rfl, isI, New.same _⟩⟩
              refine stepsCons rfl ?_ ?_
              · intro Q f' w' ρ S ho hT hS hB
                obtain ⟨hv24, hr24⟩ := (hT 24 84 rfl rfl : (Is (.bool true)) (f' 84) (ρ 24))
                obtain hS := hS.flat1 hr24
                exact .inl ⟨want_on (e := 84) rfl rfl rfl hv24, oload (vs := [.bool bC, .slice qC nC kC, .bool bD, .slice qD nD kD]) aggR hS 12 rfl rfl (ev rfl (ho 8 rfl)) rfl rfl rfl ⟨_, _, rfl, isI, New.same _⟩⟩
              refine stepsCons rfl ?_ ?_
              · intro Q f' w' ρ S ho hT hS hB
                obtain ⟨hv24, hr24⟩ := (hT 24 84 rfl rfl : (Is (.bool true)) (f' 84) (ρ 24))
                obtain ⟨hv28, hr28⟩ := (hT 28 88 rfl rfl : (Is (.agg #[.bool bA, .slice qA nA kA, .bool bB, .slice qB nB kB])) (f' 88) (ρ 28))
                obtain ⟨hv29, hr29⟩ := (hT 29 89 rfl rfl : (Is (.agg #[.bool bC, .slice qC nC kC, .bool bD, .slice qD nD kD])) (f' 89) (ρ 29))
                obtain hS := hS.flat3 hr24 hr28 hr29
                refine .inl ⟨want_on (e := 84) rfl rfl rfl hv24, ocall rfl rfl Try.call36 rfl (wsmul ((hzA.at hS).mono (by omega)) ((hzB.at hS).mono (by omega)) ((hzC.at hS).mono (by omega)) ((hzD.at hS).mono (by omega)) (hy) (hv) hz19 hz20) (args2 (ev rfl hv28) (ev rfl hv29)) ?_⟩
                rintro _ w9 ⟨_, _, rfl, hTT, hN⟩
                exact ⟨_, rfl, _, _, rfl, hTT, hN⟩
              refine stepsCons rfl ?_ ?_
              · intro Q f' w' ρ S ho hT hS hB
                obtain ⟨hv24, hr24⟩ := (hT 24 84 rfl rfl : (Is (.bool true)) (f' 84) (ρ 24))
                obtain ⟨hv25, hr25⟩ := (hT 25 85 rfl rfl : (Is (.bool true)) (f' 85) (ρ 25))
                obtain ⟨hv26, hr26⟩ := (hT 26 86 rfl rfl : (Is (.agg #[.bool (ng z11), .slice p11 n11 c11, .bool (ng z12), .slice p12 n12 c12])) (f' 86) (ρ 26))
                obtain ⟨hv27, hr27⟩ := (hT 27 87 rfl rfl : (Is (.int .i64 0)) (f' 87) (ρ 27))
                obtain ⟨p19, n19, c19, p20, n20, c20, hv30, hr30⟩ := (hT 30 90 rfl rfl : (Rrt z19 z20) (f' 90) (ρ 30))
                obtain hS := hS.flat5 hr24 hr25 hr26 hr27 hr30
                refine .inl ⟨want_on (e := 84) rfl rfl rfl hv24, ocall rfl rfl Try.call32 rfl (wltold (x := z11) (y := z12) (u := z19) (v := z20) (hS.slm 1 rfl) (hS.slm 2 rfl) (hS.slm 22 rfl) (hS.slm 23 rfl) ((hz11.out.symm).trans (hz19.out.symm).symm) ((hz12.out.symm).trans (hz20.out.symm).symm)) (args4 (ev rfl hv25) (ev rfl hv26) (ev rfl hv27) (ev rfl hv30)) ?_⟩
                rintro _ w9 ⟨_, _, rfl, hTT, hN⟩
                exact ⟨_, rfl, _, _, rfl, hTT, hN⟩
              refine stepsCons rfl ?_ ?_
              · intro Q f' w' ρ S ho hT hS hB
                obtain ⟨hv24, hr24⟩ := (hT 24 84 rfl rfl : (Is (.bool true)) (f' 84) (ρ 24))
                obtain ⟨hv31, hr31⟩ := (hT 31 91 rfl rfl : (Is (.bool true)) (f' 91) (ρ 31))
                obtain hS := hS.flat2 hr24 hr31
                exact .inl ⟨want_none rfl, opick (b := true) (v := .bool true) rfl rfl (ev (v := .bool true) rfl hv24) (ev (v := .bool true) rfl hv31) ⟨_, _, rfl, isI, New.same _⟩⟩
              refine stepsCons rfl ?_ ?_
              · intro Q f' w' ρ S ho hT hS hB
                obtain ⟨hv32, hr32⟩ := (hT 32 92 rfl rfl : (Is (.bool true)) (f' 92) (ρ 32))
                obtain hS := hS.flat1 hr32
                exact .inl ⟨want_none rfl, oassign (v := .bool true) rfl rfl (ev (v := .bool true) rfl hv32) ⟨_, _, rfl, isI, New.same _⟩⟩
              exact stepsNil
            ·
              intro vs ρ w32 f' hf hT hS
              obtain ⟨hv0, hr0⟩ := (hT 0 (by decide) : (Is (.bool true)) (vs 0) (ρ 0))
              obtain ⟨hv1, hr1⟩ := (hT 1 (by decide) : (Is (.agg #[.bool (ng z5), .slice p5 n5 c5, .bool (ng z6), .slice p6 n6 c6])) (vs 1) (ρ 1))
              obtain ⟨hv2, hr2⟩ := (hT 2 (by decide) : (Is (.int .i64 0)) (vs 2) (ρ 2))
              obtain ⟨hv3, hr3⟩ := (hT 3 (by decide) : (Is (.agg #[.bool bA, .slice qA nA kA, .bool bB, .slice qB nB kB])) (vs 3) (ρ 3))
              obtain ⟨p13, n13, c13, p14, n14, c14, hv4, hr4⟩ := (hT 4 (by decide) : (Rrt z13 z14) (vs 4) (ρ 4))
              obtain ⟨hv5, hr5⟩ := (hT 5 (by decide) : (Is (.bool true)) (vs 5) (ρ 5))
              obtain ⟨hv6, hr6⟩ := (hT 6 (by decide) : (Is (.bool true)) (vs 6) (ρ 6))
              obtain ⟨hv7, hr7⟩ := (hT 7 (by decide) : (Is (.bool true)) (vs 7) (ρ 7))
              obtain ⟨hv8, hr8⟩ := (hT 8 (by decide) : (Is (.agg #[.bool (ng z7), .slice p7 n7 c7, .bool (ng z8), .slice p8 n8 c8])) (vs 8) (ρ 8))
              obtain ⟨hv9, hr9⟩ := (hT 9 (by decide) : (Is (.int .i64 0)) (vs 9) (ρ 9))
              obtain ⟨hv10, hr10⟩ := (hT 10 (by decide) : (Is (.agg #[.bool bA, .slice qA nA kA, .bool bB, .slice qB nB kB])) (vs 10) (ρ 10))
              obtain ⟨hv11, hr11⟩ := (hT 11 (by decide) : (Is (.agg #[.bool bC, .slice qC nC kC, .bool bD, .slice qD nD kD])) (vs 11) (ρ 11))
              obtain ⟨p15, n15, c15, p16, n16, c16, hv12, hr12⟩ := (hT 12 (by decide) : (Rrt z15 z16) (vs 12) (ρ 12))
              obtain ⟨hv13, hr13⟩ := (hT 13 (by decide) : (Is (.bool true)) (vs 13) (ρ 13))
              obtain ⟨hv14, hr14⟩ := (hT 14 (by decide) : (Is (.bool true)) (vs 14) (ρ 14))
              obtain ⟨hv15, hr15⟩ := (hT 15 (by decide) : (Is (.bool true)) (vs 15) (ρ 15))
              obtain ⟨hv16, hr16⟩ := (hT 16 (by decide) : (Is (.bool true)) (vs 16) (ρ 16))
              obtain ⟨hv17, hr17⟩ := (hT 17 (by decide) : (Is (.agg #[.bool (ng z9), .slice p9 n9 c9, .bool (ng z10), .slice p10 n10 c10])) (vs 17) (ρ 17))
              obtain ⟨hv18, hr18⟩ := (hT 18 (by decide) : (Is (.int .i64 0)) (vs 18) (ρ 18))
              obtain ⟨hv19, hr19⟩ := (hT 19 (by decide) : (Is (.agg #[.bool bA, .slice qA nA kA, .bool bB, .slice qB nB kB])) (vs 19) (ρ 19))
              obtain ⟨hv20, hr20⟩ := (hT 20 (by decide) : (Is (.agg #[.bool bC, .slice qC nC kC, .bool bD, .slice qD nD kD])) (vs 20) (ρ 20))
              obtain ⟨p17, n17, c17, p18, n18, c18, hv21, hr21⟩ := (hT 21 (by decide) : (Rrt z17 z18) (vs 21) (ρ 21))
              obtain ⟨hv22, hr22⟩ := (hT 22 (by decide) : (Is (.bool true)) (vs 22) (ρ 22))
              obtain ⟨hv23, hr23⟩ := (hT 23 (by decide) : (Is (.bool true)) (vs 23) (ρ 23))
              obtain ⟨hv24, hr24⟩ := (hT 24 (by decide) : (Is (.bool true)) (vs 24) (ρ 24))
              obtain ⟨hv25, hr25⟩ := (hT 25 (by decide) : (Is (.bool true)) (vs 25) (ρ 25))
              obtain ⟨hv26, hr26⟩ := (hT 26 (by decide) : (Is (.agg #[.bool (ng z11), .slice p11 n11 c11, .bool (ng z12), .slice p12 n12 c12])) (vs 26) (ρ 26))
              obtain ⟨hv27, hr27⟩ := (hT 27 (by decide) : (Is (.int .i64 0)) (vs 27) (ρ 27))
              obtain ⟨hv28, hr28⟩ := (hT 28 (by decide) : (Is (.agg #[.bool bA, .slice qA nA kA, .bool bB, .slice qB nB kB])) (vs 28) (ρ 28))
              obtain ⟨hv29, hr29⟩ := (hT 29 (by decide) : (Is (.agg #[.bool bC, .slice qC nC kC, .bool bD, .slice qD nD kD])) (vs 29) (ρ 29))
              obtain ⟨p19, n19, c19, p20, n20, c20, hv30, hr30⟩ := (hT 30 (by decide) : (Rrt z19 z20) (vs 30) (ρ 30))
              obtain ⟨hv31, hr31⟩ := (hT 31 (by decide) : (Is (.bool true)) (vs 31) (ρ 31))
              obtain ⟨hv32, hr32⟩ := (hT 32 (by decide) : (Is (.bool true)) (vs 32) (ρ 32))
              obtain ⟨hv33, hr33⟩ := (hT 33 (by decide) : (Is (.bool true)) (vs 33) (ρ 33))
              simp only [pool, if_true, hr0, hr1, hr2, hr3, hr4, hr5, hr6, hr7, hr8, hr9, hr10, hr11, hr12, hr13, hr14, hr15, hr16, hr17, hr18, hr19, hr20, hr21, hr22, hr23, hr24, hr25, hr26, hr27, hr28, hr29, hr30, hr31, hr32, hr33, List.nil_append, List.cons_append, List.append_nil] at hS
              simp only [layf, hv0, hv1, hv2, hv3, hv4, hv5, hv6, hv7, hv8, hv9, hv10, hv11, hv12, hv13, hv14, hv15, hv16, hv17, hv18, hv19, hv20, hv21, hv22, hv23, hv24, hv25, hv26, hv27, hv28, hv29, hv30, hv31, hv32, hv33] at hf
              subst hf; clear hT hv0 hv1 hv2 hv3 hv4 hv5 hv6 hv7 hv8 hv9 hv10 hv11 hv12 hv13 hv14 hv15 hv16 hv17 hv18 hv19 hv20 hv21 hv22 hv23 hv24 hv25 hv26 hv27 hv28 hv29 hv30 hv31 hv32 hv33 hr0 hr1 hr2 hr3 hr4 hr5 hr6 hr7 hr8 hr9 hr10 hr11 hr12 hr13 hr14 hr15 hr16 hr17 hr18 hr19 hr20 hr21 hr22 hr23 hr24 hr25 hr26 hr27 hr28 hr29 hr30 hr31 hr32 hr33
              refine wdone rfl ?_
              refine thenN ?_
              refine wseq ?_
              refine wseq ?_
              refine wreg ?_
              refine wl rfl (ofieldAddr (g := g21) (off := 0) 0 rfl rfl (ev (v := .pointer (some ⟨g21, 0, none⟩)) rfl rfl) Try.runUnderlying27 rfl Try.sizeOf25 rfl ?_)
              refine wl rfl (ofieldAddr (g := g21) (off := 0) 1 rfl rfl (ev (v := .pointer (some ⟨g21, 0, none⟩)) rfl rfl) Try.runUnderlying25 rfl Try.sizeOf23 rfl ?_)
              refine wl rfl (oload1 (v := .slice p7 n7 c7) oneN hS 14 rfl rfl (ev rfl rfl) rfl rfl ?_)
              refine wl rfl (olen rfl rfl rfl Try.runUnderlying23 (p := p7) (k := n7) (m := c7) (ev (v := .slice p7 n7 c7) rfl rfl) ?_)
              refine wl rfl (omove (v := .int .i64 0) rfl rfl (evc (v := .int .i64 0)) ?_)
              refine wnil ?_
              refine thenN ?_
              refine wblock ?_
              have hln7 : n7 ≤ 4194304 := z_len (hS.rowmAt 15 rfl) (hk7.mono (by omega))
              refine wloop (σ := Nat) (fun k a w' => ∃ (fb : Nat → Value) (l7 : List Nat), a = act 120 (sets fb [(2, .pointer (some ⟨g1, 0, none⟩)), (3, .pointer (some ⟨g3, 0, none⟩)), (4, .bool false), (5, .pointer (some ⟨g5, 0, none⟩)), (6, .pointer (some ⟨g6, 0, none⟩)), (13, .pointer (some ⟨g21, 0, none⟩)), (19, .bool true), (96, .int .i64 (((n7 : Nat) : Int))), (97, .int .i64 (((k : Nat) : Int)))]) ∧ Sep w [.rowm p19 n19 c19 (lim z19.natAbs), .rowm p20 n20 c20 (lim z20.natAbs), .rowm p17 n17 c17 (lim z17.natAbs), .rowm p18 n18 c18 (lim z18.natAbs), .rowm p15 n15 c15 (lim z15.natAbs), .rowm p16 n16 c16 (lim z16.natAbs), .rowm p13 n13 c13 (lim z13.natAbs), .rowm p14 n14 c14 (lim z14.natAbs), .blk g29 [.bool (ng z11), .slice p11 n11 c11, .bool (ng z12), .slice p12 n12 c12] 27, .rowm p11 n11 c11 (lim z11.natAbs), .rowm p12 n12 c12 (lim z12.natAbs), .blk g25 [.bool (ng z9), .slice p9 n9 c9, .bool (ng z10), .slice p10 n10 c10] 27, .rowm p9 n9 c9 (lim z9.natAbs), .rowm p10 n10 c10 (lim z10.natAbs), .blk g21 [.bool (ng z7), .slice p7 n7 c7, .bool (ng z8), .slice p8 n8 c8] 27, .rowm p7 n7 c7 l7, .rowm p8 n8 c8 (lim z8.natAbs), .blk g17 [.bool (ng z5), .slice p5 n5 c5, .bool (ng z6), .slice p6 n6 c6] 27, .rowm p5 n5 c5 (lim z5.natAbs), .rowm p6 n6 c6 (lim z6.natAbs), .blk g11 [.bool bC, .slice qC nC kC, .bool bD, .slice qD nD kD] 27, .blk g10 [.bool bA, .slice qA nA kA, .bool bB, .slice qB nB kB] 27, .blk g6 [.bool bC, .slice pc3 nC cc3, .bool bD, .slice pc4 nD cc4] 27, .blk g5 [.bool bA, .slice pc1 nA cc1, .bool bB, .slice pc2 nB cc2] 27, .rowm pc3 nC cc3 lc, .rowm pc4 nD cc4 ld, .rowm pc1 nA cc1 la, .rowm pc2 nB cc2 lb, .blk g3 [.bool bC, .slice qC nC kC, .bool bD, .slice qD nD kD] 27, .blk g1 [.bool bA, .slice qA nA kA, .bool bB, .slice qB nB kB] 27] w' ∧ (k ≤ n7)) (fun k => n7 - k) (0) ⟨_, _, act_sets (l := [(2, .pointer (some ⟨g1, 0, none⟩)), (3, .pointer (some ⟨g3, 0, none⟩)), (4, .bool false), (5, .pointer (some ⟨g5, 0, none⟩)), (6, .pointer (some ⟨g6, 0, none⟩)), (13, .pointer (some ⟨g21, 0, none⟩)), (19, .bool true), (96, .int .i64 (((n7 : Nat) : Int))), (97, .int .i64 0)]) ⟨rfl, rfl, rfl, rfl, rfl, rfl, rfl, rfl, rfl, trivial⟩, hS, Nat.zero_le _⟩ ?_
              clear hS; rintro k _ w33 ⟨fb, l7, rfl, hS, hk⟩
              refine wseq ?_
              refine wreg ?_
              by_cases hlt : k < n7
              ·
                refine wl rfl (obin (u := .int .i64 (((k : Nat) : Int))) (v := .int .i64 (((n7 : Nat) : Int))) (z := .bool true) rfl rfl (ev (v := .int .i64 (((k : Nat) : Int))) rfl rfl) (ev (v := .int .i64 (((n7 : Nat) : Int))) rfl rfl) (bin_lss (decide_eq_true (by omega))) ?_)
                refine wnil ?_
                refine thenN ?_
                refine wseq ?_
                refine wT (ev (v := .bool true) rfl rfl) ?_
                refine wskip ?_
                refine thenN ?_
                refine wseq ?_
                refine wblock ?_
                refine wseq ?_
                refine wreg ?_
                refine wl rfl (omove (v := .int .i64 (((k : Nat) : Int))) rfl rfl (ev (v := .int .i64 (((k : Nat) : Int))) rfl rfl) ?_)
                refine wl rfl (oassign (v := .int .i64 (((k : Nat) : Int))) rfl rfl (ev (v := .int .i64 (((k : Nat) : Int))) rfl rfl) ?_)
                refine wnil ?_
                refine thenN ?_
                refine wreg ?_
                refine wl rfl (ofieldAddr (g := g21) (off := 0) 0 rfl rfl (ev (v := .pointer (some ⟨g21, 0, none⟩)) rfl rfl) Try.runUnderlying27 rfl Try.sizeOf25 rfl ?_)
                refine wl rfl (ofieldAddr (g := g21) (off := 0) 1 rfl rfl (ev (v := .pointer (some ⟨g21, 0, none⟩)) rfl rfl) Try.runUnderlying25 rfl Try.sizeOf23 rfl ?_)
                refine wl rfl (oload1 (v := .slice p7 n7 c7) oneN hS 14 rfl rfl (ev rfl rfl) rfl rfl ?_)
                refine wl rfl (omove (v := .int .i64 (((k : Nat) : Int))) rfl rfl (ev (v := .int .i64 (((k : Nat) : Int))) rfl rfl) ?_)
                obtain ⟨gg, hp, _, _⟩ := (hS.rowmAt 15 rfl).pos (by omega)
                refine wl rfl (oindex (p := p7) (g := gg) (off := 0) (m := n7) (k := k) (j := k) rfl rfl Try.runUnderlying23 Try.sizeOf53 (ev (v := .slice p7 n7 c7) rfl rfl) (hp) (ev (v := .int .i64 (((k : Nat) : Int))) rfl rfl) (hlt) (by omega) ?_)
                refine wl rfl (ostoreRow (i := k) (u := 5) Try.sizeOf53 hS 15 rfl rfl (ev (v := .pointer (some ⟨gg, k, none⟩)) rfl rfl) (evc (v := .int .u32 ((5 : Nat) : Int))) rfl (hp) (hlt) (by omega) ?_)
                clear hS; intro w34 hS
                refine wnil ?_
                refine blkN ?_
                refine thenN ?_
                refine wreg ?_
                refine wl rfl (obin (u := .int .i64 (((k : Nat) : Int))) (v := .int .i64 1) (z := .int .i64 (((k + 1 : Nat) : Int))) rfl rfl (ev (v := .int .i64 (((k : Nat) : Int))) rfl rfl) (evc (v := .int .i64 1)) (bin_add (wrap_succ (by omega))) ?_)
                refine wl rfl (omove (v := .int .i64 (((k + 1 : Nat) : Int))) rfl rfl (ev (v := .int .i64 (((k + 1 : Nat) : Int))) rfl rfl) ?_)
                refine wnil ?_
                refine thenN ?_
                exact ⟨k + 1, ⟨_, _, act_sets (l := [(2, .pointer (some ⟨g1, 0, none⟩)), (3, .pointer (some ⟨g3, 0, none⟩)), (4, .bool false), (5, .pointer (some ⟨g5, 0, none⟩)), (6, .pointer (some ⟨g6, 0, none⟩)), (13, .pointer (some ⟨g21, 0, none⟩)), (19, .bool true), (96, .int .i64 (((n7 : Nat) : Int))), (97, .int .i64 (((k + 1 : Nat) : Int)))]) ⟨rfl, rfl, rfl, rfl, rfl, rfl, rfl, rfl, rfl, trivial⟩, hS.pick [0, 1, 2, 3, 4, 5, 6, 7, 8, 9, 10, 11, 12, 13, 14, 15, 16, 17, 18, 19, 20, 21, 22, 23, 24, 25, 26, 27, 28, 29] (by decide) rfl, by omega⟩, by omega⟩
              ·
                refine wl rfl (obin (u := .int .i64 (((k : Nat) : Int))) (v := .int .i64 (((n7 : Nat) : Int))) (z := .bool false) rfl rfl (ev (v := .int .i64 (((k : Nat) : Int))) rfl rfl) (ev (v := .int .i64 (((n7 : Nat) : Int))) rfl rfl) (bin_lss (decide_eq_false (by omega))) ?_)
                refine wnil ?_
                refine thenN ?_
                refine wseq ?_
                refine wF (ev (v := .bool false) rfl rfl) ?_
                refine wexit ?_
                refine thenE ?_
                refine thenE ?_
                refine blkE ?_
                refine thenN ?_
                refine wseq ?_
                refine wreg ?_
                refine wl rfl (omove (v := .bool true) rfl rfl (ev (v := .bool true) rfl rfl) ?_)
                refine wl rfl (omove (v := .bool true) rfl rfl (ev (v := .bool true) rfl rfl) ?_)
                refine wlOn (e := 107) rfl rfl rfl rfl (oload (vs := [.bool bA, .slice pc1 nA cc1, .bool bB, .slice pc2 nB cc2]) aggR hS 23 rfl rfl (ev rfl rfl) rfl rfl rfl ?_)
                refine wlOn (e := 107) rfl rfl rfl rfl (oload (vs := [.bool bA, .slice qA nA kA, .bool bB, .slice qB nB kB]) aggR hS 29 rfl rfl (ev rfl rfl) rfl rfl rfl ?_)
                refine wlOn (e := 107) rfl rfl rfl rfl (ocall rfl rfl Try.call13 rfl (wlsame5X (hS.slm 26 rfl) (hS.slm 27 rfl) (hsA.below hS.below (Nat.le_refl _)) (hsB.below hS.below (Nat.le_refl _))) (args2 (ev rfl rfl) (ev rfl rfl)) ?_)
                rintro _ w34 ⟨_, _, rfl, ⟨rfl, rfl⟩, hN⟩
                refine ⟨_, rfl, ?_⟩
                replace hS := hS.news hN; clear hN
                refine wl rfl (opick (b := true) (v := .bool true) rfl rfl (ev (v := .bool true) rfl rfl) (ev (v := .bool true) rfl rfl) ?_)
                refine wl rfl (omove (v := .bool true) rfl rfl (ev (v := .bool true) rfl rfl) ?_)
                refine wlOn (e := 112) rfl rfl rfl rfl (oload (vs := [.bool bC, .slice pc3 nC cc3, .bool bD, .slice pc4 nD cc4]) aggR hS 22 rfl rfl (ev rfl rfl) rfl rfl rfl ?_)
                refine wlOn (e := 112) rfl rfl rfl rfl (oload (vs := [.bool bC, .slice qC nC kC, .bool bD, .slice qD nD kD]) aggR hS 28 rfl rfl (ev rfl rfl) rfl rfl rfl ?_)
                refine wlOn (e := 112) rfl rfl rfl rfl (ocall rfl rfl Try.call13 rfl (wlsame5X (hS.slm 24 rfl) (hS.slm 25 rfl) (hsC.below hS.below (Nat.le_refl _)) (hsD.below hS.below (Nat.le_refl _))) (args2 (ev rfl rfl) (ev rfl rfl)) ?_)
                rintro _ w35 ⟨_, _, rfl, ⟨rfl, rfl⟩, hN⟩
                refine ⟨_, rfl, ?_⟩
                replace hS := hS.news hN; clear hN
                refine wl rfl (opick (b := true) (v := .bool true) rfl rfl (ev (v := .bool true) rfl rfl) (ev (v := .bool true) rfl rfl) ?_)
                refine wl rfl (omove (v := .bool true) rfl rfl (ev (v := .bool true) rfl rfl) ?_)
                refine wlOn (e := 117) rfl rfl rfl rfl (ocall rfl rfl Try.call15 rfl (wllives5) (args0 ) ?_)
                rintro _ w36 ⟨_, _, rfl, ⟨rfl, rfl⟩, hN⟩
                refine ⟨_, rfl, ?_⟩
                replace hS := hS.news hN; clear hN
                refine wl rfl (opick (b := true) (v := .bool true) rfl rfl (ev (v := .bool true) rfl rfl) (ev (v := .bool true) rfl rfl) ?_)
                refine wl rfl (oassign (v := .bool true) rfl rfl (ev (v := .bool true) rfl rfl) ?_)
                refine wnil ?_
                refine thenN ?_
                refine wleave ?_
                refine wret1 Try.results5 (tellT (v := .bool true) rfl rfl) ?_
                exact ⟨_, _, rfl, isI, hS.new0⟩

theorem rsums_law {bA bB bC bD : Bool} {qA qB qC qD : Option Addr} {nA kA nB kB nC kC nD kD : Nat} {la lb lc ld : List Nat} {w : World} (hsA : Sl w qA nA kA la) (hsB : Sl w qB nB kB lb) (hsC : Sl w qC nC kC lc) (hsD : Sl w qD nD kD ld) (hnA : nA ≤ 1048576 ∧ nB ≤ 1048576) (hnC : nC ≤ 1048576 ∧ nD ≤ 1048576) :
    Calls Try.prog 5 #[.agg #[.bool bA, .slice qA nA kA, .bool bB, .slice qB nB kB], .agg #[.bool bC, .slice qC nC kC, .bool bD, .slice qD nD kD]] w (RetB w true) :=
  (rsums_w hsA hsB hsC hsD hnA hnC).mono Ret.b

end Go.Proofs.Ytoinfkimlhhmpaa
