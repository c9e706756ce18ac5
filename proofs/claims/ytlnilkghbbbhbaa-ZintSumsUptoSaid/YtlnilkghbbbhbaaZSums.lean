
/-
  The walk of similelaw03.ZintSums.
-/
import Derived.Test.YtlnilkghbbbhbaaWA
namespace Go.Proofs.Ytlnilkghbbbhbaa
open Go.RowKit

set_option maxRecDepth 100000 in
theorem zsums_w {b b2 : Bool} {p q : Option Addr} {n m c d : Nat} {xs ys : List Nat} {w : World} (hx : Sl w p n c xs) (hy : Sl w q m d ys) (hn : n ≤ 1048576) (hm : m ≤ 1048576) :
    Calls Try.prog 3 #[.agg #[.bool b, .slice p n c], .agg #[.bool b2, .slice q m d]] w (Ret (Is (.bool true)) w) := by
  obtain ⟨x, hex⟩ : ∃ x : Int, zv b (val xs) = x := ⟨_, rfl⟩
  obtain ⟨y, hey⟩ : ∃ y : Int, zv b2 (val ys) = y := ⟨_, rfl⟩
  have hzx : Zr w b p n c x 1048576 := ⟨xs, hx, hex, hn⟩
  have hzy : Zr w b2 q m d y 1048576 := ⟨ys, hy, hey, hm⟩
  have hS := Sep.init w
  refine went Try.func3 rfl (n := 91) rfl rfl ?_
  refine wseq ?_
  refine wreg ?_
  refine wl rfl (obox [.bool b, .slice p n c] hS rfl rfl (ev (v := .agg #[.bool b, .slice p n c]) rfl rfl) rfl ?_)
  clear hS; intro g1 w2 hS
  refine wl rfl (obox [.bool b2, .slice q m d] hS rfl rfl (ev (v := .agg #[.bool b2, .slice q m d]) rfl rfl) rfl ?_)
  clear hS; intro g3 w4 hS
  refine wl rfl (oassign (v := .bool false) rfl rfl (evc (v := .bool false)) ?_)
  refine wnil ?_
  refine thenN ?_
  refine wseq ?_
  refine wstage 6 [13, 14, 15, 16, 5, 6] [[], [0], [], [0, 1, 2], [], []] [[], [], [], [], [], []] [] (fun i => ([fun _ => Is (.agg #[.bool b, .slice p n c]), fun _ => Cpt b n xs, fun _ => Is (.agg #[.bool b2, .slice q m d]), fun _ => Cpt b2 m ys, fun _ => Ptr [.bool false, .slice none 0 0] 25, fun _ => Ptr [.bool false, .slice none 0 0] 25] : List (List Value → Tell)).getD i (fun _ _ _ => False)) (fun d _ _ _ _ h => (by cases d <;> exact h)) (by kernel_rfl) (by kernel_rfl) (by kernel_rfl) hS ?_ ?_
  ·
    refine stepsCons rfl ?_ ?_
    · intro f' w' ρ S ho hT hS
      replace hS : Sep w ([.blk g3 [.bool b2, .slice q m d] 25, .blk g1 [.bool b, .slice p n c] 25] ++ S) w' := by simpa using hS
      exact .inl ⟨want_none rfl, oload (vs := [.bool b, .slice p n c]) aggZ hS 1 rfl rfl (ev (v := .pointer (some ⟨g1, 0, none⟩)) rfl (ho 2 rfl)) rfl rfl rfl ⟨_, _, rfl, isI, New.same _⟩⟩
    refine stepsCons rfl ?_ ?_
    · intro f' w' ρ S ho hT hS
      obtain ⟨hv0, hr0⟩ := (hT 0 13 rfl rfl : (Is (.agg #[.bool b, .slice p n c])) (f' 13) (ρ 0))
      replace hS : Sep w ([.blk g3 [.bool b2, .slice q m d] 25, .blk g1 [.bool b, .slice p n c] 25] ++ S) w' := by simpa [hr0] using hS
      refine .inl ⟨want_none rfl, ocall rfl rfl Try.call10 rfl (args1 (ev (v := .agg #[.bool b, .slice p n c]) rfl hv0)) (wqcopy (hx.below hS.below (Nat.le_refl _)) (by omega)) ?_⟩
      rintro _ w9 ⟨_, _, rfl, hTT, hN⟩
      exact ⟨_, rfl, _, _, rfl, hTT, hN⟩
    refine stepsCons rfl ?_ ?_
    · intro f' w' ρ S ho hT hS
      replace hS : Sep w ([.blk g3 [.bool b2, .slice q m d] 25, .blk g1 [.bool b, .slice p n c] 25] ++ S) w' := by simpa using hS
      exact .inl ⟨want_none rfl, oload (vs := [.bool b2, .slice q m d]) aggZ hS 0 rfl rfl (ev (v := .pointer (some ⟨g3, 0, none⟩)) rfl (ho 3 rfl)) rfl rfl rfl ⟨_, _, rfl, isI, New.same _⟩⟩
    refine stepsCons rfl ?_ ?_
    · intro f' w' ρ S ho hT hS
      obtain ⟨hv0, hr0⟩ := (hT 0 13 rfl rfl : (Is (.agg #[.bool b, .slice p n c])) (f' 13) (ρ 0))
      obtain ⟨pc1, cc1, hv1, hr1⟩ := (hT 1 14 rfl rfl : (Cpt b n xs) (f' 14) (ρ 1))
      obtain ⟨hv2, hr2⟩ := (hT 2 15 rfl rfl : (Is (.agg #[.bool b2, .slice q m d])) (f' 15) (ρ 2))
      replace hS : Sep w ([.blk g3 [.bool b2, .slice q m d] 25, .blk g1 [.bool b, .slice p n c] 25, .row pc1 n cc1 xs] ++ S) w' := by simpa [hr0, hr1, hr2] using hS
      refine .inl ⟨want_none rfl, ocall rfl rfl Try.call10 rfl (args1 (ev (v := .agg #[.bool b2, .slice q m d]) rfl hv2)) (wqcopy (hy.below hS.below (Nat.le_refl _)) (by omega)) ?_⟩
      rintro _ w9 ⟨_, _, rfl, hTT, hN⟩
      exact ⟨_, rfl, _, _, rfl, hTT, hN⟩
    refine stepsCons rfl ?_ ?_
    · intro f' w' ρ S ho hT hS
      replace hS : Sep w ([.blk g3 [.bool b2, .slice q m d] 25, .blk g1 [.bool b, .slice p n c] 25] ++ S) w' := by simpa using hS
      exact .inl ⟨want_none rfl, oallocN [.bool false, .slice none 0 0] rfl rfl Try.zeroValue25 rfl ⟨_, _, rfl, ptrI, New.blk _ _ _⟩⟩
    refine stepsCons rfl ?_ ?_
    · intro f' w' ρ S ho hT hS
      replace hS : Sep w ([.blk g3 [.bool b2, .slice q m d] 25, .blk g1 [.bool b, .slice p n c] 25] ++ S) w' := by simpa using hS
      exact .inl ⟨want_none rfl, oallocN [.bool false, .slice none 0 0] rfl rfl Try.zeroValue25 rfl ⟨_, _, rfl, ptrI, New.blk _ _ _⟩⟩
    exact stepsNil
  ·
    intro vs ρ w7 f' hf hT hS
    obtain ⟨hv0, hr0⟩ := (hT 0 (by decide) : (Is (.agg #[.bool b, .slice p n c])) (vs 0) (ρ 0))
    obtain ⟨pc1, cc1, hv1, hr1⟩ := (hT 1 (by decide) : (Cpt b n xs) (vs 1) (ρ 1))
    obtain ⟨hv2, hr2⟩ := (hT 2 (by decide) : (Is (.agg #[.bool b2, .slice q m d])) (vs 2) (ρ 2))
    obtain ⟨pc2, cc2, hv3, hr3⟩ := (hT 3 (by decide) : (Cpt b2 m ys) (vs 3) (ρ 3))
    obtain ⟨g5, hv4, hr4⟩ := (hT 4 (by decide) : (Ptr [.bool false, .slice none 0 0] 25) (vs 4) (ρ 4))
    obtain ⟨g6, hv5, hr5⟩ := (hT 5 (by decide) : (Ptr [.bool false, .slice none 0 0] 25) (vs 5) (ρ 5))
    simp only [pool, if_true, hr0, hr1, hr2, hr3, hr4, hr5, List.nil_append, List.cons_append, List.append_nil] at hS
    replace hS : Sep w [.blk g6 [.bool false, .slice none 0 0] 25, .blk g5 [.bool false, .slice none 0 0] 25, .row pc2 m cc2 ys, .row pc1 n cc1 xs, .blk g3 [.bool b2, .slice q m d] 25, .blk g1 [.bool b, .slice p n c] 25] w7 := hS
    simp only [layf, hv0, hv1, hv2, hv3, hv4, hv5] at hf
    subst hf; clear hT hv0 hv1 hv2 hv3 hv4 hv5 hr0 hr1 hr2 hr3 hr4 hr5
    refine wlate 6 rfl (by kernel_rfl) (ostore [.bool b, .slice pc1 n cc1] [.bool b, .slice pc1 n cc1] Try.sizeOf25 hS 1 rfl rfl (ev (v := .pointer (some ⟨g5, 0, none⟩)) rfl rfl) (ev (v := .agg #[.bool b, .slice pc1 n cc1]) rfl rfl) rfl rfl rfl rfl rfl rfl ?_)
    intro w8 hY; clear hS; have hS : Sep w [.blk g6 [.bool false, .slice none 0 0] 25, .blk g5 [.bool b, .slice pc1 n cc1] 25, .row pc2 m cc2 ys, .row pc1 n cc1 xs, .blk g3 [.bool b2, .slice q m d] 25, .blk g1 [.bool b, .slice p n c] 25] w8 := hY; clear hY
    refine wlate 7 rfl (by kernel_rfl) (ostore [.bool b2, .slice pc2 m cc2] [.bool b2, .slice pc2 m cc2] Try.sizeOf25 hS 0 rfl rfl (ev (v := .pointer (some ⟨g6, 0, none⟩)) rfl rfl) (ev (v := .agg #[.bool b2, .slice pc2 m cc2]) rfl rfl) rfl rfl rfl rfl rfl rfl ?_)
    intro w9 hY; clear hS; have hS : Sep w [.blk g6 [.bool b2, .slice pc2 m cc2] 25, .blk g5 [.bool b, .slice pc1 n cc1] 25, .row pc2 m cc2 ys, .row pc1 n cc1 xs, .blk g3 [.bool b2, .slice q m d] 25, .blk g1 [.bool b, .slice p n c] 25] w9 := hY; clear hY
    refine wdone rfl ?_
    refine thenN ?_
    refine wseq ?_
    obtain ⟨z3, hz3⟩ : ∃ z : Int, Hid (x + y = z) := ⟨_, rfl⟩
    have hk3 : Wd z3 1048577 := Wd.add hzx.wd hzy.wd hz3 (by omega)
    obtain ⟨z4, hz4⟩ : ∃ z : Int, Hid (x + y = z) := ⟨_, rfl⟩
    have hk4 : Wd z4 1048577 := Wd.add hzx.wd hzy.wd hz4 (by omega)
    refine wstage 8 [17, 18, 19, 20, 21, 22, 7, 8] [[], [], [0, 1], [], [], [0, 1, 2, 3, 4], [], []] [[], [], [], [], [], [], [], []] [] (fun i => ([fun _ => Is (.agg #[.bool b, .slice pc1 n cc1]), fun _ => Is (.agg #[.bool b2, .slice pc2 m cc2]), fun _ => Zm z3, fun _ => Is (.agg #[.bool b, .slice pc1 n cc1]), fun _ => Is (.agg #[.bool b2, .slice pc2 m cc2]), fun _ => Zt z4, fun _ => Ptr [.bool false, .slice none 0 0] 25, fun _ => Ptr [.bool false, .slice none 0 0] 25] : List (List Value → Tell)).getD i (fun _ _ _ => False)) (fun d _ _ _ _ h => (by cases d <;> exact h)) (by kernel_rfl) (by kernel_rfl) (by kernel_rfl) hS ?_ ?_
    ·
      refine stepsCons rfl ?_ ?_
      · intro f' w' ρ S ho hT hS
        replace hS : Sep w ([.blk g6 [.bool b2, .slice pc2 m cc2] 25, .blk g5 [.bool b, .slice pc1 n cc1] 25, .row pc2 m cc2 ys, .row pc1 n cc1 xs, .blk g3 [.bool b2, .slice q m d] 25, .blk g1 [.bool b, .slice p n c] 25] ++ S) w' := by simpa using hS
        exact .inl ⟨want_none rfl, oload (vs := [.bool b, .slice pc1 n cc1]) aggZ hS 1 rfl rfl (ev (v := .pointer (some ⟨g5, 0, none⟩)) rfl (ho 5 rfl)) rfl rfl rfl ⟨_, _, rfl, isI, New.same _⟩⟩
      refine stepsCons rfl ?_ ?_
      · intro f' w' ρ S ho hT hS
        replace hS : Sep w ([.blk g6 [.bool b2, .slice pc2 m cc2] 25, .blk g5 [.bool b, .slice pc1 n cc1] 25, .row pc2 m cc2 ys, .row pc1 n cc1 xs, .blk g3 [.bool b2, .slice q m d] 25, .blk g1 [.bool b, .slice p n c] 25] ++ S) w' := by simpa using hS
        exact .inl ⟨want_none rfl, oload (vs := [.bool b2, .slice pc2 m cc2]) aggZ hS 0 rfl rfl (ev (v := .pointer (some ⟨g6, 0, none⟩)) rfl (ho 6 rfl)) rfl rfl rfl ⟨_, _, rfl, isI, New.same _⟩⟩
      refine stepsCons rfl ?_ ?_
      · intro f' w' ρ S ho hT hS
        obtain ⟨hv0, hr0⟩ := (hT 0 17 rfl rfl : (Is (.agg #[.bool b, .slice pc1 n cc1])) (f' 17) (ρ 0))
        obtain ⟨hv1, hr1⟩ := (hT 1 18 rfl rfl : (Is (.agg #[.bool b2, .slice pc2 m cc2])) (f' 18) (ρ 1))
        replace hS : Sep w ([.blk g6 [.bool b2, .slice pc2 m cc2] 25, .blk g5 [.bool b, .slice pc1 n cc1] 25, .row pc2 m cc2 ys, .row pc1 n cc1 xs, .blk g3 [.bool b2, .slice q m d] 25, .blk g1 [.bool b, .slice p n c] 25] ++ S) w' := by simpa [hr0, hr1] using hS
        refine .inl ⟨want_none rfl, ocall rfl rfl Try.call11 rfl (args2 (ev (v := .agg #[.bool b, .slice pc1 n cc1]) rfl hv0) (ev (v := .agg #[.bool b2, .slice pc2 m cc2]) rfl hv1)) ((wzadd ((show Zr _ _ _ _ _ x 1048576 from ⟨_, hS.sl 3 rfl, hex, hn⟩).mono (by omega)) ((show Zr _ _ _ _ _ y 1048576 from ⟨_, hS.sl 2 rfl, hey, hm⟩).mono (by omega)) hz3).mono Zt.m) ?_⟩
        rintro _ w9 ⟨_, _, rfl, hTT, hN⟩
        exact ⟨_, rfl, _, _, rfl, hTT, hN⟩
      refine stepsCons rfl ?_ ?_
      · intro f' w' ρ S ho hT hS
        replace hS : Sep w ([.blk g6 [.bool b2, .slice pc2 m cc2] 25, .blk g5 [.bool b, .slice pc1 n cc1] 25, .row pc2 m cc2 ys, .row pc1 n cc1 xs, .blk g3 [.bool b2, .slice q m d] 25, .blk g1 [.bool b, .slice p n c] 25] ++ S) w' := by simpa using hS
        exact .inl ⟨want_none rfl, oload (vs := [.bool b, .slice pc1 n cc1]) aggZ hS 1 rfl rfl (ev (v := .pointer (some ⟨g5, 0, none⟩)) rfl (ho 5 rfl)) rfl rfl rfl ⟨_, _, rfl, isI, New.same _⟩⟩
      refine stepsCons rfl ?_ ?_
      · intro f' w' ρ S ho hT hS
        replace hS : Sep w ([.blk g6 [.bool b2, .slice pc2 m cc2] 25, .blk g5 [.bool b, .slice pc1 n cc1] 25, .row pc2 m cc2 ys, .row pc1 n cc1 xs, .blk g3 [.bool b2, .slice q m d] 25, .blk g1 [.bool b, .slice p n c] 25] ++ S) w' := by simpa using hS
        exact .inl ⟨want_none rfl, oload (vs := [.bool b2, .slice pc2 m cc2]) aggZ hS 0 rfl rfl (ev (v := .pointer (some ⟨g6, 0, none⟩)) rfl (ho 6 rfl)) rfl rfl rfl ⟨_, _, rfl, isI, New.same _⟩⟩
      refine stepsCons rfl ?_ ?_
      · intro f' w' ρ S ho hT hS
        obtain ⟨hv0, hr0⟩ := (hT 0 17 rfl rfl : (Is (.agg #[.bool b, .slice pc1 n cc1])) (f' 17) (ρ 0))
        obtain ⟨hv1, hr1⟩ := (hT 1 18 rfl rfl : (Is (.agg #[.bool b2, .slice pc2 m cc2])) (f' 18) (ρ 1))
        obtain ⟨p3, n3, c3, hv2, hr2⟩ := (hT 2 19 rfl rfl : (Zm z3) (f' 19) (ρ 2))
        obtain ⟨hv3, hr3⟩ := (hT 3 20 rfl rfl : (Is (.agg #[.bool b, .slice pc1 n cc1])) (f' 20) (ρ 3))
        obtain ⟨hv4, hr4⟩ := (hT 4 21 rfl rfl : (Is (.agg #[.bool b2, .slice pc2 m cc2])) (f' 21) (ρ 4))
        replace hS : Sep w ([.blk g6 [.bool b2, .slice pc2 m cc2] 25, .blk g5 [.bool b, .slice pc1 n cc1] 25, .row pc2 m cc2 ys, .row pc1 n cc1 xs, .blk g3 [.bool b2, .slice q m d] 25, .blk g1 [.bool b, .slice p n c] 25, .rowm p3 n3 c3 (lim z3.natAbs)] ++ S) w' := by simpa [hr0, hr1, hr2, hr3, hr4] using hS
        refine .inl ⟨want_none rfl, ocall rfl rfl Try.call11 rfl (args2 (ev (v := .agg #[.bool b, .slice pc1 n cc1]) rfl hv3) (ev (v := .agg #[.bool b2, .slice pc2 m cc2]) rfl hv4)) (wzadd ((show Zr _ _ _ _ _ x 1048576 from ⟨_, hS.sl 3 rfl, hex, hn⟩).mono (by omega)) ((show Zr _ _ _ _ _ y 1048576 from ⟨_, hS.sl 2 rfl, hey, hm⟩).mono (by omega)) hz4) ?_⟩
        rintro _ w9 ⟨_, _, rfl, hTT, hN⟩
        exact ⟨_, rfl, _, _, rfl, hTT, hN⟩
      refine stepsCons rfl ?_ ?_
      · intro f' w' ρ S ho hT hS
        replace hS : Sep w ([.blk g6 [.bool b2, .slice pc2 m cc2] 25, .blk g5 [.bool b, .slice pc1 n cc1] 25, .row pc2 m cc2 ys, .row pc1 n cc1 xs, .blk g3 [.bool b2, .slice q m d] 25, .blk g1 [.bool b, .slice p n c] 25] ++ S) w' := by simpa using hS
        exact .inl ⟨want_none rfl, oallocN [.bool false, .slice none 0 0] rfl rfl Try.zeroValue25 rfl ⟨_, _, rfl, ptrI, New.blk _ _ _⟩⟩
      refine stepsCons rfl ?_ ?_
      · intro f' w' ρ S ho hT hS
        replace hS : Sep w ([.blk g6 [.bool b2, .slice pc2 m cc2] 25, .blk g5 [.bool b, .slice pc1 n cc1] 25, .row pc2 m cc2 ys, .row pc1 n cc1 xs, .blk g3 [.bool b2, .slice q m d] 25, .blk g1 [.bool b, .slice p n c] 25] ++ S) w' := by simpa using hS
        exact .inl ⟨want_none rfl, oallocN [.bool false, .slice none 0 0] rfl rfl Try.zeroValue25 rfl ⟨_, _, rfl, ptrI, New.blk _ _ _⟩⟩
      exact stepsNil
    ·
      intro vs ρ w12 f' hf hT hS
      obtain ⟨hv0, hr0⟩ := (hT 0 (by decide) : (Is (.agg #[.bool b, .slice pc1 n cc1])) (vs 0) (ρ 0))
      obtain ⟨hv1, hr1⟩ := (hT 1 (by decide) : (Is (.agg #[.bool b2, .slice pc2 m cc2])) (vs 1) (ρ 1))
      obtain ⟨p3, n3, c3, hv2, hr2⟩ := (hT 2 (by decide) : (Zm z3) (vs 2) (ρ 2))
      obtain ⟨hv3, hr3⟩ := (hT 3 (by decide) : (Is (.agg #[.bool b, .slice pc1 n cc1])) (vs 3) (ρ 3))
      obtain ⟨hv4, hr4⟩ := (hT 4 (by decide) : (Is (.agg #[.bool b2, .slice pc2 m cc2])) (vs 4) (ρ 4))
      obtain ⟨p4, n4, c4, hv5, hr5⟩ := (hT 5 (by decide) : (Zt z4) (vs 5) (ρ 5))
      obtain ⟨g10, hv6, hr6⟩ := (hT 6 (by decide) : (Ptr [.bool false, .slice none 0 0] 25) (vs 6) (ρ 6))
      obtain ⟨g11, hv7, hr7⟩ := (hT 7 (by decide) : (Ptr [.bool false, .slice none 0 0] 25) (vs 7) (ρ 7))
      simp only [pool, if_true, hr0, hr1, hr2, hr3, hr4, hr5, hr6, hr7, List.nil_append, List.cons_append, List.append_nil] at hS
      replace hS : Sep w [.blk g11 [.bool false, .slice none 0 0] 25, .blk g10 [.bool false, .slice none 0 0] 25, .row p4 n4 c4 (lim z4.natAbs), .rowm p3 n3 c3 (lim z3.natAbs), .blk g6 [.bool b2, .slice pc2 m cc2] 25, .blk g5 [.bool b, .slice pc1 n cc1] 25, .row pc2 m cc2 ys, .row pc1 n cc1 xs, .blk g3 [.bool b2, .slice q m d] 25, .blk g1 [.bool b, .slice p n c] 25] w12 := hS
      simp only [layf, hv0, hv1, hv2, hv3, hv4, hv5, hv6, hv7] at hf
      subst hf; clear hT hv0 hv1 hv2 hv3 hv4 hv5 hv6 hv7 hr0 hr1 hr2 hr3 hr4 hr5 hr6 hr7
      refine wlate 8 rfl (by kernel_rfl) (ostore [.bool (ng z3), .slice p3 n3 c3] [.bool (ng z3), .slice p3 n3 c3] Try.sizeOf25 hS 1 rfl rfl (ev (v := .pointer (some ⟨g10, 0, none⟩)) rfl rfl) (ev (v := .agg #[.bool (ng z3), .slice p3 n3 c3]) rfl rfl) rfl rfl rfl rfl rfl rfl ?_)
      intro w13 hY; clear hS; have hS : Sep w [.blk g11 [.bool false, .slice none 0 0] 25, .blk g10 [.bool (ng z3), .slice p3 n3 c3] 25, .row p4 n4 c4 (lim z4.natAbs), .rowm p3 n3 c3 (lim z3.natAbs), .blk g6 [.bool b2, .slice pc2 m cc2] 25, .blk g5 [.bool b, .slice pc1 n cc1] 25, .row pc2 m cc2 ys, .row pc1 n cc1 xs, .blk g3 [.bool b2, .slice q m d] 25, .blk g1 [.bool b, .slice p n c] 25] w13 := hY; clear hY
      refine wlate 9 rfl (by kernel_rfl) (ostore [.bool (ng z4), .slice p4 n4 c4] [.bool (ng z4), .slice p4 n4 c4] Try.sizeOf25 hS 0 rfl rfl (ev (v := .pointer (some ⟨g11, 0, none⟩)) rfl rfl) (ev (v := .agg #[.bool (ng z4), .slice p4 n4 c4]) rfl rfl) rfl rfl rfl rfl rfl rfl ?_)
      intro w14 hY; clear hS; have hS : Sep w [.blk g11 [.bool (ng z4), .slice p4 n4 c4] 25, .blk g10 [.bool (ng z3), .slice p3 n3 c3] 25, .row p4 n4 c4 (lim z4.natAbs), .rowm p3 n3 c3 (lim z3.natAbs), .blk g6 [.bool b2, .slice pc2 m cc2] 25, .blk g5 [.bool b, .slice pc1 n cc1] 25, .row pc2 m cc2 ys, .row pc1 n cc1 xs, .blk g3 [.bool b2, .slice q m d] 25, .blk g1 [.bool b, .slice p n c] 25] w14 := hY; clear hY
      refine wdone rfl ?_
      refine thenN ?_
      refine wseq ?_
      refine wreg ?_
      refine wl rfl (oload (vs := [.bool b, .slice p n c]) aggZ hS 9 rfl rfl (ev (v := .pointer (some ⟨g1, 0, none⟩)) rfl rfl) rfl rfl rfl ?_)
      refine wl rfl (oload (vs := [.bool b2, .slice q m d]) aggZ hS 8 rfl rfl (ev (v := .pointer (some ⟨g3, 0, none⟩)) rfl rfl) rfl rfl rfl ?_)
      obtain ⟨z5, hz5⟩ : ∃ z : Int, Hid (x + y = z) := ⟨_, rfl⟩
      have hk5 : Wd z5 1048577 := Wd.add hzx.wd hzy.wd hz5 (by omega)
      refine wl rfl (ocall rfl rfl Try.call12 rfl (args2 (ev (v := .agg #[.bool b, .slice p n c]) rfl rfl) (ev (v := .agg #[.bool b2, .slice q m d]) rfl rfl)) (wqadd ((hzx.at hS).mono (by omega)) ((hzy.at hS).mono (by omega)) hz5) ?_)
      rintro _ w15 ⟨_, _, rfl, ⟨p5, n5, c5, rfl, rfl⟩, hN⟩
      refine ⟨_, rfl, ?_⟩
      replace hS : Sep w [.row p5 n5 c5 (lim z5.natAbs), .blk g11 [.bool (ng z4), .slice p4 n4 c4] 25, .blk g10 [.bool (ng z3), .slice p3 n3 c3] 25, .row p4 n4 c4 (lim z4.natAbs), .rowm p3 n3 c3 (lim z3.natAbs), .blk g6 [.bool b2, .slice pc2 m cc2] 25, .blk g5 [.bool b, .slice pc1 n cc1] 25, .row pc2 m cc2 ys, .row pc1 n cc1 xs, .blk g3 [.bool b2, .slice q m d] 25, .blk g1 [.bool b, .slice p n c] 25] w15 := hS.news hN; clear hN
      refine wl rfl (oalloc [.bool false, .slice none 0 0] hS rfl rfl Try.zeroValue25 rfl ?_)
      clear hS; intro g16 w17 hS
      refine wl rfl (ostore [.bool (ng z5), .slice p5 n5 c5] [.bool (ng z5), .slice p5 n5 c5] Try.sizeOf25 hS 0 rfl rfl (ev (v := .pointer (some ⟨g16, 0, none⟩)) rfl rfl) (ev (v := .agg #[.bool (ng z5), .slice p5 n5 c5]) rfl rfl) rfl rfl rfl rfl rfl rfl ?_)
      intro w18 hY; clear hS; have hS : Sep w [.blk g16 [.bool (ng z5), .slice p5 n5 c5] 25, .row p5 n5 c5 (lim z5.natAbs), .blk g11 [.bool (ng z4), .slice p4 n4 c4] 25, .blk g10 [.bool (ng z3), .slice p3 n3 c3] 25, .row p4 n4 c4 (lim z4.natAbs), .rowm p3 n3 c3 (lim z3.natAbs), .blk g6 [.bool b2, .slice pc2 m cc2] 25, .blk g5 [.bool b, .slice pc1 n cc1] 25, .row pc2 m cc2 ys, .row pc1 n cc1 xs, .blk g3 [.bool b2, .slice q m d] 25, .blk g1 [.bool b, .slice p n c] 25] w18 := hY; clear hY
      refine wnil ?_
      refine thenN ?_
      refine wseq ?_
      refine wseq ?_
      obtain ⟨z6, hz6⟩ : ∃ z : Int, Hid (x - y = z) := ⟨_, rfl⟩
      have hk6 : Wd z6 1048577 := Wd.sub hzx.wd hzy.wd hz6 (by omega)
      obtain ⟨z7, hz7⟩ : ∃ z : Int, Hid (x - y = z) := ⟨_, rfl⟩
      have hk7 : Wd z7 1048577 := Wd.sub hzx.wd hzy.wd hz7 (by omega)
      obtain ⟨z8, hz8⟩ : ∃ z : Int, Hid (x * y = z) := ⟨_, rfl⟩
      have hk8 : Wd z8 2097152 := Wd.mul hzx.wd hzy.wd hz8 (by omega)
      obtain ⟨z9, hz9⟩ : ∃ z : Int, Hid (x * y = z) := ⟨_, rfl⟩
      have hk9 : Wd z9 2097152 := Wd.mul hzx.wd hzy.wd hz9 (by omega)
      refine wstage 24 [26, 27, 28, 29, 30, 31, 32, 33, 34, 35, 36, 37, 38, 39, 40, 41, 42, 43, 44, 45, 46, 47, 48, 49] [[], [], [0, 1], [0, 1, 2], [0, 1, 2, 3], [0, 1, 2, 3, 4], [0, 1, 2, 3, 4], [0, 1, 2, 3, 4, 5, 6], [0, 1, 2, 3, 4], [0, 1, 2, 3, 4], [0, 1, 2, 3, 4, 5, 6, 7, 8, 9], [0, 1, 2, 3, 4, 5, 6, 7, 8, 9, 10], [0, 1, 2, 3, 4, 5, 6, 7, 8, 9, 10, 11], [0, 1, 2, 3, 4, 5, 6, 7, 8, 9, 10, 11, 12], [0, 1, 2, 3, 4, 5, 6, 7, 8, 9, 10, 11, 12, 13], [0, 1, 2, 3, 4, 5, 6, 7, 8, 9, 10, 11, 12, 13, 14], [0, 1, 2, 3, 4, 5, 6, 7, 8, 9, 10, 11, 12, 13, 14], [0, 1, 2, 3, 4, 5, 6, 7, 8, 9, 10, 11, 12, 13, 14, 15, 16], [0, 1, 2, 3, 4, 5, 6, 7, 8, 9, 10, 11, 12, 13, 14], [0, 1, 2, 3, 4, 5, 6, 7, 8, 9, 10, 11, 12, 13, 14], [0, 1, 2, 3, 4, 5, 6, 7, 8, 9, 10, 11, 12, 13, 14, 15, 16, 17, 18, 19], [0, 1, 2, 3, 4, 5, 6, 7, 8, 9, 10, 11, 12, 13, 14, 15, 16, 17, 18, 19, 20], [0, 1, 2, 3, 4, 5, 6, 7, 8, 9, 10, 11, 12, 13, 14, 15, 16, 17, 18, 19, 20, 21], [0, 1, 2, 3, 4, 5, 6, 7, 8, 9, 10, 11, 12, 13, 14, 15, 16, 17, 18, 19, 20, 21, 22]] [[], [], [], [], [], [], [], [], [], [], [], [], [], [], [], [], [], [], [], [], [], [], [], []] [] (fun i => ([fun _ => Is (.agg #[.bool (ng z3), .slice p3 n3 c3]), fun _ => Is (.agg #[.bool (ng z5), .slice p5 n5 c5]), fun _ => Is (.bool true), fun _ => Is (.bool false), fun _ => Is (.bool false), fun _ => Is (.agg #[.bool b, .slice pc1 n cc1]), fun _ => Is (.agg #[.bool b2, .slice pc2 m cc2]), fun _ => Zt z6, fun _ => Is (.agg #[.bool b, .slice p n c]), fun _ => Is (.agg #[.bool b2, .slice q m d]), fun _ => Zt z7, fun _ => Is (.bool true), fun _ => Is (.bool false), fun _ => Is (.bool false), fun _ => Is (.bool false), fun _ => Is (.agg #[.bool b, .slice pc1 n cc1]), fun _ => Is (.agg #[.bool b2, .slice pc2 m cc2]), fun _ => Zt z8, fun _ => Is (.agg #[.bool b, .slice p n c]), fun _ => Is (.agg #[.bool b2, .slice q m d]), fun _ => Zt z9, fun _ => Is (.bool true), fun _ => Is (.bool false), fun _ => Is (.bool false)] : List (List Value → Tell)).getD i (fun _ _ _ => False)) (fun d _ _ _ _ h => (by cases d <;> exact h)) (by kernel_rfl) (by kernel_rfl) (by kernel_rfl) hS ?_ ?_
      ·
        refine stepsCons rfl ?_ ?_
        · intro f' w' ρ S ho hT hS
          replace hS : Sep w ([.blk g16 [.bool (ng z5), .slice p5 n5 c5] 25, .row p5 n5 c5 (lim z5.natAbs), .blk g11 [.bool (ng z4), .slice p4 n4 c4] 25, .blk g10 [.bool (ng z3), .slice p3 n3 c3] 25, .row p4 n4 c4 (lim z4.natAbs), .rowm p3 n3 c3 (lim z3.natAbs), .blk g6 [.bool b2, .slice pc2 m cc2] 25, .blk g5 [.bool b, .slice pc1 n cc1] 25, .row pc2 m cc2 ys, .row pc1 n cc1 xs, .blk g3 [.bool b2, .slice q m d] 25, .blk g1 [.bool b, .slice p n c] 25] ++ S) w' := by simpa using hS
          exact .inl ⟨want_none rfl, oload (vs := [.bool (ng z3), .slice p3 n3 c3]) aggZ hS 3 rfl rfl (ev (v := .pointer (some ⟨g10, 0, none⟩)) rfl (ho 7 rfl)) rfl rfl rfl ⟨_, _, rfl, isI, New.same _⟩⟩
        refine stepsCons rfl ?_ ?_
        · intro f' w' ρ S ho hT hS
          replace hS : Sep w ([.blk g16 [.bool (ng z5), .slice p5 n5 c5] 25, .row p5 n5 c5 (lim z5.natAbs), .blk g11 [.bool (ng z4), .slice p4 n4 c4] 25, .blk g10 [.bool (ng z3), .slice p3 n3 c3] 25, .row p4 n4 c4 (lim z4.natAbs), .rowm p3 n3 c3 (lim z3.natAbs), .blk g6 [.bool b2, .slice pc2 m cc2] 25, .blk g5 [.bool b, .slice pc1 n cc1] 25, .row pc2 m cc2 ys, .row pc1 n cc1 xs, .blk g3 [.bool b2, .slice q m d] 25, .blk g1 [.bool b, .slice p n c] 25] ++ S) w' := by simpa using hS
          exact .inl ⟨want_none rfl, oload (vs := [.bool (ng z5), .slice p5 n5 c5]) aggZ hS 0 rfl rfl (ev (v := .pointer (some ⟨g16, 0, none⟩)) rfl (ho 9 rfl)) rfl rfl rfl ⟨_, _, rfl, isI, New.same _⟩⟩
        refine stepsCons rfl ?_ ?_
        · intro f' w' ρ S ho hT hS
          obtain ⟨hv0, hr0⟩ := (hT 0 26 rfl rfl : (Is (.agg #[.bool (ng z3), .slice p3 n3 c3])) (f' 26) (ρ 0))
          obtain ⟨hv1, hr1⟩ := (hT 1 27 rfl rfl : (Is (.agg #[.bool (ng z5), .slice p5 n5 c5])) (f' 27) (ρ 1))
          replace hS : Sep w ([.blk g16 [.bool (ng z5), .slice p5 n5 c5] 25, .row p5 n5 c5 (lim z5.natAbs), .blk g11 [.bool (ng z4), .slice p4 n4 c4] 25, .blk g10 [.bool (ng z3), .slice p3 n3 c3] 25, .row p4 n4 c4 (lim z4.natAbs), .rowm p3 n3 c3 (lim z3.natAbs), .blk g6 [.bool b2, .slice pc2 m cc2] 25, .blk g5 [.bool b, .slice pc1 n cc1] 25, .row pc2 m cc2 ys, .row pc1 n cc1 xs, .blk g3 [.bool b2, .slice q m d] 25, .blk g1 [.bool b, .slice p n c] 25] ++ S) w' := by simpa [hr0, hr1] using hS
          refine .inl ⟨want_none rfl, ocall rfl rfl Try.call13 rfl (args2 (ev (v := .agg #[.bool (ng z3), .slice p3 n3 c3]) rfl hv0) (ev (v := .agg #[.bool (ng z5), .slice p5 n5 c5]) rfl hv1)) (wlsame (x := z3) (y := z5) (hS.slm 5 rfl) (hS.sl 1 rfl) (hz3.out.symm.trans hz5.out)) ?_⟩
          rintro _ w9 ⟨_, _, rfl, hTT, hN⟩
          exact ⟨_, rfl, _, _, rfl, hTT, hN⟩
        refine stepsCons rfl ?_ ?_
        · intro f' w' ρ S ho hT hS
          obtain ⟨hv0, hr0⟩ := (hT 0 26 rfl rfl : (Is (.agg #[.bool (ng z3), .slice p3 n3 c3])) (f' 26) (ρ 0))
          obtain ⟨hv1, hr1⟩ := (hT 1 27 rfl rfl : (Is (.agg #[.bool (ng z5), .slice p5 n5 c5])) (f' 27) (ρ 1))
          obtain ⟨hv2, hr2⟩ := (hT 2 28 rfl rfl : (Is (.bool true)) (f' 28) (ρ 2))
          replace hS : Sep w ([.blk g16 [.bool (ng z5), .slice p5 n5 c5] 25, .row p5 n5 c5 (lim z5.natAbs), .blk g11 [.bool (ng z4), .slice p4 n4 c4] 25, .blk g10 [.bool (ng z3), .slice p3 n3 c3] 25, .row p4 n4 c4 (lim z4.natAbs), .rowm p3 n3 c3 (lim z3.natAbs), .blk g6 [.bool b2, .slice pc2 m cc2] 25, .blk g5 [.bool b, .slice pc1 n cc1] 25, .row pc2 m cc2 ys, .row pc1 n cc1 xs, .blk g3 [.bool b2, .slice q m d] 25, .blk g1 [.bool b, .slice p n c] 25] ++ S) w' := by simpa [hr0, hr1, hr2] using hS
          exact .inl ⟨want_none rfl, onot (b := true) rfl rfl (ev (v := .bool true) rfl hv2) ⟨_, _, rfl, isI, New.same _⟩⟩
        refine stepsCons rfl ?_ ?_
        · intro f' w' ρ S ho hT hS
          obtain ⟨hv0, hr0⟩ := (hT 0 26 rfl rfl : (Is (.agg #[.bool (ng z3), .slice p3 n3 c3])) (f' 26) (ρ 0))
          obtain ⟨hv1, hr1⟩ := (hT 1 27 rfl rfl : (Is (.agg #[.bool (ng z5), .slice p5 n5 c5])) (f' 27) (ρ 1))
          obtain ⟨hv2, hr2⟩ := (hT 2 28 rfl rfl : (Is (.bool true)) (f' 28) (ρ 2))
          obtain ⟨hv3, hr3⟩ := (hT 3 29 rfl rfl : (Is (.bool false)) (f' 29) (ρ 3))
          replace hS : Sep w ([.blk g16 [.bool (ng z5), .slice p5 n5 c5] 25, .row p5 n5 c5 (lim z5.natAbs), .blk g11 [.bool (ng z4), .slice p4 n4 c4] 25, .blk g10 [.bool (ng z3), .slice p3 n3 c3] 25, .row p4 n4 c4 (lim z4.natAbs), .rowm p3 n3 c3 (lim z3.natAbs), .blk g6 [.bool b2, .slice pc2 m cc2] 25, .blk g5 [.bool b, .slice pc1 n cc1] 25, .row pc2 m cc2 ys, .row pc1 n cc1 xs, .blk g3 [.bool b2, .slice q m d] 25, .blk g1 [.bool b, .slice p n c] 25] ++ S) w' := by simpa [hr0, hr1, hr2, hr3] using hS
          exact .inl ⟨want_none rfl, omove (v := .bool false) rfl rfl (ev (v := .bool false) rfl hv3) ⟨_, _, rfl, isI, New.same _⟩⟩
        refine stepsCons rfl ?_ ?_
        · intro f' w' ρ S ho hT hS
          obtain ⟨hv0, hr0⟩ := (hT 0 26 rfl rfl : (Is (.agg #[.bool (ng z3), .slice p3 n3 c3])) (f' 26) (ρ 0))
          obtain ⟨hv1, hr1⟩ := (hT 1 27 rfl rfl : (Is (.agg #[.bool (ng z5), .slice p5 n5 c5])) (f' 27) (ρ 1))
          obtain ⟨hv2, hr2⟩ := (hT 2 28 rfl rfl : (Is (.bool true)) (f' 28) (ρ 2))
          obtain ⟨hv3, hr3⟩ := (hT 3 29 rfl rfl : (Is (.bool false)) (f' 29) (ρ 3))
          obtain ⟨hv4, hr4⟩ := (hT 4 30 rfl rfl : (Is (.bool false)) (f' 30) (ρ 4))
          replace hS : Sep w ([.blk g16 [.bool (ng z5), .slice p5 n5 c5] 25, .row p5 n5 c5 (lim z5.natAbs), .blk g11 [.bool (ng z4), .slice p4 n4 c4] 25, .blk g10 [.bool (ng z3), .slice p3 n3 c3] 25, .row p4 n4 c4 (lim z4.natAbs), .rowm p3 n3 c3 (lim z3.natAbs), .blk g6 [.bool b2, .slice pc2 m cc2] 25, .blk g5 [.bool b, .slice pc1 n cc1] 25, .row pc2 m cc2 ys, .row pc1 n cc1 xs, .blk g3 [.bool b2, .slice q m d] 25, .blk g1 [.bool b, .slice p n c] 25] ++ S) w' := by simpa [hr0, hr1, hr2, hr3, hr4] using hS
          exact .inl ⟨want_on (e := 30) rfl rfl rfl hv4, oload (vs := [.bool b, .slice pc1 n cc1]) aggZ hS 7 rfl rfl (ev (v := .pointer (some ⟨g5, 0, none⟩)) rfl (ho 5 rfl)) rfl rfl rfl ⟨_, _, rfl, isI, New.same _⟩⟩
        refine stepsCons rfl ?_ ?_
        · intro f' w' ρ S ho hT hS
          obtain ⟨hv0, hr0⟩ := (hT 0 26 rfl rfl : (Is (.agg #[.bool (ng z3), .slice p3 n3 c3])) (f' 26) (ρ 0))
          obtain ⟨hv1, hr1⟩ := (hT 1 27 rfl rfl : (Is (.agg #[.bool (ng z5), .slice p5 n5 c5])) (f' 27) (ρ 1))
          obtain ⟨hv2, hr2⟩ := (hT 2 28 rfl rfl : (Is (.bool true)) (f' 28) (ρ 2))
          obtain ⟨hv3, hr3⟩ := (hT 3 29 rfl rfl : (Is (.bool false)) (f' 29) (ρ 3))
          obtain ⟨hv4, hr4⟩ := (hT 4 30 rfl rfl : (Is (.bool false)) (f' 30) (ρ 4))
          replace hS : Sep w ([.blk g16 [.bool (ng z5), .slice p5 n5 c5] 25, .row p5 n5 c5 (lim z5.natAbs), .blk g11 [.bool (ng z4), .slice p4 n4 c4] 25, .blk g10 [.bool (ng z3), .slice p3 n3 c3] 25, .row p4 n4 c4 (lim z4.natAbs), .rowm p3 n3 c3 (lim z3.natAbs), .blk g6 [.bool b2, .slice pc2 m cc2] 25, .blk g5 [.bool b, .slice pc1 n cc1] 25, .row pc2 m cc2 ys, .row pc1 n cc1 xs, .blk g3 [.bool b2, .slice q m d] 25, .blk g1 [.bool b, .slice p n c] 25] ++ S) w' := by simpa [hr0, hr1, hr2, hr3, hr4] using hS
          exact .inl ⟨want_on (e := 30) rfl rfl rfl hv4, oload (vs := [.bool b2, .slice pc2 m cc2]) aggZ hS 6 rfl rfl (ev (v := .pointer (some ⟨g6, 0, none⟩)) rfl (ho 6 rfl)) rfl rfl rfl ⟨_, _, rfl, isI, New.same _⟩⟩
        refine stepsCons rfl ?_ ?_
        · intro f' w' ρ S ho hT hS
          obtain ⟨hv0, hr0⟩ := (hT 0 26 rfl rfl : (Is (.agg #[.bool (ng z3), .slice p3 n3 c3])) (f' 26) (ρ 0))
          obtain ⟨hv1, hr1⟩ := (hT 1 27 rfl rfl : (Is (.agg #[.bool (ng z5), .slice p5 n5 c5])) (f' 27) (ρ 1))
          obtain ⟨hv2, hr2⟩ := (hT 2 28 rfl rfl : (Is (.bool true)) (f' 28) (ρ 2))
          obtain ⟨hv3, hr3⟩ := (hT 3 29 rfl rfl : (Is (.bool false)) (f' 29) (ρ 3))
          obtain ⟨hv4, hr4⟩ := (hT 4 30 rfl rfl : (Is (.bool false)) (f' 30) (ρ 4))
          obtain ⟨hv5, hr5⟩ := (hT 5 31 rfl rfl : (Is (.agg #[.bool b, .slice pc1 n cc1])) (f' 31) (ρ 5))
          obtain ⟨hv6, hr6⟩ := (hT 6 32 rfl rfl : (Is (.agg #[.bool b2, .slice pc2 m cc2])) (f' 32) (ρ 6))
          replace hS : Sep w ([.blk g16 [.bool (ng z5), .slice p5 n5 c5] 25, .row p5 n5 c5 (lim z5.natAbs), .blk g11 [.bool (ng z4), .slice p4 n4 c4] 25, .blk g10 [.bool (ng z3), .slice p3 n3 c3] 25, .row p4 n4 c4 (lim z4.natAbs), .rowm p3 n3 c3 (lim z3.natAbs), .blk g6 [.bool b2, .slice pc2 m cc2] 25, .blk g5 [.bool b, .slice pc1 n cc1] 25, .row pc2 m cc2 ys, .row pc1 n cc1 xs, .blk g3 [.bool b2, .slice q m d] 25, .blk g1 [.bool b, .slice p n c] 25] ++ S) w' := by simpa [hr0, hr1, hr2, hr3, hr4, hr5, hr6] using hS
          refine .inl ⟨want_on (e := 30) rfl rfl rfl hv4, ocall rfl rfl Try.call14 rfl (args2 (ev (v := .agg #[.bool b, .slice pc1 n cc1]) rfl hv5) (ev (v := .agg #[.bool b2, .slice pc2 m cc2]) rfl hv6)) (wzsub ((show Zr _ _ _ _ _ x 1048576 from ⟨_, hS.sl 9 rfl, hex, hn⟩).mono (by omega)) ((show Zr _ _ _ _ _ y 1048576 from ⟨_, hS.sl 8 rfl, hey, hm⟩).mono (by omega)) hz6) ?_⟩
          rintro _ w9 ⟨_, _, rfl, hTT, hN⟩
          exact ⟨_, rfl, _, _, rfl, hTT, hN⟩
        refine stepsCons rfl ?_ ?_
        · intro f' w' ρ S ho hT hS
          obtain ⟨hv0, hr0⟩ := (hT 0 26 rfl rfl : (Is (.agg #[.bool (ng z3), .slice p3 n3 c3])) (f' 26) (ρ 0))
          obtain ⟨hv1, hr1⟩ := (hT 1 27 rfl rfl : (Is (.agg #[.bool (ng z5), .slice p5 n5 c5])) (f' 27) (ρ 1))
          obtain ⟨hv2, hr2⟩ := (hT 2 28 rfl rfl : (Is (.bool true)) (f' 28) (ρ 2))
          obtain ⟨hv3, hr3⟩ := (hT 3 29 rfl rfl : (Is (.bool false)) (f' 29) (ρ 3))
          obtain ⟨hv4, hr4⟩ := (hT 4 30 rfl rfl : (Is (.bool false)) (f' 30) (ρ 4))
          replace hS : Sep w ([.blk g16 [.bool (ng z5), .slice p5 n5 c5] 25, .row p5 n5 c5 (lim z5.natAbs), .blk g11 [.bool (ng z4), .slice p4 n4 c4] 25, .blk g10 [.bool (ng z3), .slice p3 n3 c3] 25, .row p4 n4 c4 (lim z4.natAbs), .rowm p3 n3 c3 (lim z3.natAbs), .blk g6 [.bool b2, .slice pc2 m cc2] 25, .blk g5 [.bool b, .slice pc1 n cc1] 25, .row pc2 m cc2 ys, .row pc1 n cc1 xs, .blk g3 [.bool b2, .slice q m d] 25, .blk g1 [.bool b, .slice p n c] 25] ++ S) w' := by simpa [hr0, hr1, hr2, hr3, hr4] using hS
          exact .inl ⟨want_on (e := 30) rfl rfl rfl hv4, oload (vs := [.bool b, .slice p n c]) aggZ hS 11 rfl rfl (ev (v := .pointer (some ⟨g1, 0, none⟩)) rfl (ho 2 rfl)) rfl rfl rfl ⟨_, _, rfl, isI, New.same _⟩⟩
        refine stepsCons rfl ?_ ?_
        · intro f' w' ρ S ho hT hS
          obtain ⟨hv0, hr0⟩ := (hT 0 26 rfl rfl : (Is (.agg #[.bool (ng z3), .slice p3 n3 c3])) (f' 26) (ρ 0))
          obtain ⟨hv1, hr1⟩ := (hT 1 27 rfl rfl : (Is (.agg #[.bool (ng z5), .slice p5 n5 c5])) (f' 27) (ρ 1))
          obtain ⟨hv2, hr2⟩ := (hT 2 28 rfl rfl : (Is (.bool true)) (f' 28) (ρ 2))
          obtain ⟨hv3, hr3⟩ := (hT 3 29 rfl rfl : (Is (.bool false)) (f' 29) (ρ 3))
          obtain ⟨hv4, hr4⟩ := (hT 4 30 rfl rfl : (Is (.bool false)) (f' 30) (ρ 4))
          replace hS : Sep w ([.blk g16 [.bool (ng z5), .slice p5 n5 c5] 25, .row p5 n5 c5 (lim z5.natAbs), .blk g11 [.bool (ng z4), .slice p4 n4 c4] 25, .blk g10 [.bool (ng z3), .slice p3 n3 c3] 25, .row p4 n4 c4 (lim z4.natAbs), .rowm p3 n3 c3 (lim z3.natAbs), .blk g6 [.bool b2, .slice pc2 m cc2] 25, .blk g5 [.bool b, .slice pc1 n cc1] 25, .row pc2 m cc2 ys, .row pc1 n cc1 xs, .blk g3 [.bool b2, .slice q m d] 25, .blk g1 [.bool b, .slice p n c] 25] ++ S) w' := by simpa [hr0, hr1, hr2, hr3, hr4] using hS
          exact .inl ⟨want_on (e := 30) rfl rfl rfl hv4, oload (vs := [.bool b2, .slice q m d]) aggZ hS 10 rfl rfl (ev (v := .pointer (some ⟨g3, 0, none⟩)) rfl (ho 3 rfl)) rfl rfl rfl ⟨_, _, rfl, isI, New.same _⟩⟩
        refine stepsCons rfl ?_ ?_
        · intro f' w' ρ S ho hT hS
          obtain ⟨hv0, hr0⟩ := (hT 0 26 rfl rfl : (Is (.agg #[.bool (ng z3), .slice p3 n3 c3])) (f' 26) (ρ 0))
          obtain ⟨hv1, hr1⟩ := (hT 1 27 rfl rfl : (Is (.agg #[.bool (ng z5), .slice p5 n5 c5])) (f' 27) (ρ 1))
          obtain ⟨hv2, hr2⟩ := (hT 2 28 rfl rfl : (Is (.bool true)) (f' 28) (ρ 2))
          obtain ⟨hv3, hr3⟩ := (hT 3 29 rfl rfl : (Is (.bool false)) (f' 29) (ρ 3))
          obtain ⟨hv4, hr4⟩ := (hT 4 30 rfl rfl : (Is (.bool false)) (f' 30) (ρ 4))
          obtain ⟨hv5, hr5⟩ := (hT 5 31 rfl rfl : (Is (.agg #[.bool b, .slice pc1 n cc1])) (f' 31) (ρ 5))
          obtain ⟨hv6, hr6⟩ := (hT 6 32 rfl rfl : (Is (.agg #[.bool b2, .slice pc2 m cc2])) (f' 32) (ρ 6))
          obtain ⟨p6, n6, c6, hv7, hr7⟩ := (hT 7 33 rfl rfl : (Zt z6) (f' 33) (ρ 7))
          obtain ⟨hv8, hr8⟩ := (hT 8 34 rfl rfl : (Is (.agg #[.bool b, .slice p n c])) (f' 34) (ρ 8))
          obtain ⟨hv9, hr9⟩ := (hT 9 35 rfl rfl : (Is (.agg #[.bool b2, .slice q m d])) (f' 35) (ρ 9))
          replace hS : Sep w ([.blk g16 [.bool (ng z5), .slice p5 n5 c5] 25, .row p5 n5 c5 (lim z5.natAbs), .blk g11 [.bool (ng z4), .slice p4 n4 c4] 25, .blk g10 [.bool (ng z3), .slice p3 n3 c3] 25, .row p4 n4 c4 (lim z4.natAbs), .rowm p3 n3 c3 (lim z3.natAbs), .blk g6 [.bool b2, .slice pc2 m cc2] 25, .blk g5 [.bool b, .slice pc1 n cc1] 25, .row pc2 m cc2 ys, .row pc1 n cc1 xs, .blk g3 [.bool b2, .slice q m d] 25, .blk g1 [.bool b, .slice p n c] 25, .row p6 n6 c6 (lim z6.natAbs)] ++ S) w' := by simpa [hr0, hr1, hr2, hr3, hr4, hr5, hr6, hr7, hr8, hr9] using hS
          refine .inl ⟨want_on (e := 30) rfl rfl rfl hv4, ocall rfl rfl Try.call15 rfl (args2 (ev (v := .agg #[.bool b, .slice p n c]) rfl hv8) (ev (v := .agg #[.bool b2, .slice q m d]) rfl hv9)) (wqsub ((hzx.at hS).mono (by omega)) ((hzy.at hS).mono (by omega)) hz7) ?_⟩
          rintro _ w9 ⟨_, _, rfl, hTT, hN⟩
          exact ⟨_, rfl, _, _, rfl, hTT, hN⟩
        refine stepsCons rfl ?_ ?_
        · intro f' w' ρ S ho hT hS
          obtain ⟨hv0, hr0⟩ := (hT 0 26 rfl rfl : (Is (.agg #[.bool (ng z3), .slice p3 n3 c3])) (f' 26) (ρ 0))
          obtain ⟨hv1, hr1⟩ := (hT 1 27 rfl rfl : (Is (.agg #[.bool (ng z5), .slice p5 n5 c5])) (f' 27) (ρ 1))
          obtain ⟨hv2, hr2⟩ := (hT 2 28 rfl rfl : (Is (.bool true)) (f' 28) (ρ 2))
          obtain ⟨hv3, hr3⟩ := (hT 3 29 rfl rfl : (Is (.bool false)) (f' 29) (ρ 3))
          obtain ⟨hv4, hr4⟩ := (hT 4 30 rfl rfl : (Is (.bool false)) (f' 30) (ρ 4))
          obtain ⟨hv5, hr5⟩ := (hT 5 31 rfl rfl : (Is (.agg #[.bool b, .slice pc1 n cc1])) (f' 31) (ρ 5))
          obtain ⟨hv6, hr6⟩ := (hT 6 32 rfl rfl : (Is (.agg #[.bool b2, .slice pc2 m cc2])) (f' 32) (ρ 6))
          obtain ⟨p6, n6, c6, hv7, hr7⟩ := (hT 7 33 rfl rfl : (Zt z6) (f' 33) (ρ 7))
          obtain ⟨hv8, hr8⟩ := (hT 8 34 rfl rfl : (Is (.agg #[.bool b, .slice p n c])) (f' 34) (ρ 8))
          obtain ⟨hv9, hr9⟩ := (hT 9 35 rfl rfl : (Is (.agg #[.bool b2, .slice q m d])) (f' 35) (ρ 9))
          obtain ⟨p7, n7, c7, hv10, hr10⟩ := (hT 10 36 rfl rfl : (Zt z7) (f' 36) (ρ 10))
          replace hS : Sep w ([.blk g16 [.bool (ng z5), .slice p5 n5 c5] 25, .row p5 n5 c5 (lim z5.natAbs), .blk g11 [.bool (ng z4), .slice p4 n4 c4] 25, .blk g10 [.bool (ng z3), .slice p3 n3 c3] 25, .row p4 n4 c4 (lim z4.natAbs), .rowm p3 n3 c3 (lim z3.natAbs), .blk g6 [.bool b2, .slice pc2 m cc2] 25, .blk g5 [.bool b, .slice pc1 n cc1] 25, .row pc2 m cc2 ys, .row pc1 n cc1 xs, .blk g3 [.bool b2, .slice q m d] 25, .blk g1 [.bool b, .slice p n c] 25, .row p6 n6 c6 (lim z6.natAbs), .row p7 n7 c7 (lim z7.natAbs)] ++ S) w' := by simpa [hr0, hr1, hr2, hr3, hr4, hr5, hr6, hr7, hr8, hr9, hr10] using hS
          refine .inl ⟨want_on (e := 30) rfl rfl rfl hv4, ocall rfl rfl Try.call13 rfl (args2 (ev (v := .agg #[.bool (ng z6), .slice p6 n6 c6]) rfl hv7) (ev (v := .agg #[.bool (ng z7), .slice p7 n7 c7]) rfl hv10)) (wlsame (x := z6) (y := z7) (hS.sl 12 rfl) (hS.sl 13 rfl) (hz6.out.symm.trans hz7.out)) ?_⟩
          rintro _ w9 ⟨_, _, rfl, hTT, hN⟩
          exact ⟨_, rfl, _, _, rfl, hTT, hN⟩
        refine stepsCons rfl ?_ ?_
        · intro f' w' ρ S ho hT hS
          obtain ⟨hv0, hr0⟩ := (hT 0 26 rfl rfl : (Is (.agg #[.bool (ng z3), .slice p3 n3 c3])) (f' 26) (ρ 0))
          obtain ⟨hv1, hr1⟩ := (hT 1 27 rfl rfl : (Is (.agg #[.bool (ng z5), .slice p5 n5 c5])) (f' 27) (ρ 1))
          obtain ⟨hv2, hr2⟩ := (hT 2 28 rfl rfl : (Is (.bool true)) (f' 28) (ρ 2))
          obtain ⟨hv3, hr3⟩ := (hT 3 29 rfl rfl : (Is (.bool false)) (f' 29) (ρ 3))
          obtain ⟨hv4, hr4⟩ := (hT 4 30 rfl rfl : (Is (.bool false)) (f' 30) (ρ 4))
          obtain ⟨hv5, hr5⟩ := (hT 5 31 rfl rfl : (Is (.agg #[.bool b, .slice pc1 n cc1])) (f' 31) (ρ 5))
          obtain ⟨hv6, hr6⟩ := (hT 6 32 rfl rfl : (Is (.agg #[.bool b2, .slice pc2 m cc2])) (f' 32) (ρ 6))
          obtain ⟨p6, n6, c6, hv7, hr7⟩ := (hT 7 33 rfl rfl : (Zt z6) (f' 33) (ρ 7))
          obtain ⟨hv8, hr8⟩ := (hT 8 34 rfl rfl : (Is (.agg #[.bool b, .slice p n c])) (f' 34) (ρ 8))
          obtain ⟨hv9, hr9⟩ := (hT 9 35 rfl rfl : (Is (.agg #[.bool b2, .slice q m d])) (f' 35) (ρ 9))
          obtain ⟨p7, n7, c7, hv10, hr10⟩ := (hT 10 36 rfl rfl : (Zt z7) (f' 36) (ρ 10))
          obtain ⟨hv11, hr11⟩ := (hT 11 37 rfl rfl : (Is (.bool true)) (f' 37) (ρ 11))
          replace hS : Sep w ([.blk g16 [.bool (ng z5), .slice p5 n5 c5] 25, .row p5 n5 c5 (lim z5.natAbs), .blk g11 [.bool (ng z4), .slice p4 n4 c4] 25, .blk g10 [.bool (ng z3), .slice p3 n3 c3] 25, .row p4 n4 c4 (lim z4.natAbs), .rowm p3 n3 c3 (lim z3.natAbs), .blk g6 [.bool b2, .slice pc2 m cc2] 25, .blk g5 [.bool b, .slice pc1 n cc1] 25, .row pc2 m cc2 ys, .row pc1 n cc1 xs, .blk g3 [.bool b2, .slice q m d] 25, .blk g1 [.bool b, .slice p n c] 25, .row p6 n6 c6 (lim z6.natAbs), .row p7 n7 c7 (lim z7.natAbs)] ++ S) w' := by simpa [hr0, hr1, hr2, hr3, hr4, hr5, hr6, hr7, hr8, hr9, hr10, hr11] using hS
          exact .inl ⟨want_on (e := 30) rfl rfl rfl hv4, onot (b := true) rfl rfl (ev (v := .bool true) rfl hv11) ⟨_, _, rfl, isI, New.same _⟩⟩
        refine stepsCons rfl ?_ ?_
        · intro f' w' ρ S ho hT hS
          obtain ⟨hv0, hr0⟩ := (hT 0 26 rfl rfl : (Is (.agg #[.bool (ng z3), .slice p3 n3 c3])) (f' 26) (ρ 0))
          obtain ⟨hv1, hr1⟩ := (hT 1 27 rfl rfl : (Is (.agg #[.bool (ng z5), .slice p5 n5 c5])) (f' 27) (ρ 1))
          obtain ⟨hv2, hr2⟩ := (hT 2 28 rfl rfl : (Is (.bool true)) (f' 28) (ρ 2))
          obtain ⟨hv3, hr3⟩ := (hT 3 29 rfl rfl : (Is (.bool false)) (f' 29) (ρ 3))
          obtain ⟨hv4, hr4⟩ := (hT 4 30 rfl rfl : (Is (.bool false)) (f' 30) (ρ 4))
          obtain ⟨hv5, hr5⟩ := (hT 5 31 rfl rfl : (Is (.agg #[.bool b, .slice pc1 n cc1])) (f' 31) (ρ 5))
          obtain ⟨hv6, hr6⟩ := (hT 6 32 rfl rfl : (Is (.agg #[.bool b2, .slice pc2 m cc2])) (f' 32) (ρ 6))
          obtain ⟨p6, n6, c6, hv7, hr7⟩ := (hT 7 33 rfl rfl : (Zt z6) (f' 33) (ρ 7))
          obtain ⟨hv8, hr8⟩ := (hT 8 34 rfl rfl : (Is (.agg #[.bool b, .slice p n c])) (f' 34) (ρ 8))
          obtain ⟨hv9, hr9⟩ := (hT 9 35 rfl rfl : (Is (.agg #[.bool b2, .slice q m d])) (f' 35) (ρ 9))
          obtain ⟨p7, n7, c7, hv10, hr10⟩ := (hT 10 36 rfl rfl : (Zt z7) (f' 36) (ρ 10))
          obtain ⟨hv11, hr11⟩ := (hT 11 37 rfl rfl : (Is (.bool true)) (f' 37) (ρ 11))
          obtain ⟨hv12, hr12⟩ := (hT 12 38 rfl rfl : (Is (.bool false)) (f' 38) (ρ 12))
          replace hS : Sep w ([.blk g16 [.bool (ng z5), .slice p5 n5 c5] 25, .row p5 n5 c5 (lim z5.natAbs), .blk g11 [.bool (ng z4), .slice p4 n4 c4] 25, .blk g10 [.bool (ng z3), .slice p3 n3 c3] 25, .row p4 n4 c4 (lim z4.natAbs), .rowm p3 n3 c3 (lim z3.natAbs), .blk g6 [.bool b2, .slice pc2 m cc2] 25, .blk g5 [.bool b, .slice pc1 n cc1] 25, .row pc2 m cc2 ys, .row pc1 n cc1 xs, .blk g3 [.bool b2, .slice q m d] 25, .blk g1 [.bool b, .slice p n c] 25, .row p6 n6 c6 (lim z6.natAbs), .row p7 n7 c7 (lim z7.natAbs)] ++ S) w' := by simpa [hr0, hr1, hr2, hr3, hr4, hr5, hr6, hr7, hr8, hr9, hr10, hr11, hr12] using hS
          exact .inl ⟨want_none rfl, opick (b := false) (v := .bool false) rfl rfl (ev (v := .bool false) rfl hv4) (ev (v := .bool false) rfl hv12) ⟨_, _, rfl, isI, New.same _⟩⟩
        refine stepsCons rfl ?_ ?_
        · intro f' w' ρ S ho hT hS
          obtain ⟨hv0, hr0⟩ := (hT 0 26 rfl rfl : (Is (.agg #[.bool (ng z3), .slice p3 n3 c3])) (f' 26) (ρ 0))
          obtain ⟨hv1, hr1⟩ := (hT 1 27 rfl rfl : (Is (.agg #[.bool (ng z5), .slice p5 n5 c5])) (f' 27) (ρ 1))
          obtain ⟨hv2, hr2⟩ := (hT 2 28 rfl rfl : (Is (.bool true)) (f' 28) (ρ 2))
          obtain ⟨hv3, hr3⟩ := (hT 3 29 rfl rfl : (Is (.bool false)) (f' 29) (ρ 3))
          obtain ⟨hv4, hr4⟩ := (hT 4 30 rfl rfl : (Is (.bool false)) (f' 30) (ρ 4))
          obtain ⟨hv5, hr5⟩ := (hT 5 31 rfl rfl : (Is (.agg #[.bool b, .slice pc1 n cc1])) (f' 31) (ρ 5))
          obtain ⟨hv6, hr6⟩ := (hT 6 32 rfl rfl : (Is (.agg #[.bool b2, .slice pc2 m cc2])) (f' 32) (ρ 6))
          obtain ⟨p6, n6, c6, hv7, hr7⟩ := (hT 7 33 rfl rfl : (Zt z6) (f' 33) (ρ 7))
          obtain ⟨hv8, hr8⟩ := (hT 8 34 rfl rfl : (Is (.agg #[.bool b, .slice p n c])) (f' 34) (ρ 8))
          obtain ⟨hv9, hr9⟩ := (hT 9 35 rfl rfl : (Is (.agg #[.bool b2, .slice q m d])) (f' 35) (ρ 9))
          obtain ⟨p7, n7, c7, hv10, hr10⟩ := (hT 10 36 rfl rfl : (Zt z7) (f' 36) (ρ 10))
          obtain ⟨hv11, hr11⟩ := (hT 11 37 rfl rfl : (Is (.bool true)) (f' 37) (ρ 11))
          obtain ⟨hv12, hr12⟩ := (hT 12 38 rfl rfl : (Is (.bool false)) (f' 38) (ρ 12))
          obtain ⟨hv13, hr13⟩ := (hT 13 39 rfl rfl : (Is (.bool false)) (f' 39) (ρ 13))
          replace hS : Sep w ([.blk g16 [.bool (ng z5), .slice p5 n5 c5] 25, .row p5 n5 c5 (lim z5.natAbs), .blk g11 [.bool (ng z4), .slice p4 n4 c4] 25, .blk g10 [.bool (ng z3), .slice p3 n3 c3] 25, .row p4 n4 c4 (lim z4.natAbs), .rowm p3 n3 c3 (lim z3.natAbs), .blk g6 [.bool b2, .slice pc2 m cc2] 25, .blk g5 [.bool b, .slice pc1 n cc1] 25, .row pc2 m cc2 ys, .row pc1 n cc1 xs, .blk g3 [.bool b2, .slice q m d] 25, .blk g1 [.bool b, .slice p n c] 25, .row p6 n6 c6 (lim z6.natAbs), .row p7 n7 c7 (lim z7.natAbs)] ++ S) w' := by simpa [hr0, hr1, hr2, hr3, hr4, hr5, hr6, hr7, hr8, hr9, hr10, hr11, hr12, hr13] using hS
          exact .inl ⟨want_none rfl, omove (v := .bool false) rfl rfl (ev (v := .bool false) rfl hv13) ⟨_, _, rfl, isI, New.same _⟩⟩
        refine stepsCons rfl ?_ ?_
        · intro f' w' ρ S ho hT hS
          obtain ⟨hv0, hr0⟩ := (hT 0 26 rfl rfl : (Is (.agg #[.bool (ng z3), .slice p3 n3 c3])) (f' 26) (ρ 0))
          obtain ⟨hv1, hr1⟩ := (hT 1 27 rfl rfl : (Is (.agg #[.bool (ng z5), .slice p5 n5 c5])) (f' 27) (ρ 1))
          obtain ⟨hv2, hr2⟩ := (hT 2 28 rfl rfl : (Is (.bool true)) (f' 28) (ρ 2))
          obtain ⟨hv3, hr3⟩ := (hT 3 29 rfl rfl : (Is (.bool false)) (f' 29) (ρ 3))
          obtain ⟨hv4, hr4⟩ := (hT 4 30 rfl rfl : (Is (.bool false)) (f' 30) (ρ 4))
          obtain ⟨hv5, hr5⟩ := (hT 5 31 rfl rfl : (Is (.agg #[.bool b, .slice pc1 n cc1])) (f' 31) (ρ 5))
          obtain ⟨hv6, hr6⟩ := (hT 6 32 rfl rfl : (Is (.agg #[.bool b2, .slice pc2 m cc2])) (f' 32) (ρ 6))
          obtain ⟨p6, n6, c6, hv7, hr7⟩ := (hT 7 33 rfl rfl : (Zt z6) (f' 33) (ρ 7))
          obtain ⟨hv8, hr8⟩ := (hT 8 34 rfl rfl : (Is (.agg #[.bool b, .slice p n c])) (f' 34) (ρ 8))
          obtain ⟨hv9, hr9⟩ := (hT 9 35 rfl rfl : (Is (.agg #[.bool b2, .slice q m d])) (f' 35) (ρ 9))
          obtain ⟨p7, n7, c7, hv10, hr10⟩ := (hT 10 36 rfl rfl : (Zt z7) (f' 36) (ρ 10))
          obtain ⟨hv11, hr11⟩ := (hT 11 37 rfl rfl : (Is (.bool true)) (f' 37) (ρ 11))
          obtain ⟨hv12, hr12⟩ := (hT 12 38 rfl rfl : (Is (.bool false)) (f' 38) (ρ 12))
          obtain ⟨hv13, hr13⟩ := (hT 13 39 rfl rfl : (Is (.bool false)) (f' 39) (ρ 13))
          obtain ⟨hv14, hr14⟩ := (hT 14 40 rfl rfl : (Is (.bool false)) (f' 40) (ρ 14))
          replace hS : Sep w ([.blk g16 [.bool (ng z5), .slice p5 n5 c5] 25, .row p5 n5 c5 (lim z5.natAbs), .blk g11 [.bool (ng z4), .slice p4 n4 c4] 25, .blk g10 [.bool (ng z3), .slice p3 n3 c3] 25, .row p4 n4 c4 (lim z4.natAbs), .rowm p3 n3 c3 (lim z3.natAbs), .blk g6 [.bool b2, .slice pc2 m cc2] 25, .blk g5 [.bool b, .slice pc1 n cc1] 25, .row pc2 m cc2 ys, .row pc1 n cc1 xs, .blk g3 [.bool b2, .slice q m d] 25, .blk g1 [.bool b, .slice p n c] 25, .row p6 n6 c6 (lim z6.natAbs), .row p7 n7 c7 (lim z7.natAbs)] ++ S) w' := by simpa [hr0, hr1, hr2, hr3, hr4, hr5, hr6, hr7, hr8, hr9, hr10, hr11, hr12, hr13, hr14] using hS
          exact .inl ⟨want_on (e := 40) rfl rfl rfl hv14, oload (vs := [.bool b, .slice pc1 n cc1]) aggZ hS 7 rfl rfl (ev (v := .pointer (some ⟨g5, 0, none⟩)) rfl (ho 5 rfl)) rfl rfl rfl ⟨_, _, rfl, isI, New.same _⟩⟩
        refine stepsCons rfl ?_ ?_
        · intro f' w' ρ S ho hT hS
          obtain ⟨hv0, hr0⟩ := (hT 0 26 rfl rfl : (Is (.agg #[.bool (ng z3), .slice p3 n3 c3])) (f' 26) (ρ 0))
          obtain ⟨hv1, hr1⟩ := (hT 1 27 rfl rfl : (Is (.agg #[.bool (ng z5), .slice p5 n5 c5])) (f' 27) (ρ 1))
          obtain ⟨hv2, hr2⟩ := (hT 2 28 rfl rfl : (Is (.bool true)) (f' 28) (ρ 2))
          obtain ⟨hv3, hr3⟩ := (hT 3 29 rfl rfl : (Is (.bool false)) (f' 29) (ρ 3))
          obtain ⟨hv4, hr4⟩ := (hT 4 30 rfl rfl : (Is (.bool false)) (f' 30) (ρ 4))
          obtain ⟨hv5, hr5⟩ := (hT 5 31 rfl rfl : (Is (.agg #[.bool b, .slice pc1 n cc1])) (f' 31) (ρ 5))
          obtain ⟨hv6, hr6⟩ := (hT 6 32 rfl rfl : (Is (.agg #[.bool b2, .slice pc2 m cc2])) (f' 32) (ρ 6))
          obtain ⟨p6, n6, c6, hv7, hr7⟩ := (hT 7 33 rfl rfl : (Zt z6) (f' 33) (ρ 7))
          obtain ⟨hv8, hr8⟩ := (hT 8 34 rfl rfl : (Is (.agg #[.bool b, .slice p n c])) (f' 34) (ρ 8))
          obtain ⟨hv9, hr9⟩ := (hT 9 35 rfl rfl : (Is (.agg #[.bool b2, .slice q m d])) (f' 35) (ρ 9))
          obtain ⟨p7, n7, c7, hv10, hr10⟩ := (hT 10 36 rfl rfl : (Zt z7) (f' 36) (ρ 10))
          obtain ⟨hv11, hr11⟩ := (hT 11 37 rfl rfl : (Is (.bool true)) (f' 37) (ρ 11))
          obtain ⟨hv12, hr12⟩ := (hT 12 38 rfl rfl : (Is (.bool false)) (f' 38) (ρ 12))
          obtain ⟨hv13, hr13⟩ := (hT 13 39 rfl rfl : (Is (.bool false)) (f' 39) (ρ 13))
          obtain ⟨hv14, hr14⟩ := (hT 14 40 rfl rfl : (Is (.bool false)) (f' 40) (ρ 14))
          replace hS : Sep w ([.blk g16 [.bool (ng z5), .slice p5 n5 c5] 25, .row p5 n5 c5 (lim z5.natAbs), .blk g11 [.bool (ng z4), .slice p4 n4 c4] 25, .blk g10 [.bool (ng z3), .slice p3 n3 c3] 25, .row p4 n4 c4 (lim z4.natAbs), .rowm p3 n3 c3 (lim z3.natAbs), .blk g6 [.bool b2, .slice pc2 m cc2] 25, .blk g5 [.bool b, .slice pc1 n cc1] 25, .row pc2 m cc2 ys, .row pc1 n cc1 xs, .blk g3 [.bool b2, .slice q m d] 25, .blk g1 [.bool b, .slice p n c] 25, .row p6 n6 c6 (lim z6.natAbs), .row p7 n7 c7 (lim z7.natAbs)] ++ S) w' := by simpa [hr0, hr1, hr2, hr3, hr4, hr5, hr6, hr7, hr8, hr9, hr10, hr11, hr12, hr13, hr14] using hS
          exact .inl ⟨want_on (e := 40) rfl rfl rfl hv14, oload (vs := [.bool b2, .slice pc2 m cc2]) aggZ hS 6 rfl rfl (ev (v := .pointer (some ⟨g6, 0, none⟩)) rfl (ho 6 rfl)) rfl rfl rfl ⟨_, _, rfl, isI, New.same _⟩⟩
        refine stepsCons rfl ?_ ?_
        · intro f' w' ρ S ho hT hS
          obtain ⟨hv0, hr0⟩ := (hT 0 26 rfl rfl : (Is (.agg #[.bool (ng z3), .slice p3 n3 c3])) (f' 26) (ρ 0))
          obtain ⟨hv1, hr1⟩ := (hT 1 27 rfl rfl : (Is (.agg #[.bool (ng z5), .slice p5 n5 c5])) (f' 27) (ρ 1))
          obtain ⟨hv2, hr2⟩ := (hT 2 28 rfl rfl : (Is (.bool true)) (f' 28) (ρ 2))
          obtain ⟨hv3, hr3⟩ := (hT 3 29 rfl rfl : (Is (.bool false)) (f' 29) (ρ 3))
          obtain ⟨hv4, hr4⟩ := (hT 4 30 rfl rfl : (Is (.bool false)) (f' 30) (ρ 4))
          obtain ⟨hv5, hr5⟩ := (hT 5 31 rfl rfl : (Is (.agg #[.bool b, .slice pc1 n cc1])) (f' 31) (ρ 5))
          obtain ⟨hv6, hr6⟩ := (hT 6 32 rfl rfl : (Is (.agg #[.bool b2, .slice pc2 m cc2])) (f' 32) (ρ 6))
          obtain ⟨p6, n6, c6, hv7, hr7⟩ := (hT 7 33 rfl rfl : (Zt z6) (f' 33) (ρ 7))
          obtain ⟨hv8, hr8⟩ := (hT 8 34 rfl rfl : (Is (.agg #[.bool b, .slice p n c])) (f' 34) (ρ 8))
          obtain ⟨hv9, hr9⟩ := (hT 9 35 rfl rfl : (Is (.agg #[.bool b2, .slice q m d])) (f' 35) (ρ 9))
          obtain ⟨p7, n7, c7, hv10, hr10⟩ := (hT 10 36 rfl rfl : (Zt z7) (f' 36) (ρ 10))
          obtain ⟨hv11, hr11⟩ := (hT 11 37 rfl rfl : (Is (.bool true)) (f' 37) (ρ 11))
          obtain ⟨hv12, hr12⟩ := (hT 12 38 rfl rfl : (Is (.bool false)) (f' 38) (ρ 12))
          obtain ⟨hv13, hr13⟩ := (hT 13 39 rfl rfl : (Is (.bool false)) (f' 39) (ρ 13))
          obtain ⟨hv14, hr14⟩ := (hT 14 40 rfl rfl : (Is (.bool false)) (f' 40) (ρ 14))
          obtain ⟨hv15, hr15⟩ := (hT 15 41 rfl rfl : (Is (.agg #[.bool b, .slice pc1 n cc1])) (f' 41) (ρ 15))
          obtain ⟨hv16, hr16⟩ := (hT 16 42 rfl rfl : (Is (.agg #[.bool b2, .slice pc2 m cc2])) (f' 42) (ρ 16))
          replace hS : Sep w ([.blk g16 [.bool (ng z5), .slice p5 n5 c5] 25, .row p5 n5 c5 (lim z5.natAbs), .blk g11 [.bool (ng z4), .slice p4 n4 c4] 25, .blk g10 [.bool (ng z3), .slice p3 n3 c3] 25, .row p4 n4 c4 (lim z4.natAbs), .rowm p3 n3 c3 (lim z3.natAbs), .blk g6 [.bool b2, .slice pc2 m cc2] 25, .blk g5 [.bool b, .slice pc1 n cc1] 25, .row pc2 m cc2 ys, .row pc1 n cc1 xs, .blk g3 [.bool b2, .slice q m d] 25, .blk g1 [.bool b, .slice p n c] 25, .row p6 n6 c6 (lim z6.natAbs), .row p7 n7 c7 (lim z7.natAbs)] ++ S) w' := by simpa [hr0, hr1, hr2, hr3, hr4, hr5, hr6, hr7, hr8, hr9, hr10, hr11, hr12, hr13, hr14, hr15, hr16] using hS
          refine .inl ⟨want_on (e := 40) rfl rfl rfl hv14, ocall rfl rfl Try.call16 rfl (args2 (ev (v := .agg #[.bool b, .slice pc1 n cc1]) rfl hv15) (ev (v := .agg #[.bool b2, .slice pc2 m cc2]) rfl hv16)) (wzmul ((show Zr _ _ _ _ _ x 1048576 from ⟨_, hS.sl 9 rfl, hex, hn⟩).mono (by omega)) ((show Zr _ _ _ _ _ y 1048576 from ⟨_, hS.sl 8 rfl, hey, hm⟩).mono (by omega)) hz8) ?_⟩
          rintro _ w9 ⟨_, _, rfl, hTT, hN⟩
          exact ⟨_, rfl, _, _, rfl, hTT, hN⟩
        refine stepsCons rfl ?_ ?_
        · intro f' w' ρ S ho hT hS
          obtain ⟨hv0, hr0⟩ := (hT 0 26 rfl rfl : (Is (.agg #[.bool (ng z3), .slice p3 n3 c3])) (f' 26) (ρ 0))
          obtain ⟨hv1, hr1⟩ := (hT 1 27 rfl rfl : (Is (.agg #[.bool (ng z5), .slice p5 n5 c5])) (f' 27) (ρ 1))
          obtain ⟨hv2, hr2⟩ := (hT 2 28 rfl rfl : (Is (.bool true)) (f' 28) (ρ 2))
          obtain ⟨hv3, hr3⟩ := (hT 3 29 rfl rfl : (Is (.bool false)) (f' 29) (ρ 3))
          obtain ⟨hv4, hr4⟩ := (hT 4 30 rfl rfl : (Is (.bool false)) (f' 30) (ρ 4))
          obtain ⟨hv5, hr5⟩ := (hT 5 31 rfl rfl : (Is (.agg #[.bool b, .slice pc1 n cc1])) (f' 31) (ρ 5))
          obtain ⟨hv6, hr6⟩ := (hT 6 32 rfl rfl : (Is (.agg #[.bool b2, .slice pc2 m cc2])) (f' 32) (ρ 6))
          obtain ⟨p6, n6, c6, hv7, hr7⟩ := (hT 7 33 rfl rfl : (Zt z6) (f' 33) (ρ 7))
          obtain ⟨hv8, hr8⟩ := (hT 8 34 rfl rfl : (Is (.agg #[.bool b, .slice p n c])) (f' 34) (ρ 8))
          obtain ⟨hv9, hr9⟩ := (hT 9 35 rfl rfl : (Is (.agg #[.bool b2, .slice q m d])) (f' 35) (ρ 9))
          obtain ⟨p7, n7, c7, hv10, hr10⟩ := (hT 10 36 rfl rfl : (Zt z7) (f' 36) (ρ 10))
          obtain ⟨hv11, hr11⟩ := (hT 11 37 rfl rfl : (Is (.bool true)) (f' 37) (ρ 11))
          obtain ⟨hv12, hr12⟩ := (hT 12 38 rfl rfl : (Is (.bool false)) (f' 38) (ρ 12))
          obtain ⟨hv13, hr13⟩ := (hT 13 39 rfl rfl : (Is (.bool false)) (f' 39) (ρ 13))
          obtain ⟨hv14, hr14⟩ := (hT 14 40 rfl rfl : (Is (.bool false)) (f' 40) (ρ 14))
          replace hS : Sep w ([.blk g16 [.bool (ng z5), .slice p5 n5 c5] 25, .row p5 n5 c5 (lim z5.natAbs), .blk g11 [.bool (ng z4), .slice p4 n4 c4] 25, .blk g10 [.bool (ng z3), .slice p3 n3 c3] 25, .row p4 n4 c4 (lim z4.natAbs), .rowm p3 n3 c3 (lim z3.natAbs), .blk g6 [.bool b2, .slice pc2 m cc2] 25, .blk g5 [.bool b, .slice pc1 n cc1] 25, .row pc2 m cc2 ys, .row pc1 n cc1 xs, .blk g3 [.bool b2, .slice q m d] 25, .blk g1 [.bool b, .slice p n c] 25, .row p6 n6 c6 (lim z6.natAbs), .row p7 n7 c7 (lim z7.natAbs)] ++ S) w' := by simpa [hr0, hr1, hr2, hr3, hr4, hr5, hr6, hr7, hr8, hr9, hr10, hr11, hr12, hr13, hr14] using hS
          exact .inl ⟨want_on (e := 40) rfl rfl rfl hv14, oload (vs := [.bool b, .slice p n c]) aggZ hS 11 rfl rfl (ev (v := .pointer (some ⟨g1, 0, none⟩)) rfl (ho 2 rfl)) rfl rfl rfl ⟨_, _, rfl, isI, New.same _⟩⟩
        refine stepsCons rfl ?_ ?_
        · intro f' w' ρ S ho hT hS
          obtain ⟨hv0, hr0⟩ := (hT 0 26 rfl rfl : (Is (.agg #[.bool (ng z3), .slice p3 n3 c3])) (f' 26) (ρ 0))
          obtain ⟨hv1, hr1⟩ := (hT 1 27 rfl rfl : (Is (.agg #[.bool (ng z5), .slice p5 n5 c5])) (f' 27) (ρ 1))
          obtain ⟨hv2, hr2⟩ := (hT 2 28 rfl rfl : (Is (.bool true)) (f' 28) (ρ 2))
          obtain ⟨hv3, hr3⟩ := (hT 3 29 rfl rfl : (Is (.bool false)) (f' 29) (ρ 3))
          obtain ⟨hv4, hr4⟩ := (hT 4 30 rfl rfl : (Is (.bool false)) (f' 30) (ρ 4))
          obtain ⟨hv5, hr5⟩ := (hT 5 31 rfl rfl : (Is (.agg #[.bool b, .slice pc1 n cc1])) (f' 31) (ρ 5))
          obtain ⟨hv6, hr6⟩ := (hT 6 32 rfl rfl : (Is (.agg #[.bool b2, .slice pc2 m cc2])) (f' 32) (ρ 6))
          obtain ⟨p6, n6, c6, hv7, hr7⟩ := (hT 7 33 rfl rfl : (Zt z6) (f' 33) (ρ 7))
          obtain ⟨hv8, hr8⟩ := (hT 8 34 rfl rfl : (Is (.agg #[.bool b, .slice p n c])) (f' 34) (ρ 8))
          obtain ⟨hv9, hr9⟩ := (hT 9 35 rfl rfl : (Is (.agg #[.bool b2, .slice q m d])) (f' 35) (ρ 9))
          obtain ⟨p7, n7, c7, hv10, hr10⟩ := (hT 10 36 rfl rfl : (Zt z7) (f' 36) (ρ 10))
          obtain ⟨hv11, hr11⟩ := (hT 11 37 rfl rfl : (Is (.bool true)) (f' 37) (ρ 11))
          obtain ⟨hv12, hr12⟩ := (hT 12 38 rfl rfl : (Is (.bool false)) (f' 38) (ρ 12))
          obtain ⟨hv13, hr13⟩ := (hT 13 39 rfl rfl : (Is (.bool false)) (f' 39) (ρ 13))
          obtain ⟨hv14, hr14⟩ := (hT 14 40 rfl rfl : (Is (.bool false)) (f' 40) (ρ 14))
          replace hS : Sep w ([.blk g16 [.bool (ng z5), .slice p5 n5 c5] 25, .row p5 n5 c5 (lim z5.natAbs), .blk g11 [.bool (ng z4), .slice p4 n4 c4] 25, .blk g10 [.bool (ng z3), .slice p3 n3 c3] 25, .row p4 n4 c4 (lim z4.natAbs), .rowm p3 n3 c3 (lim z3.natAbs), .blk g6 [.bool b2, .slice pc2 m cc2] 25, .blk g5 [.bool b, .slice pc1 n cc1] 25, .row pc2 m cc2 ys, .row pc1 n cc1 xs, .blk g3 [.bool b2, .slice q m d] 25, .blk g1 [.bool b, .slice p n c] 25, .row p6 n6 c6 (lim z6.natAbs), .row p7 n7 c7 (lim z7.natAbs)] ++ S) w' := by simpa [hr0, hr1, hr2, hr3, hr4, hr5, hr6, hr7, hr8, hr9, hr10, hr11, hr12, hr13, hr14] using hS
          exact .inl ⟨want_on (e := 40) rfl rfl rfl hv14, oload (vs := [.bool b2, .slice q m d]) aggZ hS 10 rfl rfl (ev (v := .pointer (some ⟨g3, 0, none⟩)) rfl (ho 3 rfl)) rfl rfl rfl ⟨_, _, rfl, isI, New.same _⟩⟩
        refine stepsCons rfl ?_ ?_
        · intro f' w' ρ S ho hT hS
          obtain ⟨hv0, hr0⟩ := (hT 0 26 rfl rfl : (Is (.agg #[.bool (ng z3), .slice p3 n3 c3])) (f' 26) (ρ 0))
          obtain ⟨hv1, hr1⟩ := (hT 1 27 rfl rfl : (Is (.agg #[.bool (ng z5), .slice p5 n5 c5])) (f' 27) (ρ 1))
          obtain ⟨hv2, hr2⟩ := (hT 2 28 rfl rfl : (Is (.bool true)) (f' 28) (ρ 2))
          obtain ⟨hv3, hr3⟩ := (hT 3 29 rfl rfl : (Is (.bool false)) (f' 29) (ρ 3))
          obtain ⟨hv4, hr4⟩ := (hT 4 30 rfl rfl : (Is (.bool false)) (f' 30) (ρ 4))
          obtain ⟨hv5, hr5⟩ := (hT 5 31 rfl rfl : (Is (.agg #[.bool b, .slice pc1 n cc1])) (f' 31) (ρ 5))
          obtain ⟨hv6, hr6⟩ := (hT 6 32 rfl rfl : (Is (.agg #[.bool b2, .slice pc2 m cc2])) (f' 32) (ρ 6))
          obtain ⟨p6, n6, c6, hv7, hr7⟩ := (hT 7 33 rfl rfl : (Zt z6) (f' 33) (ρ 7))
          obtain ⟨hv8, hr8⟩ := (hT 8 34 rfl rfl : (Is (.agg #[.bool b, .slice p n c])) (f' 34) (ρ 8))
          obtain ⟨hv9, hr9⟩ := (hT 9 35 rfl rfl : (Is (.agg #[.bool b2, .slice q m d])) (f' 35) (ρ 9))
          obtain ⟨p7, n7, c7, hv10, hr10⟩ := (hT 10 36 rfl rfl : (Zt z7) (f' 36) (ρ 10))
          obtain ⟨hv11, hr11⟩ := (hT 11 37 rfl rfl : (Is (.bool true)) (f' 37) (ρ 11))
          obtain ⟨hv12, hr12⟩ := (hT 12 38 rfl rfl : (Is (.bool false)) (f' 38) (ρ 12))
          obtain ⟨hv13, hr13⟩ := (hT 13 39 rfl rfl : (Is (.bool false)) (f' 39) (ρ 13))
          obtain ⟨hv14, hr14⟩ := (hT 14 40 rfl rfl : (Is (.bool false)) (f' 40) (ρ 14))
          obtain ⟨hv15, hr15⟩ := (hT 15 41 rfl rfl : (Is (.agg #[.bool b, .slice pc1 n cc1])) (f' 41) (ρ 15))
          obtain ⟨hv16, hr16⟩ := (hT 16 42 rfl rfl : (Is (.agg #[.bool b2, .slice pc2 m cc2])) (f' 42) (ρ 16))
          obtain ⟨p8, n8, c8, hv17, hr17⟩ := (hT 17 43 rfl rfl : (Zt z8) (f' 43) (ρ 17))
          obtain ⟨hv18, hr18⟩ := (hT 18 44 rfl rfl : (Is (.agg #[.bool b, .slice p n c])) (f' 44) (ρ 18))
          obtain ⟨hv19, hr19⟩ := (hT 19 45 rfl rfl : (Is (.agg #[.bool b2, .slice q m d])) (f' 45) (ρ 19))
          replace hS : Sep w ([.blk g16 [.bool (ng z5), .slice p5 n5 c5] 25, .row p5 n5 c5 (lim z5.natAbs), .blk g11 [.bool (ng z4), .slice p4 n4 c4] 25, .blk g10 [.bool (ng z3), .slice p3 n3 c3] 25, .row p4 n4 c4 (lim z4.natAbs), .rowm p3 n3 c3 (lim z3.natAbs), .blk g6 [.bool b2, .slice pc2 m cc2] 25, .blk g5 [.bool b, .slice pc1 n cc1] 25, .row pc2 m cc2 ys, .row pc1 n cc1 xs, .blk g3 [.bool b2, .slice q m d] 25, .blk g1 [.bool b, .slice p n c] 25, .row p6 n6 c6 (lim z6.natAbs), .row p7 n7 c7 (lim z7.natAbs), .row p8 n8 c8 (lim z8.natAbs)] ++ S) w' := by simpa [hr0, hr1, hr2, hr3, hr4, hr5, hr6, hr7, hr8, hr9, hr10, hr11, hr12, hr13, hr14, hr15, hr16, hr17, hr18, hr19] using hS
          refine .inl ⟨want_on (e := 40) rfl rfl rfl hv14, ocall rfl rfl Try.call17 rfl (args2 (ev (v := .agg #[.bool b, .slice p n c]) rfl hv18) (ev (v := .agg #[.bool b2, .slice q m d]) rfl hv19)) (wqmul ((hzx.at hS).mono (by omega)) ((hzy.at hS).mono (by omega)) hz9) ?_⟩
          rintro _ w9 ⟨_, _, rfl, hTT, hN⟩
          exact ⟨_, rfl, _, _, rfl, hTT, hN⟩
        refine stepsCons rfl ?_ ?_
        · intro f' w' ρ S ho hT hS
          obtain ⟨hv0, hr0⟩ := (hT 0 26 rfl rfl : (Is (.agg #[.bool (ng z3), .slice p3 n3 c3])) (f' 26) (ρ 0))
          obtain ⟨hv1, hr1⟩ := (hT 1 27 rfl rfl : (Is (.agg #[.bool (ng z5), .slice p5 n5 c5])) (f' 27) (ρ 1))
          obtain ⟨hv2, hr2⟩ := (hT 2 28 rfl rfl : (Is (.bool true)) (f' 28) (ρ 2))
          obtain ⟨hv3, hr3⟩ := (hT 3 29 rfl rfl : (Is (.bool false)) (f' 29) (ρ 3))
          obtain ⟨hv4, hr4⟩ := (hT 4 30 rfl rfl : (Is (.bool false)) (f' 30) (ρ 4))
          obtain ⟨hv5, hr5⟩ := (hT 5 31 rfl rfl : (Is (.agg #[.bool b, .slice pc1 n cc1])) (f' 31) (ρ 5))
          obtain ⟨hv6, hr6⟩ := (hT 6 32 rfl rfl : (Is (.agg #[.bool b2, .slice pc2 m cc2])) (f' 32) (ρ 6))
          obtain ⟨p6, n6, c6, hv7, hr7⟩ := (hT 7 33 rfl rfl : (Zt z6) (f' 33) (ρ 7))
          obtain ⟨hv8, hr8⟩ := (hT 8 34 rfl rfl : (Is (.agg #[.bool b, .slice p n c])) (f' 34) (ρ 8))
          obtain ⟨hv9, hr9⟩ := (hT 9 35 rfl rfl : (Is (.agg #[.bool b2, .slice q m d])) (f' 35) (ρ 9))
          obtain ⟨p7, n7, c7, hv10, hr10⟩ := (hT 10 36 rfl rfl : (Zt z7) (f' 36) (ρ 10))
          obtain ⟨hv11, hr11⟩ := (hT 11 37 rfl rfl : (Is (.bool true)) (f' 37) (ρ 11))
          obtain ⟨hv12, hr12⟩ := (hT 12 38 rfl rfl : (Is (.bool false)) (f' 38) (ρ 12))
          obtain ⟨hv13, hr13⟩ := (hT 13 39 rfl rfl : (Is (.bool false)) (f' 39) (ρ 13))
          obtain ⟨hv14, hr14⟩ := (hT 14 40 rfl rfl : (Is (.bool false)) (f' 40) (ρ 14))
          obtain ⟨hv15, hr15⟩ := (hT 15 41 rfl rfl : (Is (.agg #[.bool b, .slice pc1 n cc1])) (f' 41) (ρ 15))
          obtain ⟨hv16, hr16⟩ := (hT 16 42 rfl rfl : (Is (.agg #[.bool b2, .slice pc2 m cc2])) (f' 42) (ρ 16))
          obtain ⟨p8, n8, c8, hv17, hr17⟩ := (hT 17 43 rfl rfl : (Zt z8) (f' 43) (ρ 17))
          obtain ⟨hv18, hr18⟩ := (hT 18 44 rfl rfl : (Is (.agg #[.bool b, .slice p n c])) (f' 44) (ρ 18))
          obtain ⟨hv19, hr19⟩ := (hT 19 45 rfl rfl : (Is (.agg #[.bool b2, .slice q m d])) (f' 45) (ρ 19))
          obtain ⟨p9, n9, c9, hv20, hr20⟩ := (hT 20 46 rfl rfl : (Zt z9) (f' 46) (ρ 20))
          replace hS : Sep w ([.blk g16 [.bool (ng z5), .slice p5 n5 c5] 25, .row p5 n5 c5 (lim z5.natAbs), .blk g11 [.bool (ng z4), .slice p4 n4 c4] 25, .blk g10 [.bool (ng z3), .slice p3 n3 c3] 25, .row p4 n4 c4 (lim z4.natAbs), .rowm p3 n3 c3 (lim z3.natAbs), .blk g6 [.bool b2, .slice pc2 m cc2] 25, .blk g5 [.bool b, .slice pc1 n cc1] 25, .row pc2 m cc2 ys, .row pc1 n cc1 xs, .blk g3 [.bool b2, .slice q m d] 25, .blk g1 [.bool b, .slice p n c] 25, .row p6 n6 c6 (lim z6.natAbs), .row p7 n7 c7 (lim z7.natAbs), .row p8 n8 c8 (lim z8.natAbs), .row p9 n9 c9 (lim z9.natAbs)] ++ S) w' := by simpa [hr0, hr1, hr2, hr3, hr4, hr5, hr6, hr7, hr8, hr9, hr10, hr11, hr12, hr13, hr14, hr15, hr16, hr17, hr18, hr19, hr20] using hS
          refine .inl ⟨want_on (e := 40) rfl rfl rfl hv14, ocall rfl rfl Try.call13 rfl (args2 (ev (v := .agg #[.bool (ng z8), .slice p8 n8 c8]) rfl hv17) (ev (v := .agg #[.bool (ng z9), .slice p9 n9 c9]) rfl hv20)) (wlsame (x := z8) (y := z9) (hS.sl 14 rfl) (hS.sl 15 rfl) (hz8.out.symm.trans hz9.out)) ?_⟩
          rintro _ w9 ⟨_, _, rfl, hTT, hN⟩
          exact ⟨_, rfl, _, _, rfl, hTT, hN⟩
        refine stepsCons rfl ?_ ?_
        · intro f' w' ρ S ho hT hS
          obtain ⟨hv0, hr0⟩ := (hT 0 26 rfl rfl : (Is (.agg #[.bool (ng z3), .slice p3 n3 c3])) (f' 26) (ρ 0))
          obtain ⟨hv1, hr1⟩ := (hT 1 27 rfl rfl : (Is (.agg #[.bool (ng z5), .slice p5 n5 c5])) (f' 27) (ρ 1))
          obtain ⟨hv2, hr2⟩ := (hT 2 28 rfl rfl : (Is (.bool true)) (f' 28) (ρ 2))
          obtain ⟨hv3, hr3⟩ := (hT 3 29 rfl rfl : (Is (.bool false)) (f' 29) (ρ 3))
          obtain ⟨hv4, hr4⟩ := (hT 4 30 rfl rfl : (Is (.bool false)) (f' 30) (ρ 4))
          obtain ⟨hv5, hr5⟩ := (hT 5 31 rfl rfl : (Is (.agg #[.bool b, .slice pc1 n cc1])) (f' 31) (ρ 5))
          obtain ⟨hv6, hr6⟩ := (hT 6 32 rfl rfl : (Is (.agg #[.bool b2, .slice pc2 m cc2])) (f' 32) (ρ 6))
          obtain ⟨p6, n6, c6, hv7, hr7⟩ := (hT 7 33 rfl rfl : (Zt z6) (f' 33) (ρ 7))
          obtain ⟨hv8, hr8⟩ := (hT 8 34 rfl rfl : (Is (.agg #[.bool b, .slice p n c])) (f' 34) (ρ 8))
          obtain ⟨hv9, hr9⟩ := (hT 9 35 rfl rfl : (Is (.agg #[.bool b2, .slice q m d])) (f' 35) (ρ 9))
          obtain ⟨p7, n7, c7, hv10, hr10⟩ := (hT 10 36 rfl rfl : (Zt z7) (f' 36) (ρ 10))
          obtain ⟨hv11, hr11⟩ := (hT 11 37 rfl rfl : (Is (.bool true)) (f' 37) (ρ 11))
          obtain ⟨hv12, hr12⟩ := (hT 12 38 rfl rfl : (Is (.bool false)) (f' 38) (ρ 12))
          obtain ⟨hv13, hr13⟩ := (hT 13 39 rfl rfl : (Is (.bool false)) (f' 39) (ρ 13))
          obtain ⟨hv14, hr14⟩ := (hT 14 40 rfl rfl : (Is (.bool false)) (f' 40) (ρ 14))
          obtain ⟨hv15, hr15⟩ := (hT 15 41 rfl rfl : (Is (.agg #[.bool b, .slice pc1 n cc1])) (f' 41) (ρ 15))
          obtain ⟨hv16, hr16⟩ := (hT 16 42 rfl rfl : (Is (.agg #[.bool b2, .slice pc2 m cc2])) (f' 42) (ρ 16))
          obtain ⟨p8, n8, c8, hv17, hr17⟩ := (hT 17 43 rfl rfl : (Zt z8) (f' 43) (ρ 17))
          obtain ⟨hv18, hr18⟩ := (hT 18 44 rfl rfl : (Is (.agg #[.bool b, .slice p n c])) (f' 44) (ρ 18))
          obtain ⟨hv19, hr19⟩ := (hT 19 45 rfl rfl : (Is (.agg #[.bool b2, .slice q m d])) (f' 45) (ρ 19))
          obtain ⟨p9, n9, c9, hv20, hr20⟩ := (hT 20 46 rfl rfl : (Zt z9) (f' 46) (ρ 20))
          obtain ⟨hv21, hr21⟩ := (hT 21 47 rfl rfl : (Is (.bool true)) (f' 47) (ρ 21))
          replace hS : Sep w ([.blk g16 [.bool (ng z5), .slice p5 n5 c5] 25, .row p5 n5 c5 (lim z5.natAbs), .blk g11 [.bool (ng z4), .slice p4 n4 c4] 25, .blk g10 [.bool (ng z3), .slice p3 n3 c3] 25, .row p4 n4 c4 (lim z4.natAbs), .rowm p3 n3 c3 (lim z3.natAbs), .blk g6 [.bool b2, .slice pc2 m cc2] 25, .blk g5 [.bool b, .slice pc1 n cc1] 25, .row pc2 m cc2 ys, .row pc1 n cc1 xs, .blk g3 [.bool b2, .slice q m d] 25, .blk g1 [.bool b, .slice p n c] 25, .row p6 n6 c6 (lim z6.natAbs), .row p7 n7 c7 (lim z7.natAbs), .row p8 n8 c8 (lim z8.natAbs), .row p9 n9 c9 (lim z9.natAbs)] ++ S) w' := by simpa [hr0, hr1, hr2, hr3, hr4, hr5, hr6, hr7, hr8, hr9, hr10, hr11, hr12, hr13, hr14, hr15, hr16, hr17, hr18, hr19, hr20, hr21] using hS
          exact .inl ⟨want_on (e := 40) rfl rfl rfl hv14, onot (b := true) rfl rfl (ev (v := .bool true) rfl hv21) ⟨_, _, rfl, isI, New.same _⟩⟩
        refine stepsCons rfl ?_ ?_
        · intro f' w' ρ S ho hT hS
          obtain ⟨hv0, hr0⟩ := (hT 0 26 rfl rfl : (Is (.agg #[.bool (ng z3), .slice p3 n3 c3])) (f' 26) (ρ 0))
          obtain ⟨hv1, hr1⟩ := (hT 1 27 rfl rfl : (Is (.agg #[.bool (ng z5), .slice p5 n5 c5])) (f' 27) (ρ 1))
          obtain ⟨hv2, hr2⟩ := (hT 2 28 rfl rfl : (Is (.bool true)) (f' 28) (ρ 2))
          obtain ⟨hv3, hr3⟩ := (hT 3 29 rfl rfl : (Is (.bool false)) (f' 29) (ρ 3))
          obtain ⟨hv4, hr4⟩ := (hT 4 30 rfl rfl : (Is (.bool false)) (f' 30) (ρ 4))
          obtain ⟨hv5, hr5⟩ := (hT 5 31 rfl rfl : (Is (.agg #[.bool b, .slice pc1 n cc1])) (f' 31) (ρ 5))
          obtain ⟨hv6, hr6⟩ := (hT 6 32 rfl rfl : (Is (.agg #[.bool b2, .slice pc2 m cc2])) (f' 32) (ρ 6))
          obtain ⟨p6, n6, c6, hv7, hr7⟩ := (hT 7 33 rfl rfl : (Zt z6) (f' 33) (ρ 7))
          obtain ⟨hv8, hr8⟩ := (hT 8 34 rfl rfl : (Is (.agg #[.bool b, .slice p n c])) (f' 34) (ρ 8))
          obtain ⟨hv9, hr9⟩ := (hT 9 35 rfl rfl : (Is (.agg #[.bool b2, .slice q m d])) (f' 35) (ρ 9))
          obtain ⟨p7, n7, c7, hv10, hr10⟩ := (hT 10 36 rfl rfl : (Zt z7) (f' 36) (ρ 10))
          obtain ⟨hv11, hr11⟩ := (hT 11 37 rfl rfl : (Is (.bool true)) (f' 37) (ρ 11))
          obtain ⟨hv12, hr12⟩ := (hT 12 38 rfl rfl : (Is (.bool false)) (f' 38) (ρ 12))
          obtain ⟨hv13, hr13⟩ := (hT 13 39 rfl rfl : (Is (.bool false)) (f' 39) (ρ 13))
          obtain ⟨hv14, hr14⟩ := (hT 14 40 rfl rfl : (Is (.bool false)) (f' 40) (ρ 14))
          obtain ⟨hv15, hr15⟩ := (hT 15 41 rfl rfl : (Is (.agg #[.bool b, .slice pc1 n cc1])) (f' 41) (ρ 15))
          obtain ⟨hv16, hr16⟩ := (hT 16 42 rfl rfl : (Is (.agg #[.bool b2, .slice pc2 m cc2])) (f' 42) (ρ 16))
          obtain ⟨p8, n8, c8, hv17, hr17⟩ := (hT 17 43 rfl rfl : (Zt z8) (f' 43) (ρ 17))
          obtain ⟨hv18, hr18⟩ := (hT 18 44 rfl rfl : (Is (.agg #[.bool b, .slice p n c])) (f' 44) (ρ 18))
          obtain ⟨hv19, hr19⟩ := (hT 19 45 rfl rfl : (Is (.agg #[.bool b2, .slice q m d])) (f' 45) (ρ 19))
          obtain ⟨p9, n9, c9, hv20, hr20⟩ := (hT 20 46 rfl rfl : (Zt z9) (f' 46) (ρ 20))
          obtain ⟨hv21, hr21⟩ := (hT 21 47 rfl rfl : (Is (.bool true)) (f' 47) (ρ 21))
          obtain ⟨hv22, hr22⟩ := (hT 22 48 rfl rfl : (Is (.bool false)) (f' 48) (ρ 22))
          replace hS : Sep w ([.blk g16 [.bool (ng z5), .slice p5 n5 c5] 25, .row p5 n5 c5 (lim z5.natAbs), .blk g11 [.bool (ng z4), .slice p4 n4 c4] 25, .blk g10 [.bool (ng z3), .slice p3 n3 c3] 25, .row p4 n4 c4 (lim z4.natAbs), .rowm p3 n3 c3 (lim z3.natAbs), .blk g6 [.bool b2, .slice pc2 m cc2] 25, .blk g5 [.bool b, .slice pc1 n cc1] 25, .row pc2 m cc2 ys, .row pc1 n cc1 xs, .blk g3 [.bool b2, .slice q m d] 25, .blk g1 [.bool b, .slice p n c] 25, .row p6 n6 c6 (lim z6.natAbs), .row p7 n7 c7 (lim z7.natAbs), .row p8 n8 c8 (lim z8.natAbs), .row p9 n9 c9 (lim z9.natAbs)] ++ S) w' := by simpa [hr0, hr1, hr2, hr3, hr4, hr5, hr6, hr7, hr8, hr9, hr10, hr11, hr12, hr13, hr14, hr15, hr16, hr17, hr18, hr19, hr20, hr21, hr22] using hS
          exact .inl ⟨want_none rfl, opick (b := false) (v := .bool false) rfl rfl (ev (v := .bool false) rfl hv14) (ev (v := .bool false) rfl hv22) ⟨_, _, rfl, isI, New.same _⟩⟩
        exact stepsNil
      ·
        intro vs ρ w19 f' hf hT hS
        obtain ⟨hv0, hr0⟩ := (hT 0 (by decide) : (Is (.agg #[.bool (ng z3), .slice p3 n3 c3])) (vs 0) (ρ 0))
        obtain ⟨hv1, hr1⟩ := (hT 1 (by decide) : (Is (.agg #[.bool (ng z5), .slice p5 n5 c5])) (vs 1) (ρ 1))
        obtain ⟨hv2, hr2⟩ := (hT 2 (by decide) : (Is (.bool true)) (vs 2) (ρ 2))
        obtain ⟨hv3, hr3⟩ := (hT 3 (by decide) : (Is (.bool false)) (vs 3) (ρ 3))
        obtain ⟨hv4, hr4⟩ := (hT 4 (by decide) : (Is (.bool false)) (vs 4) (ρ 4))
        obtain ⟨hv5, hr5⟩ := (hT 5 (by decide) : (Is (.agg #[.bool b, .slice pc1 n cc1])) (vs 5) (ρ 5))
        obtain ⟨hv6, hr6⟩ := (hT 6 (by decide) : (Is (.agg #[.bool b2, .slice pc2 m cc2])) (vs 6) (ρ 6))
        obtain ⟨p6, n6, c6, hv7, hr7⟩ := (hT 7 (by decide) : (Zt z6) (vs 7) (ρ 7))
        obtain ⟨hv8, hr8⟩ := (hT 8 (by decide) : (Is (.agg #[.bool b, .slice p n c])) (vs 8) (ρ 8))
        obtain ⟨hv9, hr9⟩ := (hT 9 (by decide) : (Is (.agg #[.bool b2, .slice q m d])) (vs 9) (ρ 9))
        obtain ⟨p7, n7, c7, hv10, hr10⟩ := (hT 10 (by decide) : (Zt z7) (vs 10) (ρ 10))
        obtain ⟨hv11, hr11⟩ := (hT 11 (by decide) : (Is (.bool true)) (vs 11) (ρ 11))
        obtain ⟨hv12, hr12⟩ := (hT 12 (by decide) : (Is (.bool false)) (vs 12) (ρ 12))
        obtain ⟨hv13, hr13⟩ := (hT 13 (by decide) : (Is (.bool false)) (vs 13) (ρ 13))
        obtain ⟨hv14, hr14⟩ := (hT 14 (by decide) : (Is (.bool false)) (vs 14) (ρ 14))
        obtain ⟨hv15, hr15⟩ := (hT 15 (by decide) : (Is (.agg #[.bool b, .slice pc1 n cc1])) (vs 15) (ρ 15))
        obtain ⟨hv16, hr16⟩ := (hT 16 (by decide) : (Is (.agg #[.bool b2, .slice pc2 m cc2])) (vs 16) (ρ 16))
        obtain ⟨p8, n8, c8, hv17, hr17⟩ := (hT 17 (by decide) : (Zt z8) (vs 17) (ρ 17))
        obtain ⟨hv18, hr18⟩ := (hT 18 (by decide) : (Is (.agg #[.bool b, .slice p n c])) (vs 18) (ρ 18))
        obtain ⟨hv19, hr19⟩ := (hT 19 (by decide) : (Is (.agg #[.bool b2, .slice q m d])) (vs 19) (ρ 19))
        obtain ⟨p9, n9, c9, hv20, hr20⟩ := (hT 20 (by decide) : (Zt z9) (vs 20) (ρ 20))
        obtain ⟨hv21, hr21⟩ := (hT 21 (by decide) : (Is (.bool true)) (vs 21) (ρ 21))
        obtain ⟨hv22, hr22⟩ := (hT 22 (by decide) : (Is (.bool false)) (vs 22) (ρ 22))
        obtain ⟨hv23, hr23⟩ := (hT 23 (by decide) : (Is (.bool false)) (vs 23) (ρ 23))
        simp only [pool, if_true, hr0, hr1, hr2, hr3, hr4, hr5, hr6, hr7, hr8, hr9, hr10, hr11, hr12, hr13, hr14, hr15, hr16, hr17, hr18, hr19, hr20, hr21, hr22, hr23, List.nil_append, List.cons_append, List.append_nil] at hS
        replace hS : Sep w [.row p9 n9 c9 (lim z9.natAbs), .row p8 n8 c8 (lim z8.natAbs), .row p7 n7 c7 (lim z7.natAbs), .row p6 n6 c6 (lim z6.natAbs), .blk g16 [.bool (ng z5), .slice p5 n5 c5] 25, .row p5 n5 c5 (lim z5.natAbs), .blk g11 [.bool (ng z4), .slice p4 n4 c4] 25, .blk g10 [.bool (ng z3), .slice p3 n3 c3] 25, .row p4 n4 c4 (lim z4.natAbs), .rowm p3 n3 c3 (lim z3.natAbs), .blk g6 [.bool b2, .slice pc2 m cc2] 25, .blk g5 [.bool b, .slice pc1 n cc1] 25, .row pc2 m cc2 ys, .row pc1 n cc1 xs, .blk g3 [.bool b2, .slice q m d] 25, .blk g1 [.bool b, .slice p n c] 25] w19 := hS
        simp only [layf, hv0, hv1, hv2, hv3, hv4, hv5, hv6, hv7, hv8, hv9, hv10, hv11, hv12, hv13, hv14, hv15, hv16, hv17, hv18, hv19, hv20, hv21, hv22, hv23] at hf
        subst hf; clear hT hv0 hv1 hv2 hv3 hv4 hv5 hv6 hv7 hv8 hv9 hv10 hv11 hv12 hv13 hv14 hv15 hv16 hv17 hv18 hv19 hv20 hv21 hv22 hv23 hr0 hr1 hr2 hr3 hr4 hr5 hr6 hr7 hr8 hr9 hr10 hr11 hr12 hr13 hr14 hr15 hr16 hr17 hr18 hr19 hr20 hr21 hr22 hr23
        refine wdone rfl ?_
        refine thenN ?_
        refine wF (ev (v := .bool false) rfl rfl) ?_
        refine wskip ?_
        refine thenN ?_
        refine wseq ?_
        refine wseq ?_
        refine wreg ?_
        refine wl rfl (ofieldAddr (g := g10) (off := 0) 1 rfl rfl (ev (v := .pointer (some ⟨g10, 0, none⟩)) rfl rfl) Try.runUnderlying25 rfl Try.sizeOf23 rfl ?_)
        refine wl rfl (oload1 (v := .slice p3 n3 c3) oneN hS 7 rfl rfl (ev (v := .pointer (some ⟨g10, 1, none⟩)) rfl rfl) rfl rfl ?_)
        refine wl rfl (olen rfl rfl rfl Try.runUnderlying23 (p := p3) (k := n3) (m := c3) (ev (v := .slice p3 n3 c3) rfl rfl) ?_)
        refine wl rfl (omove (v := .int .i64 0) rfl rfl (evc (v := .int .i64 0)) ?_)
        refine wnil ?_
        refine thenN ?_
        refine wblock ?_
        have hln3 : n3 ≤ 1048578 := z_len (hS.rowmAt 9 rfl) (hk3.mono (by omega))
        refine wloop (σ := Nat) (fun k a w' => ∃ (fb : Nat → Value) (l3 : List Nat), a = act 91 (sets fb [(2, .pointer (some ⟨g1, 0, none⟩)), (3, .pointer (some ⟨g3, 0, none⟩)), (4, .bool false), (5, .pointer (some ⟨g5, 0, none⟩)), (6, .pointer (some ⟨g6, 0, none⟩)), (7, .pointer (some ⟨g10, 0, none⟩)), (8, .pointer (some ⟨g11, 0, none⟩)), (9, .pointer (some ⟨g16, 0, none⟩)), (52, .int .i64 (((n3 : Nat) : Int))), (53, .int .i64 (((k : Nat) : Int)))]) ∧ Sep w [.row p9 n9 c9 (lim z9.natAbs), .row p8 n8 c8 (lim z8.natAbs), .row p7 n7 c7 (lim z7.natAbs), .row p6 n6 c6 (lim z6.natAbs), .blk g16 [.bool (ng z5), .slice p5 n5 c5] 25, .row p5 n5 c5 (lim z5.natAbs), .blk g11 [.bool (ng z4), .slice p4 n4 c4] 25, .blk g10 [.bool (ng z3), .slice p3 n3 c3] 25, .row p4 n4 c4 (lim z4.natAbs), .rowm p3 n3 c3 l3, .blk g6 [.bool b2, .slice pc2 m cc2] 25, .blk g5 [.bool b, .slice pc1 n cc1] 25, .row pc2 m cc2 ys, .row pc1 n cc1 xs, .blk g3 [.bool b2, .slice q m d] 25, .blk g1 [.bool b, .slice p n c] 25] w' ∧ (k ≤ n3)) (fun k => n3 - k) (0) ⟨_, _, act_sets (l := [(2, .pointer (some ⟨g1, 0, none⟩)), (3, .pointer (some ⟨g3, 0, none⟩)), (4, .bool false), (5, .pointer (some ⟨g5, 0, none⟩)), (6, .pointer (some ⟨g6, 0, none⟩)), (7, .pointer (some ⟨g10, 0, none⟩)), (8, .pointer (some ⟨g11, 0, none⟩)), (9, .pointer (some ⟨g16, 0, none⟩)), (52, .int .i64 (((n3 : Nat) : Int))), (53, .int .i64 0)]) ⟨rfl, rfl, rfl, rfl, rfl, rfl, rfl, rfl, rfl, rfl, trivial⟩, hS, Nat.zero_le _⟩ ?_
        clear hS; rintro k _ w20 ⟨fb, l3, rfl, hS, hk⟩
        refine wseq ?_
        refine wreg ?_
        by_cases hlt : k < n3
        ·
          refine wl rfl (obin (u := .int .i64 (((k : Nat) : Int))) (v := .int .i64 (((n3 : Nat) : Int))) (z := .bool true) rfl rfl (ev (v := .int .i64 (((k : Nat) : Int))) rfl rfl) (ev (v := .int .i64 (((n3 : Nat) : Int))) rfl rfl) (bin_lss (decide_eq_true (by omega))) ?_)
          refine wnil ?_
          refine thenN ?_
          refine wseq ?_
          refine wT (ev (v := .bool true) rfl rfl) ?_
          refine wskip ?_
          refine thenN ?_
          refine wseq ?_
          refine wblock ?_
          refine wseq ?_
          refine wreg ?_
          refine wl rfl (omove (v := .int .i64 (((k : Nat) : Int))) rfl rfl (ev (v := .int .i64 (((k : Nat) : Int))) rfl rfl) ?_)
          refine wl rfl (oassign (v := .int .i64 (((k : Nat) : Int))) rfl rfl (ev (v := .int .i64 (((k : Nat) : Int))) rfl rfl) ?_)
          refine wnil ?_
          refine thenN ?_
          refine wreg ?_
          refine wl rfl (ofieldAddr (g := g10) (off := 0) 1 rfl rfl (ev (v := .pointer (some ⟨g10, 0, none⟩)) rfl rfl) Try.runUnderlying25 rfl Try.sizeOf23 rfl ?_)
          refine wl rfl (oload1 (v := .slice p3 n3 c3) oneN hS 7 rfl rfl (ev (v := .pointer (some ⟨g10, 1, none⟩)) rfl rfl) rfl rfl ?_)
          refine wl rfl (omove (v := .int .i64 (((k : Nat) : Int))) rfl rfl (ev (v := .int .i64 (((k : Nat) : Int))) rfl rfl) ?_)
          obtain ⟨gg, hp, _, _⟩ := (hS.rowmAt 9 rfl).pos (by omega)
          refine wl rfl (oindex (p := p3) (g := gg) (off := 0) (m := n3) (k := k) (j := k) rfl rfl Try.runUnderlying23 Try.sizeOf29 (ev (v := .slice p3 n3 c3) rfl rfl) (hp) (ev (v := .int .i64 (((k : Nat) : Int))) rfl rfl) (hlt) (by omega) ?_)
          refine wl rfl (ostoreRow (i := k) (u := 3) Try.sizeOf29 hS 9 rfl rfl (ev (v := .pointer (some ⟨gg, k, none⟩)) rfl rfl) (evc (v := .int .u32 ((3 : Nat) : Int))) rfl (hp) (hlt) (by omega) ?_)
          intro w21 hY; clear hS; have hS : Sep w [.row p9 n9 c9 (lim z9.natAbs), .row p8 n8 c8 (lim z8.natAbs), .row p7 n7 c7 (lim z7.natAbs), .row p6 n6 c6 (lim z6.natAbs), .blk g16 [.bool (ng z5), .slice p5 n5 c5] 25, .row p5 n5 c5 (lim z5.natAbs), .blk g11 [.bool (ng z4), .slice p4 n4 c4] 25, .blk g10 [.bool (ng z3), .slice p3 n3 c3] 25, .row p4 n4 c4 (lim z4.natAbs), .rowm p3 n3 c3 ((l3).set k 3), .blk g6 [.bool b2, .slice pc2 m cc2] 25, .blk g5 [.bool b, .slice pc1 n cc1] 25, .row pc2 m cc2 ys, .row pc1 n cc1 xs, .blk g3 [.bool b2, .slice q m d] 25, .blk g1 [.bool b, .slice p n c] 25] w21 := hY; clear hY
          refine wnil ?_
          refine blkN ?_
          refine thenN ?_
          refine wreg ?_
          refine wl rfl (obin (u := .int .i64 (((k : Nat) : Int))) (v := .int .i64 1) (z := .int .i64 (((k + 1 : Nat) : Int))) rfl rfl (ev (v := .int .i64 (((k : Nat) : Int))) rfl rfl) (evc (v := .int .i64 1)) (bin_add (wrap_succ (by omega))) ?_)
          refine wl rfl (omove (v := .int .i64 (((k + 1 : Nat) : Int))) rfl rfl (ev (v := .int .i64 (((k + 1 : Nat) : Int))) rfl rfl) ?_)
          refine wnil ?_
          refine thenN ?_
          exact ⟨k + 1, ⟨_, _, act_sets (l := [(2, .pointer (some ⟨g1, 0, none⟩)), (3, .pointer (some ⟨g3, 0, none⟩)), (4, .bool false), (5, .pointer (some ⟨g5, 0, none⟩)), (6, .pointer (some ⟨g6, 0, none⟩)), (7, .pointer (some ⟨g10, 0, none⟩)), (8, .pointer (some ⟨g11, 0, none⟩)), (9, .pointer (some ⟨g16, 0, none⟩)), (52, .int .i64 (((n3 : Nat) : Int))), (53, .int .i64 (((k + 1 : Nat) : Int)))]) ⟨rfl, rfl, rfl, rfl, rfl, rfl, rfl, rfl, rfl, rfl, trivial⟩, hS.pick [0, 1, 2, 3, 4, 5, 6, 7, 8, 9, 10, 11, 12, 13, 14, 15] (by decide) rfl, by omega⟩, by omega⟩
        ·
          refine wl rfl (obin (u := .int .i64 (((k : Nat) : Int))) (v := .int .i64 (((n3 : Nat) : Int))) (z := .bool false) rfl rfl (ev (v := .int .i64 (((k : Nat) : Int))) rfl rfl) (ev (v := .int .i64 (((n3 : Nat) : Int))) rfl rfl) (bin_lss (decide_eq_false (by omega))) ?_)
          refine wnil ?_
          refine thenN ?_
          refine wseq ?_
          refine wF (ev (v := .bool false) rfl rfl) ?_
          refine wexit ?_
          refine thenE ?_
          refine thenE ?_
          refine blkE ?_
          refine thenN ?_
          refine wseq ?_
          have hk10 : Wd 0 2 := Wd.i64 (by omega) (by omega)
          obtain ⟨z11, hz11⟩ : ∃ z : Int, Hid (x + 0 = z) := ⟨_, rfl⟩
          have hk11 : Wd z11 1048577 := Wd.add hzx.wd hk10 hz11 (by omega)
          refine wstage 4 [61, 62, 63, 11] [[], [], [0, 1], []] [[], [], [], []] [] (fun i => ([fun _ => Is (.agg #[.bool b, .slice pc1 n cc1]), fun _ => Zt 0, fun _ => Zm z11, fun _ => Ptr [.bool false, .slice none 0 0] 25] : List (List Value → Tell)).getD i (fun _ _ _ => False)) (fun d _ _ _ _ h => (by cases d <;> exact h)) (by kernel_rfl) (by kernel_rfl) (by kernel_rfl) hS ?_ ?_
          ·
            refine stepsCons rfl ?_ ?_
            · intro f' w' ρ S ho hT hS
              replace hS : Sep w ([.row p9 n9 c9 (lim z9.natAbs), .row p8 n8 c8 (lim z8.natAbs), .row p7 n7 c7 (lim z7.natAbs), .row p6 n6 c6 (lim z6.natAbs), .blk g16 [.bool (ng z5), .slice p5 n5 c5] 25, .row p5 n5 c5 (lim z5.natAbs), .blk g11 [.bool (ng z4), .slice p4 n4 c4] 25, .blk g10 [.bool (ng z3), .slice p3 n3 c3] 25, .row p4 n4 c4 (lim z4.natAbs), .rowm p3 n3 c3 l3, .blk g6 [.bool b2, .slice pc2 m cc2] 25, .blk g5 [.bool b, .slice pc1 n cc1] 25, .row pc2 m cc2 ys, .row pc1 n cc1 xs, .blk g3 [.bool b2, .slice q m d] 25, .blk g1 [.bool b, .slice p n c] 25] ++ S) w' := by simpa using hS
              exact .inl ⟨want_none rfl, oload (vs := [.bool b, .slice pc1 n cc1]) aggZ hS 11 rfl rfl (ev (v := .pointer (some ⟨g5, 0, none⟩)) rfl (ho 5 rfl)) rfl rfl rfl ⟨_, _, rfl, isI, New.same _⟩⟩
            refine stepsCons rfl ?_ ?_
            · intro f' w' ρ S ho hT hS
              replace hS : Sep w ([.row p9 n9 c9 (lim z9.natAbs), .row p8 n8 c8 (lim z8.natAbs), .row p7 n7 c7 (lim z7.natAbs), .row p6 n6 c6 (lim z6.natAbs), .blk g16 [.bool (ng z5), .slice p5 n5 c5] 25, .row p5 n5 c5 (lim z5.natAbs), .blk g11 [.bool (ng z4), .slice p4 n4 c4] 25, .blk g10 [.bool (ng z3), .slice p3 n3 c3] 25, .row p4 n4 c4 (lim z4.natAbs), .rowm p3 n3 c3 l3, .blk g6 [.bool b2, .slice pc2 m cc2] 25, .blk g5 [.bool b, .slice pc1 n cc1] 25, .row pc2 m cc2 ys, .row pc1 n cc1 xs, .blk g3 [.bool b2, .slice q m d] 25, .blk g1 [.bool b, .slice p n c] 25] ++ S) w' := by simpa using hS
              refine .inl ⟨want_none rfl, ocall rfl rfl Try.call18 rfl (args1 (evc (v := .int .i64 0))) (wlof (z := 0) (by omega) (by omega)) ?_⟩
              rintro _ w9 ⟨_, _, rfl, hTT, hN⟩
              exact ⟨_, rfl, _, _, rfl, hTT, hN⟩
            refine stepsCons rfl ?_ ?_
            · intro f' w' ρ S ho hT hS
              obtain ⟨hv0, hr0⟩ := (hT 0 61 rfl rfl : (Is (.agg #[.bool b, .slice pc1 n cc1])) (f' 61) (ρ 0))
              obtain ⟨p10, n10, c10, hv1, hr1⟩ := (hT 1 62 rfl rfl : (Zt 0) (f' 62) (ρ 1))
              replace hS : Sep w ([.row p9 n9 c9 (lim z9.natAbs), .row p8 n8 c8 (lim z8.natAbs), .row p7 n7 c7 (lim z7.natAbs), .row p6 n6 c6 (lim z6.natAbs), .blk g16 [.bool (ng z5), .slice p5 n5 c5] 25, .row p5 n5 c5 (lim z5.natAbs), .blk g11 [.bool (ng z4), .slice p4 n4 c4] 25, .blk g10 [.bool (ng z3), .slice p3 n3 c3] 25, .row p4 n4 c4 (lim z4.natAbs), .rowm p3 n3 c3 l3, .blk g6 [.bool b2, .slice pc2 m cc2] 25, .blk g5 [.bool b, .slice pc1 n cc1] 25, .row pc2 m cc2 ys, .row pc1 n cc1 xs, .blk g3 [.bool b2, .slice q m d] 25, .blk g1 [.bool b, .slice p n c] 25, .row p10 n10 c10 (lim (0 : Int).natAbs)] ++ S) w' := by simpa [hr0, hr1] using hS
              refine .inl ⟨want_none rfl, ocall rfl rfl Try.call11 rfl (args2 (ev (v := .agg #[.bool b, .slice pc1 n cc1]) rfl hv0) (ev (v := .agg #[.bool (ng 0), .slice p10 n10 c10]) rfl hv1)) ((wzadd ((show Zr _ _ _ _ _ x 1048576 from ⟨_, hS.sl 13 rfl, hex, hn⟩).mono (by omega)) (((hS.sl 16 rfl).zr hk10).mono (by omega)) hz11).mono Zt.m) ?_⟩
              rintro _ w9 ⟨_, _, rfl, hTT, hN⟩
              exact ⟨_, rfl, _, _, rfl, hTT, hN⟩
            refine stepsCons rfl ?_ ?_
            · intro f' w' ρ S ho hT hS
              replace hS : Sep w ([.row p9 n9 c9 (lim z9.natAbs), .row p8 n8 c8 (lim z8.natAbs), .row p7 n7 c7 (lim z7.natAbs), .row p6 n6 c6 (lim z6.natAbs), .blk g16 [.bool (ng z5), .slice p5 n5 c5] 25, .row p5 n5 c5 (lim z5.natAbs), .blk g11 [.bool (ng z4), .slice p4 n4 c4] 25, .blk g10 [.bool (ng z3), .slice p3 n3 c3] 25, .row p4 n4 c4 (lim z4.natAbs), .rowm p3 n3 c3 l3, .blk g6 [.bool b2, .slice pc2 m cc2] 25, .blk g5 [.bool b, .slice pc1 n cc1] 25, .row pc2 m cc2 ys, .row pc1 n cc1 xs, .blk g3 [.bool b2, .slice q m d] 25, .blk g1 [.bool b, .slice p n c] 25] ++ S) w' := by simpa using hS
              exact .inl ⟨want_none rfl, oallocN [.bool false, .slice none 0 0] rfl rfl Try.zeroValue25 rfl ⟨_, _, rfl, ptrI, New.blk _ _ _⟩⟩
            exact stepsNil
          ·
            intro vs ρ w22 f' hf hT hS
            obtain ⟨hv0, hr0⟩ := (hT 0 (by decide) : (Is (.agg #[.bool b, .slice pc1 n cc1])) (vs 0) (ρ 0))
            obtain ⟨p10, n10, c10, hv1, hr1⟩ := (hT 1 (by decide) : (Zt 0) (vs 1) (ρ 1))
            obtain ⟨p11, n11, c11, hv2, hr2⟩ := (hT 2 (by decide) : (Zm z11) (vs 2) (ρ 2))
            obtain ⟨g21, hv3, hr3⟩ := (hT 3 (by decide) : (Ptr [.bool false, .slice none 0 0] 25) (vs 3) (ρ 3))
            simp only [pool, if_true, hr0, hr1, hr2, hr3, List.nil_append, List.cons_append, List.append_nil] at hS
            replace hS : Sep w [.blk g21 [.bool false, .slice none 0 0] 25, .rowm p11 n11 c11 (lim z11.natAbs), .row p10 n10 c10 (lim (0 : Int).natAbs), .row p9 n9 c9 (lim z9.natAbs), .row p8 n8 c8 (lim z8.natAbs), .row p7 n7 c7 (lim z7.natAbs), .row p6 n6 c6 (lim z6.natAbs), .blk g16 [.bool (ng z5), .slice p5 n5 c5] 25, .row p5 n5 c5 (lim z5.natAbs), .blk g11 [.bool (ng z4), .slice p4 n4 c4] 25, .blk g10 [.bool (ng z3), .slice p3 n3 c3] 25, .row p4 n4 c4 (lim z4.natAbs), .rowm p3 n3 c3 l3, .blk g6 [.bool b2, .slice pc2 m cc2] 25, .blk g5 [.bool b, .slice pc1 n cc1] 25, .row pc2 m cc2 ys, .row pc1 n cc1 xs, .blk g3 [.bool b2, .slice q m d] 25, .blk g1 [.bool b, .slice p n c] 25] w22 := hS
            simp only [layf, hv0, hv1, hv2, hv3] at hf
            subst hf; clear hT hv0 hv1 hv2 hv3 hr0 hr1 hr2 hr3
            refine wlate 4 rfl (by kernel_rfl) (ostore [.bool (ng z11), .slice p11 n11 c11] [.bool (ng z11), .slice p11 n11 c11] Try.sizeOf25 hS 0 rfl rfl (ev (v := .pointer (some ⟨g21, 0, none⟩)) rfl rfl) (ev (v := .agg #[.bool (ng z11), .slice p11 n11 c11]) rfl rfl) rfl rfl rfl rfl rfl rfl ?_)
            intro w23 hY; clear hS; have hS : Sep w [.blk g21 [.bool (ng z11), .slice p11 n11 c11] 25, .rowm p11 n11 c11 (lim z11.natAbs), .row p10 n10 c10 (lim (0 : Int).natAbs), .row p9 n9 c9 (lim z9.natAbs), .row p8 n8 c8 (lim z8.natAbs), .row p7 n7 c7 (lim z7.natAbs), .row p6 n6 c6 (lim z6.natAbs), .blk g16 [.bool (ng z5), .slice p5 n5 c5] 25, .row p5 n5 c5 (lim z5.natAbs), .blk g11 [.bool (ng z4), .slice p4 n4 c4] 25, .blk g10 [.bool (ng z3), .slice p3 n3 c3] 25, .row p4 n4 c4 (lim z4.natAbs), .rowm p3 n3 c3 l3, .blk g6 [.bool b2, .slice pc2 m cc2] 25, .blk g5 [.bool b, .slice pc1 n cc1] 25, .row pc2 m cc2 ys, .row pc1 n cc1 xs, .blk g3 [.bool b2, .slice q m d] 25, .blk g1 [.bool b, .slice p n c] 25] w23 := hY; clear hY
            refine wdone rfl ?_
            refine thenN ?_
            refine wseq ?_
            refine wseq ?_
            refine wreg ?_
            refine wl rfl (ofieldAddr (g := g21) (off := 0) 1 rfl rfl (ev (v := .pointer (some ⟨g21, 0, none⟩)) rfl rfl) Try.runUnderlying25 rfl Try.sizeOf23 rfl ?_)
            refine wl rfl (oload1 (v := .slice p11 n11 c11) oneN hS 0 rfl rfl (ev (v := .pointer (some ⟨g21, 1, none⟩)) rfl rfl) rfl rfl ?_)
            refine wl rfl (olen rfl rfl rfl Try.runUnderlying23 (p := p11) (k := n11) (m := c11) (ev (v := .slice p11 n11 c11) rfl rfl) ?_)
            refine wl rfl (omove (v := .int .i64 0) rfl rfl (evc (v := .int .i64 0)) ?_)
            refine wnil ?_
            refine thenN ?_
            refine wblock ?_
            have hln11 : n11 ≤ 1048578 := z_len (hS.rowmAt 1 rfl) (hk11.mono (by omega))
            refine wloop (σ := Nat) (fun k a w' => ∃ (fb : Nat → Value) (l11 : List Nat), a = act 91 (sets fb [(2, .pointer (some ⟨g1, 0, none⟩)), (3, .pointer (some ⟨g3, 0, none⟩)), (4, .bool false), (5, .pointer (some ⟨g5, 0, none⟩)), (6, .pointer (some ⟨g6, 0, none⟩)), (8, .pointer (some ⟨g11, 0, none⟩)), (9, .pointer (some ⟨g16, 0, none⟩)), (11, .pointer (some ⟨g21, 0, none⟩)), (66, .int .i64 (((n11 : Nat) : Int))), (67, .int .i64 (((k : Nat) : Int)))]) ∧ Sep w [.blk g21 [.bool (ng z11), .slice p11 n11 c11] 25, .rowm p11 n11 c11 l11, .row p10 n10 c10 (lim (0 : Int).natAbs), .row p9 n9 c9 (lim z9.natAbs), .row p8 n8 c8 (lim z8.natAbs), .row p7 n7 c7 (lim z7.natAbs), .row p6 n6 c6 (lim z6.natAbs), .blk g16 [.bool (ng z5), .slice p5 n5 c5] 25, .row p5 n5 c5 (lim z5.natAbs), .blk g11 [.bool (ng z4), .slice p4 n4 c4] 25, .blk g10 [.bool (ng z3), .slice p3 n3 c3] 25, .row p4 n4 c4 (lim z4.natAbs), .rowm p3 n3 c3 l3, .blk g6 [.bool b2, .slice pc2 m cc2] 25, .blk g5 [.bool b, .slice pc1 n cc1] 25, .row pc2 m cc2 ys, .row pc1 n cc1 xs, .blk g3 [.bool b2, .slice q m d] 25, .blk g1 [.bool b, .slice p n c] 25] w' ∧ (k ≤ n11)) (fun k => n11 - k) (0) ⟨_, _, act_sets (l := [(2, .pointer (some ⟨g1, 0, none⟩)), (3, .pointer (some ⟨g3, 0, none⟩)), (4, .bool false), (5, .pointer (some ⟨g5, 0, none⟩)), (6, .pointer (some ⟨g6, 0, none⟩)), (8, .pointer (some ⟨g11, 0, none⟩)), (9, .pointer (some ⟨g16, 0, none⟩)), (11, .pointer (some ⟨g21, 0, none⟩)), (66, .int .i64 (((n11 : Nat) : Int))), (67, .int .i64 0)]) ⟨rfl, rfl, rfl, rfl, rfl, rfl, rfl, rfl, rfl, rfl, trivial⟩, hS, Nat.zero_le _⟩ ?_
            clear hS; rintro k _ w24 ⟨fb, l11, rfl, hS, hk⟩
            refine wseq ?_
            refine wreg ?_
            by_cases hlt : k < n11
            ·
              refine wl rfl (obin (u := .int .i64 (((k : Nat) : Int))) (v := .int .i64 (((n11 : Nat) : Int))) (z := .bool true) rfl rfl (ev (v := .int .i64 (((k : Nat) : Int))) rfl rfl) (ev (v := .int .i64 (((n11 : Nat) : Int))) rfl rfl) (bin_lss (decide_eq_true (by omega))) ?_)
              refine wnil ?_
              refine thenN ?_
              refine wseq ?_
              refine wT (ev (v := .bool true) rfl rfl) ?_
              refine wskip ?_
              refine thenN ?_
              refine wseq ?_
              refine wblock ?_
              refine wseq ?_
              refine wreg ?_
              refine wl rfl (omove (v := .int .i64 (((k : Nat) : Int))) rfl rfl (ev (v := .int .i64 (((k : Nat) : Int))) rfl rfl) ?_)
              refine wl rfl (oassign (v := .int .i64 (((k : Nat) : Int))) rfl rfl (ev (v := .int .i64 (((k : Nat) : Int))) rfl rfl) ?_)
              refine wnil ?_
              refine thenN ?_
              refine wreg ?_
              refine wl rfl (ofieldAddr (g := g21) (off := 0) 1 rfl rfl (ev (v := .pointer (some ⟨g21, 0, none⟩)) rfl rfl) Try.runUnderlying25 rfl Try.sizeOf23 rfl ?_)
              refine wl rfl (oload1 (v := .slice p11 n11 c11) oneN hS 0 rfl rfl (ev (v := .pointer (some ⟨g21, 1, none⟩)) rfl rfl) rfl rfl ?_)
              refine wl rfl (omove (v := .int .i64 (((k : Nat) : Int))) rfl rfl (ev (v := .int .i64 (((k : Nat) : Int))) rfl rfl) ?_)
              obtain ⟨gg, hp, _, _⟩ := (hS.rowmAt 1 rfl).pos (by omega)
              refine wl rfl (oindex (p := p11) (g := gg) (off := 0) (m := n11) (k := k) (j := k) rfl rfl Try.runUnderlying23 Try.sizeOf29 (ev (v := .slice p11 n11 c11) rfl rfl) (hp) (ev (v := .int .i64 (((k : Nat) : Int))) rfl rfl) (hlt) (by omega) ?_)
              refine wl rfl (ostoreRow (i := k) (u := 4) Try.sizeOf29 hS 1 rfl rfl (ev (v := .pointer (some ⟨gg, k, none⟩)) rfl rfl) (evc (v := .int .u32 ((4 : Nat) : Int))) rfl (hp) (hlt) (by omega) ?_)
              intro w25 hY; clear hS; have hS : Sep w [.blk g21 [.bool (ng z11), .slice p11 n11 c11] 25, .rowm p11 n11 c11 ((l11).set k 4), .row p10 n10 c10 (lim (0 : Int).natAbs), .row p9 n9 c9 (lim z9.natAbs), .row p8 n8 c8 (lim z8.natAbs), .row p7 n7 c7 (lim z7.natAbs), .row p6 n6 c6 (lim z6.natAbs), .blk g16 [.bool (ng z5), .slice p5 n5 c5] 25, .row p5 n5 c5 (lim z5.natAbs), .blk g11 [.bool (ng z4), .slice p4 n4 c4] 25, .blk g10 [.bool (ng z3), .slice p3 n3 c3] 25, .row p4 n4 c4 (lim z4.natAbs), .rowm p3 n3 c3 l3, .blk g6 [.bool b2, .slice pc2 m cc2] 25, .blk g5 [.bool b, .slice pc1 n cc1] 25, .row pc2 m cc2 ys, .row pc1 n cc1 xs, .blk g3 [.bool b2, .slice q m d] 25, .blk g1 [.bool b, .slice p n c] 25] w25 := hY; clear hY
              refine wnil ?_
              refine blkN ?_
              refine thenN ?_
              refine wreg ?_
              refine wl rfl (obin (u := .int .i64 (((k : Nat) : Int))) (v := .int .i64 1) (z := .int .i64 (((k + 1 : Nat) : Int))) rfl rfl (ev (v := .int .i64 (((k : Nat) : Int))) rfl rfl) (evc (v := .int .i64 1)) (bin_add (wrap_succ (by omega))) ?_)
              refine wl rfl (omove (v := .int .i64 (((k + 1 : Nat) : Int))) rfl rfl (ev (v := .int .i64 (((k + 1 : Nat) : Int))) rfl rfl) ?_)
              refine wnil ?_
              refine thenN ?_
              exact ⟨k + 1, ⟨_, _, act_sets (l := [(2, .pointer (some ⟨g1, 0, none⟩)), (3, .pointer (some ⟨g3, 0, none⟩)), (4, .bool false), (5, .pointer (some ⟨g5, 0, none⟩)), (6, .pointer (some ⟨g6, 0, none⟩)), (8, .pointer (some ⟨g11, 0, none⟩)), (9, .pointer (some ⟨g16, 0, none⟩)), (11, .pointer (some ⟨g21, 0, none⟩)), (66, .int .i64 (((n11 : Nat) : Int))), (67, .int .i64 (((k + 1 : Nat) : Int)))]) ⟨rfl, rfl, rfl, rfl, rfl, rfl, rfl, rfl, rfl, rfl, trivial⟩, hS.pick [0, 1, 2, 3, 4, 5, 6, 7, 8, 9, 10, 11, 12, 13, 14, 15, 16, 17, 18] (by decide) rfl, by omega⟩, by omega⟩
            ·
              refine wl rfl (obin (u := .int .i64 (((k : Nat) : Int))) (v := .int .i64 (((n11 : Nat) : Int))) (z := .bool false) rfl rfl (ev (v := .int .i64 (((k : Nat) : Int))) rfl rfl) (ev (v := .int .i64 (((n11 : Nat) : Int))) rfl rfl) (bin_lss (decide_eq_false (by omega))) ?_)
              refine wnil ?_
              refine thenN ?_
              refine wseq ?_
              refine wF (ev (v := .bool false) rfl rfl) ?_
              refine wexit ?_
              refine thenE ?_
              refine thenE ?_
              refine blkE ?_
              refine thenN ?_
              refine wseq ?_
              refine wreg ?_
              refine wl rfl (oload (vs := [.bool (ng z4), .slice p4 n4 c4]) aggZ hS 9 rfl rfl (ev (v := .pointer (some ⟨g11, 0, none⟩)) rfl rfl) rfl rfl rfl ?_)
              refine wl rfl (oload (vs := [.bool (ng z5), .slice p5 n5 c5]) aggZ hS 7 rfl rfl (ev (v := .pointer (some ⟨g16, 0, none⟩)) rfl rfl) rfl rfl rfl ?_)
              refine wl rfl (ocall rfl rfl Try.call13 rfl (args2 (ev (v := .agg #[.bool (ng z4), .slice p4 n4 c4]) rfl rfl) (ev (v := .agg #[.bool (ng z5), .slice p5 n5 c5]) rfl rfl)) (wlsame (x := z4) (y := z5) (hS.sl 11 rfl) (hS.sl 8 rfl) (hz4.out.symm.trans hz5.out)) ?_)
              rintro _ w25 ⟨_, _, rfl, ⟨rfl, rfl⟩, hN⟩
              refine ⟨_, rfl, ?_⟩
              replace hS : Sep w [.blk g21 [.bool (ng z11), .slice p11 n11 c11] 25, .rowm p11 n11 c11 l11, .row p10 n10 c10 (lim (0 : Int).natAbs), .row p9 n9 c9 (lim z9.natAbs), .row p8 n8 c8 (lim z8.natAbs), .row p7 n7 c7 (lim z7.natAbs), .row p6 n6 c6 (lim z6.natAbs), .blk g16 [.bool (ng z5), .slice p5 n5 c5] 25, .row p5 n5 c5 (lim z5.natAbs), .blk g11 [.bool (ng z4), .slice p4 n4 c4] 25, .blk g10 [.bool (ng z3), .slice p3 n3 c3] 25, .row p4 n4 c4 (lim z4.natAbs), .rowm p3 n3 c3 l3, .blk g6 [.bool b2, .slice pc2 m cc2] 25, .blk g5 [.bool b, .slice pc1 n cc1] 25, .row pc2 m cc2 ys, .row pc1 n cc1 xs, .blk g3 [.bool b2, .slice q m d] 25, .blk g1 [.bool b, .slice p n c] 25] w25 := hS.news hN; clear hN
              refine wl rfl (omove (v := .bool true) rfl rfl (ev (v := .bool true) rfl rfl) ?_)
              refine wlOn (e := 78) rfl rfl rfl rfl (oload (vs := [.bool b, .slice pc1 n cc1]) aggZ hS 14 rfl rfl (ev (v := .pointer (some ⟨g5, 0, none⟩)) rfl rfl) rfl rfl rfl ?_)
              refine wlOn (e := 78) rfl rfl rfl rfl (oload (vs := [.bool b, .slice p n c]) aggZ hS 18 rfl rfl (ev (v := .pointer (some ⟨g1, 0, none⟩)) rfl rfl) rfl rfl rfl ?_)
              refine wlOn (e := 78) rfl rfl rfl rfl (ocall rfl rfl Try.call13 rfl (args2 (ev (v := .agg #[.bool b, .slice pc1 n cc1]) rfl rfl) (ev (v := .agg #[.bool b, .slice p n c]) rfl rfl)) (wlsameX (hS.sl 16 rfl) (hx.below hS.below (Nat.le_refl _))) ?_)
              rintro _ w26 ⟨_, _, rfl, ⟨rfl, rfl⟩, hN⟩
              refine ⟨_, rfl, ?_⟩
              replace hS : Sep w [.blk g21 [.bool (ng z11), .slice p11 n11 c11] 25, .rowm p11 n11 c11 l11, .row p10 n10 c10 (lim (0 : Int).natAbs), .row p9 n9 c9 (lim z9.natAbs), .row p8 n8 c8 (lim z8.natAbs), .row p7 n7 c7 (lim z7.natAbs), .row p6 n6 c6 (lim z6.natAbs), .blk g16 [.bool (ng z5), .slice p5 n5 c5] 25, .row p5 n5 c5 (lim z5.natAbs), .blk g11 [.bool (ng z4), .slice p4 n4 c4] 25, .blk g10 [.bool (ng z3), .slice p3 n3 c3] 25, .row p4 n4 c4 (lim z4.natAbs), .rowm p3 n3 c3 l3, .blk g6 [.bool b2, .slice pc2 m cc2] 25, .blk g5 [.bool b, .slice pc1 n cc1] 25, .row pc2 m cc2 ys, .row pc1 n cc1 xs, .blk g3 [.bool b2, .slice q m d] 25, .blk g1 [.bool b, .slice p n c] 25] w26 := hS.news hN; clear hN
              refine wl rfl (opick (b := true) (v := .bool true) rfl rfl (ev (v := .bool true) rfl rfl) (ev (v := .bool true) rfl rfl) ?_)
              refine wl rfl (omove (v := .bool true) rfl rfl (ev (v := .bool true) rfl rfl) ?_)
              refine wlOn (e := 83) rfl rfl rfl rfl (oload (vs := [.bool b2, .slice pc2 m cc2]) aggZ hS 13 rfl rfl (ev (v := .pointer (some ⟨g6, 0, none⟩)) rfl rfl) rfl rfl rfl ?_)
              refine wlOn (e := 83) rfl rfl rfl rfl (oload (vs := [.bool b2, .slice q m d]) aggZ hS 17 rfl rfl (ev (v := .pointer (some ⟨g3, 0, none⟩)) rfl rfl) rfl rfl rfl ?_)
              refine wlOn (e := 83) rfl rfl rfl rfl (ocall rfl rfl Try.call13 rfl (args2 (ev (v := .agg #[.bool b2, .slice pc2 m cc2]) rfl rfl) (ev (v := .agg #[.bool b2, .slice q m d]) rfl rfl)) (wlsameX (hS.sl 15 rfl) (hy.below hS.below (Nat.le_refl _))) ?_)
              rintro _ w27 ⟨_, _, rfl, ⟨rfl, rfl⟩, hN⟩
              refine ⟨_, rfl, ?_⟩
              replace hS : Sep w [.blk g21 [.bool (ng z11), .slice p11 n11 c11] 25, .rowm p11 n11 c11 l11, .row p10 n10 c10 (lim (0 : Int).natAbs), .row p9 n9 c9 (lim z9.natAbs), .row p8 n8 c8 (lim z8.natAbs), .row p7 n7 c7 (lim z7.natAbs), .row p6 n6 c6 (lim z6.natAbs), .blk g16 [.bool (ng z5), .slice p5 n5 c5] 25, .row p5 n5 c5 (lim z5.natAbs), .blk g11 [.bool (ng z4), .slice p4 n4 c4] 25, .blk g10 [.bool (ng z3), .slice p3 n3 c3] 25, .row p4 n4 c4 (lim z4.natAbs), .rowm p3 n3 c3 l3, .blk g6 [.bool b2, .slice pc2 m cc2] 25, .blk g5 [.bool b, .slice pc1 n cc1] 25, .row pc2 m cc2 ys, .row pc1 n cc1 xs, .blk g3 [.bool b2, .slice q m d] 25, .blk g1 [.bool b, .slice p n c] 25] w27 := hS.news hN; clear hN
              refine wl rfl (opick (b := true) (v := .bool true) rfl rfl (ev (v := .bool true) rfl rfl) (ev (v := .bool true) rfl rfl) ?_)
              refine wl rfl (omove (v := .bool true) rfl rfl (ev (v := .bool true) rfl rfl) ?_)
              refine wlOn (e := 88) rfl rfl rfl rfl (ocall rfl rfl Try.call19 rfl (args0 ) (wllives) ?_)
              rintro _ w28 ⟨_, _, rfl, ⟨rfl, rfl⟩, hN⟩
              refine ⟨_, rfl, ?_⟩
              replace hS : Sep w [.blk g21 [.bool (ng z11), .slice p11 n11 c11] 25, .rowm p11 n11 c11 l11, .row p10 n10 c10 (lim (0 : Int).natAbs), .row p9 n9 c9 (lim z9.natAbs), .row p8 n8 c8 (lim z8.natAbs), .row p7 n7 c7 (lim z7.natAbs), .row p6 n6 c6 (lim z6.natAbs), .blk g16 [.bool (ng z5), .slice p5 n5 c5] 25, .row p5 n5 c5 (lim z5.natAbs), .blk g11 [.bool (ng z4), .slice p4 n4 c4] 25, .blk g10 [.bool (ng z3), .slice p3 n3 c3] 25, .row p4 n4 c4 (lim z4.natAbs), .rowm p3 n3 c3 l3, .blk g6 [.bool b2, .slice pc2 m cc2] 25, .blk g5 [.bool b, .slice pc1 n cc1] 25, .row pc2 m cc2 ys, .row pc1 n cc1 xs, .blk g3 [.bool b2, .slice q m d] 25, .blk g1 [.bool b, .slice p n c] 25] w28 := hS.news hN; clear hN
              refine wl rfl (opick (b := true) (v := .bool true) rfl rfl (ev (v := .bool true) rfl rfl) (ev (v := .bool true) rfl rfl) ?_)
              refine wl rfl (oassign (v := .bool true) rfl rfl (ev (v := .bool true) rfl rfl) ?_)
              refine wnil ?_
              refine thenN ?_
              refine wleave ?_
              refine wret1 Try.results3 (tellT (v := .bool true) rfl rfl) ?_
              exact ⟨_, _, rfl, isI, hS.new0⟩

theorem zsums_any {b b2 : Bool} {p q : Option Addr} {n m c d : Nat} {xs ys : List Nat} {w : World} (hx : Sl w p n c xs) (hy : Sl w q m d ys) (hn : n ≤ 1048576) (hm : m ≤ 1048576) :
    Calls Try.prog 3 #[.agg #[.bool b, .slice p n c], .agg #[.bool b2, .slice q m d]] w (RetB w true) := (zsums_w hx hy hn hm).mono Ret.b

end Go.Proofs.Ytlnilkghbbbhbaa
