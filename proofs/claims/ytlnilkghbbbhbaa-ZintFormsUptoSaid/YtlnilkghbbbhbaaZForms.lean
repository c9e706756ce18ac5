
/-
  The walk of similelaw03.ZintForms.
-/
import Derived.Test.YtlnilkghbbbhbaaWA
namespace Go.Proofs.Ytlnilkghbbbhbaa
open Go.RowKit

theorem cmp_ge {a b s : Int} (h : Hid (cmpZ a b = s)) (hab : b ≤ a) : 0 ≤ s := by rw [← h.out]; unfold cmpZ; split <;> (try split) <;> omega
theorem cmp_le {a b s : Int} (h : Hid (cmpZ a b = s)) (hab : a ≤ b) : s ≤ 0 := by rw [← h.out]; unfold cmpZ; split <;> (try split) <;> omega
theorem cmp_lt {a b s : Int} (h : Hid (cmpZ a b = s)) (hab : a < b) : s < 0 := by rw [← h.out]; unfold cmpZ; rw [if_pos hab]; omega
theorem cmp_gt {a b s : Int} (h : Hid (cmpZ a b = s)) (hab : b < a) : 0 < s := by rw [← h.out]; unfold cmpZ; rw [if_neg (by omega), if_neg (by omega)]; omega

set_option maxRecDepth 100000 in
set_option maxHeartbeats 16000000 in
theorem zforms_in {b b2 : Bool} {p q : Option Addr} {n m c d : Nat} {xs ys : List Nat} {w : World} (hx : Sl w p n c xs) (hy : Sl w q m d ys) (hn : n ≤ 1048576) (hm : m ≤ 1048576) {nn : Int} (hn1 : -9223372036854775808 ≤ nn) (hn2 : nn ≤ 9223372036854775807) (hlo : -9223372036854775808 ≤ zv b (val xs)) (hhi : zv b (val xs) ≤ 9223372036854775807) :
    Calls Try.prog 4 #[.agg #[.bool b, .slice p n c], .agg #[.bool b2, .slice q m d], .int .i64 nn] w (Ret (Is (.bool true)) w) := by
  obtain ⟨x, hex⟩ : ∃ x : Int, zv b (val xs) = x := ⟨_, rfl⟩
  obtain ⟨y, hey⟩ : ∃ y : Int, zv b2 (val ys) = y := ⟨_, rfl⟩
  have hzx : Zr w b p n c x 1048576 := ⟨xs, hx, hex, hn⟩
  have hzy : Zr w b2 q m d y 1048576 := ⟨ys, hy, hey, hm⟩
  have hS := Sep.init w
  refine went Try.func4 rfl (n := 100) rfl rfl ?_
  refine wseq ?_
  refine wreg ?_
  refine wl rfl (obox [.bool b, .slice p n c] hS rfl rfl (ev (v := .agg #[.bool b, .slice p n c]) rfl rfl) rfl ?_)
  clear hS; intro g1 w2 hS
  refine wl rfl (obox [.bool b2, .slice q m d] hS rfl rfl (ev (v := .agg #[.bool b2, .slice q m d]) rfl rfl) rfl ?_)
  clear hS; intro g3 w4 hS
  refine wl rfl (oassign (v := .bool false) rfl rfl (evc (v := .bool false)) ?_)
  refine wnil ?_
  refine thenN ?_
  refine wseq ?_
  refine wreg ?_
  refine wl rfl (oload (vs := [.bool b, .slice p n c]) aggZ hS 1 rfl rfl (ev (v := .pointer (some ⟨g1, 0, none⟩)) rfl rfl) rfl rfl rfl ?_)
  refine wl rfl (ocall rfl rfl Try.call10 rfl (args1 (ev (v := .agg #[.bool b, .slice p n c]) rfl rfl)) (wqcopy (hx.below hS.below (Nat.le_refl _)) (by omega)) ?_)
  rintro _ w5 ⟨_, _, rfl, ⟨pc1, cc1, rfl, rfl⟩, hN⟩
  refine ⟨_, rfl, ?_⟩
  replace hS : Sep w [.row pc1 n cc1 xs, .blk g3 [.bool b2, .slice q m d] 25, .blk g1 [.bool b, .slice p n c] 25] w5 := hS.news hN; clear hN
  refine wl rfl (oalloc [.bool false, .slice none 0 0] hS rfl rfl Try.zeroValue25 rfl ?_)
  clear hS; intro g6 w7 hS
  refine wl rfl (ostore [.bool b, .slice pc1 n cc1] [.bool b, .slice pc1 n cc1] Try.sizeOf25 hS 0 rfl rfl (ev (v := .pointer (some ⟨g6, 0, none⟩)) rfl rfl) (ev (v := .agg #[.bool b, .slice pc1 n cc1]) rfl rfl) rfl rfl rfl rfl rfl rfl ?_)
  intro w8 hY; clear hS; have hS : Sep w [.blk g6 [.bool b, .slice pc1 n cc1] 25, .row pc1 n cc1 xs, .blk g3 [.bool b2, .slice q m d] 25, .blk g1 [.bool b, .slice p n c] 25] w8 := hY; clear hY
  refine wnil ?_
  refine thenN ?_
  refine wseq ?_
  refine wreg ?_
  refine wl rfl (oload (vs := [.bool b, .slice pc1 n cc1]) aggZ hS 0 rfl rfl (ev (v := .pointer (some ⟨g6, 0, none⟩)) rfl rfl) rfl rfl rfl ?_)
  rw [hex] at hlo hhi
  refine wl rfl (ocall rfl rfl Try.call20 rfl (args1 (ev (v := .agg #[.bool b, .slice pc1 n cc1]) rfl rfl)) (wint64 ((show Zr _ _ _ _ _ x 1048576 from ⟨_, hS.sl 1 rfl, hex, hn⟩).mono (by omega)) (hlo) (hhi)) ?_)
  rintro _ w9 ⟨_, _, rfl, ⟨rfl, rfl⟩, hN⟩
  refine ⟨_, rfl, ?_⟩
  replace hS : Sep w [.blk g6 [.bool b, .slice pc1 n cc1] 25, .row pc1 n cc1 xs, .blk g3 [.bool b2, .slice q m d] 25, .blk g1 [.bool b, .slice p n c] 25] w9 := hS.news hN; clear hN
  refine wl rfl (omove (v := .tuple #[.int .i64 x, .bool true]) rfl rfl (ev (v := .tuple #[.int .i64 x, .bool true]) rfl rfl) ?_)
  refine wl rfl (oextract (vs := [.int .i64 x, .bool true]) (v := .int .i64 x) rfl rfl (ev (v := .tuple #[.int .i64 x, .bool true]) rfl rfl) rfl ?_)
  refine wl rfl (oextract (vs := [.int .i64 x, .bool true]) (v := .bool true) rfl rfl (ev (v := .tuple #[.int .i64 x, .bool true]) rfl rfl) rfl ?_)
  refine wl rfl (oassign (v := .int .i64 x) rfl rfl (ev (v := .int .i64 x) rfl rfl) ?_)
  refine wl rfl (oassign (v := .bool true) rfl rfl (ev (v := .bool true) rfl rfl) ?_)
  refine wnil ?_
  refine thenN ?_
  refine wseq ?_
  have hk2 : Wd (-9223372036854775808) 2 := Wd.i64 (by omega) (by omega)
  obtain ⟨s3, hs3⟩ : ∃ z : Int, Hid (cmpZ x (-9223372036854775808) = z) := ⟨_, rfl⟩
  have hk4 : Wd 9223372036854775807 2 := Wd.i64 (by omega) (by omega)
  obtain ⟨s5, hs5⟩ : ∃ z : Int, Hid (cmpZ x 9223372036854775807 = z) := ⟨_, rfl⟩
  refine wstage 11 [18, 19, 20, 21, 22, 23, 24, 25, 26, 27, 10] [[], [], [0, 1], [2, 0, 1], [3, 0, 1, 2], [4, 0, 1, 2, 3], [4, 0, 1, 2, 3], [4, 5, 6, 0, 1, 2, 3], [4, 7, 0, 1, 2, 3, 5, 6], [4, 8, 0, 1, 2, 3, 5, 6, 7], [9, 0, 1, 2, 3, 4, 5, 6, 7, 8]] [[], [], [], [], [], [], [], [], [], [], []] [] (fun i => ([fun _ => Is (.agg #[.bool b, .slice p n c]), fun _ => Zt (-9223372036854775808), fun _ => Is (.int .i64 s3), fun _ => Is (.bool true), fun _ => Is (.bool true), fun _ => Is (.agg #[.bool b, .slice p n c]), fun _ => Zt 9223372036854775807, fun _ => Is (.int .i64 s5), fun _ => Is (.bool true), fun _ => Is (.bool true), fun _ => Is (.bool true)] : List (List Value → Tell)).getD i (fun _ _ _ => False)) (fun d _ _ _ _ h => (by cases d <;> exact h)) (by kernel_rfl) (by kernel_rfl) (by kernel_rfl) hS ?_ ?_
  ·
    refine stepsCons rfl ?_ ?_
    · intro Q f' w' ρ S ho hT hS
      change Sep w (_ ++ ([].flatMap ρ ++ S)) w' at hS
      simp only [List.flatMap_cons, List.flatMap_nil, List.nil_append, List.cons_append, List.append_nil] at hS
      exact .inl ⟨want_none rfl, oload (vs := [.bool b, .slice p n c]) aggZ hS 3 rfl rfl (ev (v := .pointer (some ⟨g1, 0, none⟩)) rfl (ho 3 rfl)) rfl rfl rfl ⟨_, _, rfl, isI, New.same _⟩⟩
    refine stepsCons rfl ?_ ?_
    · intro Q f' w' ρ S ho hT hS
      change Sep w (_ ++ ([].flatMap ρ ++ S)) w' at hS
      simp only [List.flatMap_cons, List.flatMap_nil, List.nil_append, List.cons_append, List.append_nil] at hS
      refine .inl ⟨want_none rfl, ocall rfl rfl Try.call18 rfl (args1 (evc (v := .int .i64 (-9223372036854775808)))) (wlof (z := -9223372036854775808) (by omega) (by omega)) ?_⟩
      rintro _ w9 ⟨_, _, rfl, hTT, hN⟩
      exact ⟨_, rfl, _, _, rfl, hTT, hN⟩
    refine stepsCons rfl ?_ ?_
    · intro Q f' w' ρ S ho hT hS
      obtain ⟨hv0, hr0⟩ := (hT 0 18 rfl rfl : (Is (.agg #[.bool b, .slice p n c])) (f' 18) (ρ 0))
      obtain ⟨p2, n2, c2, hv1, hr1⟩ := (hT 1 19 rfl rfl : (Zt (-9223372036854775808)) (f' 19) (ρ 1))
      change Sep w (_ ++ ([0, 1].flatMap ρ ++ S)) w' at hS
      simp only [List.flatMap_cons, List.flatMap_nil, List.nil_append, List.cons_append, List.append_nil, hr0, hr1] at hS
      refine .inl ⟨want_none rfl, ocall rfl rfl Try.call21 rfl (args2 (ev (v := .agg #[.bool b, .slice p n c]) rfl hv0) (ev (v := .agg #[.bool (ng (-9223372036854775808)), .slice p2 n2 c2]) rfl hv1)) (wqcmp ((hzx.at hS).mono (by omega)) (((hS.sl 4 rfl).zr hk2).mono (by omega)) hs3) ?_⟩
      rintro _ w9 ⟨_, _, rfl, hTT, hN⟩
      exact ⟨_, rfl, _, _, rfl, hTT, hN⟩
    refine stepsCons rfl ?_ ?_
    · intro Q f' w' ρ S ho hT hS
      obtain ⟨hv2, hr2⟩ := (hT 2 20 rfl rfl : (Is (.int .i64 s3)) (f' 20) (ρ 2))
      change Sep w (_ ++ ([2, 0, 1].flatMap ρ ++ S)) w' at hS
      simp only [List.flatMap_cons, List.flatMap_nil, List.nil_append, List.cons_append, List.append_nil, hr2] at hS
      exact .inl ⟨want_none rfl, obin (u := .int .i64 s3) (v := .int .i64 0) (z := .bool true) rfl rfl (ev (v := .int .i64 s3) rfl hv2) (evc (v := .int .i64 0)) (bin_geq (leT (cmp_ge hs3 hlo))) ⟨_, _, rfl, isI, New.same _⟩⟩
    refine stepsCons rfl ?_ ?_
    · intro Q f' w' ρ S ho hT hS
      obtain ⟨hv3, hr3⟩ := (hT 3 21 rfl rfl : (Is (.bool true)) (f' 21) (ρ 3))
      change Sep w (_ ++ ([3, 0, 1, 2].flatMap ρ ++ S)) w' at hS
      simp only [List.flatMap_cons, List.flatMap_nil, List.nil_append, List.cons_append, List.append_nil, hr3] at hS
      exact .inl ⟨want_none rfl, omove (v := .bool true) rfl rfl (ev (v := .bool true) rfl hv3) ⟨_, _, rfl, isI, New.same _⟩⟩
    refine stepsCons rfl ?_ ?_
    · intro Q f' w' ρ S ho hT hS
      obtain ⟨hv4, hr4⟩ := (hT 4 22 rfl rfl : (Is (.bool true)) (f' 22) (ρ 4))
      change Sep w (_ ++ ([4, 0, 1, 2, 3].flatMap ρ ++ S)) w' at hS
      simp only [List.flatMap_cons, List.flatMap_nil, List.nil_append, List.cons_append, List.append_nil, hr4] at hS
      exact .inl ⟨want_on (e := 22) rfl rfl rfl hv4, oload (vs := [.bool b, .slice p n c]) aggZ hS 3 rfl rfl (ev (v := .pointer (some ⟨g1, 0, none⟩)) rfl (ho 3 rfl)) rfl rfl rfl ⟨_, _, rfl, isI, New.same _⟩⟩
    refine stepsCons rfl ?_ ?_
    · intro Q f' w' ρ S ho hT hS
      obtain ⟨hv4, hr4⟩ := (hT 4 22 rfl rfl : (Is (.bool true)) (f' 22) (ρ 4))
      change Sep w (_ ++ ([4, 0, 1, 2, 3].flatMap ρ ++ S)) w' at hS
      simp only [List.flatMap_cons, List.flatMap_nil, List.nil_append, List.cons_append, List.append_nil, hr4] at hS
      refine .inl ⟨want_on (e := 22) rfl rfl rfl hv4, ocall rfl rfl Try.call18 rfl (args1 (evc (v := .int .i64 9223372036854775807))) (wlof (z := 9223372036854775807) (by omega) (by omega)) ?_⟩
      rintro _ w9 ⟨_, _, rfl, hTT, hN⟩
      exact ⟨_, rfl, _, _, rfl, hTT, hN⟩
    refine stepsCons rfl ?_ ?_
    · intro Q f' w' ρ S ho hT hS
      obtain ⟨hv4, hr4⟩ := (hT 4 22 rfl rfl : (Is (.bool true)) (f' 22) (ρ 4))
      obtain ⟨hv5, hr5⟩ := (hT 5 23 rfl rfl : (Is (.agg #[.bool b, .slice p n c])) (f' 23) (ρ 5))
      obtain ⟨p4, n4, c4, hv6, hr6⟩ := (hT 6 24 rfl rfl : (Zt 9223372036854775807) (f' 24) (ρ 6))
      change Sep w (_ ++ ([4, 5, 6, 0, 1, 2, 3].flatMap ρ ++ S)) w' at hS
      simp only [List.flatMap_cons, List.flatMap_nil, List.nil_append, List.cons_append, List.append_nil, hr4, hr5, hr6] at hS
      refine .inl ⟨want_on (e := 22) rfl rfl rfl hv4, ocall rfl rfl Try.call21 rfl (args2 (ev (v := .agg #[.bool b, .slice p n c]) rfl hv5) (ev (v := .agg #[.bool (ng 9223372036854775807), .slice p4 n4 c4]) rfl hv6)) (wqcmp ((hzx.at hS).mono (by omega)) (((hS.sl 4 rfl).zr hk4).mono (by omega)) hs5) ?_⟩
      rintro _ w9 ⟨_, _, rfl, hTT, hN⟩
      exact ⟨_, rfl, _, _, rfl, hTT, hN⟩
    refine stepsCons rfl ?_ ?_
    · intro Q f' w' ρ S ho hT hS
      obtain ⟨hv4, hr4⟩ := (hT 4 22 rfl rfl : (Is (.bool true)) (f' 22) (ρ 4))
      obtain ⟨hv7, hr7⟩ := (hT 7 25 rfl rfl : (Is (.int .i64 s5)) (f' 25) (ρ 7))
      change Sep w (_ ++ ([4, 7, 0, 1, 2, 3, 5, 6].flatMap ρ ++ S)) w' at hS
      simp only [List.flatMap_cons, List.flatMap_nil, List.nil_append, List.cons_append, List.append_nil, hr4, hr7] at hS
      exact .inl ⟨want_on (e := 22) rfl rfl rfl hv4, obin (u := .int .i64 s5) (v := .int .i64 0) (z := .bool true) rfl rfl (ev (v := .int .i64 s5) rfl hv7) (evc (v := .int .i64 0)) (bin_leq (leT (cmp_le hs5 hhi))) ⟨_, _, rfl, isI, New.same _⟩⟩
    refine stepsCons rfl ?_ ?_
    · intro Q f' w' ρ S ho hT hS
      obtain ⟨hv4, hr4⟩ := (hT 4 22 rfl rfl : (Is (.bool true)) (f' 22) (ρ 4))
      obtain ⟨hv8, hr8⟩ := (hT 8 26 rfl rfl : (Is (.bool true)) (f' 26) (ρ 8))
      change Sep w (_ ++ ([4, 8, 0, 1, 2, 3, 5, 6, 7].flatMap ρ ++ S)) w' at hS
      simp only [List.flatMap_cons, List.flatMap_nil, List.nil_append, List.cons_append, List.append_nil, hr4, hr8] at hS
      exact .inl ⟨want_none rfl, opick (b := true) (v := .bool true) rfl rfl (ev (v := .bool true) rfl hv4) (ev (v := .bool true) rfl hv8) ⟨_, _, rfl, isI, New.same _⟩⟩
    refine stepsCons rfl ?_ ?_
    · intro Q f' w' ρ S ho hT hS
      obtain ⟨hv9, hr9⟩ := (hT 9 27 rfl rfl : (Is (.bool true)) (f' 27) (ρ 9))
      change Sep w (_ ++ ([9, 0, 1, 2, 3, 4, 5, 6, 7, 8].flatMap ρ ++ S)) w' at hS
      simp only [List.flatMap_cons, List.flatMap_nil, List.nil_append, List.cons_append, List.append_nil, hr9] at hS
      exact .inl ⟨want_none rfl, oassign (v := .bool true) rfl rfl (ev (v := .bool true) rfl hv9) ⟨_, _, rfl, isI, New.same _⟩⟩
    exact stepsNil
  ·
    intro vs ρ w10 f' hf hT hS
    obtain ⟨hv0, hr0⟩ := (hT 0 (by decide) : (Is (.agg #[.bool b, .slice p n c])) (vs 0) (ρ 0))
    obtain ⟨p2, n2, c2, hv1, hr1⟩ := (hT 1 (by decide) : (Zt (-9223372036854775808)) (vs 1) (ρ 1))
    obtain ⟨hv2, hr2⟩ := (hT 2 (by decide) : (Is (.int .i64 s3)) (vs 2) (ρ 2))
    obtain ⟨hv3, hr3⟩ := (hT 3 (by decide) : (Is (.bool true)) (vs 3) (ρ 3))
    obtain ⟨hv4, hr4⟩ := (hT 4 (by decide) : (Is (.bool true)) (vs 4) (ρ 4))
    obtain ⟨hv5, hr5⟩ := (hT 5 (by decide) : (Is (.agg #[.bool b, .slice p n c])) (vs 5) (ρ 5))
    obtain ⟨p4, n4, c4, hv6, hr6⟩ := (hT 6 (by decide) : (Zt 9223372036854775807) (vs 6) (ρ 6))
    obtain ⟨hv7, hr7⟩ := (hT 7 (by decide) : (Is (.int .i64 s5)) (vs 7) (ρ 7))
    obtain ⟨hv8, hr8⟩ := (hT 8 (by decide) : (Is (.bool true)) (vs 8) (ρ 8))
    obtain ⟨hv9, hr9⟩ := (hT 9 (by decide) : (Is (.bool true)) (vs 9) (ρ 9))
    obtain ⟨hv10, hr10⟩ := (hT 10 (by decide) : (Is (.bool true)) (vs 10) (ρ 10))
    simp only [pool, if_true, hr0, hr1, hr2, hr3, hr4, hr5, hr6, hr7, hr8, hr9, hr10, List.nil_append, List.cons_append, List.append_nil] at hS
    replace hS : Sep w [.row p4 n4 c4 (lim (9223372036854775807 : Int).natAbs), .row p2 n2 c2 (lim (-9223372036854775808 : Int).natAbs), .blk g6 [.bool b, .slice pc1 n cc1] 25, .row pc1 n cc1 xs, .blk g3 [.bool b2, .slice q m d] 25, .blk g1 [.bool b, .slice p n c] 25] w10 := hS
    simp only [layf, hv0, hv1, hv2, hv3, hv4, hv5, hv6, hv7, hv8, hv9, hv10] at hf
    subst hf; clear hT hv0 hv1 hv2 hv3 hv4 hv5 hv6 hv7 hv8 hv9 hv10 hr0 hr1 hr2 hr3 hr4 hr5 hr6 hr7 hr8 hr9 hr10
    refine wdone rfl ?_
    refine thenN ?_
    refine wseq ?_
    refine wseq ?_
    have hk6 : Wd x 2 := Wd.i64 (hlo) (hhi)
    obtain ⟨z7, hz7⟩ : ∃ z : Int, Hid (x = z) := ⟨_, rfl⟩
    have hk7 : Wd z7 1048576 := Wd.same hzx.wd hz7
    refine wstage 22 [28, 29, 30, 31, 32, 33, 34, 35, 36, 37, 38, 39, 40, 41, 42, 43, 44, 45, 46, 47, 48, 49] [[], [], [0, 1], [2, 0, 1], [3, 0, 1, 2], [3, 4, 0, 1, 2], [5, 0, 1, 2, 3, 4], [5, 6, 0, 1, 2, 3, 4], [5, 0, 1, 2, 3, 4], [5, 8, 0, 1, 2, 3, 4, 6, 7], [5, 7, 9, 0, 1, 2, 3, 4, 6, 8], [5, 10, 0, 1, 2, 3, 4, 6, 7, 8, 9], [3, 5, 11, 0, 1, 2, 4, 6, 7, 8, 9, 10], [3, 12, 0, 1, 2, 4, 5, 6, 7, 8, 9, 10, 11], [13, 0, 1, 2, 3, 4, 5, 6, 7, 8, 9, 10, 11, 12], [14, 0, 1, 2, 3, 4, 5, 6, 7, 8, 9, 10, 11, 12, 13], [14, 15, 0, 1, 2, 3, 4, 5, 6, 7, 8, 9, 10, 11, 12, 13], [14, 16, 0, 1, 2, 3, 4, 5, 6, 7, 8, 9, 10, 11, 12, 13, 15], [17, 0, 1, 2, 3, 4, 5, 6, 7, 8, 9, 10, 11, 12, 13, 14, 15, 16], [17, 18, 0, 1, 2, 3, 4, 5, 6, 7, 8, 9, 10, 11, 12, 13, 14, 15, 16], [14, 17, 19, 0, 1, 2, 3, 4, 5, 6, 7, 8, 9, 10, 11, 12, 13, 15, 16, 18], [14, 20, 0, 1, 2, 3, 4, 5, 6, 7, 8, 9, 10, 11, 12, 13, 15, 16, 17, 18, 19]] [[], [], [], [], [], [], [], [], [], [], [], [], [], [], [], [], [], [], [], [], [], []] [] (fun i => ([fun _ => Is (.bool true), fun _ => Is (.bool true), fun _ => Is (.bool false), fun _ => Is (.bool false), fun _ => Is (.bool true), fun _ => Is (.bool true), fun _ => Is (.int .i64 x), fun _ => Zt x, fun _ => Is (.agg #[.bool b, .slice p n c]), fun _ => Zt z7, fun _ => Is (.bool true), fun _ => Is (.bool false), fun _ => Is (.bool false), fun _ => Is (.bool false), fun _ => Is (.bool false), fun _ => Is (.bool true), fun _ => Is (.bool false), fun _ => Is (.bool false), fun _ => Is undef, fun _ => Is undef, fun _ => Is (.bool false), fun _ => Is (.bool false)] : List (List Value → Tell)).getD i (fun _ _ _ => False)) (fun d _ _ _ _ h => (by cases d <;> exact h)) (by kernel_rfl) (by kernel_rfl) (by kernel_rfl) hS ?_ ?_
    ·
      refine stepsCons rfl ?_ ?_
      · intro Q f' w' ρ S ho hT hS
        change Sep w (_ ++ ([].flatMap ρ ++ S)) w' at hS
        simp only [List.flatMap_cons, List.flatMap_nil, List.nil_append, List.cons_append, List.append_nil] at hS
        exact .inl ⟨want_none rfl, omove (v := .bool true) rfl rfl (ev (v := .bool true) rfl (ho 9 rfl)) ⟨_, _, rfl, isI, New.same _⟩⟩
      refine stepsCons rfl ?_ ?_
      · intro Q f' w' ρ S ho hT hS
        change Sep w (_ ++ ([].flatMap ρ ++ S)) w' at hS
        simp only [List.flatMap_cons, List.flatMap_nil, List.nil_append, List.cons_append, List.append_nil] at hS
        exact .inl ⟨want_none rfl, omove (v := .bool true) rfl rfl (ev (v := .bool true) rfl (ho 10 rfl)) ⟨_, _, rfl, isI, New.same _⟩⟩
      refine stepsCons rfl ?_ ?_
      · intro Q f' w' ρ S ho hT hS
        obtain ⟨hv0, hr0⟩ := (hT 0 28 rfl rfl : (Is (.bool true)) (f' 28) (ρ 0))
        obtain ⟨hv1, hr1⟩ := (hT 1 29 rfl rfl : (Is (.bool true)) (f' 29) (ρ 1))
        change Sep w (_ ++ ([0, 1].flatMap ρ ++ S)) w' at hS
        simp only [List.flatMap_cons, List.flatMap_nil, List.nil_append, List.cons_append, List.append_nil, hr0, hr1] at hS
        exact .inl ⟨want_none rfl, obin (u := .bool true) (v := .bool true) (z := .bool false) rfl rfl (ev (v := .bool true) rfl hv0) (ev (v := .bool true) rfl hv1) (bin_neqB Try.underlying4 (rfl)) ⟨_, _, rfl, isI, New.same _⟩⟩
      refine stepsCons rfl ?_ ?_
      · intro Q f' w' ρ S ho hT hS
        obtain ⟨hv2, hr2⟩ := (hT 2 30 rfl rfl : (Is (.bool false)) (f' 30) (ρ 2))
        change Sep w (_ ++ ([2, 0, 1].flatMap ρ ++ S)) w' at hS
        simp only [List.flatMap_cons, List.flatMap_nil, List.nil_append, List.cons_append, List.append_nil, hr2] at hS
        exact .inl ⟨want_none rfl, omove (v := .bool false) rfl rfl (ev (v := .bool false) rfl hv2) ⟨_, _, rfl, isI, New.same _⟩⟩
      refine stepsCons rfl ?_ ?_
      · intro Q f' w' ρ S ho hT hS
        obtain ⟨hv3, hr3⟩ := (hT 3 31 rfl rfl : (Is (.bool false)) (f' 31) (ρ 3))
        change Sep w (_ ++ ([3, 0, 1, 2].flatMap ρ ++ S)) w' at hS
        simp only [List.flatMap_cons, List.flatMap_nil, List.nil_append, List.cons_append, List.append_nil, hr3] at hS
        exact .inl ⟨want_on (e := 31) rfl rfl rfl hv3, omove (v := .bool true) rfl rfl (ev (v := .bool true) rfl (ho 9 rfl)) ⟨_, _, rfl, isI, New.same _⟩⟩
      refine stepsCons rfl ?_ ?_
      · intro Q f' w' ρ S ho hT hS
        obtain ⟨hv3, hr3⟩ := (hT 3 31 rfl rfl : (Is (.bool false)) (f' 31) (ρ 3))
        obtain ⟨hv4, hr4⟩ := (hT 4 32 rfl rfl : (Is (.bool true)) (f' 32) (ρ 4))
        change Sep w (_ ++ ([3, 4, 0, 1, 2].flatMap ρ ++ S)) w' at hS
        simp only [List.flatMap_cons, List.flatMap_nil, List.nil_append, List.cons_append, List.append_nil, hr3, hr4] at hS
        exact .inl ⟨want_on (e := 31) rfl rfl rfl hv3, omove (v := .bool true) rfl rfl (ev (v := .bool true) rfl hv4) ⟨_, _, rfl, isI, New.same _⟩⟩
      refine stepsCons rfl ?_ ?_
      · intro Q f' w' ρ S ho hT hS
        obtain ⟨hv5, hr5⟩ := (hT 5 33 rfl rfl : (Is (.bool true)) (f' 33) (ρ 5))
        change Sep w (_ ++ ([5, 0, 1, 2, 3, 4].flatMap ρ ++ S)) w' at hS
        simp only [List.flatMap_cons, List.flatMap_nil, List.nil_append, List.cons_append, List.append_nil, hr5] at hS
        exact .inl ⟨want_on (e := 33) rfl rfl rfl hv5, omove (v := .int .i64 x) rfl rfl (ev (v := .int .i64 x) rfl (ho 8 rfl)) ⟨_, _, rfl, isI, New.same _⟩⟩
      refine stepsCons rfl ?_ ?_
      · intro Q f' w' ρ S ho hT hS
        obtain ⟨hv5, hr5⟩ := (hT 5 33 rfl rfl : (Is (.bool true)) (f' 33) (ρ 5))
        obtain ⟨hv6, hr6⟩ := (hT 6 34 rfl rfl : (Is (.int .i64 x)) (f' 34) (ρ 6))
        change Sep w (_ ++ ([5, 6, 0, 1, 2, 3, 4].flatMap ρ ++ S)) w' at hS
        simp only [List.flatMap_cons, List.flatMap_nil, List.nil_append, List.cons_append, List.append_nil, hr5, hr6] at hS
        refine .inl ⟨want_on (e := 33) rfl rfl rfl hv5, ocall rfl rfl Try.call18 rfl (args1 (ev (v := .int .i64 x) rfl hv6)) (wlof (z := x) (hlo) (hhi)) ?_⟩
        rintro _ w9 ⟨_, _, rfl, hTT, hN⟩
        exact ⟨_, rfl, _, _, rfl, hTT, hN⟩
      refine stepsCons rfl ?_ ?_
      · intro Q f' w' ρ S ho hT hS
        obtain ⟨hv5, hr5⟩ := (hT 5 33 rfl rfl : (Is (.bool true)) (f' 33) (ρ 5))
        change Sep w (_ ++ ([5, 0, 1, 2, 3, 4].flatMap ρ ++ S)) w' at hS
        simp only [List.flatMap_cons, List.flatMap_nil, List.nil_append, List.cons_append, List.append_nil, hr5] at hS
        exact .inl ⟨want_on (e := 33) rfl rfl rfl hv5, oload (vs := [.bool b, .slice p n c]) aggZ hS 5 rfl rfl (ev (v := .pointer (some ⟨g1, 0, none⟩)) rfl (ho 3 rfl)) rfl rfl rfl ⟨_, _, rfl, isI, New.same _⟩⟩
      refine stepsCons rfl ?_ ?_
      · intro Q f' w' ρ S ho hT hS
        obtain ⟨hv5, hr5⟩ := (hT 5 33 rfl rfl : (Is (.bool true)) (f' 33) (ρ 5))
        obtain ⟨hv8, hr8⟩ := (hT 8 36 rfl rfl : (Is (.agg #[.bool b, .slice p n c])) (f' 36) (ρ 8))
        change Sep w (_ ++ ([5, 8, 0, 1, 2, 3, 4, 6, 7].flatMap ρ ++ S)) w' at hS
        simp only [List.flatMap_cons, List.flatMap_nil, List.nil_append, List.cons_append, List.append_nil, hr5, hr8] at hS
        refine .inl ⟨want_on (e := 33) rfl rfl rfl hv5, ocall rfl rfl Try.call22 rfl (args1 (ev (v := .agg #[.bool b, .slice p n c]) rfl hv8)) (wqnorm ((hzx.at hS).mono (by omega)) hz7) ?_⟩
        rintro _ w9 ⟨_, _, rfl, hTT, hN⟩
        exact ⟨_, rfl, _, _, rfl, hTT, hN⟩
      refine stepsCons rfl ?_ ?_
      · intro Q f' w' ρ S ho hT hS
        obtain ⟨hv5, hr5⟩ := (hT 5 33 rfl rfl : (Is (.bool true)) (f' 33) (ρ 5))
        obtain ⟨p6, n6, c6, hv7, hr7⟩ := (hT 7 35 rfl rfl : (Zt x) (f' 35) (ρ 7))
        obtain ⟨p7, n7, c7, hv9, hr9⟩ := (hT 9 37 rfl rfl : (Zt z7) (f' 37) (ρ 9))
        change Sep w (_ ++ ([5, 7, 9, 0, 1, 2, 3, 4, 6, 8].flatMap ρ ++ S)) w' at hS
        simp only [List.flatMap_cons, List.flatMap_nil, List.nil_append, List.cons_append, List.append_nil, hr5, hr7, hr9] at hS
        refine .inl ⟨want_on (e := 33) rfl rfl rfl hv5, ocall rfl rfl Try.call13 rfl (args2 (ev (v := .agg #[.bool (ng x), .slice p6 n6 c6]) rfl hv7) (ev (v := .agg #[.bool (ng z7), .slice p7 n7 c7]) rfl hv9)) (wlsame (x := x) (y := z7) (hS.sl 6 rfl) (hS.sl 7 rfl) ((hz7.out.symm).symm)) ?_⟩
        rintro _ w9 ⟨_, _, rfl, hTT, hN⟩
        exact ⟨_, rfl, _, _, rfl, hTT, hN⟩
      refine stepsCons rfl ?_ ?_
      · intro Q f' w' ρ S ho hT hS
        obtain ⟨hv5, hr5⟩ := (hT 5 33 rfl rfl : (Is (.bool true)) (f' 33) (ρ 5))
        obtain ⟨hv10, hr10⟩ := (hT 10 38 rfl rfl : (Is (.bool true)) (f' 38) (ρ 10))
        change Sep w (_ ++ ([5, 10, 0, 1, 2, 3, 4, 6, 7, 8, 9].flatMap ρ ++ S)) w' at hS
        simp only [List.flatMap_cons, List.flatMap_nil, List.nil_append, List.cons_append, List.append_nil, hr5, hr10] at hS
        exact .inl ⟨want_on (e := 33) rfl rfl rfl hv5, onot (b := true) rfl rfl (ev (v := .bool true) rfl hv10) ⟨_, _, rfl, isI, New.same _⟩⟩
      refine stepsCons rfl ?_ ?_
      · intro Q f' w' ρ S ho hT hS
        obtain ⟨hv3, hr3⟩ := (hT 3 31 rfl rfl : (Is (.bool false)) (f' 31) (ρ 3))
        obtain ⟨hv5, hr5⟩ := (hT 5 33 rfl rfl : (Is (.bool true)) (f' 33) (ρ 5))
        obtain ⟨hv11, hr11⟩ := (hT 11 39 rfl rfl : (Is (.bool false)) (f' 39) (ρ 11))
        change Sep w (_ ++ ([3, 5, 11, 0, 1, 2, 4, 6, 7, 8, 9, 10].flatMap ρ ++ S)) w' at hS
        simp only [List.flatMap_cons, List.flatMap_nil, List.nil_append, List.cons_append, List.append_nil, hr3, hr5, hr11] at hS
        exact .inl ⟨want_on (e := 31) rfl rfl rfl hv3, opick (b := true) (v := .bool false) rfl rfl (ev (v := .bool true) rfl hv5) (ev (v := .bool false) rfl hv11) ⟨_, _, rfl, isI, New.same _⟩⟩
      refine stepsCons rfl ?_ ?_
      · intro Q f' w' ρ S ho hT hS
        obtain ⟨hv3, hr3⟩ := (hT 3 31 rfl rfl : (Is (.bool false)) (f' 31) (ρ 3))
        obtain ⟨hv12, hr12⟩ := (hT 12 40 rfl rfl : (Is (.bool false)) (f' 40) (ρ 12))
        change Sep w (_ ++ ([3, 12, 0, 1, 2, 4, 5, 6, 7, 8, 9, 10, 11].flatMap ρ ++ S)) w' at hS
        simp only [List.flatMap_cons, List.flatMap_nil, List.nil_append, List.cons_append, List.append_nil, hr3, hr12] at hS
        exact .inl ⟨want_none rfl, opick (b := false) (v := .bool false) rfl rfl (ev (v := .bool false) rfl hv3) (ev (v := .bool false) rfl hv12) ⟨_, _, rfl, isI, New.same _⟩⟩
      refine stepsCons rfl ?_ ?_
      · intro Q f' w' ρ S ho hT hS
        obtain ⟨hv13, hr13⟩ := (hT 13 41 rfl rfl : (Is (.bool false)) (f' 41) (ρ 13))
        change Sep w (_ ++ ([13, 0, 1, 2, 3, 4, 5, 6, 7, 8, 9, 10, 11, 12].flatMap ρ ++ S)) w' at hS
        simp only [List.flatMap_cons, List.flatMap_nil, List.nil_append, List.cons_append, List.append_nil, hr13] at hS
        exact .inl ⟨want_none rfl, omove (v := .bool false) rfl rfl (ev (v := .bool false) rfl hv13) ⟨_, _, rfl, isI, New.same _⟩⟩
      refine stepsCons rfl ?_ ?_
      · intro Q f' w' ρ S ho hT hS
        obtain ⟨hv14, hr14⟩ := (hT 14 42 rfl rfl : (Is (.bool false)) (f' 42) (ρ 14))
        change Sep w (_ ++ ([14, 0, 1, 2, 3, 4, 5, 6, 7, 8, 9, 10, 11, 12, 13].flatMap ρ ++ S)) w' at hS
        simp only [List.flatMap_cons, List.flatMap_nil, List.nil_append, List.cons_append, List.append_nil, hr14] at hS
        exact .inl ⟨want_on (e := 42) rfl rfl rfl hv14, omove (v := .bool true) rfl rfl (ev (v := .bool true) rfl (ho 9 rfl)) ⟨_, _, rfl, isI, New.same _⟩⟩
      refine stepsCons rfl ?_ ?_
      · intro Q f' w' ρ S ho hT hS
        obtain ⟨hv14, hr14⟩ := (hT 14 42 rfl rfl : (Is (.bool false)) (f' 42) (ρ 14))
        obtain ⟨hv15, hr15⟩ := (hT 15 43 rfl rfl : (Is (.bool true)) (f' 43) (ρ 15))
        change Sep w (_ ++ ([14, 15, 0, 1, 2, 3, 4, 5, 6, 7, 8, 9, 10, 11, 12, 13].flatMap ρ ++ S)) w' at hS
        simp only [List.flatMap_cons, List.flatMap_nil, List.nil_append, List.cons_append, List.append_nil, hr14, hr15] at hS
        exact .inl ⟨want_on (e := 42) rfl rfl rfl hv14, onot (b := true) rfl rfl (ev (v := .bool true) rfl hv15) ⟨_, _, rfl, isI, New.same _⟩⟩
      refine stepsCons rfl ?_ ?_
      · intro Q f' w' ρ S ho hT hS
        obtain ⟨hv14, hr14⟩ := (hT 14 42 rfl rfl : (Is (.bool false)) (f' 42) (ρ 14))
        obtain ⟨hv16, hr16⟩ := (hT 16 44 rfl rfl : (Is (.bool false)) (f' 44) (ρ 16))
        change Sep w (_ ++ ([14, 16, 0, 1, 2, 3, 4, 5, 6, 7, 8, 9, 10, 11, 12, 13, 15].flatMap ρ ++ S)) w' at hS
        simp only [List.flatMap_cons, List.flatMap_nil, List.nil_append, List.cons_append, List.append_nil, hr14, hr16] at hS
        exact .inl ⟨want_on (e := 42) rfl rfl rfl hv14, omove (v := .bool false) rfl rfl (ev (v := .bool false) rfl hv16) ⟨_, _, rfl, isI, New.same _⟩⟩
      refine stepsCons rfl ?_ ?_
      · intro Q f' w' ρ S ho hT hS
        obtain ⟨hv17, hr17⟩ := (hT 17 45 rfl rfl : (Is (.bool false)) (f' 45) (ρ 17))
        change Sep w (_ ++ ([17, 0, 1, 2, 3, 4, 5, 6, 7, 8, 9, 10, 11, 12, 13, 14, 15, 16].flatMap ρ ++ S)) w' at hS
        simp only [List.flatMap_cons, List.flatMap_nil, List.nil_append, List.cons_append, List.append_nil, hr17] at hS
        exact .inr ⟨want_off (e := 45) (b' := false) rfl rfl rfl hv17 rfl, isI⟩
      refine stepsCons rfl ?_ ?_
      · intro Q f' w' ρ S ho hT hS
        obtain ⟨hv17, hr17⟩ := (hT 17 45 rfl rfl : (Is (.bool false)) (f' 45) (ρ 17))
        obtain ⟨hv18, hr18⟩ := (hT 18 46 rfl rfl : (Is undef) (f' 46) (ρ 18))
        change Sep w (_ ++ ([17, 18, 0, 1, 2, 3, 4, 5, 6, 7, 8, 9, 10, 11, 12, 13, 14, 15, 16].flatMap ρ ++ S)) w' at hS
        simp only [List.flatMap_cons, List.flatMap_nil, List.nil_append, List.cons_append, List.append_nil, hr17, hr18] at hS
        exact .inr ⟨want_off (e := 45) (b' := false) rfl rfl rfl hv17 rfl, isI⟩
      refine stepsCons rfl ?_ ?_
      · intro Q f' w' ρ S ho hT hS
        obtain ⟨hv14, hr14⟩ := (hT 14 42 rfl rfl : (Is (.bool false)) (f' 42) (ρ 14))
        obtain ⟨hv17, hr17⟩ := (hT 17 45 rfl rfl : (Is (.bool false)) (f' 45) (ρ 17))
        obtain ⟨hv19, hr19⟩ := (hT 19 47 rfl rfl : (Is undef) (f' 47) (ρ 19))
        change Sep w (_ ++ ([14, 17, 19, 0, 1, 2, 3, 4, 5, 6, 7, 8, 9, 10, 11, 12, 13, 15, 16, 18].flatMap ρ ++ S)) w' at hS
        simp only [List.flatMap_cons, List.flatMap_nil, List.nil_append, List.cons_append, List.append_nil, hr14, hr17, hr19] at hS
        exact .inl ⟨want_on (e := 42) rfl rfl rfl hv14, opick (b := false) (v := .bool false) rfl rfl (ev (v := .bool false) rfl hv17) (evc (v := .bool false)) ⟨_, _, rfl, isI, New.same _⟩⟩
      refine stepsCons rfl ?_ ?_
      · intro Q f' w' ρ S ho hT hS
        obtain ⟨hv14, hr14⟩ := (hT 14 42 rfl rfl : (Is (.bool false)) (f' 42) (ρ 14))
        obtain ⟨hv20, hr20⟩ := (hT 20 48 rfl rfl : (Is (.bool false)) (f' 48) (ρ 20))
        change Sep w (_ ++ ([14, 20, 0, 1, 2, 3, 4, 5, 6, 7, 8, 9, 10, 11, 12, 13, 15, 16, 17, 18, 19].flatMap ρ ++ S)) w' at hS
        simp only [List.flatMap_cons, List.flatMap_nil, List.nil_append, List.cons_append, List.append_nil, hr14, hr20] at hS
        exact .inl ⟨want_none rfl, opick (b := false) (v := .bool false) rfl rfl (ev (v := .bool false) rfl hv14) (ev (v := .bool false) rfl hv20) ⟨_, _, rfl, isI, New.same _⟩⟩
      exact stepsNil
    ·
      intro vs ρ w11 f' hf hT hS
      obtain ⟨hv0, hr0⟩ := (hT 0 (by decide) : (Is (.bool true)) (vs 0) (ρ 0))
      obtain ⟨hv1, hr1⟩ := (hT 1 (by decide) : (Is (.bool true)) (vs 1) (ρ 1))
      obtain ⟨hv2, hr2⟩ := (hT 2 (by decide) : (Is (.bool false)) (vs 2) (ρ 2))
      obtain ⟨hv3, hr3⟩ := (hT 3 (by decide) : (Is (.bool false)) (vs 3) (ρ 3))
      obtain ⟨hv4, hr4⟩ := (hT 4 (by decide) : (Is (.bool true)) (vs 4) (ρ 4))
      obtain ⟨hv5, hr5⟩ := (hT 5 (by decide) : (Is (.bool true)) (vs 5) (ρ 5))
      obtain ⟨hv6, hr6⟩ := (hT 6 (by decide) : (Is (.int .i64 x)) (vs 6) (ρ 6))
      obtain ⟨p6, n6, c6, hv7, hr7⟩ := (hT 7 (by decide) : (Zt x) (vs 7) (ρ 7))
      obtain ⟨hv8, hr8⟩ := (hT 8 (by decide) : (Is (.agg #[.bool b, .slice p n c])) (vs 8) (ρ 8))
      obtain ⟨p7, n7, c7, hv9, hr9⟩ := (hT 9 (by decide) : (Zt z7) (vs 9) (ρ 9))
      obtain ⟨hv10, hr10⟩ := (hT 10 (by decide) : (Is (.bool true)) (vs 10) (ρ 10))
      obtain ⟨hv11, hr11⟩ := (hT 11 (by decide) : (Is (.bool false)) (vs 11) (ρ 11))
      obtain ⟨hv12, hr12⟩ := (hT 12 (by decide) : (Is (.bool false)) (vs 12) (ρ 12))
      obtain ⟨hv13, hr13⟩ := (hT 13 (by decide) : (Is (.bool false)) (vs 13) (ρ 13))
      obtain ⟨hv14, hr14⟩ := (hT 14 (by decide) : (Is (.bool false)) (vs 14) (ρ 14))
      obtain ⟨hv15, hr15⟩ := (hT 15 (by decide) : (Is (.bool true)) (vs 15) (ρ 15))
      obtain ⟨hv16, hr16⟩ := (hT 16 (by decide) : (Is (.bool false)) (vs 16) (ρ 16))
      obtain ⟨hv17, hr17⟩ := (hT 17 (by decide) : (Is (.bool false)) (vs 17) (ρ 17))
      obtain ⟨hv18, hr18⟩ := (hT 18 (by decide) : (Is undef) (vs 18) (ρ 18))
      obtain ⟨hv19, hr19⟩ := (hT 19 (by decide) : (Is undef) (vs 19) (ρ 19))
      obtain ⟨hv20, hr20⟩ := (hT 20 (by decide) : (Is (.bool false)) (vs 20) (ρ 20))
      obtain ⟨hv21, hr21⟩ := (hT 21 (by decide) : (Is (.bool false)) (vs 21) (ρ 21))
      simp only [pool, if_true, hr0, hr1, hr2, hr3, hr4, hr5, hr6, hr7, hr8, hr9, hr10, hr11, hr12, hr13, hr14, hr15, hr16, hr17, hr18, hr19, hr20, hr21, List.nil_append, List.cons_append, List.append_nil] at hS
      replace hS : Sep w [.row p7 n7 c7 (lim z7.natAbs), .row p6 n6 c6 (lim x.natAbs), .row p4 n4 c4 (lim (9223372036854775807 : Int).natAbs), .row p2 n2 c2 (lim (-9223372036854775808 : Int).natAbs), .blk g6 [.bool b, .slice pc1 n cc1] 25, .row pc1 n cc1 xs, .blk g3 [.bool b2, .slice q m d] 25, .blk g1 [.bool b, .slice p n c] 25] w11 := hS
      simp only [layf, hv0, hv1, hv2, hv3, hv4, hv5, hv6, hv7, hv8, hv9, hv10, hv11, hv12, hv13, hv14, hv15, hv16, hv17, hv18, hv19, hv20, hv21] at hf
      subst hf; clear hT hv0 hv1 hv2 hv3 hv4 hv5 hv6 hv7 hv8 hv9 hv10 hv11 hv12 hv13 hv14 hv15 hv16 hv17 hv18 hv19 hv20 hv21 hr0 hr1 hr2 hr3 hr4 hr5 hr6 hr7 hr8 hr9 hr10 hr11 hr12 hr13 hr14 hr15 hr16 hr17 hr18 hr19 hr20 hr21
      refine wdone rfl ?_
      refine thenN ?_
      refine wF (ev (v := .bool false) rfl rfl) ?_
      refine wskip ?_
      refine thenN ?_
      refine wseq ?_
      refine wseq ?_
      obtain ⟨z8, hz8⟩ : ∃ z : Int, Hid (x = z) := ⟨_, rfl⟩
      have hk8 : Wd z8 1048576 := Wd.same hzx.wd hz8
      obtain ⟨z9, hz9⟩ : ∃ z : Int, Hid (x = z) := ⟨_, rfl⟩
      have hk9 : Wd z9 1048576 := Wd.same hzx.wd hz9
      have hk10 : Wd nn 2 := Wd.i64 (hn1) (hn2)
      have hk11 : Wd nn 2 := Wd.i64 (hn1) (hn2)
      obtain ⟨s12, hs12⟩ : ∃ z : Int, Hid ((x : Int).sign = z) := ⟨_, rfl⟩
      obtain ⟨s13, hs13⟩ : ∃ z : Int, Hid ((x : Int).sign = z) := ⟨_, rfl⟩
      obtain ⟨s14, hs14⟩ : ∃ z : Int, Hid (cmpZ x y = z) := ⟨_, rfl⟩
      obtain ⟨s15, hs15⟩ : ∃ z : Int, Hid (cmpZ x y = z) := ⟨_, rfl⟩
      refine wstage 30 [50, 51, 52, 53, 54, 55, 56, 57, 58, 59, 60, 61, 62, 63, 64, 65, 66, 67, 68, 69, 70, 71, 72, 73, 74, 75, 76, 77, 78, 79] [[], [0], [], [2, 0, 1], [1, 3, 0, 2], [4, 0, 1, 2, 3], [5, 0, 1, 2, 3, 4], [6, 0, 1, 2, 3, 4, 5], [6, 7, 0, 1, 2, 3, 4, 5], [6, 0, 1, 2, 3, 4, 5], [6, 9, 0, 1, 2, 3, 4, 5, 7, 8], [6, 8, 10, 0, 1, 2, 3, 4, 5, 7, 9], [6, 11, 0, 1, 2, 3, 4, 5, 7, 8, 9, 10], [6, 12, 0, 1, 2, 3, 4, 5, 7, 8, 9, 10, 11], [13, 0, 1, 2, 3, 4, 5, 6, 7, 8, 9, 10, 11, 12], [14, 0, 1, 2, 3, 4, 5, 6, 7, 8, 9, 10, 11, 12, 13], [14, 15, 0, 1, 2, 3, 4, 5, 6, 7, 8, 9, 10, 11, 12, 13], [14, 0, 1, 2, 3, 4, 5, 6, 7, 8, 9, 10, 11, 12, 13], [14, 17, 0, 1, 2, 3, 4, 5, 6, 7, 8, 9, 10, 11, 12, 13, 15, 16], [14, 16, 18, 0, 1, 2, 3, 4, 5, 6, 7, 8, 9, 10, 11, 12, 13, 15, 17], [14, 19, 0, 1, 2, 3, 4, 5, 6, 7, 8, 9, 10, 11, 12, 13, 15, 16, 17, 18], [20, 0, 1, 2, 3, 4, 5, 6, 7, 8, 9, 10, 11, 12, 13, 14, 15, 16, 17, 18, 19], [21, 0, 1, 2, 3, 4, 5, 6, 7, 8, 9, 10, 11, 12, 13, 14, 15, 16, 17, 18, 19, 20], [21, 0, 1, 2, 3, 4, 5, 6, 7, 8, 9, 10, 11, 12, 13, 14, 15, 16, 17, 18, 19, 20], [21, 22, 23, 0, 1, 2, 3, 4, 5, 6, 7, 8, 9, 10, 11, 12, 13, 14, 15, 16, 17, 18, 19, 20], [21, 0, 1, 2, 3, 4, 5, 6, 7, 8, 9, 10, 11, 12, 13, 14, 15, 16, 17, 18, 19, 20], [21, 0, 1, 2, 3, 4, 5, 6, 7, 8, 9, 10, 11, 12, 13, 14, 15, 16, 17, 18, 19, 20], [21, 25, 26, 0, 1, 2, 3, 4, 5, 6, 7, 8, 9, 10, 11, 12, 13, 14, 15, 16, 17, 18, 19, 20, 22, 23, 24], [21, 24, 27, 0, 1, 2, 3, 4, 5, 6, 7, 8, 9, 10, 11, 12, 13, 14, 15, 16, 17, 18, 19, 20, 22, 23, 25, 26], [21, 28, 0, 1, 2, 3, 4, 5, 6, 7, 8, 9, 10, 11, 12, 13, 14, 15, 16, 17, 18, 19, 20, 22, 23, 24, 25, 26, 27]] [[], [], [], [], [], [], [], [], [], [], [], [], [], [], [], [], [], [], [], [], [], [], [], [], [], [], [], [], [], []] [] (fun i => ([fun _ => Is (.agg #[.bool b, .slice pc1 n cc1]), fun _ => Zt z8, fun _ => Is (.agg #[.bool b, .slice p n c]), fun _ => Zt z9, fun _ => Is (.bool true), fun _ => Is (.bool false), fun _ => Is (.bool false), fun _ => Is (.int .i64 nn), fun _ => Zt nn, fun _ => Is (.int .i64 nn), fun _ => Zt nn, fun _ => Is (.bool true), fun _ => Is (.bool false), fun _ => Is (.bool false), fun _ => Is (.bool false), fun _ => Is (.agg #[.bool b, .slice pc1 n cc1]), fun _ => Is (.int .i64 s12), fun _ => Is (.agg #[.bool b, .slice p n c]), fun _ => Is (.int .i64 s13), fun _ => Is (.bool false), fun _ => Is (.bool false), fun _ => Is (.bool false), fun _ => Is (.agg #[.bool b, .slice pc1 n cc1]), fun _ => Is (.agg #[.bool b2, .slice q m d]), fun _ => Is (.int .i64 s14), fun _ => Is (.agg #[.bool b, .slice p n c]), fun _ => Is (.agg #[.bool b2, .slice q m d]), fun _ => Is (.int .i64 s15), fun _ => Is (.bool false), fun _ => Is (.bool false)] : List (List Value → Tell)).getD i (fun _ _ _ => False)) (fun d _ _ _ _ h => (by cases d <;> exact h)) (by kernel_rfl) (by kernel_rfl) (by kernel_rfl) hS ?_ ?_
      ·
        refine stepsCons rfl ?_ ?_
        · intro Q f' w' ρ S ho hT hS
          change Sep w (_ ++ ([].flatMap ρ ++ S)) w' at hS
          simp only [List.flatMap_cons, List.flatMap_nil, List.nil_append, List.cons_append, List.append_nil] at hS
          exact .inl ⟨want_none rfl, oload (vs := [.bool b, .slice pc1 n cc1]) aggZ hS 4 rfl rfl (ev (v := .pointer (some ⟨g6, 0, none⟩)) rfl (ho 7 rfl)) rfl rfl rfl ⟨_, _, rfl, isI, New.same _⟩⟩
        refine stepsCons rfl ?_ ?_
        · intro Q f' w' ρ S ho hT hS
          obtain ⟨hv0, hr0⟩ := (hT 0 50 rfl rfl : (Is (.agg #[.bool b, .slice pc1 n cc1])) (f' 50) (ρ 0))
          change Sep w (_ ++ ([0].flatMap ρ ++ S)) w' at hS
          simp only [List.flatMap_cons, List.flatMap_nil, List.nil_append, List.cons_append, List.append_nil, hr0] at hS
          refine .inl ⟨want_none rfl, ocall rfl rfl Try.call23 rfl (args1 (ev (v := .agg #[.bool b, .slice pc1 n cc1]) rfl hv0)) (wznorm ((show Zr _ _ _ _ _ x 1048576 from ⟨_, hS.sl 5 rfl, hex, hn⟩).mono (by omega)) hz8) ?_⟩
          rintro _ w9 ⟨_, _, rfl, hTT, hN⟩
          exact ⟨_, rfl, _, _, rfl, hTT, hN⟩
        refine stepsCons rfl ?_ ?_
        · intro Q f' w' ρ S ho hT hS
          change Sep w (_ ++ ([].flatMap ρ ++ S)) w' at hS
          simp only [List.flatMap_cons, List.flatMap_nil, List.nil_append, List.cons_append, List.append_nil] at hS
          exact .inl ⟨want_none rfl, oload (vs := [.bool b, .slice p n c]) aggZ hS 7 rfl rfl (ev (v := .pointer (some ⟨g1, 0, none⟩)) rfl (ho 3 rfl)) rfl rfl rfl ⟨_, _, rfl, isI, New.same _⟩⟩
        refine stepsCons rfl ?_ ?_
        · intro Q f' w' ρ S ho hT hS
          obtain ⟨hv2, hr2⟩ := (hT 2 52 rfl rfl : (Is (.agg #[.bool b, .slice p n c])) (f' 52) (ρ 2))
          change Sep w (_ ++ ([2, 0, 1].flatMap ρ ++ S)) w' at hS
          simp only [List.flatMap_cons, List.flatMap_nil, List.nil_append, List.cons_append, List.append_nil, hr2] at hS
          refine .inl ⟨want_none rfl, ocall rfl rfl Try.call22 rfl (args1 (ev (v := .agg #[.bool b, .slice p n c]) rfl hv2)) (wqnorm ((hzx.at hS).mono (by omega)) hz9) ?_⟩
          rintro _ w9 ⟨_, _, rfl, hTT, hN⟩
          exact ⟨_, rfl, _, _, rfl, hTT, hN⟩
        refine stepsCons rfl ?_ ?_
        · intro Q f' w' ρ S ho hT hS
          obtain ⟨p8, n8, c8, hv1, hr1⟩ := (hT 1 51 rfl rfl : (Zt z8) (f' 51) (ρ 1))
          obtain ⟨p9, n9, c9, hv3, hr3⟩ := (hT 3 53 rfl rfl : (Zt z9) (f' 53) (ρ 3))
          change Sep w (_ ++ ([1, 3, 0, 2].flatMap ρ ++ S)) w' at hS
          simp only [List.flatMap_cons, List.flatMap_nil, List.nil_append, List.cons_append, List.append_nil, hr1, hr3] at hS
          refine .inl ⟨want_none rfl, ocall rfl rfl Try.call13 rfl (args2 (ev (v := .agg #[.bool (ng z8), .slice p8 n8 c8]) rfl hv1) (ev (v := .agg #[.bool (ng z9), .slice p9 n9 c9]) rfl hv3)) (wlsame (x := z8) (y := z9) (hS.sl 8 rfl) (hS.sl 9 rfl) ((hz8.out.symm).trans (hz9.out.symm).symm)) ?_⟩
          rintro _ w9 ⟨_, _, rfl, hTT, hN⟩
          exact ⟨_, rfl, _, _, rfl, hTT, hN⟩
        refine stepsCons rfl ?_ ?_
        · intro Q f' w' ρ S ho hT hS
          obtain ⟨hv4, hr4⟩ := (hT 4 54 rfl rfl : (Is (.bool true)) (f' 54) (ρ 4))
          change Sep w (_ ++ ([4, 0, 1, 2, 3].flatMap ρ ++ S)) w' at hS
          simp only [List.flatMap_cons, List.flatMap_nil, List.nil_append, List.cons_append, List.append_nil, hr4] at hS
          exact .inl ⟨want_none rfl, onot (b := true) rfl rfl (ev (v := .bool true) rfl hv4) ⟨_, _, rfl, isI, New.same _⟩⟩
        refine stepsCons rfl ?_ ?_
        · intro Q f' w' ρ S ho hT hS
          obtain ⟨hv5, hr5⟩ := (hT 5 55 rfl rfl : (Is (.bool false)) (f' 55) (ρ 5))
          change Sep w (_ ++ ([5, 0, 1, 2, 3, 4].flatMap ρ ++ S)) w' at hS
          simp only [List.flatMap_cons, List.flatMap_nil, List.nil_append, List.cons_append, List.append_nil, hr5] at hS
          exact .inl ⟨want_none rfl, omove (v := .bool false) rfl rfl (ev (v := .bool false) rfl hv5) ⟨_, _, rfl, isI, New.same _⟩⟩
        refine stepsCons rfl ?_ ?_
        · intro Q f' w' ρ S ho hT hS
          obtain ⟨hv6, hr6⟩ := (hT 6 56 rfl rfl : (Is (.bool false)) (f' 56) (ρ 6))
          change Sep w (_ ++ ([6, 0, 1, 2, 3, 4, 5].flatMap ρ ++ S)) w' at hS
          simp only [List.flatMap_cons, List.flatMap_nil, List.nil_append, List.cons_append, List.append_nil, hr6] at hS
          exact .inl ⟨want_on (e := 56) rfl rfl rfl hv6, omove (v := .int .i64 nn) rfl rfl (ev (v := .int .i64 nn) rfl (ho 2 rfl)) ⟨_, _, rfl, isI, New.same _⟩⟩
        refine stepsCons rfl ?_ ?_
        · intro Q f' w' ρ S ho hT hS
          obtain ⟨hv6, hr6⟩ := (hT 6 56 rfl rfl : (Is (.bool false)) (f' 56) (ρ 6))
          obtain ⟨hv7, hr7⟩ := (hT 7 57 rfl rfl : (Is (.int .i64 nn)) (f' 57) (ρ 7))
          change Sep w (_ ++ ([6, 7, 0, 1, 2, 3, 4, 5].flatMap ρ ++ S)) w' at hS
          simp only [List.flatMap_cons, List.flatMap_nil, List.nil_append, List.cons_append, List.append_nil, hr6, hr7] at hS
          refine .inl ⟨want_on (e := 56) rfl rfl rfl hv6, ocall rfl rfl Try.call24 rfl (args1 (ev (v := .int .i64 nn) rfl hv7)) (wzof (z := nn) (hn1) (hn2)) ?_⟩
          rintro _ w9 ⟨_, _, rfl, hTT, hN⟩
          exact ⟨_, rfl, _, _, rfl, hTT, hN⟩
        refine stepsCons rfl ?_ ?_
        · intro Q f' w' ρ S ho hT hS
          obtain ⟨hv6, hr6⟩ := (hT 6 56 rfl rfl : (Is (.bool false)) (f' 56) (ρ 6))
          change Sep w (_ ++ ([6, 0, 1, 2, 3, 4, 5].flatMap ρ ++ S)) w' at hS
          simp only [List.flatMap_cons, List.flatMap_nil, List.nil_append, List.cons_append, List.append_nil, hr6] at hS
          exact .inl ⟨want_on (e := 56) rfl rfl rfl hv6, omove (v := .int .i64 nn) rfl rfl (ev (v := .int .i64 nn) rfl (ho 2 rfl)) ⟨_, _, rfl, isI, New.same _⟩⟩
        refine stepsCons rfl ?_ ?_
        · intro Q f' w' ρ S ho hT hS
          obtain ⟨hv6, hr6⟩ := (hT 6 56 rfl rfl : (Is (.bool false)) (f' 56) (ρ 6))
          obtain ⟨hv9, hr9⟩ := (hT 9 59 rfl rfl : (Is (.int .i64 nn)) (f' 59) (ρ 9))
          change Sep w (_ ++ ([6, 9, 0, 1, 2, 3, 4, 5, 7, 8].flatMap ρ ++ S)) w' at hS
          simp only [List.flatMap_cons, List.flatMap_nil, List.nil_append, List.cons_append, List.append_nil, hr6, hr9] at hS
          refine .inl ⟨want_on (e := 56) rfl rfl rfl hv6, ocall rfl rfl Try.call18 rfl (args1 (ev (v := .int .i64 nn) rfl hv9)) (wlof (z := nn) (hn1) (hn2)) ?_⟩
          rintro _ w9 ⟨_, _, rfl, hTT, hN⟩
          exact ⟨_, rfl, _, _, rfl, hTT, hN⟩
        refine stepsCons rfl ?_ ?_
        · intro Q f' w' ρ S ho hT hS
          obtain ⟨hv6, hr6⟩ := (hT 6 56 rfl rfl : (Is (.bool false)) (f' 56) (ρ 6))
          obtain ⟨p10, n10, c10, hv8, hr8⟩ := (hT 8 58 rfl rfl : (Zt nn) (f' 58) (ρ 8))
          obtain ⟨p11, n11, c11, hv10, hr10⟩ := (hT 10 60 rfl rfl : (Zt nn) (f' 60) (ρ 10))
          change Sep w (_ ++ ([6, 8, 10, 0, 1, 2, 3, 4, 5, 7, 9].flatMap ρ ++ S)) w' at hS
          simp only [List.flatMap_cons, List.flatMap_nil, List.nil_append, List.cons_append, List.append_nil, hr6, hr8, hr10] at hS
          refine .inl ⟨want_on (e := 56) rfl rfl rfl hv6, ocall rfl rfl Try.call13 rfl (args2 (ev (v := .agg #[.bool (ng nn), .slice p10 n10 c10]) rfl hv8) (ev (v := .agg #[.bool (ng nn), .slice p11 n11 c11]) rfl hv10)) (wlsame (x := nn) (y := nn) (hS.sl 8 rfl) (hS.sl 9 rfl) (rfl)) ?_⟩
          rintro _ w9 ⟨_, _, rfl, hTT, hN⟩
          exact ⟨_, rfl, _, _, rfl, hTT, hN⟩
        refine stepsCons rfl ?_ ?_
        · intro Q f' w' ρ S ho hT hS
          obtain ⟨hv6, hr6⟩ := (hT 6 56 rfl rfl : (Is (.bool false)) (f' 56) (ρ 6))
          obtain ⟨hv11, hr11⟩ := (hT 11 61 rfl rfl : (Is (.bool true)) (f' 61) (ρ 11))
          change Sep w (_ ++ ([6, 11, 0, 1, 2, 3, 4, 5, 7, 8, 9, 10].flatMap ρ ++ S)) w' at hS
          simp only [List.flatMap_cons, List.flatMap_nil, List.nil_append, List.cons_append, List.append_nil, hr6, hr11] at hS
          exact .inl ⟨want_on (e := 56) rfl rfl rfl hv6, onot (b := true) rfl rfl (ev (v := .bool true) rfl hv11) ⟨_, _, rfl, isI, New.same _⟩⟩
        refine stepsCons rfl ?_ ?_
        · intro Q f' w' ρ S ho hT hS
          obtain ⟨hv6, hr6⟩ := (hT 6 56 rfl rfl : (Is (.bool false)) (f' 56) (ρ 6))
          obtain ⟨hv12, hr12⟩ := (hT 12 62 rfl rfl : (Is (.bool false)) (f' 62) (ρ 12))
          change Sep w (_ ++ ([6, 12, 0, 1, 2, 3, 4, 5, 7, 8, 9, 10, 11].flatMap ρ ++ S)) w' at hS
          simp only [List.flatMap_cons, List.flatMap_nil, List.nil_append, List.cons_append, List.append_nil, hr6, hr12] at hS
          exact .inl ⟨want_none rfl, opick (b := false) (v := .bool false) rfl rfl (ev (v := .bool false) rfl hv6) (ev (v := .bool false) rfl hv12) ⟨_, _, rfl, isI, New.same _⟩⟩
        refine stepsCons rfl ?_ ?_
        · intro Q f' w' ρ S ho hT hS
          obtain ⟨hv13, hr13⟩ := (hT 13 63 rfl rfl : (Is (.bool false)) (f' 63) (ρ 13))
          change Sep w (_ ++ ([13, 0, 1, 2, 3, 4, 5, 6, 7, 8, 9, 10, 11, 12].flatMap ρ ++ S)) w' at hS
          simp only [List.flatMap_cons, List.flatMap_nil, List.nil_append, List.cons_append, List.append_nil, hr13] at hS
          exact .inl ⟨want_none rfl, omove (v := .bool false) rfl rfl (ev (v := .bool false) rfl hv13) ⟨_, _, rfl, isI, New.same _⟩⟩
        refine stepsCons rfl ?_ ?_
        · intro Q f' w' ρ S ho hT hS
          obtain ⟨hv14, hr14⟩ := (hT 14 64 rfl rfl : (Is (.bool false)) (f' 64) (ρ 14))
          change Sep w (_ ++ ([14, 0, 1, 2, 3, 4, 5, 6, 7, 8, 9, 10, 11, 12, 13].flatMap ρ ++ S)) w' at hS
          simp only [List.flatMap_cons, List.flatMap_nil, List.nil_append, List.cons_append, List.append_nil, hr14] at hS
          exact .inl ⟨want_on (e := 64) rfl rfl rfl hv14, oload (vs := [.bool b, .slice pc1 n cc1]) aggZ hS 4 rfl rfl (ev (v := .pointer (some ⟨g6, 0, none⟩)) rfl (ho 7 rfl)) rfl rfl rfl ⟨_, _, rfl, isI, New.same _⟩⟩
        refine stepsCons rfl ?_ ?_
        · intro Q f' w' ρ S ho hT hS
          obtain ⟨hv14, hr14⟩ := (hT 14 64 rfl rfl : (Is (.bool false)) (f' 64) (ρ 14))
          obtain ⟨hv15, hr15⟩ := (hT 15 65 rfl rfl : (Is (.agg #[.bool b, .slice pc1 n cc1])) (f' 65) (ρ 15))
          change Sep w (_ ++ ([14, 15, 0, 1, 2, 3, 4, 5, 6, 7, 8, 9, 10, 11, 12, 13].flatMap ρ ++ S)) w' at hS
          simp only [List.flatMap_cons, List.flatMap_nil, List.nil_append, List.cons_append, List.append_nil, hr14, hr15] at hS
          refine .inl ⟨want_on (e := 64) rfl rfl rfl hv14, ocall rfl rfl Try.call25 rfl (args1 (ev (v := .agg #[.bool b, .slice pc1 n cc1]) rfl hv15)) (wzsign ((show Zr _ _ _ _ _ x 1048576 from ⟨_, hS.sl 5 rfl, hex, hn⟩).mono (by omega)) hs12) ?_⟩
          rintro _ w9 ⟨_, _, rfl, hTT, hN⟩
          exact ⟨_, rfl, _, _, rfl, hTT, hN⟩
        refine stepsCons rfl ?_ ?_
        · intro Q f' w' ρ S ho hT hS
          obtain ⟨hv14, hr14⟩ := (hT 14 64 rfl rfl : (Is (.bool false)) (f' 64) (ρ 14))
          change Sep w (_ ++ ([14, 0, 1, 2, 3, 4, 5, 6, 7, 8, 9, 10, 11, 12, 13].flatMap ρ ++ S)) w' at hS
          simp only [List.flatMap_cons, List.flatMap_nil, List.nil_append, List.cons_append, List.append_nil, hr14] at hS
          exact .inl ⟨want_on (e := 64) rfl rfl rfl hv14, oload (vs := [.bool b, .slice p n c]) aggZ hS 7 rfl rfl (ev (v := .pointer (some ⟨g1, 0, none⟩)) rfl (ho 3 rfl)) rfl rfl rfl ⟨_, _, rfl, isI, New.same _⟩⟩
        refine stepsCons rfl ?_ ?_
        · intro Q f' w' ρ S ho hT hS
          obtain ⟨hv14, hr14⟩ := (hT 14 64 rfl rfl : (Is (.bool false)) (f' 64) (ρ 14))
          obtain ⟨hv17, hr17⟩ := (hT 17 67 rfl rfl : (Is (.agg #[.bool b, .slice p n c])) (f' 67) (ρ 17))
          change Sep w (_ ++ ([14, 17, 0, 1, 2, 3, 4, 5, 6, 7, 8, 9, 10, 11, 12, 13, 15, 16].flatMap ρ ++ S)) w' at hS
          simp only [List.flatMap_cons, List.flatMap_nil, List.nil_append, List.cons_append, List.append_nil, hr14, hr17] at hS
          refine .inl ⟨want_on (e := 64) rfl rfl rfl hv14, ocall rfl rfl Try.call26 rfl (args1 (ev (v := .agg #[.bool b, .slice p n c]) rfl hv17)) (wqsign ((hzx.at hS).mono (by omega)) hs13) ?_⟩
          rintro _ w9 ⟨_, _, rfl, hTT, hN⟩
          exact ⟨_, rfl, _, _, rfl, hTT, hN⟩
        refine stepsCons rfl ?_ ?_
        · intro Q f' w' ρ S ho hT hS
          obtain ⟨hv14, hr14⟩ := (hT 14 64 rfl rfl : (Is (.bool false)) (f' 64) (ρ 14))
          obtain ⟨hv16, hr16⟩ := (hT 16 66 rfl rfl : (Is (.int .i64 s12)) (f' 66) (ρ 16))
          obtain ⟨hv18, hr18⟩ := (hT 18 68 rfl rfl : (Is (.int .i64 s13)) (f' 68) (ρ 18))
          change Sep w (_ ++ ([14, 16, 18, 0, 1, 2, 3, 4, 5, 6, 7, 8, 9, 10, 11, 12, 13, 15, 17].flatMap ρ ++ S)) w' at hS
          simp only [List.flatMap_cons, List.flatMap_nil, List.nil_append, List.cons_append, List.append_nil, hr14, hr16, hr18] at hS
          exact .inl ⟨want_on (e := 64) rfl rfl rfl hv14, obin (u := .int .i64 s12) (v := .int .i64 s13) (z := .bool false) rfl rfl (ev (v := .int .i64 s12) rfl hv16) (ev (v := .int .i64 s13) rfl hv18) (bin_neq (neF ((hs12.out.symm).trans (hs13.out.symm).symm))) ⟨_, _, rfl, isI, New.same _⟩⟩
        refine stepsCons rfl ?_ ?_
        · intro Q f' w' ρ S ho hT hS
          obtain ⟨hv14, hr14⟩ := (hT 14 64 rfl rfl : (Is (.bool false)) (f' 64) (ρ 14))
          obtain ⟨hv19, hr19⟩ := (hT 19 69 rfl rfl : (Is (.bool false)) (f' 69) (ρ 19))
          change Sep w (_ ++ ([14, 19, 0, 1, 2, 3, 4, 5, 6, 7, 8, 9, 10, 11, 12, 13, 15, 16, 17, 18].flatMap ρ ++ S)) w' at hS
          simp only [List.flatMap_cons, List.flatMap_nil, List.nil_append, List.cons_append, List.append_nil, hr14, hr19] at hS
          exact .inl ⟨want_none rfl, opick (b := false) (v := .bool false) rfl rfl (ev (v := .bool false) rfl hv14) (ev (v := .bool false) rfl hv19) ⟨_, _, rfl, isI, New.same _⟩⟩
        refine stepsCons rfl ?_ ?_
        · intro Q f' w' ρ S ho hT hS
          obtain ⟨hv20, hr20⟩ := (hT 20 70 rfl rfl : (Is (.bool false)) (f' 70) (ρ 20))
          change Sep w (_ ++ ([20, 0, 1, 2, 3, 4, 5, 6, 7, 8, 9, 10, 11, 12, 13, 14, 15, 16, 17, 18, 19].flatMap ρ ++ S)) w' at hS
          simp only [List.flatMap_cons, List.flatMap_nil, List.nil_append, List.cons_append, List.append_nil, hr20] at hS
          exact .inl ⟨want_none rfl, omove (v := .bool false) rfl rfl (ev (v := .bool false) rfl hv20) ⟨_, _, rfl, isI, New.same _⟩⟩
        refine stepsCons rfl ?_ ?_
        · intro Q f' w' ρ S ho hT hS
          obtain ⟨hv21, hr21⟩ := (hT 21 71 rfl rfl : (Is (.bool false)) (f' 71) (ρ 21))
          change Sep w (_ ++ ([21, 0, 1, 2, 3, 4, 5, 6, 7, 8, 9, 10, 11, 12, 13, 14, 15, 16, 17, 18, 19, 20].flatMap ρ ++ S)) w' at hS
          simp only [List.flatMap_cons, List.flatMap_nil, List.nil_append, List.cons_append, List.append_nil, hr21] at hS
          exact .inl ⟨want_on (e := 71) rfl rfl rfl hv21, oload (vs := [.bool b, .slice pc1 n cc1]) aggZ hS 4 rfl rfl (ev (v := .pointer (some ⟨g6, 0, none⟩)) rfl (ho 7 rfl)) rfl rfl rfl ⟨_, _, rfl, isI, New.same _⟩⟩
        refine stepsCons rfl ?_ ?_
        · intro Q f' w' ρ S ho hT hS
          obtain ⟨hv21, hr21⟩ := (hT 21 71 rfl rfl : (Is (.bool false)) (f' 71) (ρ 21))
          change Sep w (_ ++ ([21, 0, 1, 2, 3, 4, 5, 6, 7, 8, 9, 10, 11, 12, 13, 14, 15, 16, 17, 18, 19, 20].flatMap ρ ++ S)) w' at hS
          simp only [List.flatMap_cons, List.flatMap_nil, List.nil_append, List.cons_append, List.append_nil, hr21] at hS
          exact .inl ⟨want_on (e := 71) rfl rfl rfl hv21, oload (vs := [.bool b2, .slice q m d]) aggZ hS 6 rfl rfl (ev (v := .pointer (some ⟨g3, 0, none⟩)) rfl (ho 4 rfl)) rfl rfl rfl ⟨_, _, rfl, isI, New.same _⟩⟩
        refine stepsCons rfl ?_ ?_
        · intro Q f' w' ρ S ho hT hS
          obtain ⟨hv21, hr21⟩ := (hT 21 71 rfl rfl : (Is (.bool false)) (f' 71) (ρ 21))
          obtain ⟨hv22, hr22⟩ := (hT 22 72 rfl rfl : (Is (.agg #[.bool b, .slice pc1 n cc1])) (f' 72) (ρ 22))
          obtain ⟨hv23, hr23⟩ := (hT 23 73 rfl rfl : (Is (.agg #[.bool b2, .slice q m d])) (f' 73) (ρ 23))
          change Sep w (_ ++ ([21, 22, 23, 0, 1, 2, 3, 4, 5, 6, 7, 8, 9, 10, 11, 12, 13, 14, 15, 16, 17, 18, 19, 20].flatMap ρ ++ S)) w' at hS
          simp only [List.flatMap_cons, List.flatMap_nil, List.nil_append, List.cons_append, List.append_nil, hr21, hr22, hr23] at hS
          refine .inl ⟨want_on (e := 71) rfl rfl rfl hv21, ocall rfl rfl Try.call27 rfl (args2 (ev (v := .agg #[.bool b, .slice pc1 n cc1]) rfl hv22) (ev (v := .agg #[.bool b2, .slice q m d]) rfl hv23)) (wzcmp ((show Zr _ _ _ _ _ x 1048576 from ⟨_, hS.sl 5 rfl, hex, hn⟩).mono (by omega)) ((hzy.at hS).mono (by omega)) hs14) ?_⟩
          rintro _ w9 ⟨_, _, rfl, hTT, hN⟩
          exact ⟨_, rfl, _, _, rfl, hTT, hN⟩
        refine stepsCons rfl ?_ ?_
        · intro Q f' w' ρ S ho hT hS
          obtain ⟨hv21, hr21⟩ := (hT 21 71 rfl rfl : (Is (.bool false)) (f' 71) (ρ 21))
          change Sep w (_ ++ ([21, 0, 1, 2, 3, 4, 5, 6, 7, 8, 9, 10, 11, 12, 13, 14, 15, 16, 17, 18, 19, 20].flatMap ρ ++ S)) w' at hS
          simp only [List.flatMap_cons, List.flatMap_nil, List.nil_append, List.cons_append, List.append_nil, hr21] at hS
          exact .inl ⟨want_on (e := 71) rfl rfl rfl hv21, oload (vs := [.bool b, .slice p n c]) aggZ hS 7 rfl rfl (ev (v := .pointer (some ⟨g1, 0, none⟩)) rfl (ho 3 rfl)) rfl rfl rfl ⟨_, _, rfl, isI, New.same _⟩⟩
        refine stepsCons rfl ?_ ?_
        · intro Q f' w' ρ S ho hT hS
          obtain ⟨hv21, hr21⟩ := (hT 21 71 rfl rfl : (Is (.bool false)) (f' 71) (ρ 21))
          change Sep w (_ ++ ([21, 0, 1, 2, 3, 4, 5, 6, 7, 8, 9, 10, 11, 12, 13, 14, 15, 16, 17, 18, 19, 20].flatMap ρ ++ S)) w' at hS
          simp only [List.flatMap_cons, List.flatMap_nil, List.nil_append, List.cons_append, List.append_nil, hr21] at hS
          exact .inl ⟨want_on (e := 71) rfl rfl rfl hv21, oload (vs := [.bool b2, .slice q m d]) aggZ hS 6 rfl rfl (ev (v := .pointer (some ⟨g3, 0, none⟩)) rfl (ho 4 rfl)) rfl rfl rfl ⟨_, _, rfl, isI, New.same _⟩⟩
        refine stepsCons rfl ?_ ?_
        · intro Q f' w' ρ S ho hT hS
          obtain ⟨hv21, hr21⟩ := (hT 21 71 rfl rfl : (Is (.bool false)) (f' 71) (ρ 21))
          obtain ⟨hv25, hr25⟩ := (hT 25 75 rfl rfl : (Is (.agg #[.bool b, .slice p n c])) (f' 75) (ρ 25))
          obtain ⟨hv26, hr26⟩ := (hT 26 76 rfl rfl : (Is (.agg #[.bool b2, .slice q m d])) (f' 76) (ρ 26))
          change Sep w (_ ++ ([21, 25, 26, 0, 1, 2, 3, 4, 5, 6, 7, 8, 9, 10, 11, 12, 13, 14, 15, 16, 17, 18, 19, 20, 22, 23, 24].flatMap ρ ++ S)) w' at hS
          simp only [List.flatMap_cons, List.flatMap_nil, List.nil_append, List.cons_append, List.append_nil, hr21, hr25, hr26] at hS
          refine .inl ⟨want_on (e := 71) rfl rfl rfl hv21, ocall rfl rfl Try.call21 rfl (args2 (ev (v := .agg #[.bool b, .slice p n c]) rfl hv25) (ev (v := .agg #[.bool b2, .slice q m d]) rfl hv26)) (wqcmp ((hzx.at hS).mono (by omega)) ((hzy.at hS).mono (by omega)) hs15) ?_⟩
          rintro _ w9 ⟨_, _, rfl, hTT, hN⟩
          exact ⟨_, rfl, _, _, rfl, hTT, hN⟩
        refine stepsCons rfl ?_ ?_
        · intro Q f' w' ρ S ho hT hS
          obtain ⟨hv21, hr21⟩ := (hT 21 71 rfl rfl : (Is (.bool false)) (f' 71) (ρ 21))
          obtain ⟨hv24, hr24⟩ := (hT 24 74 rfl rfl : (Is (.int .i64 s14)) (f' 74) (ρ 24))
          obtain ⟨hv27, hr27⟩ := (hT 27 77 rfl rfl : (Is (.int .i64 s15)) (f' 77) (ρ 27))
          change Sep w (_ ++ ([21, 24, 27, 0, 1, 2, 3, 4, 5, 6, 7, 8, 9, 10, 11, 12, 13, 14, 15, 16, 17, 18, 19, 20, 22, 23, 25, 26].flatMap ρ ++ S)) w' at hS
          simp only [List.flatMap_cons, List.flatMap_nil, List.nil_append, List.cons_append, List.append_nil, hr21, hr24, hr27] at hS
          exact .inl ⟨want_on (e := 71) rfl rfl rfl hv21, obin (u := .int .i64 s14) (v := .int .i64 s15) (z := .bool false) rfl rfl (ev (v := .int .i64 s14) rfl hv24) (ev (v := .int .i64 s15) rfl hv27) (bin_neq (neF ((hs14.out.symm).trans (hs15.out.symm).symm))) ⟨_, _, rfl, isI, New.same _⟩⟩
        refine stepsCons rfl ?_ ?_
        · intro Q f' w' ρ S ho hT hS
          obtain ⟨hv21, hr21⟩ := (hT 21 71 rfl rfl : (Is (.bool false)) (f' 71) (ρ 21))
          obtain ⟨hv28, hr28⟩ := (hT 28 78 rfl rfl : (Is (.bool false)) (f' 78) (ρ 28))
          change Sep w (_ ++ ([21, 28, 0, 1, 2, 3, 4, 5, 6, 7, 8, 9, 10, 11, 12, 13, 14, 15, 16, 17, 18, 19, 20, 22, 23, 24, 25, 26, 27].flatMap ρ ++ S)) w' at hS
          simp only [List.flatMap_cons, List.flatMap_nil, List.nil_append, List.cons_append, List.append_nil, hr21, hr28] at hS
          exact .inl ⟨want_none rfl, opick (b := false) (v := .bool false) rfl rfl (ev (v := .bool false) rfl hv21) (ev (v := .bool false) rfl hv28) ⟨_, _, rfl, isI, New.same _⟩⟩
        exact stepsNil
      ·
        intro vs ρ w12 f' hf hT hS
        obtain ⟨hv0, hr0⟩ := (hT 0 (by decide) : (Is (.agg #[.bool b, .slice pc1 n cc1])) (vs 0) (ρ 0))
        obtain ⟨p8, n8, c8, hv1, hr1⟩ := (hT 1 (by decide) : (Zt z8) (vs 1) (ρ 1))
        obtain ⟨hv2, hr2⟩ := (hT 2 (by decide) : (Is (.agg #[.bool b, .slice p n c])) (vs 2) (ρ 2))
        obtain ⟨p9, n9, c9, hv3, hr3⟩ := (hT 3 (by decide) : (Zt z9) (vs 3) (ρ 3))
        obtain ⟨hv4, hr4⟩ := (hT 4 (by decide) : (Is (.bool true)) (vs 4) (ρ 4))
        obtain ⟨hv5, hr5⟩ := (hT 5 (by decide) : (Is (.bool false)) (vs 5) (ρ 5))
        obtain ⟨hv6, hr6⟩ := (hT 6 (by decide) : (Is (.bool false)) (vs 6) (ρ 6))
        obtain ⟨hv7, hr7⟩ := (hT 7 (by decide) : (Is (.int .i64 nn)) (vs 7) (ρ 7))
        obtain ⟨p10, n10, c10, hv8, hr8⟩ := (hT 8 (by decide) : (Zt nn) (vs 8) (ρ 8))
        obtain ⟨hv9, hr9⟩ := (hT 9 (by decide) : (Is (.int .i64 nn)) (vs 9) (ρ 9))
        obtain ⟨p11, n11, c11, hv10, hr10⟩ := (hT 10 (by decide) : (Zt nn) (vs 10) (ρ 10))
        obtain ⟨hv11, hr11⟩ := (hT 11 (by decide) : (Is (.bool true)) (vs 11) (ρ 11))
        obtain ⟨hv12, hr12⟩ := (hT 12 (by decide) : (Is (.bool false)) (vs 12) (ρ 12))
        obtain ⟨hv13, hr13⟩ := (hT 13 (by decide) : (Is (.bool false)) (vs 13) (ρ 13))
        obtain ⟨hv14, hr14⟩ := (hT 14 (by decide) : (Is (.bool false)) (vs 14) (ρ 14))
        obtain ⟨hv15, hr15⟩ := (hT 15 (by decide) : (Is (.agg #[.bool b, .slice pc1 n cc1])) (vs 15) (ρ 15))
        obtain ⟨hv16, hr16⟩ := (hT 16 (by decide) : (Is (.int .i64 s12)) (vs 16) (ρ 16))
        obtain ⟨hv17, hr17⟩ := (hT 17 (by decide) : (Is (.agg #[.bool b, .slice p n c])) (vs 17) (ρ 17))
        obtain ⟨hv18, hr18⟩ := (hT 18 (by decide) : (Is (.int .i64 s13)) (vs 18) (ρ 18))
        obtain ⟨hv19, hr19⟩ := (hT 19 (by decide) : (Is (.bool false)) (vs 19) (ρ 19))
        obtain ⟨hv20, hr20⟩ := (hT 20 (by decide) : (Is (.bool false)) (vs 20) (ρ 20))
        obtain ⟨hv21, hr21⟩ := (hT 21 (by decide) : (Is (.bool false)) (vs 21) (ρ 21))
        obtain ⟨hv22, hr22⟩ := (hT 22 (by decide) : (Is (.agg #[.bool b, .slice pc1 n cc1])) (vs 22) (ρ 22))
        obtain ⟨hv23, hr23⟩ := (hT 23 (by decide) : (Is (.agg #[.bool b2, .slice q m d])) (vs 23) (ρ 23))
        obtain ⟨hv24, hr24⟩ := (hT 24 (by decide) : (Is (.int .i64 s14)) (vs 24) (ρ 24))
        obtain ⟨hv25, hr25⟩ := (hT 25 (by decide) : (Is (.agg #[.bool b, .slice p n c])) (vs 25) (ρ 25))
        obtain ⟨hv26, hr26⟩ := (hT 26 (by decide) : (Is (.agg #[.bool b2, .slice q m d])) (vs 26) (ρ 26))
        obtain ⟨hv27, hr27⟩ := (hT 27 (by decide) : (Is (.int .i64 s15)) (vs 27) (ρ 27))
        obtain ⟨hv28, hr28⟩ := (hT 28 (by decide) : (Is (.bool false)) (vs 28) (ρ 28))
        obtain ⟨hv29, hr29⟩ := (hT 29 (by decide) : (Is (.bool false)) (vs 29) (ρ 29))
        simp only [pool, if_true, hr0, hr1, hr2, hr3, hr4, hr5, hr6, hr7, hr8, hr9, hr10, hr11, hr12, hr13, hr14, hr15, hr16, hr17, hr18, hr19, hr20, hr21, hr22, hr23, hr24, hr25, hr26, hr27, hr28, hr29, List.nil_append, List.cons_append, List.append_nil] at hS
        replace hS : Sep w [.row p11 n11 c11 (lim nn.natAbs), .row p10 n10 c10 (lim nn.natAbs), .row p9 n9 c9 (lim z9.natAbs), .row p8 n8 c8 (lim z8.natAbs), .row p7 n7 c7 (lim z7.natAbs), .row p6 n6 c6 (lim x.natAbs), .row p4 n4 c4 (lim (9223372036854775807 : Int).natAbs), .row p2 n2 c2 (lim (-9223372036854775808 : Int).natAbs), .blk g6 [.bool b, .slice pc1 n cc1] 25, .row pc1 n cc1 xs, .blk g3 [.bool b2, .slice q m d] 25, .blk g1 [.bool b, .slice p n c] 25] w12 := hS
        simp only [layf, hv0, hv1, hv2, hv3, hv4, hv5, hv6, hv7, hv8, hv9, hv10, hv11, hv12, hv13, hv14, hv15, hv16, hv17, hv18, hv19, hv20, hv21, hv22, hv23, hv24, hv25, hv26, hv27, hv28, hv29] at hf
        subst hf; clear hT hv0 hv1 hv2 hv3 hv4 hv5 hv6 hv7 hv8 hv9 hv10 hv11 hv12 hv13 hv14 hv15 hv16 hv17 hv18 hv19 hv20 hv21 hv22 hv23 hv24 hv25 hv26 hv27 hv28 hv29 hr0 hr1 hr2 hr3 hr4 hr5 hr6 hr7 hr8 hr9 hr10 hr11 hr12 hr13 hr14 hr15 hr16 hr17 hr18 hr19 hr20 hr21 hr22 hr23 hr24 hr25 hr26 hr27 hr28 hr29
        refine wdone rfl ?_
        refine thenN ?_
        refine wF (ev (v := .bool false) rfl rfl) ?_
        refine wskip ?_
        refine thenN ?_
        refine wseq ?_
        obtain ⟨z16, hz16⟩ : ∃ z : Int, Hid (-x = z) := ⟨_, rfl⟩
        have hk16 : Wd z16 1048576 := Wd.neg hzx.wd hz16
        obtain ⟨z17, hz17⟩ : ∃ z : Int, Hid (-x = z) := ⟨_, rfl⟩
        have hk17 : Wd z17 1048576 := Wd.neg hzx.wd hz17
        obtain ⟨z18, hz18⟩ : ∃ z : Int, Hid ((Int.natAbs x : Int) = z) := ⟨_, rfl⟩
        have hk18 : Wd z18 1048576 := Wd.nabs hzx.wd hz18
        obtain ⟨z19, hz19⟩ : ∃ z : Int, Hid ((Int.natAbs x : Int) = z) := ⟨_, rfl⟩
        have hk19 : Wd z19 1048576 := Wd.nabs hzx.wd hz19
        refine wstage 21 [80, 81, 82, 83, 84, 85, 86, 87, 88, 89, 90, 91, 92, 93, 94, 95, 96, 97, 98, 99, 6] [[], [0], [], [2, 0, 1], [1, 3, 0, 2], [4, 0, 1, 2, 3], [5, 0, 1, 2, 3, 4], [5, 6, 0, 1, 2, 3, 4], [5, 0, 1, 2, 3, 4], [5, 8, 0, 1, 2, 3, 4, 6, 7], [5, 7, 9, 0, 1, 2, 3, 4, 6, 8], [5, 10, 0, 1, 2, 3, 4, 6, 7, 8, 9], [11, 0, 1, 2, 3, 4, 5, 6, 7, 8, 9, 10], [12, 0, 1, 2, 3, 4, 5, 6, 7, 8, 9, 10, 11], [12, 0, 1, 2, 3, 4, 5, 6, 7, 8, 9, 10, 11], [12, 13, 14, 0, 1, 2, 3, 4, 5, 6, 7, 8, 9, 10, 11], [12, 15, 0, 1, 2, 3, 4, 5, 6, 7, 8, 9, 10, 11, 13, 14], [16, 0, 1, 2, 3, 4, 5, 6, 7, 8, 9, 10, 11, 12, 13, 14, 15], [17, 0, 1, 2, 3, 4, 5, 6, 7, 8, 9, 10, 11, 12, 13, 14, 15, 16], [17, 18, 0, 1, 2, 3, 4, 5, 6, 7, 8, 9, 10, 11, 12, 13, 14, 15, 16], [19, 0, 1, 2, 3, 4, 5, 6, 7, 8, 9, 10, 11, 12, 13, 14, 15, 16, 17, 18]] [[], [], [], [], [], [], [], [], [], [], [], [], [], [], [], [], [], [], [], [], []] [] (fun i => ([fun _ => Is (.agg #[.bool b, .slice pc1 n cc1]), fun _ => Zt z16, fun _ => Is (.agg #[.bool b, .slice p n c]), fun _ => Zt z17, fun _ => Is (.bool true), fun _ => Is (.bool true), fun _ => Is (.agg #[.bool b, .slice pc1 n cc1]), fun _ => Zt z18, fun _ => Is (.agg #[.bool b, .slice p n c]), fun _ => Zt z19, fun _ => Is (.bool true), fun _ => Is (.bool true), fun _ => Is (.bool true), fun _ => Is (.agg #[.bool b, .slice pc1 n cc1]), fun _ => Is (.agg #[.bool b, .slice p n c]), fun _ => Is (.bool true), fun _ => Is (.bool true), fun _ => Is (.bool true), fun _ => Is (.bool true), fun _ => Is (.bool true), fun _ => Is (.bool true)] : List (List Value → Tell)).getD i (fun _ _ _ => False)) (fun d _ _ _ _ h => (by cases d <;> exact h)) (by kernel_rfl) (by kernel_rfl) (by kernel_rfl) hS ?_ ?_
        ·
          refine stepsCons rfl ?_ ?_
          · intro Q f' w' ρ S ho hT hS
            change Sep w (_ ++ ([].flatMap ρ ++ S)) w' at hS
            simp only [List.flatMap_cons, List.flatMap_nil, List.nil_append, List.cons_append, List.append_nil] at hS
            exact .inl ⟨want_none rfl, oload (vs := [.bool b, .slice pc1 n cc1]) aggZ hS 8 rfl rfl (ev (v := .pointer (some ⟨g6, 0, none⟩)) rfl (ho 7 rfl)) rfl rfl rfl ⟨_, _, rfl, isI, New.same _⟩⟩
          refine stepsCons rfl ?_ ?_
          · intro Q f' w' ρ S ho hT hS
            obtain ⟨hv0, hr0⟩ := (hT 0 80 rfl rfl : (Is (.agg #[.bool b, .slice pc1 n cc1])) (f' 80) (ρ 0))
            change Sep w (_ ++ ([0].flatMap ρ ++ S)) w' at hS
            simp only [List.flatMap_cons, List.flatMap_nil, List.nil_append, List.cons_append, List.append_nil, hr0] at hS
            refine .inl ⟨want_none rfl, ocall rfl rfl Try.call28 rfl (args1 (ev (v := .agg #[.bool b, .slice pc1 n cc1]) rfl hv0)) (wzneg ((show Zr _ _ _ _ _ x 1048576 from ⟨_, hS.sl 9 rfl, hex, hn⟩).mono (by omega)) hz16) ?_⟩
            rintro _ w9 ⟨_, _, rfl, hTT, hN⟩
            exact ⟨_, rfl, _, _, rfl, hTT, hN⟩
          refine stepsCons rfl ?_ ?_
          · intro Q f' w' ρ S ho hT hS
            change Sep w (_ ++ ([].flatMap ρ ++ S)) w' at hS
            simp only [List.flatMap_cons, List.flatMap_nil, List.nil_append, List.cons_append, List.append_nil] at hS
            exact .inl ⟨want_none rfl, oload (vs := [.bool b, .slice p n c]) aggZ hS 11 rfl rfl (ev (v := .pointer (some ⟨g1, 0, none⟩)) rfl (ho 3 rfl)) rfl rfl rfl ⟨_, _, rfl, isI, New.same _⟩⟩
          refine stepsCons rfl ?_ ?_
          · intro Q f' w' ρ S ho hT hS
            obtain ⟨hv2, hr2⟩ := (hT 2 82 rfl rfl : (Is (.agg #[.bool b, .slice p n c])) (f' 82) (ρ 2))
            change Sep w (_ ++ ([2, 0, 1].flatMap ρ ++ S)) w' at hS
            simp only [List.flatMap_cons, List.flatMap_nil, List.nil_append, List.cons_append, List.append_nil, hr2] at hS
            refine .inl ⟨want_none rfl, ocall rfl rfl Try.call29 rfl (args1 (ev (v := .agg #[.bool b, .slice p n c]) rfl hv2)) (wqneg ((hzx.at hS).mono (by omega)) hz17) ?_⟩
            rintro _ w9 ⟨_, _, rfl, hTT, hN⟩
            exact ⟨_, rfl, _, _, rfl, hTT, hN⟩
          refine stepsCons rfl ?_ ?_
          · intro Q f' w' ρ S ho hT hS
            obtain ⟨p16, n16, c16, hv1, hr1⟩ := (hT 1 81 rfl rfl : (Zt z16) (f' 81) (ρ 1))
            obtain ⟨p17, n17, c17, hv3, hr3⟩ := (hT 3 83 rfl rfl : (Zt z17) (f' 83) (ρ 3))
            change Sep w (_ ++ ([1, 3, 0, 2].flatMap ρ ++ S)) w' at hS
            simp only [List.flatMap_cons, List.flatMap_nil, List.nil_append, List.cons_append, List.append_nil, hr1, hr3] at hS
            refine .inl ⟨want_none rfl, ocall rfl rfl Try.call13 rfl (args2 (ev (v := .agg #[.bool (ng z16), .slice p16 n16 c16]) rfl hv1) (ev (v := .agg #[.bool (ng z17), .slice p17 n17 c17]) rfl hv3)) (wlsame (x := z16) (y := z17) (hS.sl 12 rfl) (hS.sl 13 rfl) ((hz16.out.symm).trans (hz17.out.symm).symm)) ?_⟩
            rintro _ w9 ⟨_, _, rfl, hTT, hN⟩
            exact ⟨_, rfl, _, _, rfl, hTT, hN⟩
          refine stepsCons rfl ?_ ?_
          · intro Q f' w' ρ S ho hT hS
            obtain ⟨hv4, hr4⟩ := (hT 4 84 rfl rfl : (Is (.bool true)) (f' 84) (ρ 4))
            change Sep w (_ ++ ([4, 0, 1, 2, 3].flatMap ρ ++ S)) w' at hS
            simp only [List.flatMap_cons, List.flatMap_nil, List.nil_append, List.cons_append, List.append_nil, hr4] at hS
            exact .inl ⟨want_none rfl, omove (v := .bool true) rfl rfl (ev (v := .bool true) rfl hv4) ⟨_, _, rfl, isI, New.same _⟩⟩
          refine stepsCons rfl ?_ ?_
          · intro Q f' w' ρ S ho hT hS
            obtain ⟨hv5, hr5⟩ := (hT 5 85 rfl rfl : (Is (.bool true)) (f' 85) (ρ 5))
            change Sep w (_ ++ ([5, 0, 1, 2, 3, 4].flatMap ρ ++ S)) w' at hS
            simp only [List.flatMap_cons, List.flatMap_nil, List.nil_append, List.cons_append, List.append_nil, hr5] at hS
            exact .inl ⟨want_on (e := 85) rfl rfl rfl hv5, oload (vs := [.bool b, .slice pc1 n cc1]) aggZ hS 8 rfl rfl (ev (v := .pointer (some ⟨g6, 0, none⟩)) rfl (ho 7 rfl)) rfl rfl rfl ⟨_, _, rfl, isI, New.same _⟩⟩
          refine stepsCons rfl ?_ ?_
          · intro Q f' w' ρ S ho hT hS
            obtain ⟨hv5, hr5⟩ := (hT 5 85 rfl rfl : (Is (.bool true)) (f' 85) (ρ 5))
            obtain ⟨hv6, hr6⟩ := (hT 6 86 rfl rfl : (Is (.agg #[.bool b, .slice pc1 n cc1])) (f' 86) (ρ 6))
            change Sep w (_ ++ ([5, 6, 0, 1, 2, 3, 4].flatMap ρ ++ S)) w' at hS
            simp only [List.flatMap_cons, List.flatMap_nil, List.nil_append, List.cons_append, List.append_nil, hr5, hr6] at hS
            refine .inl ⟨want_on (e := 85) rfl rfl rfl hv5, ocall rfl rfl Try.call30 rfl (args1 (ev (v := .agg #[.bool b, .slice pc1 n cc1]) rfl hv6)) (wzabs ((show Zr _ _ _ _ _ x 1048576 from ⟨_, hS.sl 9 rfl, hex, hn⟩).mono (by omega)) hz18) ?_⟩
            rintro _ w9 ⟨_, _, rfl, hTT, hN⟩
            exact ⟨_, rfl, _, _, rfl, hTT, hN⟩
          refine stepsCons rfl ?_ ?_
          · intro Q f' w' ρ S ho hT hS
            obtain ⟨hv5, hr5⟩ := (hT 5 85 rfl rfl : (Is (.bool true)) (f' 85) (ρ 5))
            change Sep w (_ ++ ([5, 0, 1, 2, 3, 4].flatMap ρ ++ S)) w' at hS
            simp only [List.flatMap_cons, List.flatMap_nil, List.nil_append, List.cons_append, List.append_nil, hr5] at hS
            exact .inl ⟨want_on (e := 85) rfl rfl rfl hv5, oload (vs := [.bool b, .slice p n c]) aggZ hS 11 rfl rfl (ev (v := .pointer (some ⟨g1, 0, none⟩)) rfl (ho 3 rfl)) rfl rfl rfl ⟨_, _, rfl, isI, New.same _⟩⟩
          refine stepsCons rfl ?_ ?_
          · intro Q f' w' ρ S ho hT hS
            obtain ⟨hv5, hr5⟩ := (hT 5 85 rfl rfl : (Is (.bool true)) (f' 85) (ρ 5))
            obtain ⟨hv8, hr8⟩ := (hT 8 88 rfl rfl : (Is (.agg #[.bool b, .slice p n c])) (f' 88) (ρ 8))
            change Sep w (_ ++ ([5, 8, 0, 1, 2, 3, 4, 6, 7].flatMap ρ ++ S)) w' at hS
            simp only [List.flatMap_cons, List.flatMap_nil, List.nil_append, List.cons_append, List.append_nil, hr5, hr8] at hS
            refine .inl ⟨want_on (e := 85) rfl rfl rfl hv5, ocall rfl rfl Try.call31 rfl (args1 (ev (v := .agg #[.bool b, .slice p n c]) rfl hv8)) (wqabs ((hzx.at hS).mono (by omega)) hz19) ?_⟩
            rintro _ w9 ⟨_, _, rfl, hTT, hN⟩
            exact ⟨_, rfl, _, _, rfl, hTT, hN⟩
          refine stepsCons rfl ?_ ?_
          · intro Q f' w' ρ S ho hT hS
            obtain ⟨hv5, hr5⟩ := (hT 5 85 rfl rfl : (Is (.bool true)) (f' 85) (ρ 5))
            obtain ⟨p18, n18, c18, hv7, hr7⟩ := (hT 7 87 rfl rfl : (Zt z18) (f' 87) (ρ 7))
            obtain ⟨p19, n19, c19, hv9, hr9⟩ := (hT 9 89 rfl rfl : (Zt z19) (f' 89) (ρ 9))
            change Sep w (_ ++ ([5, 7, 9, 0, 1, 2, 3, 4, 6, 8].flatMap ρ ++ S)) w' at hS
            simp only [List.flatMap_cons, List.flatMap_nil, List.nil_append, List.cons_append, List.append_nil, hr5, hr7, hr9] at hS
            refine .inl ⟨want_on (e := 85) rfl rfl rfl hv5, ocall rfl rfl Try.call13 rfl (args2 (ev (v := .agg #[.bool (ng z18), .slice p18 n18 c18]) rfl hv7) (ev (v := .agg #[.bool (ng z19), .slice p19 n19 c19]) rfl hv9)) (wlsame (x := z18) (y := z19) (hS.sl 12 rfl) (hS.sl 13 rfl) ((hz18.out.symm).trans (hz19.out.symm).symm)) ?_⟩
            rintro _ w9 ⟨_, _, rfl, hTT, hN⟩
            exact ⟨_, rfl, _, _, rfl, hTT, hN⟩
          refine stepsCons rfl ?_ ?_
          · intro Q f' w' ρ S ho hT hS
            obtain ⟨hv5, hr5⟩ := (hT 5 85 rfl rfl : (Is (.bool true)) (f' 85) (ρ 5))
            obtain ⟨hv10, hr10⟩ := (hT 10 90 rfl rfl : (Is (.bool true)) (f' 90) (ρ 10))
            change Sep w (_ ++ ([5, 10, 0, 1, 2, 3, 4, 6, 7, 8, 9].flatMap ρ ++ S)) w' at hS
            simp only [List.flatMap_cons, List.flatMap_nil, List.nil_append, List.cons_append, List.append_nil, hr5, hr10] at hS
            exact .inl ⟨want_none rfl, opick (b := true) (v := .bool true) rfl rfl (ev (v := .bool true) rfl hv5) (ev (v := .bool true) rfl hv10) ⟨_, _, rfl, isI, New.same _⟩⟩
          refine stepsCons rfl ?_ ?_
          · intro Q f' w' ρ S ho hT hS
            obtain ⟨hv11, hr11⟩ := (hT 11 91 rfl rfl : (Is (.bool true)) (f' 91) (ρ 11))
            change Sep w (_ ++ ([11, 0, 1, 2, 3, 4, 5, 6, 7, 8, 9, 10].flatMap ρ ++ S)) w' at hS
            simp only [List.flatMap_cons, List.flatMap_nil, List.nil_append, List.cons_append, List.append_nil, hr11] at hS
            exact .inl ⟨want_none rfl, omove (v := .bool true) rfl rfl (ev (v := .bool true) rfl hv11) ⟨_, _, rfl, isI, New.same _⟩⟩
          refine stepsCons rfl ?_ ?_
          · intro Q f' w' ρ S ho hT hS
            obtain ⟨hv12, hr12⟩ := (hT 12 92 rfl rfl : (Is (.bool true)) (f' 92) (ρ 12))
            change Sep w (_ ++ ([12, 0, 1, 2, 3, 4, 5, 6, 7, 8, 9, 10, 11].flatMap ρ ++ S)) w' at hS
            simp only [List.flatMap_cons, List.flatMap_nil, List.nil_append, List.cons_append, List.append_nil, hr12] at hS
            exact .inl ⟨want_on (e := 92) rfl rfl rfl hv12, oload (vs := [.bool b, .slice pc1 n cc1]) aggZ hS 8 rfl rfl (ev (v := .pointer (some ⟨g6, 0, none⟩)) rfl (ho 7 rfl)) rfl rfl rfl ⟨_, _, rfl, isI, New.same _⟩⟩
          refine stepsCons rfl ?_ ?_
          · intro Q f' w' ρ S ho hT hS
            obtain ⟨hv12, hr12⟩ := (hT 12 92 rfl rfl : (Is (.bool true)) (f' 92) (ρ 12))
            change Sep w (_ ++ ([12, 0, 1, 2, 3, 4, 5, 6, 7, 8, 9, 10, 11].flatMap ρ ++ S)) w' at hS
            simp only [List.flatMap_cons, List.flatMap_nil, List.nil_append, List.cons_append, List.append_nil, hr12] at hS
            exact .inl ⟨want_on (e := 92) rfl rfl rfl hv12, oload (vs := [.bool b, .slice p n c]) aggZ hS 11 rfl rfl (ev (v := .pointer (some ⟨g1, 0, none⟩)) rfl (ho 3 rfl)) rfl rfl rfl ⟨_, _, rfl, isI, New.same _⟩⟩
          refine stepsCons rfl ?_ ?_
          · intro Q f' w' ρ S ho hT hS
            obtain ⟨hv12, hr12⟩ := (hT 12 92 rfl rfl : (Is (.bool true)) (f' 92) (ρ 12))
            obtain ⟨hv13, hr13⟩ := (hT 13 93 rfl rfl : (Is (.agg #[.bool b, .slice pc1 n cc1])) (f' 93) (ρ 13))
            obtain ⟨hv14, hr14⟩ := (hT 14 94 rfl rfl : (Is (.agg #[.bool b, .slice p n c])) (f' 94) (ρ 14))
            change Sep w (_ ++ ([12, 13, 14, 0, 1, 2, 3, 4, 5, 6, 7, 8, 9, 10, 11].flatMap ρ ++ S)) w' at hS
            simp only [List.flatMap_cons, List.flatMap_nil, List.nil_append, List.cons_append, List.append_nil, hr12, hr13, hr14] at hS
            refine .inl ⟨want_on (e := 92) rfl rfl rfl hv12, ocall rfl rfl Try.call13 rfl (args2 (ev (v := .agg #[.bool b, .slice pc1 n cc1]) rfl hv13) (ev (v := .agg #[.bool b, .slice p n c]) rfl hv14)) (wlsameX (hS.sl 9 rfl) (hx.below hS.below (Nat.le_refl _))) ?_⟩
            rintro _ w9 ⟨_, _, rfl, hTT, hN⟩
            exact ⟨_, rfl, _, _, rfl, hTT, hN⟩
          refine stepsCons rfl ?_ ?_
          · intro Q f' w' ρ S ho hT hS
            obtain ⟨hv12, hr12⟩ := (hT 12 92 rfl rfl : (Is (.bool true)) (f' 92) (ρ 12))
            obtain ⟨hv15, hr15⟩ := (hT 15 95 rfl rfl : (Is (.bool true)) (f' 95) (ρ 15))
            change Sep w (_ ++ ([12, 15, 0, 1, 2, 3, 4, 5, 6, 7, 8, 9, 10, 11, 13, 14].flatMap ρ ++ S)) w' at hS
            simp only [List.flatMap_cons, List.flatMap_nil, List.nil_append, List.cons_append, List.append_nil, hr12, hr15] at hS
            exact .inl ⟨want_none rfl, opick (b := true) (v := .bool true) rfl rfl (ev (v := .bool true) rfl hv12) (ev (v := .bool true) rfl hv15) ⟨_, _, rfl, isI, New.same _⟩⟩
          refine stepsCons rfl ?_ ?_
          · intro Q f' w' ρ S ho hT hS
            obtain ⟨hv16, hr16⟩ := (hT 16 96 rfl rfl : (Is (.bool true)) (f' 96) (ρ 16))
            change Sep w (_ ++ ([16, 0, 1, 2, 3, 4, 5, 6, 7, 8, 9, 10, 11, 12, 13, 14, 15].flatMap ρ ++ S)) w' at hS
            simp only [List.flatMap_cons, List.flatMap_nil, List.nil_append, List.cons_append, List.append_nil, hr16] at hS
            exact .inl ⟨want_none rfl, omove (v := .bool true) rfl rfl (ev (v := .bool true) rfl hv16) ⟨_, _, rfl, isI, New.same _⟩⟩
          refine stepsCons rfl ?_ ?_
          · intro Q f' w' ρ S ho hT hS
            obtain ⟨hv17, hr17⟩ := (hT 17 97 rfl rfl : (Is (.bool true)) (f' 97) (ρ 17))
            change Sep w (_ ++ ([17, 0, 1, 2, 3, 4, 5, 6, 7, 8, 9, 10, 11, 12, 13, 14, 15, 16].flatMap ρ ++ S)) w' at hS
            simp only [List.flatMap_cons, List.flatMap_nil, List.nil_append, List.cons_append, List.append_nil, hr17] at hS
            refine .inl ⟨want_on (e := 97) rfl rfl rfl hv17, ocall rfl rfl Try.call19 rfl (args0 ) (wllives) ?_⟩
            rintro _ w9 ⟨_, _, rfl, hTT, hN⟩
            exact ⟨_, rfl, _, _, rfl, hTT, hN⟩
          refine stepsCons rfl ?_ ?_
          · intro Q f' w' ρ S ho hT hS
            obtain ⟨hv17, hr17⟩ := (hT 17 97 rfl rfl : (Is (.bool true)) (f' 97) (ρ 17))
            obtain ⟨hv18, hr18⟩ := (hT 18 98 rfl rfl : (Is (.bool true)) (f' 98) (ρ 18))
            change Sep w (_ ++ ([17, 18, 0, 1, 2, 3, 4, 5, 6, 7, 8, 9, 10, 11, 12, 13, 14, 15, 16].flatMap ρ ++ S)) w' at hS
            simp only [List.flatMap_cons, List.flatMap_nil, List.nil_append, List.cons_append, List.append_nil, hr17, hr18] at hS
            exact .inl ⟨want_none rfl, opick (b := true) (v := .bool true) rfl rfl (ev (v := .bool true) rfl hv17) (ev (v := .bool true) rfl hv18) ⟨_, _, rfl, isI, New.same _⟩⟩
          refine stepsCons rfl ?_ ?_
          · intro Q f' w' ρ S ho hT hS
            obtain ⟨hv19, hr19⟩ := (hT 19 99 rfl rfl : (Is (.bool true)) (f' 99) (ρ 19))
            change Sep w (_ ++ ([19, 0, 1, 2, 3, 4, 5, 6, 7, 8, 9, 10, 11, 12, 13, 14, 15, 16, 17, 18].flatMap ρ ++ S)) w' at hS
            simp only [List.flatMap_cons, List.flatMap_nil, List.nil_append, List.cons_append, List.append_nil, hr19] at hS
            exact .inl ⟨want_none rfl, oassign (v := .bool true) rfl rfl (ev (v := .bool true) rfl hv19) ⟨_, _, rfl, isI, New.same _⟩⟩
          exact stepsNil
        ·
          intro vs ρ w13 f' hf hT hS
          obtain ⟨hv0, hr0⟩ := (hT 0 (by decide) : (Is (.agg #[.bool b, .slice pc1 n cc1])) (vs 0) (ρ 0))
          obtain ⟨p16, n16, c16, hv1, hr1⟩ := (hT 1 (by decide) : (Zt z16) (vs 1) (ρ 1))
          obtain ⟨hv2, hr2⟩ := (hT 2 (by decide) : (Is (.agg #[.bool b, .slice p n c])) (vs 2) (ρ 2))
          obtain ⟨p17, n17, c17, hv3, hr3⟩ := (hT 3 (by decide) : (Zt z17) (vs 3) (ρ 3))
          obtain ⟨hv4, hr4⟩ := (hT 4 (by decide) : (Is (.bool true)) (vs 4) (ρ 4))
          obtain ⟨hv5, hr5⟩ := (hT 5 (by decide) : (Is (.bool true)) (vs 5) (ρ 5))
          obtain ⟨hv6, hr6⟩ := (hT 6 (by decide) : (Is (.agg #[.bool b, .slice pc1 n cc1])) (vs 6) (ρ 6))
          obtain ⟨p18, n18, c18, hv7, hr7⟩ := (hT 7 (by decide) : (Zt z18) (vs 7) (ρ 7))
          obtain ⟨hv8, hr8⟩ := (hT 8 (by decide) : (Is (.agg #[.bool b, .slice p n c])) (vs 8) (ρ 8))
          obtain ⟨p19, n19, c19, hv9, hr9⟩ := (hT 9 (by decide) : (Zt z19) (vs 9) (ρ 9))
          obtain ⟨hv10, hr10⟩ := (hT 10 (by decide) : (Is (.bool true)) (vs 10) (ρ 10))
          obtain ⟨hv11, hr11⟩ := (hT 11 (by decide) : (Is (.bool true)) (vs 11) (ρ 11))
          obtain ⟨hv12, hr12⟩ := (hT 12 (by decide) : (Is (.bool true)) (vs 12) (ρ 12))
          obtain ⟨hv13, hr13⟩ := (hT 13 (by decide) : (Is (.agg #[.bool b, .slice pc1 n cc1])) (vs 13) (ρ 13))
          obtain ⟨hv14, hr14⟩ := (hT 14 (by decide) : (Is (.agg #[.bool b, .slice p n c])) (vs 14) (ρ 14))
          obtain ⟨hv15, hr15⟩ := (hT 15 (by decide) : (Is (.bool true)) (vs 15) (ρ 15))
          obtain ⟨hv16, hr16⟩ := (hT 16 (by decide) : (Is (.bool true)) (vs 16) (ρ 16))
          obtain ⟨hv17, hr17⟩ := (hT 17 (by decide) : (Is (.bool true)) (vs 17) (ρ 17))
          obtain ⟨hv18, hr18⟩ := (hT 18 (by decide) : (Is (.bool true)) (vs 18) (ρ 18))
          obtain ⟨hv19, hr19⟩ := (hT 19 (by decide) : (Is (.bool true)) (vs 19) (ρ 19))
          obtain ⟨hv20, hr20⟩ := (hT 20 (by decide) : (Is (.bool true)) (vs 20) (ρ 20))
          simp only [pool, if_true, hr0, hr1, hr2, hr3, hr4, hr5, hr6, hr7, hr8, hr9, hr10, hr11, hr12, hr13, hr14, hr15, hr16, hr17, hr18, hr19, hr20, List.nil_append, List.cons_append, List.append_nil] at hS
          replace hS : Sep w [.row p19 n19 c19 (lim z19.natAbs), .row p18 n18 c18 (lim z18.natAbs), .row p17 n17 c17 (lim z17.natAbs), .row p16 n16 c16 (lim z16.natAbs), .row p11 n11 c11 (lim nn.natAbs), .row p10 n10 c10 (lim nn.natAbs), .row p9 n9 c9 (lim z9.natAbs), .row p8 n8 c8 (lim z8.natAbs), .row p7 n7 c7 (lim z7.natAbs), .row p6 n6 c6 (lim x.natAbs), .row p4 n4 c4 (lim (9223372036854775807 : Int).natAbs), .row p2 n2 c2 (lim (-9223372036854775808 : Int).natAbs), .blk g6 [.bool b, .slice pc1 n cc1] 25, .row pc1 n cc1 xs, .blk g3 [.bool b2, .slice q m d] 25, .blk g1 [.bool b, .slice p n c] 25] w13 := hS
          simp only [layf, hv0, hv1, hv2, hv3, hv4, hv5, hv6, hv7, hv8, hv9, hv10, hv11, hv12, hv13, hv14, hv15, hv16, hv17, hv18, hv19, hv20] at hf
          subst hf; clear hT hv0 hv1 hv2 hv3 hv4 hv5 hv6 hv7 hv8 hv9 hv10 hv11 hv12 hv13 hv14 hv15 hv16 hv17 hv18 hv19 hv20 hr0 hr1 hr2 hr3 hr4 hr5 hr6 hr7 hr8 hr9 hr10 hr11 hr12 hr13 hr14 hr15 hr16 hr17 hr18 hr19 hr20
          refine wdone rfl ?_
          refine thenN ?_
          refine wleave ?_
          refine wret1 Try.results4 (tellT (v := .bool true) rfl rfl) ?_
          exact ⟨_, _, rfl, isI, hS.new0⟩

set_option maxRecDepth 100000 in
set_option maxHeartbeats 16000000 in
theorem zforms_lo {b b2 : Bool} {p q : Option Addr} {n m c d : Nat} {xs ys : List Nat} {w : World} (hx : Sl w p n c xs) (hy : Sl w q m d ys) (hn : n ≤ 1048576) (hm : m ≤ 1048576) {nn : Int} (hn1 : -9223372036854775808 ≤ nn) (hn2 : nn ≤ 9223372036854775807) (hlo : zv b (val xs) < -9223372036854775808) :
    Calls Try.prog 4 #[.agg #[.bool b, .slice p n c], .agg #[.bool b2, .slice q m d], .int .i64 nn] w (Ret (Is (.bool true)) w) := by
  obtain ⟨x, hex⟩ : ∃ x : Int, zv b (val xs) = x := ⟨_, rfl⟩
  obtain ⟨y, hey⟩ : ∃ y : Int, zv b2 (val ys) = y := ⟨_, rfl⟩
  have hzx : Zr w b p n c x 1048576 := ⟨xs, hx, hex, hn⟩
  have hzy : Zr w b2 q m d y 1048576 := ⟨ys, hy, hey, hm⟩
  have hS := Sep.init w
  refine went Try.func4 rfl (n := 100) rfl rfl ?_
  refine wseq ?_
  refine wreg ?_
  refine wl rfl (obox [.bool b, .slice p n c] hS rfl rfl (ev (v := .agg #[.bool b, .slice p n c]) rfl rfl) rfl ?_)
  clear hS; intro g1 w2 hS
  refine wl rfl (obox [.bool b2, .slice q m d] hS rfl rfl (ev (v := .agg #[.bool b2, .slice q m d]) rfl rfl) rfl ?_)
  clear hS; intro g3 w4 hS
  refine wl rfl (oassign (v := .bool false) rfl rfl (evc (v := .bool false)) ?_)
  refine wnil ?_
  refine thenN ?_
  refine wseq ?_
  refine wreg ?_
  refine wl rfl (oload (vs := [.bool b, .slice p n c]) aggZ hS 1 rfl rfl (ev (v := .pointer (some ⟨g1, 0, none⟩)) rfl rfl) rfl rfl rfl ?_)
  refine wl rfl (ocall rfl rfl Try.call10 rfl (args1 (ev (v := .agg #[.bool b, .slice p n c]) rfl rfl)) (wqcopy (hx.below hS.below (Nat.le_refl _)) (by omega)) ?_)
  rintro _ w5 ⟨_, _, rfl, ⟨pc1, cc1, rfl, rfl⟩, hN⟩
  refine ⟨_, rfl, ?_⟩
  replace hS : Sep w [.row pc1 n cc1 xs, .blk g3 [.bool b2, .slice q m d] 25, .blk g1 [.bool b, .slice p n c] 25] w5 := hS.news hN; clear hN
  refine wl rfl (oalloc [.bool false, .slice none 0 0] hS rfl rfl Try.zeroValue25 rfl ?_)
  clear hS; intro g6 w7 hS
  refine wl rfl (ostore [.bool b, .slice pc1 n cc1] [.bool b, .slice pc1 n cc1] Try.sizeOf25 hS 0 rfl rfl (ev (v := .pointer (some ⟨g6, 0, none⟩)) rfl rfl) (ev (v := .agg #[.bool b, .slice pc1 n cc1]) rfl rfl) rfl rfl rfl rfl rfl rfl ?_)
  intro w8 hY; clear hS; have hS : Sep w [.blk g6 [.bool b, .slice pc1 n cc1] 25, .row pc1 n cc1 xs, .blk g3 [.bool b2, .slice q m d] 25, .blk g1 [.bool b, .slice p n c] 25] w8 := hY; clear hY
  refine wnil ?_
  refine thenN ?_
  refine wseq ?_
  refine wreg ?_
  refine wl rfl (oload (vs := [.bool b, .slice pc1 n cc1]) aggZ hS 0 rfl rfl (ev (v := .pointer (some ⟨g6, 0, none⟩)) rfl rfl) rfl rfl rfl ?_)
  rw [hex] at hlo
  refine wl rfl (ocall rfl rfl Try.call20 rfl (args1 (ev (v := .agg #[.bool b, .slice pc1 n cc1]) rfl rfl)) (wint64N ((show Zr _ _ _ _ _ x 1048576 from ⟨_, hS.sl 1 rfl, hex, hn⟩).mono (by omega)) (Or.inl hlo)) ?_)
  rintro _ w9 ⟨_, _, rfl, ⟨rfl, rfl⟩, hN⟩
  refine ⟨_, rfl, ?_⟩
  replace hS : Sep w [.blk g6 [.bool b, .slice pc1 n cc1] 25, .row pc1 n cc1 xs, .blk g3 [.bool b2, .slice q m d] 25, .blk g1 [.bool b, .slice p n c] 25] w9 := hS.news hN; clear hN
  refine wl rfl (omove (v := .tuple #[.int .i64 0, .bool false]) rfl rfl (ev (v := .tuple #[.int .i64 0, .bool false]) rfl rfl) ?_)
  refine wl rfl (oextract (vs := [.int .i64 0, .bool false]) (v := .int .i64 0) rfl rfl (ev (v := .tuple #[.int .i64 0, .bool false]) rfl rfl) rfl ?_)
  refine wl rfl (oextract (vs := [.int .i64 0, .bool false]) (v := .bool false) rfl rfl (ev (v := .tuple #[.int .i64 0, .bool false]) rfl rfl) rfl ?_)
  refine wl rfl (oassign (v := .int .i64 0) rfl rfl (ev (v := .int .i64 0) rfl rfl) ?_)
  refine wl rfl (oassign (v := .bool false) rfl rfl (ev (v := .bool false) rfl rfl) ?_)
  refine wnil ?_
  refine thenN ?_
  refine wseq ?_
  have hk2 : Wd (-9223372036854775808) 2 := Wd.i64 (by omega) (by omega)
  obtain ⟨s3, hs3⟩ : ∃ z : Int, Hid (cmpZ x (-9223372036854775808) = z) := ⟨_, rfl⟩
  refine wstage 11 [18, 19, 20, 21, 22, 23, 24, 25, 26, 27, 10] [[], [], [0, 1], [2, 0, 1], [3, 0, 1, 2], [4, 0, 1, 2, 3], [4, 0, 1, 2, 3], [4, 5, 6, 0, 1, 2, 3], [4, 7, 0, 1, 2, 3, 5, 6], [4, 8, 0, 1, 2, 3, 5, 6, 7], [9, 0, 1, 2, 3, 4, 5, 6, 7, 8]] [[], [], [], [], [], [], [], [], [], [], []] [] (fun i => ([fun _ => Is (.agg #[.bool b, .slice p n c]), fun _ => Zt (-9223372036854775808), fun _ => Is (.int .i64 s3), fun _ => Is (.bool false), fun _ => Is (.bool false), fun _ => Is undef, fun _ => Is undef, fun _ => Is undef, fun _ => Is undef, fun _ => Is (.bool false), fun _ => Is (.bool false)] : List (List Value → Tell)).getD i (fun _ _ _ => False)) (fun d _ _ _ _ h => (by cases d <;> exact h)) (by kernel_rfl) (by kernel_rfl) (by kernel_rfl) hS ?_ ?_
  ·
    refine stepsCons rfl ?_ ?_
    · intro Q f' w' ρ S ho hT hS
      change Sep w (_ ++ ([].flatMap ρ ++ S)) w' at hS
      simp only [List.flatMap_cons, List.flatMap_nil, List.nil_append, List.cons_append, List.append_nil] at hS
      exact .inl ⟨want_none rfl, oload (vs := [.bool b, .slice p n c]) aggZ hS 3 rfl rfl (ev (v := .pointer (some ⟨g1, 0, none⟩)) rfl (ho 3 rfl)) rfl rfl rfl ⟨_, _, rfl, isI, New.same _⟩⟩
    refine stepsCons rfl ?_ ?_
    · intro Q f' w' ρ S ho hT hS
      change Sep w (_ ++ ([].flatMap ρ ++ S)) w' at hS
      simp only [List.flatMap_cons, List.flatMap_nil, List.nil_append, List.cons_append, List.append_nil] at hS
      refine .inl ⟨want_none rfl, ocall rfl rfl Try.call18 rfl (args1 (evc (v := .int .i64 (-9223372036854775808)))) (wlof (z := -9223372036854775808) (by omega) (by omega)) ?_⟩
      rintro _ w9 ⟨_, _, rfl, hTT, hN⟩
      exact ⟨_, rfl, _, _, rfl, hTT, hN⟩
    refine stepsCons rfl ?_ ?_
    · intro Q f' w' ρ S ho hT hS
      obtain ⟨hv0, hr0⟩ := (hT 0 18 rfl rfl : (Is (.agg #[.bool b, .slice p n c])) (f' 18) (ρ 0))
      obtain ⟨p2, n2, c2, hv1, hr1⟩ := (hT 1 19 rfl rfl : (Zt (-9223372036854775808)) (f' 19) (ρ 1))
      change Sep w (_ ++ ([0, 1].flatMap ρ ++ S)) w' at hS
      simp only [List.flatMap_cons, List.flatMap_nil, List.nil_append, List.cons_append, List.append_nil, hr0, hr1] at hS
      refine .inl ⟨want_none rfl, ocall rfl rfl Try.call21 rfl (args2 (ev (v := .agg #[.bool b, .slice p n c]) rfl hv0) (ev (v := .agg #[.bool (ng (-9223372036854775808)), .slice p2 n2 c2]) rfl hv1)) (wqcmp ((hzx.at hS).mono (by omega)) (((hS.sl 4 rfl).zr hk2).mono (by omega)) hs3) ?_⟩
      rintro _ w9 ⟨_, _, rfl, hTT, hN⟩
      exact ⟨_, rfl, _, _, rfl, hTT, hN⟩
    refine stepsCons rfl ?_ ?_
    · intro Q f' w' ρ S ho hT hS
      obtain ⟨hv2, hr2⟩ := (hT 2 20 rfl rfl : (Is (.int .i64 s3)) (f' 20) (ρ 2))
      change Sep w (_ ++ ([2, 0, 1].flatMap ρ ++ S)) w' at hS
      simp only [List.flatMap_cons, List.flatMap_nil, List.nil_append, List.cons_append, List.append_nil, hr2] at hS
      exact .inl ⟨want_none rfl, obin (u := .int .i64 s3) (v := .int .i64 0) (z := .bool false) rfl rfl (ev (v := .int .i64 s3) rfl hv2) (evc (v := .int .i64 0)) (bin_geq (leF (cmp_lt hs3 hlo))) ⟨_, _, rfl, isI, New.same _⟩⟩
    refine stepsCons rfl ?_ ?_
    · intro Q f' w' ρ S ho hT hS
      obtain ⟨hv3, hr3⟩ := (hT 3 21 rfl rfl : (Is (.bool false)) (f' 21) (ρ 3))
      change Sep w (_ ++ ([3, 0, 1, 2].flatMap ρ ++ S)) w' at hS
      simp only [List.flatMap_cons, List.flatMap_nil, List.nil_append, List.cons_append, List.append_nil, hr3] at hS
      exact .inl ⟨want_none rfl, omove (v := .bool false) rfl rfl (ev (v := .bool false) rfl hv3) ⟨_, _, rfl, isI, New.same _⟩⟩
    refine stepsCons rfl ?_ ?_
    · intro Q f' w' ρ S ho hT hS
      obtain ⟨hv4, hr4⟩ := (hT 4 22 rfl rfl : (Is (.bool false)) (f' 22) (ρ 4))
      change Sep w (_ ++ ([4, 0, 1, 2, 3].flatMap ρ ++ S)) w' at hS
      simp only [List.flatMap_cons, List.flatMap_nil, List.nil_append, List.cons_append, List.append_nil, hr4] at hS
      exact .inr ⟨want_off (e := 22) (b' := false) rfl rfl rfl hv4 rfl, isI⟩
    refine stepsCons rfl ?_ ?_
    · intro Q f' w' ρ S ho hT hS
      obtain ⟨hv4, hr4⟩ := (hT 4 22 rfl rfl : (Is (.bool false)) (f' 22) (ρ 4))
      change Sep w (_ ++ ([4, 0, 1, 2, 3].flatMap ρ ++ S)) w' at hS
      simp only [List.flatMap_cons, List.flatMap_nil, List.nil_append, List.cons_append, List.append_nil, hr4] at hS
      exact .inr ⟨want_off (e := 22) (b' := false) rfl rfl rfl hv4 rfl, isI⟩
    refine stepsCons rfl ?_ ?_
    · intro Q f' w' ρ S ho hT hS
      obtain ⟨hv4, hr4⟩ := (hT 4 22 rfl rfl : (Is (.bool false)) (f' 22) (ρ 4))
      obtain ⟨hv5, hr5⟩ := (hT 5 23 rfl rfl : (Is undef) (f' 23) (ρ 5))
      obtain ⟨hv6, hr6⟩ := (hT 6 24 rfl rfl : (Is undef) (f' 24) (ρ 6))
      change Sep w (_ ++ ([4, 5, 6, 0, 1, 2, 3].flatMap ρ ++ S)) w' at hS
      simp only [List.flatMap_cons, List.flatMap_nil, List.nil_append, List.cons_append, List.append_nil, hr4, hr5, hr6] at hS
      exact .inr ⟨want_off (e := 22) (b' := false) rfl rfl rfl hv4 rfl, isI⟩
    refine stepsCons rfl ?_ ?_
    · intro Q f' w' ρ S ho hT hS
      obtain ⟨hv4, hr4⟩ := (hT 4 22 rfl rfl : (Is (.bool false)) (f' 22) (ρ 4))
      obtain ⟨hv7, hr7⟩ := (hT 7 25 rfl rfl : (Is undef) (f' 25) (ρ 7))
      change Sep w (_ ++ ([4, 7, 0, 1, 2, 3, 5, 6].flatMap ρ ++ S)) w' at hS
      simp only [List.flatMap_cons, List.flatMap_nil, List.nil_append, List.cons_append, List.append_nil, hr4, hr7] at hS
      exact .inr ⟨want_off (e := 22) (b' := false) rfl rfl rfl hv4 rfl, isI⟩
    refine stepsCons rfl ?_ ?_
    · intro Q f' w' ρ S ho hT hS
      obtain ⟨hv4, hr4⟩ := (hT 4 22 rfl rfl : (Is (.bool false)) (f' 22) (ρ 4))
      obtain ⟨hv8, hr8⟩ := (hT 8 26 rfl rfl : (Is undef) (f' 26) (ρ 8))
      change Sep w (_ ++ ([4, 8, 0, 1, 2, 3, 5, 6, 7].flatMap ρ ++ S)) w' at hS
      simp only [List.flatMap_cons, List.flatMap_nil, List.nil_append, List.cons_append, List.append_nil, hr4, hr8] at hS
      exact .inl ⟨want_none rfl, opick (b := false) (v := .bool false) rfl rfl (ev (v := .bool false) rfl hv4) (evc (v := .bool false)) ⟨_, _, rfl, isI, New.same _⟩⟩
    refine stepsCons rfl ?_ ?_
    · intro Q f' w' ρ S ho hT hS
      obtain ⟨hv9, hr9⟩ := (hT 9 27 rfl rfl : (Is (.bool false)) (f' 27) (ρ 9))
      change Sep w (_ ++ ([9, 0, 1, 2, 3, 4, 5, 6, 7, 8].flatMap ρ ++ S)) w' at hS
      simp only [List.flatMap_cons, List.flatMap_nil, List.nil_append, List.cons_append, List.append_nil, hr9] at hS
      exact .inl ⟨want_none rfl, oassign (v := .bool false) rfl rfl (ev (v := .bool false) rfl hv9) ⟨_, _, rfl, isI, New.same _⟩⟩
    exact stepsNil
  ·
    intro vs ρ w10 f' hf hT hS
    obtain ⟨hv0, hr0⟩ := (hT 0 (by decide) : (Is (.agg #[.bool b, .slice p n c])) (vs 0) (ρ 0))
    obtain ⟨p2, n2, c2, hv1, hr1⟩ := (hT 1 (by decide) : (Zt (-9223372036854775808)) (vs 1) (ρ 1))
    obtain ⟨hv2, hr2⟩ := (hT 2 (by decide) : (Is (.int .i64 s3)) (vs 2) (ρ 2))
    obtain ⟨hv3, hr3⟩ := (hT 3 (by decide) : (Is (.bool false)) (vs 3) (ρ 3))
    obtain ⟨hv4, hr4⟩ := (hT 4 (by decide) : (Is (.bool false)) (vs 4) (ρ 4))
    obtain ⟨hv5, hr5⟩ := (hT 5 (by decide) : (Is undef) (vs 5) (ρ 5))
    obtain ⟨hv6, hr6⟩ := (hT 6 (by decide) : (Is undef) (vs 6) (ρ 6))
    obtain ⟨hv7, hr7⟩ := (hT 7 (by decide) : (Is undef) (vs 7) (ρ 7))
    obtain ⟨hv8, hr8⟩ := (hT 8 (by decide) : (Is undef) (vs 8) (ρ 8))
    obtain ⟨hv9, hr9⟩ := (hT 9 (by decide) : (Is (.bool false)) (vs 9) (ρ 9))
    obtain ⟨hv10, hr10⟩ := (hT 10 (by decide) : (Is (.bool false)) (vs 10) (ρ 10))
    simp only [pool, if_true, hr0, hr1, hr2, hr3, hr4, hr5, hr6, hr7, hr8, hr9, hr10, List.nil_append, List.cons_append, List.append_nil] at hS
    replace hS : Sep w [.row p2 n2 c2 (lim (-9223372036854775808 : Int).natAbs), .blk g6 [.bool b, .slice pc1 n cc1] 25, .row pc1 n cc1 xs, .blk g3 [.bool b2, .slice q m d] 25, .blk g1 [.bool b, .slice p n c] 25] w10 := hS
    simp only [layf, hv0, hv1, hv2, hv3, hv4, hv5, hv6, hv7, hv8, hv9, hv10] at hf
    subst hf; clear hT hv0 hv1 hv2 hv3 hv4 hv5 hv6 hv7 hv8 hv9 hv10 hr0 hr1 hr2 hr3 hr4 hr5 hr6 hr7 hr8 hr9 hr10
    refine wdone rfl ?_
    refine thenN ?_
    refine wseq ?_
    refine wseq ?_
    refine wstage 22 [28, 29, 30, 31, 32, 33, 34, 35, 36, 37, 38, 39, 40, 41, 42, 43, 44, 45, 46, 47, 48, 49] [[], [], [0, 1], [2, 0, 1], [3, 0, 1, 2], [3, 4, 0, 1, 2], [5, 0, 1, 2, 3, 4], [5, 6, 0, 1, 2, 3, 4], [5, 0, 1, 2, 3, 4], [5, 8, 0, 1, 2, 3, 4, 6, 7], [5, 7, 9, 0, 1, 2, 3, 4, 6, 8], [5, 10, 0, 1, 2, 3, 4, 6, 7, 8, 9], [3, 5, 11, 0, 1, 2, 4, 6, 7, 8, 9, 10], [3, 12, 0, 1, 2, 4, 5, 6, 7, 8, 9, 10, 11], [13, 0, 1, 2, 3, 4, 5, 6, 7, 8, 9, 10, 11, 12], [14, 0, 1, 2, 3, 4, 5, 6, 7, 8, 9, 10, 11, 12, 13], [14, 15, 0, 1, 2, 3, 4, 5, 6, 7, 8, 9, 10, 11, 12, 13], [14, 16, 0, 1, 2, 3, 4, 5, 6, 7, 8, 9, 10, 11, 12, 13, 15], [17, 0, 1, 2, 3, 4, 5, 6, 7, 8, 9, 10, 11, 12, 13, 14, 15, 16], [17, 18, 0, 1, 2, 3, 4, 5, 6, 7, 8, 9, 10, 11, 12, 13, 14, 15, 16], [14, 17, 19, 0, 1, 2, 3, 4, 5, 6, 7, 8, 9, 10, 11, 12, 13, 15, 16, 18], [14, 20, 0, 1, 2, 3, 4, 5, 6, 7, 8, 9, 10, 11, 12, 13, 15, 16, 17, 18, 19]] [[], [], [], [], [], [], [], [], [], [], [], [], [], [], [], [], [], [], [], [], [], []] [] (fun i => ([fun _ => Is (.bool false), fun _ => Is (.bool false), fun _ => Is (.bool false), fun _ => Is (.bool false), fun _ => Is (.bool false), fun _ => Is (.bool false), fun _ => Is undef, fun _ => Is undef, fun _ => Is undef, fun _ => Is undef, fun _ => Is undef, fun _ => Is undef, fun _ => Is (.bool false), fun _ => Is (.bool false), fun _ => Is (.bool false), fun _ => Is (.bool false), fun _ => Is (.bool true), fun _ => Is (.bool true), fun _ => Is (.int .i64 0), fun _ => Is (.bool false), fun _ => Is (.bool false), fun _ => Is (.bool false)] : List (List Value → Tell)).getD i (fun _ _ _ => False)) (fun d _ _ _ _ h => (by cases d <;> exact h)) (by kernel_rfl) (by kernel_rfl) (by kernel_rfl) hS ?_ ?_
    ·
      refine stepsCons rfl ?_ ?_
      · intro Q f' w' ρ S ho hT hS
        change Sep w (_ ++ ([].flatMap ρ ++ S)) w' at hS
        simp only [List.flatMap_cons, List.flatMap_nil, List.nil_append, List.cons_append, List.append_nil] at hS
        exact .inl ⟨want_none rfl, omove (v := .bool false) rfl rfl (ev (v := .bool false) rfl (ho 9 rfl)) ⟨_, _, rfl, isI, New.same _⟩⟩
      refine stepsCons rfl ?_ ?_
      · intro Q f' w' ρ S ho hT hS
        change Sep w (_ ++ ([].flatMap ρ ++ S)) w' at hS
        simp only [List.flatMap_cons, List.flatMap_nil, List.nil_append, List.cons_append, List.append_nil] at hS
        exact .inl ⟨want_none rfl, omove (v := .bool false) rfl rfl (ev (v := .bool false) rfl (ho 10 rfl)) ⟨_, _, rfl, isI, New.same _⟩⟩
      refine stepsCons rfl ?_ ?_
      · intro Q f' w' ρ S ho hT hS
        obtain ⟨hv0, hr0⟩ := (hT 0 28 rfl rfl : (Is (.bool false)) (f' 28) (ρ 0))
        obtain ⟨hv1, hr1⟩ := (hT 1 29 rfl rfl : (Is (.bool false)) (f' 29) (ρ 1))
        change Sep w (_ ++ ([0, 1].flatMap ρ ++ S)) w' at hS
        simp only [List.flatMap_cons, List.flatMap_nil, List.nil_append, List.cons_append, List.append_nil, hr0, hr1] at hS
        exact .inl ⟨want_none rfl, obin (u := .bool false) (v := .bool false) (z := .bool false) rfl rfl (ev (v := .bool false) rfl hv0) (ev (v := .bool false) rfl hv1) (bin_neqB Try.underlying4 (rfl)) ⟨_, _, rfl, isI, New.same _⟩⟩
      refine stepsCons rfl ?_ ?_
      · intro Q f' w' ρ S ho hT hS
        obtain ⟨hv2, hr2⟩ := (hT 2 30 rfl rfl : (Is (.bool false)) (f' 30) (ρ 2))
        change Sep w (_ ++ ([2, 0, 1].flatMap ρ ++ S)) w' at hS
        simp only [List.flatMap_cons, List.flatMap_nil, List.nil_append, List.cons_append, List.append_nil, hr2] at hS
        exact .inl ⟨want_none rfl, omove (v := .bool false) rfl rfl (ev (v := .bool false) rfl hv2) ⟨_, _, rfl, isI, New.same _⟩⟩
      refine stepsCons rfl ?_ ?_
      · intro Q f' w' ρ S ho hT hS
        obtain ⟨hv3, hr3⟩ := (hT 3 31 rfl rfl : (Is (.bool false)) (f' 31) (ρ 3))
        change Sep w (_ ++ ([3, 0, 1, 2].flatMap ρ ++ S)) w' at hS
        simp only [List.flatMap_cons, List.flatMap_nil, List.nil_append, List.cons_append, List.append_nil, hr3] at hS
        exact .inl ⟨want_on (e := 31) rfl rfl rfl hv3, omove (v := .bool false) rfl rfl (ev (v := .bool false) rfl (ho 9 rfl)) ⟨_, _, rfl, isI, New.same _⟩⟩
      refine stepsCons rfl ?_ ?_
      · intro Q f' w' ρ S ho hT hS
        obtain ⟨hv3, hr3⟩ := (hT 3 31 rfl rfl : (Is (.bool false)) (f' 31) (ρ 3))
        obtain ⟨hv4, hr4⟩ := (hT 4 32 rfl rfl : (Is (.bool false)) (f' 32) (ρ 4))
        change Sep w (_ ++ ([3, 4, 0, 1, 2].flatMap ρ ++ S)) w' at hS
        simp only [List.flatMap_cons, List.flatMap_nil, List.nil_append, List.cons_append, List.append_nil, hr3, hr4] at hS
        exact .inl ⟨want_on (e := 31) rfl rfl rfl hv3, omove (v := .bool false) rfl rfl (ev (v := .bool false) rfl hv4) ⟨_, _, rfl, isI, New.same _⟩⟩
      refine stepsCons rfl ?_ ?_
      · intro Q f' w' ρ S ho hT hS
        obtain ⟨hv5, hr5⟩ := (hT 5 33 rfl rfl : (Is (.bool false)) (f' 33) (ρ 5))
        change Sep w (_ ++ ([5, 0, 1, 2, 3, 4].flatMap ρ ++ S)) w' at hS
        simp only [List.flatMap_cons, List.flatMap_nil, List.nil_append, List.cons_append, List.append_nil, hr5] at hS
        exact .inr ⟨want_off (e := 33) (b' := false) rfl rfl rfl hv5 rfl, isI⟩
      refine stepsCons rfl ?_ ?_
      · intro Q f' w' ρ S ho hT hS
        obtain ⟨hv5, hr5⟩ := (hT 5 33 rfl rfl : (Is (.bool false)) (f' 33) (ρ 5))
        obtain ⟨hv6, hr6⟩ := (hT 6 34 rfl rfl : (Is undef) (f' 34) (ρ 6))
        change Sep w (_ ++ ([5, 6, 0, 1, 2, 3, 4].flatMap ρ ++ S)) w' at hS
        simp only [List.flatMap_cons, List.flatMap_nil, List.nil_append, List.cons_append, List.append_nil, hr5, hr6] at hS
        exact .inr ⟨want_off (e := 33) (b' := false) rfl rfl rfl hv5 rfl, isI⟩
      refine stepsCons rfl ?_ ?_
      · intro Q f' w' ρ S ho hT hS
        obtain ⟨hv5, hr5⟩ := (hT 5 33 rfl rfl : (Is (.bool false)) (f' 33) (ρ 5))
        change Sep w (_ ++ ([5, 0, 1, 2, 3, 4].flatMap ρ ++ S)) w' at hS
        simp only [List.flatMap_cons, List.flatMap_nil, List.nil_append, List.cons_append, List.append_nil, hr5] at hS
        exact .inr ⟨want_off (e := 33) (b' := false) rfl rfl rfl hv5 rfl, isI⟩
      refine stepsCons rfl ?_ ?_
      · intro Q f' w' ρ S ho hT hS
        obtain ⟨hv5, hr5⟩ := (hT 5 33 rfl rfl : (Is (.bool false)) (f' 33) (ρ 5))
        obtain ⟨hv8, hr8⟩ := (hT 8 36 rfl rfl : (Is undef) (f' 36) (ρ 8))
        change Sep w (_ ++ ([5, 8, 0, 1, 2, 3, 4, 6, 7].flatMap ρ ++ S)) w' at hS
        simp only [List.flatMap_cons, List.flatMap_nil, List.nil_append, List.cons_append, List.append_nil, hr5, hr8] at hS
        exact .inr ⟨want_off (e := 33) (b' := false) rfl rfl rfl hv5 rfl, isI⟩
      refine stepsCons rfl ?_ ?_
      · intro Q f' w' ρ S ho hT hS
        obtain ⟨hv5, hr5⟩ := (hT 5 33 rfl rfl : (Is (.bool false)) (f' 33) (ρ 5))
        obtain ⟨hv7, hr7⟩ := (hT 7 35 rfl rfl : (Is undef) (f' 35) (ρ 7))
        obtain ⟨hv9, hr9⟩ := (hT 9 37 rfl rfl : (Is undef) (f' 37) (ρ 9))
        change Sep w (_ ++ ([5, 7, 9, 0, 1, 2, 3, 4, 6, 8].flatMap ρ ++ S)) w' at hS
        simp only [List.flatMap_cons, List.flatMap_nil, List.nil_append, List.cons_append, List.append_nil, hr5, hr7, hr9] at hS
        exact .inr ⟨want_off (e := 33) (b' := false) rfl rfl rfl hv5 rfl, isI⟩
      refine stepsCons rfl ?_ ?_
      · intro Q f' w' ρ S ho hT hS
        obtain ⟨hv5, hr5⟩ := (hT 5 33 rfl rfl : (Is (.bool false)) (f' 33) (ρ 5))
        obtain ⟨hv10, hr10⟩ := (hT 10 38 rfl rfl : (Is undef) (f' 38) (ρ 10))
        change Sep w (_ ++ ([5, 10, 0, 1, 2, 3, 4, 6, 7, 8, 9].flatMap ρ ++ S)) w' at hS
        simp only [List.flatMap_cons, List.flatMap_nil, List.nil_append, List.cons_append, List.append_nil, hr5, hr10] at hS
        exact .inr ⟨want_off (e := 33) (b' := false) rfl rfl rfl hv5 rfl, isI⟩
      refine stepsCons rfl ?_ ?_
      · intro Q f' w' ρ S ho hT hS
        obtain ⟨hv3, hr3⟩ := (hT 3 31 rfl rfl : (Is (.bool false)) (f' 31) (ρ 3))
        obtain ⟨hv5, hr5⟩ := (hT 5 33 rfl rfl : (Is (.bool false)) (f' 33) (ρ 5))
        obtain ⟨hv11, hr11⟩ := (hT 11 39 rfl rfl : (Is undef) (f' 39) (ρ 11))
        change Sep w (_ ++ ([3, 5, 11, 0, 1, 2, 4, 6, 7, 8, 9, 10].flatMap ρ ++ S)) w' at hS
        simp only [List.flatMap_cons, List.flatMap_nil, List.nil_append, List.cons_append, List.append_nil, hr3, hr5, hr11] at hS
        exact .inl ⟨want_on (e := 31) rfl rfl rfl hv3, opick (b := false) (v := .bool false) rfl rfl (ev (v := .bool false) rfl hv5) (evc (v := .bool false)) ⟨_, _, rfl, isI, New.same _⟩⟩
      refine stepsCons rfl ?_ ?_
      · intro Q f' w' ρ S ho hT hS
        obtain ⟨hv3, hr3⟩ := (hT 3 31 rfl rfl : (Is (.bool false)) (f' 31) (ρ 3))
        obtain ⟨hv12, hr12⟩ := (hT 12 40 rfl rfl : (Is (.bool false)) (f' 40) (ρ 12))
        change Sep w (_ ++ ([3, 12, 0, 1, 2, 4, 5, 6, 7, 8, 9, 10, 11].flatMap ρ ++ S)) w' at hS
        simp only [List.flatMap_cons, List.flatMap_nil, List.nil_append, List.cons_append, List.append_nil, hr3, hr12] at hS
        exact .inl ⟨want_none rfl, opick (b := false) (v := .bool false) rfl rfl (ev (v := .bool false) rfl hv3) (ev (v := .bool false) rfl hv12) ⟨_, _, rfl, isI, New.same _⟩⟩
      refine stepsCons rfl ?_ ?_
      · intro Q f' w' ρ S ho hT hS
        obtain ⟨hv13, hr13⟩ := (hT 13 41 rfl rfl : (Is (.bool false)) (f' 41) (ρ 13))
        change Sep w (_ ++ ([13, 0, 1, 2, 3, 4, 5, 6, 7, 8, 9, 10, 11, 12].flatMap ρ ++ S)) w' at hS
        simp only [List.flatMap_cons, List.flatMap_nil, List.nil_append, List.cons_append, List.append_nil, hr13] at hS
        exact .inl ⟨want_none rfl, omove (v := .bool false) rfl rfl (ev (v := .bool false) rfl hv13) ⟨_, _, rfl, isI, New.same _⟩⟩
      refine stepsCons rfl ?_ ?_
      · intro Q f' w' ρ S ho hT hS
        obtain ⟨hv14, hr14⟩ := (hT 14 42 rfl rfl : (Is (.bool false)) (f' 42) (ρ 14))
        change Sep w (_ ++ ([14, 0, 1, 2, 3, 4, 5, 6, 7, 8, 9, 10, 11, 12, 13].flatMap ρ ++ S)) w' at hS
        simp only [List.flatMap_cons, List.flatMap_nil, List.nil_append, List.cons_append, List.append_nil, hr14] at hS
        exact .inl ⟨want_on (e := 42) rfl rfl rfl hv14, omove (v := .bool false) rfl rfl (ev (v := .bool false) rfl (ho 9 rfl)) ⟨_, _, rfl, isI, New.same _⟩⟩
      refine stepsCons rfl ?_ ?_
      · intro Q f' w' ρ S ho hT hS
        obtain ⟨hv14, hr14⟩ := (hT 14 42 rfl rfl : (Is (.bool false)) (f' 42) (ρ 14))
        obtain ⟨hv15, hr15⟩ := (hT 15 43 rfl rfl : (Is (.bool false)) (f' 43) (ρ 15))
        change Sep w (_ ++ ([14, 15, 0, 1, 2, 3, 4, 5, 6, 7, 8, 9, 10, 11, 12, 13].flatMap ρ ++ S)) w' at hS
        simp only [List.flatMap_cons, List.flatMap_nil, List.nil_append, List.cons_append, List.append_nil, hr14, hr15] at hS
        exact .inl ⟨want_on (e := 42) rfl rfl rfl hv14, onot (b := false) rfl rfl (ev (v := .bool false) rfl hv15) ⟨_, _, rfl, isI, New.same _⟩⟩
      refine stepsCons rfl ?_ ?_
      · intro Q f' w' ρ S ho hT hS
        obtain ⟨hv14, hr14⟩ := (hT 14 42 rfl rfl : (Is (.bool false)) (f' 42) (ρ 14))
        obtain ⟨hv16, hr16⟩ := (hT 16 44 rfl rfl : (Is (.bool true)) (f' 44) (ρ 16))
        change Sep w (_ ++ ([14, 16, 0, 1, 2, 3, 4, 5, 6, 7, 8, 9, 10, 11, 12, 13, 15].flatMap ρ ++ S)) w' at hS
        simp only [List.flatMap_cons, List.flatMap_nil, List.nil_append, List.cons_append, List.append_nil, hr14, hr16] at hS
        exact .inl ⟨want_on (e := 42) rfl rfl rfl hv14, omove (v := .bool true) rfl rfl (ev (v := .bool true) rfl hv16) ⟨_, _, rfl, isI, New.same _⟩⟩
      refine stepsCons rfl ?_ ?_
      · intro Q f' w' ρ S ho hT hS
        obtain ⟨hv17, hr17⟩ := (hT 17 45 rfl rfl : (Is (.bool true)) (f' 45) (ρ 17))
        change Sep w (_ ++ ([17, 0, 1, 2, 3, 4, 5, 6, 7, 8, 9, 10, 11, 12, 13, 14, 15, 16].flatMap ρ ++ S)) w' at hS
        simp only [List.flatMap_cons, List.flatMap_nil, List.nil_append, List.cons_append, List.append_nil, hr17] at hS
        exact .inl ⟨want_on (e := 45) rfl rfl rfl hv17, omove (v := .int .i64 0) rfl rfl (ev (v := .int .i64 0) rfl (ho 8 rfl)) ⟨_, _, rfl, isI, New.same _⟩⟩
      refine stepsCons rfl ?_ ?_
      · intro Q f' w' ρ S ho hT hS
        obtain ⟨hv17, hr17⟩ := (hT 17 45 rfl rfl : (Is (.bool true)) (f' 45) (ρ 17))
        obtain ⟨hv18, hr18⟩ := (hT 18 46 rfl rfl : (Is (.int .i64 0)) (f' 46) (ρ 18))
        change Sep w (_ ++ ([17, 18, 0, 1, 2, 3, 4, 5, 6, 7, 8, 9, 10, 11, 12, 13, 14, 15, 16].flatMap ρ ++ S)) w' at hS
        simp only [List.flatMap_cons, List.flatMap_nil, List.nil_append, List.cons_append, List.append_nil, hr17, hr18] at hS
        exact .inl ⟨want_on (e := 45) rfl rfl rfl hv17, obin (u := .int .i64 0) (v := .int .i64 0) (z := .bool false) rfl rfl (ev (v := .int .i64 0) rfl hv18) (evc (v := .int .i64 0)) (bin_neq (by decide)) ⟨_, _, rfl, isI, New.same _⟩⟩
      refine stepsCons rfl ?_ ?_
      · intro Q f' w' ρ S ho hT hS
        obtain ⟨hv14, hr14⟩ := (hT 14 42 rfl rfl : (Is (.bool false)) (f' 42) (ρ 14))
        obtain ⟨hv17, hr17⟩ := (hT 17 45 rfl rfl : (Is (.bool true)) (f' 45) (ρ 17))
        obtain ⟨hv19, hr19⟩ := (hT 19 47 rfl rfl : (Is (.bool false)) (f' 47) (ρ 19))
        change Sep w (_ ++ ([14, 17, 19, 0, 1, 2, 3, 4, 5, 6, 7, 8, 9, 10, 11, 12, 13, 15, 16, 18].flatMap ρ ++ S)) w' at hS
        simp only [List.flatMap_cons, List.flatMap_nil, List.nil_append, List.cons_append, List.append_nil, hr14, hr17, hr19] at hS
        exact .inl ⟨want_on (e := 42) rfl rfl rfl hv14, opick (b := true) (v := .bool false) rfl rfl (ev (v := .bool true) rfl hv17) (ev (v := .bool false) rfl hv19) ⟨_, _, rfl, isI, New.same _⟩⟩
      refine stepsCons rfl ?_ ?_
      · intro Q f' w' ρ S ho hT hS
        obtain ⟨hv14, hr14⟩ := (hT 14 42 rfl rfl : (Is (.bool false)) (f' 42) (ρ 14))
        obtain ⟨hv20, hr20⟩ := (hT 20 48 rfl rfl : (Is (.bool false)) (f' 48) (ρ 20))
        change Sep w (_ ++ ([14, 20, 0, 1, 2, 3, 4, 5, 6, 7, 8, 9, 10, 11, 12, 13, 15, 16, 17, 18, 19].flatMap ρ ++ S)) w' at hS
        simp only [List.flatMap_cons, List.flatMap_nil, List.nil_append, List.cons_append, List.append_nil, hr14, hr20] at hS
        exact .inl ⟨want_none rfl, opick (b := false) (v := .bool false) rfl rfl (ev (v := .bool false) rfl hv14) (ev (v := .bool false) rfl hv20) ⟨_, _, rfl, isI, New.same _⟩⟩
      exact stepsNil
    ·
      intro vs ρ w11 f' hf hT hS
      obtain ⟨hv0, hr0⟩ := (hT 0 (by decide) : (Is (.bool false)) (vs 0) (ρ 0))
      obtain ⟨hv1, hr1⟩ := (hT 1 (by decide) : (Is (.bool false)) (vs 1) (ρ 1))
      obtain ⟨hv2, hr2⟩ := (hT 2 (by decide) : (Is (.bool false)) (vs 2) (ρ 2))
      obtain ⟨hv3, hr3⟩ := (hT 3 (by decide) : (Is (.bool false)) (vs 3) (ρ 3))
      obtain ⟨hv4, hr4⟩ := (hT 4 (by decide) : (Is (.bool false)) (vs 4) (ρ 4))
      obtain ⟨hv5, hr5⟩ := (hT 5 (by decide) : (Is (.bool false)) (vs 5) (ρ 5))
      obtain ⟨hv6, hr6⟩ := (hT 6 (by decide) : (Is undef) (vs 6) (ρ 6))
      obtain ⟨hv7, hr7⟩ := (hT 7 (by decide) : (Is undef) (vs 7) (ρ 7))
      obtain ⟨hv8, hr8⟩ := (hT 8 (by decide) : (Is undef) (vs 8) (ρ 8))
      obtain ⟨hv9, hr9⟩ := (hT 9 (by decide) : (Is undef) (vs 9) (ρ 9))
      obtain ⟨hv10, hr10⟩ := (hT 10 (by decide) : (Is undef) (vs 10) (ρ 10))
      obtain ⟨hv11, hr11⟩ := (hT 11 (by decide) : (Is undef) (vs 11) (ρ 11))
      obtain ⟨hv12, hr12⟩ := (hT 12 (by decide) : (Is (.bool false)) (vs 12) (ρ 12))
      obtain ⟨hv13, hr13⟩ := (hT 13 (by decide) : (Is (.bool false)) (vs 13) (ρ 13))
      obtain ⟨hv14, hr14⟩ := (hT 14 (by decide) : (Is (.bool false)) (vs 14) (ρ 14))
      obtain ⟨hv15, hr15⟩ := (hT 15 (by decide) : (Is (.bool false)) (vs 15) (ρ 15))
      obtain ⟨hv16, hr16⟩ := (hT 16 (by decide) : (Is (.bool true)) (vs 16) (ρ 16))
      obtain ⟨hv17, hr17⟩ := (hT 17 (by decide) : (Is (.bool true)) (vs 17) (ρ 17))
      obtain ⟨hv18, hr18⟩ := (hT 18 (by decide) : (Is (.int .i64 0)) (vs 18) (ρ 18))
      obtain ⟨hv19, hr19⟩ := (hT 19 (by decide) : (Is (.bool false)) (vs 19) (ρ 19))
      obtain ⟨hv20, hr20⟩ := (hT 20 (by decide) : (Is (.bool false)) (vs 20) (ρ 20))
      obtain ⟨hv21, hr21⟩ := (hT 21 (by decide) : (Is (.bool false)) (vs 21) (ρ 21))
      simp only [pool, if_true, hr0, hr1, hr2, hr3, hr4, hr5, hr6, hr7, hr8, hr9, hr10, hr11, hr12, hr13, hr14, hr15, hr16, hr17, hr18, hr19, hr20, hr21, List.nil_append, List.cons_append, List.append_nil] at hS
      replace hS : Sep w [.row p2 n2 c2 (lim (-9223372036854775808 : Int).natAbs), .blk g6 [.bool b, .slice pc1 n cc1] 25, .row pc1 n cc1 xs, .blk g3 [.bool b2, .slice q m d] 25, .blk g1 [.bool b, .slice p n c] 25] w11 := hS
      simp only [layf, hv0, hv1, hv2, hv3, hv4, hv5, hv6, hv7, hv8, hv9, hv10, hv11, hv12, hv13, hv14, hv15, hv16, hv17, hv18, hv19, hv20, hv21] at hf
      subst hf; clear hT hv0 hv1 hv2 hv3 hv4 hv5 hv6 hv7 hv8 hv9 hv10 hv11 hv12 hv13 hv14 hv15 hv16 hv17 hv18 hv19 hv20 hv21 hr0 hr1 hr2 hr3 hr4 hr5 hr6 hr7 hr8 hr9 hr10 hr11 hr12 hr13 hr14 hr15 hr16 hr17 hr18 hr19 hr20 hr21
      refine wdone rfl ?_
      refine thenN ?_
      refine wF (ev (v := .bool false) rfl rfl) ?_
      refine wskip ?_
      refine thenN ?_
      refine wseq ?_
      refine wseq ?_
      obtain ⟨z4, hz4⟩ : ∃ z : Int, Hid (x = z) := ⟨_, rfl⟩
      have hk4 : Wd z4 1048576 := Wd.same hzx.wd hz4
      obtain ⟨z5, hz5⟩ : ∃ z : Int, Hid (x = z) := ⟨_, rfl⟩
      have hk5 : Wd z5 1048576 := Wd.same hzx.wd hz5
      have hk6 : Wd nn 2 := Wd.i64 (hn1) (hn2)
      have hk7 : Wd nn 2 := Wd.i64 (hn1) (hn2)
      obtain ⟨s8, hs8⟩ : ∃ z : Int, Hid ((x : Int).sign = z) := ⟨_, rfl⟩
      obtain ⟨s9, hs9⟩ : ∃ z : Int, Hid ((x : Int).sign = z) := ⟨_, rfl⟩
      obtain ⟨s10, hs10⟩ : ∃ z : Int, Hid (cmpZ x y = z) := ⟨_, rfl⟩
      obtain ⟨s11, hs11⟩ : ∃ z : Int, Hid (cmpZ x y = z) := ⟨_, rfl⟩
      refine wstage 30 [50, 51, 52, 53, 54, 55, 56, 57, 58, 59, 60, 61, 62, 63, 64, 65, 66, 67, 68, 69, 70, 71, 72, 73, 74, 75, 76, 77, 78, 79] [[], [0], [], [2, 0, 1], [1, 3, 0, 2], [4, 0, 1, 2, 3], [5, 0, 1, 2, 3, 4], [6, 0, 1, 2, 3, 4, 5], [6, 7, 0, 1, 2, 3, 4, 5], [6, 0, 1, 2, 3, 4, 5], [6, 9, 0, 1, 2, 3, 4, 5, 7, 8], [6, 8, 10, 0, 1, 2, 3, 4, 5, 7, 9], [6, 11, 0, 1, 2, 3, 4, 5, 7, 8, 9, 10], [6, 12, 0, 1, 2, 3, 4, 5, 7, 8, 9, 10, 11], [13, 0, 1, 2, 3, 4, 5, 6, 7, 8, 9, 10, 11, 12], [14, 0, 1, 2, 3, 4, 5, 6, 7, 8, 9, 10, 11, 12, 13], [14, 15, 0, 1, 2, 3, 4, 5, 6, 7, 8, 9, 10, 11, 12, 13], [14, 0, 1, 2, 3, 4, 5, 6, 7, 8, 9, 10, 11, 12, 13], [14, 17, 0, 1, 2, 3, 4, 5, 6, 7, 8, 9, 10, 11, 12, 13, 15, 16], [14, 16, 18, 0, 1, 2, 3, 4, 5, 6, 7, 8, 9, 10, 11, 12, 13, 15, 17], [14, 19, 0, 1, 2, 3, 4, 5, 6, 7, 8, 9, 10, 11, 12, 13, 15, 16, 17, 18], [20, 0, 1, 2, 3, 4, 5, 6, 7, 8, 9, 10, 11, 12, 13, 14, 15, 16, 17, 18, 19], [21, 0, 1, 2, 3, 4, 5, 6, 7, 8, 9, 10, 11, 12, 13, 14, 15, 16, 17, 18, 19, 20], [21, 0, 1, 2, 3, 4, 5, 6, 7, 8, 9, 10, 11, 12, 13, 14, 15, 16, 17, 18, 19, 20], [21, 22, 23, 0, 1, 2, 3, 4, 5, 6, 7, 8, 9, 10, 11, 12, 13, 14, 15, 16, 17, 18, 19, 20], [21, 0, 1, 2, 3, 4, 5, 6, 7, 8, 9, 10, 11, 12, 13, 14, 15, 16, 17, 18, 19, 20], [21, 0, 1, 2, 3, 4, 5, 6, 7, 8, 9, 10, 11, 12, 13, 14, 15, 16, 17, 18, 19, 20], [21, 25, 26, 0, 1, 2, 3, 4, 5, 6, 7, 8, 9, 10, 11, 12, 13, 14, 15, 16, 17, 18, 19, 20, 22, 23, 24], [21, 24, 27, 0, 1, 2, 3, 4, 5, 6, 7, 8, 9, 10, 11, 12, 13, 14, 15, 16, 17, 18, 19, 20, 22, 23, 25, 26], [21, 28, 0, 1, 2, 3, 4, 5, 6, 7, 8, 9, 10, 11, 12, 13, 14, 15, 16, 17, 18, 19, 20, 22, 23, 24, 25, 26, 27]] [[], [], [], [], [], [], [], [], [], [], [], [], [], [], [], [], [], [], [], [], [], [], [], [], [], [], [], [], [], []] [] (fun i => ([fun _ => Is (.agg #[.bool b, .slice pc1 n cc1]), fun _ => Zt z4, fun _ => Is (.agg #[.bool b, .slice p n c]), fun _ => Zt z5, fun _ => Is (.bool true), fun _ => Is (.bool false), fun _ => Is (.bool false), fun _ => Is (.int .i64 nn), fun _ => Zt nn, fun _ => Is (.int .i64 nn), fun _ => Zt nn, fun _ => Is (.bool true), fun _ => Is (.bool false), fun _ => Is (.bool false), fun _ => Is (.bool false), fun _ => Is (.agg #[.bool b, .slice pc1 n cc1]), fun _ => Is (.int .i64 s8), fun _ => Is (.agg #[.bool b, .slice p n c]), fun _ => Is (.int .i64 s9), fun _ => Is (.bool false), fun _ => Is (.bool false), fun _ => Is (.bool false), fun _ => Is (.agg #[.bool b, .slice pc1 n cc1]), fun _ => Is (.agg #[.bool b2, .slice q m d]), fun _ => Is (.int .i64 s10), fun _ => Is (.agg #[.bool b, .slice p n c]), fun _ => Is (.agg #[.bool b2, .slice q m d]), fun _ => Is (.int .i64 s11), fun _ => Is (.bool false), fun _ => Is (.bool false)] : List (List Value → Tell)).getD i (fun _ _ _ => False)) (fun d _ _ _ _ h => (by cases d <;> exact h)) (by kernel_rfl) (by kernel_rfl) (by kernel_rfl) hS ?_ ?_
      ·
        refine stepsCons rfl ?_ ?_
        · intro Q f' w' ρ S ho hT hS
          change Sep w (_ ++ ([].flatMap ρ ++ S)) w' at hS
          simp only [List.flatMap_cons, List.flatMap_nil, List.nil_append, List.cons_append, List.append_nil] at hS
          exact .inl ⟨want_none rfl, oload (vs := [.bool b, .slice pc1 n cc1]) aggZ hS 1 rfl rfl (ev (v := .pointer (some ⟨g6, 0, none⟩)) rfl (ho 7 rfl)) rfl rfl rfl ⟨_, _, rfl, isI, New.same _⟩⟩
        refine stepsCons rfl ?_ ?_
        · intro Q f' w' ρ S ho hT hS
          obtain ⟨hv0, hr0⟩ := (hT 0 50 rfl rfl : (Is (.agg #[.bool b, .slice pc1 n cc1])) (f' 50) (ρ 0))
          change Sep w (_ ++ ([0].flatMap ρ ++ S)) w' at hS
          simp only [List.flatMap_cons, List.flatMap_nil, List.nil_append, List.cons_append, List.append_nil, hr0] at hS
          refine .inl ⟨want_none rfl, ocall rfl rfl Try.call23 rfl (args1 (ev (v := .agg #[.bool b, .slice pc1 n cc1]) rfl hv0)) (wznorm ((show Zr _ _ _ _ _ x 1048576 from ⟨_, hS.sl 2 rfl, hex, hn⟩).mono (by omega)) hz4) ?_⟩
          rintro _ w9 ⟨_, _, rfl, hTT, hN⟩
          exact ⟨_, rfl, _, _, rfl, hTT, hN⟩
        refine stepsCons rfl ?_ ?_
        · intro Q f' w' ρ S ho hT hS
          change Sep w (_ ++ ([].flatMap ρ ++ S)) w' at hS
          simp only [List.flatMap_cons, List.flatMap_nil, List.nil_append, List.cons_append, List.append_nil] at hS
          exact .inl ⟨want_none rfl, oload (vs := [.bool b, .slice p n c]) aggZ hS 4 rfl rfl (ev (v := .pointer (some ⟨g1, 0, none⟩)) rfl (ho 3 rfl)) rfl rfl rfl ⟨_, _, rfl, isI, New.same _⟩⟩
        refine stepsCons rfl ?_ ?_
        · intro Q f' w' ρ S ho hT hS
          obtain ⟨hv2, hr2⟩ := (hT 2 52 rfl rfl : (Is (.agg #[.bool b, .slice p n c])) (f' 52) (ρ 2))
          change Sep w (_ ++ ([2, 0, 1].flatMap ρ ++ S)) w' at hS
          simp only [List.flatMap_cons, List.flatMap_nil, List.nil_append, List.cons_append, List.append_nil, hr2] at hS
          refine .inl ⟨want_none rfl, ocall rfl rfl Try.call22 rfl (args1 (ev (v := .agg #[.bool b, .slice p n c]) rfl hv2)) (wqnorm ((hzx.at hS).mono (by omega)) hz5) ?_⟩
          rintro _ w9 ⟨_, _, rfl, hTT, hN⟩
          exact ⟨_, rfl, _, _, rfl, hTT, hN⟩
        refine stepsCons rfl ?_ ?_
        · intro Q f' w' ρ S ho hT hS
          obtain ⟨p4, n4, c4, hv1, hr1⟩ := (hT 1 51 rfl rfl : (Zt z4) (f' 51) (ρ 1))
          obtain ⟨p5, n5, c5, hv3, hr3⟩ := (hT 3 53 rfl rfl : (Zt z5) (f' 53) (ρ 3))
          change Sep w (_ ++ ([1, 3, 0, 2].flatMap ρ ++ S)) w' at hS
          simp only [List.flatMap_cons, List.flatMap_nil, List.nil_append, List.cons_append, List.append_nil, hr1, hr3] at hS
          refine .inl ⟨want_none rfl, ocall rfl rfl Try.call13 rfl (args2 (ev (v := .agg #[.bool (ng z4), .slice p4 n4 c4]) rfl hv1) (ev (v := .agg #[.bool (ng z5), .slice p5 n5 c5]) rfl hv3)) (wlsame (x := z4) (y := z5) (hS.sl 5 rfl) (hS.sl 6 rfl) ((hz4.out.symm).trans (hz5.out.symm).symm)) ?_⟩
          rintro _ w9 ⟨_, _, rfl, hTT, hN⟩
          exact ⟨_, rfl, _, _, rfl, hTT, hN⟩
        refine stepsCons rfl ?_ ?_
        · intro Q f' w' ρ S ho hT hS
          obtain ⟨hv4, hr4⟩ := (hT 4 54 rfl rfl : (Is (.bool true)) (f' 54) (ρ 4))
          change Sep w (_ ++ ([4, 0, 1, 2, 3].flatMap ρ ++ S)) w' at hS
          simp only [List.flatMap_cons, List.flatMap_nil, List.nil_append, List.cons_append, List.append_nil, hr4] at hS
          exact .inl ⟨want_none rfl, onot (b := true) rfl rfl (ev (v := .bool true) rfl hv4) ⟨_, _, rfl, isI, New.same _⟩⟩
        refine stepsCons rfl ?_ ?_
        · intro Q f' w' ρ S ho hT hS
          obtain ⟨hv5, hr5⟩ := (hT 5 55 rfl rfl : (Is (.bool false)) (f' 55) (ρ 5))
          change Sep w (_ ++ ([5, 0, 1, 2, 3, 4].flatMap ρ ++ S)) w' at hS
          simp only [List.flatMap_cons, List.flatMap_nil, List.nil_append, List.cons_append, List.append_nil, hr5] at hS
          exact .inl ⟨want_none rfl, omove (v := .bool false) rfl rfl (ev (v := .bool false) rfl hv5) ⟨_, _, rfl, isI, New.same _⟩⟩
        refine stepsCons rfl ?_ ?_
        · intro Q f' w' ρ S ho hT hS
          obtain ⟨hv6, hr6⟩ := (hT 6 56 rfl rfl : (Is (.bool false)) (f' 56) (ρ 6))
          change Sep w (_ ++ ([6, 0, 1, 2, 3, 4, 5].flatMap ρ ++ S)) w' at hS
          simp only [List.flatMap_cons, List.flatMap_nil, List.nil_append, List.cons_append, List.append_nil, hr6] at hS
          exact .inl ⟨want_on (e := 56) rfl rfl rfl hv6, omove (v := .int .i64 nn) rfl rfl (ev (v := .int .i64 nn) rfl (ho 2 rfl)) ⟨_, _, rfl, isI, New.same _⟩⟩
        refine stepsCons rfl ?_ ?_
        · intro Q f' w' ρ S ho hT hS
          obtain ⟨hv6, hr6⟩ := (hT 6 56 rfl rfl : (Is (.bool false)) (f' 56) (ρ 6))
          obtain ⟨hv7, hr7⟩ := (hT 7 57 rfl rfl : (Is (.int .i64 nn)) (f' 57) (ρ 7))
          change Sep w (_ ++ ([6, 7, 0, 1, 2, 3, 4, 5].flatMap ρ ++ S)) w' at hS
          simp only [List.flatMap_cons, List.flatMap_nil, List.nil_append, List.cons_append, List.append_nil, hr6, hr7] at hS
          refine .inl ⟨want_on (e := 56) rfl rfl rfl hv6, ocall rfl rfl Try.call24 rfl (args1 (ev (v := .int .i64 nn) rfl hv7)) (wzof (z := nn) (hn1) (hn2)) ?_⟩
          rintro _ w9 ⟨_, _, rfl, hTT, hN⟩
          exact ⟨_, rfl, _, _, rfl, hTT, hN⟩
        refine stepsCons rfl ?_ ?_
        · intro Q f' w' ρ S ho hT hS
          obtain ⟨hv6, hr6⟩ := (hT 6 56 rfl rfl : (Is (.bool false)) (f' 56) (ρ 6))
          change Sep w (_ ++ ([6, 0, 1, 2, 3, 4, 5].flatMap ρ ++ S)) w' at hS
          simp only [List.flatMap_cons, List.flatMap_nil, List.nil_append, List.cons_append, List.append_nil, hr6] at hS
          exact .inl ⟨want_on (e := 56) rfl rfl rfl hv6, omove (v := .int .i64 nn) rfl rfl (ev (v := .int .i64 nn) rfl (ho 2 rfl)) ⟨_, _, rfl, isI, New.same _⟩⟩
        refine stepsCons rfl ?_ ?_
        · intro Q f' w' ρ S ho hT hS
          obtain ⟨hv6, hr6⟩ := (hT 6 56 rfl rfl : (Is (.bool false)) (f' 56) (ρ 6))
          obtain ⟨hv9, hr9⟩ := (hT 9 59 rfl rfl : (Is (.int .i64 nn)) (f' 59) (ρ 9))
          change Sep w (_ ++ ([6, 9, 0, 1, 2, 3, 4, 5, 7, 8].flatMap ρ ++ S)) w' at hS
          simp only [List.flatMap_cons, List.flatMap_nil, List.nil_append, List.cons_append, List.append_nil, hr6, hr9] at hS
          refine .inl ⟨want_on (e := 56) rfl rfl rfl hv6, ocall rfl rfl Try.call18 rfl (args1 (ev (v := .int .i64 nn) rfl hv9)) (wlof (z := nn) (hn1) (hn2)) ?_⟩
          rintro _ w9 ⟨_, _, rfl, hTT, hN⟩
          exact ⟨_, rfl, _, _, rfl, hTT, hN⟩
        refine stepsCons rfl ?_ ?_
        · intro Q f' w' ρ S ho hT hS
          obtain ⟨hv6, hr6⟩ := (hT 6 56 rfl rfl : (Is (.bool false)) (f' 56) (ρ 6))
          obtain ⟨p6, n6, c6, hv8, hr8⟩ := (hT 8 58 rfl rfl : (Zt nn) (f' 58) (ρ 8))
          obtain ⟨p7, n7, c7, hv10, hr10⟩ := (hT 10 60 rfl rfl : (Zt nn) (f' 60) (ρ 10))
          change Sep w (_ ++ ([6, 8, 10, 0, 1, 2, 3, 4, 5, 7, 9].flatMap ρ ++ S)) w' at hS
          simp only [List.flatMap_cons, List.flatMap_nil, List.nil_append, List.cons_append, List.append_nil, hr6, hr8, hr10] at hS
          refine .inl ⟨want_on (e := 56) rfl rfl rfl hv6, ocall rfl rfl Try.call13 rfl (args2 (ev (v := .agg #[.bool (ng nn), .slice p6 n6 c6]) rfl hv8) (ev (v := .agg #[.bool (ng nn), .slice p7 n7 c7]) rfl hv10)) (wlsame (x := nn) (y := nn) (hS.sl 5 rfl) (hS.sl 6 rfl) (rfl)) ?_⟩
          rintro _ w9 ⟨_, _, rfl, hTT, hN⟩
          exact ⟨_, rfl, _, _, rfl, hTT, hN⟩
        refine stepsCons rfl ?_ ?_
        · intro Q f' w' ρ S ho hT hS
          obtain ⟨hv6, hr6⟩ := (hT 6 56 rfl rfl : (Is (.bool false)) (f' 56) (ρ 6))
          obtain ⟨hv11, hr11⟩ := (hT 11 61 rfl rfl : (Is (.bool true)) (f' 61) (ρ 11))
          change Sep w (_ ++ ([6, 11, 0, 1, 2, 3, 4, 5, 7, 8, 9, 10].flatMap ρ ++ S)) w' at hS
          simp only [List.flatMap_cons, List.flatMap_nil, List.nil_append, List.cons_append, List.append_nil, hr6, hr11] at hS
          exact .inl ⟨want_on (e := 56) rfl rfl rfl hv6, onot (b := true) rfl rfl (ev (v := .bool true) rfl hv11) ⟨_, _, rfl, isI, New.same _⟩⟩
        refine stepsCons rfl ?_ ?_
        · intro Q f' w' ρ S ho hT hS
          obtain ⟨hv6, hr6⟩ := (hT 6 56 rfl rfl : (Is (.bool false)) (f' 56) (ρ 6))
          obtain ⟨hv12, hr12⟩ := (hT 12 62 rfl rfl : (Is (.bool false)) (f' 62) (ρ 12))
          change Sep w (_ ++ ([6, 12, 0, 1, 2, 3, 4, 5, 7, 8, 9, 10, 11].flatMap ρ ++ S)) w' at hS
          simp only [List.flatMap_cons, List.flatMap_nil, List.nil_append, List.cons_append, List.append_nil, hr6, hr12] at hS
          exact .inl ⟨want_none rfl, opick (b := false) (v := .bool false) rfl rfl (ev (v := .bool false) rfl hv6) (ev (v := .bool false) rfl hv12) ⟨_, _, rfl, isI, New.same _⟩⟩
        refine stepsCons rfl ?_ ?_
        · intro Q f' w' ρ S ho hT hS
          obtain ⟨hv13, hr13⟩ := (hT 13 63 rfl rfl : (Is (.bool false)) (f' 63) (ρ 13))
          change Sep w (_ ++ ([13, 0, 1, 2, 3, 4, 5, 6, 7, 8, 9, 10, 11, 12].flatMap ρ ++ S)) w' at hS
          simp only [List.flatMap_cons, List.flatMap_nil, List.nil_append, List.cons_append, List.append_nil, hr13] at hS
          exact .inl ⟨want_none rfl, omove (v := .bool false) rfl rfl (ev (v := .bool false) rfl hv13) ⟨_, _, rfl, isI, New.same _⟩⟩
        refine stepsCons rfl ?_ ?_
        · intro Q f' w' ρ S ho hT hS
          obtain ⟨hv14, hr14⟩ := (hT 14 64 rfl rfl : (Is (.bool false)) (f' 64) (ρ 14))
          change Sep w (_ ++ ([14, 0, 1, 2, 3, 4, 5, 6, 7, 8, 9, 10, 11, 12, 13].flatMap ρ ++ S)) w' at hS
          simp only [List.flatMap_cons, List.flatMap_nil, List.nil_append, List.cons_append, List.append_nil, hr14] at hS
          exact .inl ⟨want_on (e := 64) rfl rfl rfl hv14, oload (vs := [.bool b, .slice pc1 n cc1]) aggZ hS 1 rfl rfl (ev (v := .pointer (some ⟨g6, 0, none⟩)) rfl (ho 7 rfl)) rfl rfl rfl ⟨_, _, rfl, isI, New.same _⟩⟩
        refine stepsCons rfl ?_ ?_
        · intro Q f' w' ρ S ho hT hS
          obtain ⟨hv14, hr14⟩ := (hT 14 64 rfl rfl : (Is (.bool false)) (f' 64) (ρ 14))
          obtain ⟨hv15, hr15⟩ := (hT 15 65 rfl rfl : (Is (.agg #[.bool b, .slice pc1 n cc1])) (f' 65) (ρ 15))
          change Sep w (_ ++ ([14, 15, 0, 1, 2, 3, 4, 5, 6, 7, 8, 9, 10, 11, 12, 13].flatMap ρ ++ S)) w' at hS
          simp only [List.flatMap_cons, List.flatMap_nil, List.nil_append, List.cons_append, List.append_nil, hr14, hr15] at hS
          refine .inl ⟨want_on (e := 64) rfl rfl rfl hv14, ocall rfl rfl Try.call25 rfl (args1 (ev (v := .agg #[.bool b, .slice pc1 n cc1]) rfl hv15)) (wzsign ((show Zr _ _ _ _ _ x 1048576 from ⟨_, hS.sl 2 rfl, hex, hn⟩).mono (by omega)) hs8) ?_⟩
          rintro _ w9 ⟨_, _, rfl, hTT, hN⟩
          exact ⟨_, rfl, _, _, rfl, hTT, hN⟩
        refine stepsCons rfl ?_ ?_
        · intro Q f' w' ρ S ho hT hS
          obtain ⟨hv14, hr14⟩ := (hT 14 64 rfl rfl : (Is (.bool false)) (f' 64) (ρ 14))
          change Sep w (_ ++ ([14, 0, 1, 2, 3, 4, 5, 6, 7, 8, 9, 10, 11, 12, 13].flatMap ρ ++ S)) w' at hS
          simp only [List.flatMap_cons, List.flatMap_nil, List.nil_append, List.cons_append, List.append_nil, hr14] at hS
          exact .inl ⟨want_on (e := 64) rfl rfl rfl hv14, oload (vs := [.bool b, .slice p n c]) aggZ hS 4 rfl rfl (ev (v := .pointer (some ⟨g1, 0, none⟩)) rfl (ho 3 rfl)) rfl rfl rfl ⟨_, _, rfl, isI, New.same _⟩⟩
        refine stepsCons rfl ?_ ?_
        · intro Q f' w' ρ S ho hT hS
          obtain ⟨hv14, hr14⟩ := (hT 14 64 rfl rfl : (Is (.bool false)) (f' 64) (ρ 14))
          obtain ⟨hv17, hr17⟩ := (hT 17 67 rfl rfl : (Is (.agg #[.bool b, .slice p n c])) (f' 67) (ρ 17))
          change Sep w (_ ++ ([14, 17, 0, 1, 2, 3, 4, 5, 6, 7, 8, 9, 10, 11, 12, 13, 15, 16].flatMap ρ ++ S)) w' at hS
          simp only [List.flatMap_cons, List.flatMap_nil, List.nil_append, List.cons_append, List.append_nil, hr14, hr17] at hS
          refine .inl ⟨want_on (e := 64) rfl rfl rfl hv14, ocall rfl rfl Try.call26 rfl (args1 (ev (v := .agg #[.bool b, .slice p n c]) rfl hv17)) (wqsign ((hzx.at hS).mono (by omega)) hs9) ?_⟩
          rintro _ w9 ⟨_, _, rfl, hTT, hN⟩
          exact ⟨_, rfl, _, _, rfl, hTT, hN⟩
        refine stepsCons rfl ?_ ?_
        · intro Q f' w' ρ S ho hT hS
          obtain ⟨hv14, hr14⟩ := (hT 14 64 rfl rfl : (Is (.bool false)) (f' 64) (ρ 14))
          obtain ⟨hv16, hr16⟩ := (hT 16 66 rfl rfl : (Is (.int .i64 s8)) (f' 66) (ρ 16))
          obtain ⟨hv18, hr18⟩ := (hT 18 68 rfl rfl : (Is (.int .i64 s9)) (f' 68) (ρ 18))
          change Sep w (_ ++ ([14, 16, 18, 0, 1, 2, 3, 4, 5, 6, 7, 8, 9, 10, 11, 12, 13, 15, 17].flatMap ρ ++ S)) w' at hS
          simp only [List.flatMap_cons, List.flatMap_nil, List.nil_append, List.cons_append, List.append_nil, hr14, hr16, hr18] at hS
          exact .inl ⟨want_on (e := 64) rfl rfl rfl hv14, obin (u := .int .i64 s8) (v := .int .i64 s9) (z := .bool false) rfl rfl (ev (v := .int .i64 s8) rfl hv16) (ev (v := .int .i64 s9) rfl hv18) (bin_neq (neF ((hs8.out.symm).trans (hs9.out.symm).symm))) ⟨_, _, rfl, isI, New.same _⟩⟩
        refine stepsCons rfl ?_ ?_
        · intro Q f' w' ρ S ho hT hS
          obtain ⟨hv14, hr14⟩ := (hT 14 64 rfl rfl : (Is (.bool false)) (f' 64) (ρ 14))
          obtain ⟨hv19, hr19⟩ := (hT 19 69 rfl rfl : (Is (.bool false)) (f' 69) (ρ 19))
          change Sep w (_ ++ ([14, 19, 0, 1, 2, 3, 4, 5, 6, 7, 8, 9, 10, 11, 12, 13, 15, 16, 17, 18].flatMap ρ ++ S)) w' at hS
          simp only [List.flatMap_cons, List.flatMap_nil, List.nil_append, List.cons_append, List.append_nil, hr14, hr19] at hS
          exact .inl ⟨want_none rfl, opick (b := false) (v := .bool false) rfl rfl (ev (v := .bool false) rfl hv14) (ev (v := .bool false) rfl hv19) ⟨_, _, rfl, isI, New.same _⟩⟩
        refine stepsCons rfl ?_ ?_
        · intro Q f' w' ρ S ho hT hS
          obtain ⟨hv20, hr20⟩ := (hT 20 70 rfl rfl : (Is (.bool false)) (f' 70) (ρ 20))
          change Sep w (_ ++ ([20, 0, 1, 2, 3, 4, 5, 6, 7, 8, 9, 10, 11, 12, 13, 14, 15, 16, 17, 18, 19].flatMap ρ ++ S)) w' at hS
          simp only [List.flatMap_cons, List.flatMap_nil, List.nil_append, List.cons_append, List.append_nil, hr20] at hS
          exact .inl ⟨want_none rfl, omove (v := .bool false) rfl rfl (ev (v := .bool false) rfl hv20) ⟨_, _, rfl, isI, New.same _⟩⟩
        refine stepsCons rfl ?_ ?_
        · intro Q f' w' ρ S ho hT hS
          obtain ⟨hv21, hr21⟩ := (hT 21 71 rfl rfl : (Is (.bool false)) (f' 71) (ρ 21))
          change Sep w (_ ++ ([21, 0, 1, 2, 3, 4, 5, 6, 7, 8, 9, 10, 11, 12, 13, 14, 15, 16, 17, 18, 19, 20].flatMap ρ ++ S)) w' at hS
          simp only [List.flatMap_cons, List.flatMap_nil, List.nil_append, List.cons_append, List.append_nil, hr21] at hS
          exact .inl ⟨want_on (e := 71) rfl rfl rfl hv21, oload (vs := [.bool b, .slice pc1 n cc1]) aggZ hS 1 rfl rfl (ev (v := .pointer (some ⟨g6, 0, none⟩)) rfl (ho 7 rfl)) rfl rfl rfl ⟨_, _, rfl, isI, New.same _⟩⟩
        refine stepsCons rfl ?_ ?_
        · intro Q f' w' ρ S ho hT hS
          obtain ⟨hv21, hr21⟩ := (hT 21 71 rfl rfl : (Is (.bool false)) (f' 71) (ρ 21))
          change Sep w (_ ++ ([21, 0, 1, 2, 3, 4, 5, 6, 7, 8, 9, 10, 11, 12, 13, 14, 15, 16, 17, 18, 19, 20].flatMap ρ ++ S)) w' at hS
          simp only [List.flatMap_cons, List.flatMap_nil, List.nil_append, List.cons_append, List.append_nil, hr21] at hS
          exact .inl ⟨want_on (e := 71) rfl rfl rfl hv21, oload (vs := [.bool b2, .slice q m d]) aggZ hS 3 rfl rfl (ev (v := .pointer (some ⟨g3, 0, none⟩)) rfl (ho 4 rfl)) rfl rfl rfl ⟨_, _, rfl, isI, New.same _⟩⟩
        refine stepsCons rfl ?_ ?_
        · intro Q f' w' ρ S ho hT hS
          obtain ⟨hv21, hr21⟩ := (hT 21 71 rfl rfl : (Is (.bool false)) (f' 71) (ρ 21))
          obtain ⟨hv22, hr22⟩ := (hT 22 72 rfl rfl : (Is (.agg #[.bool b, .slice pc1 n cc1])) (f' 72) (ρ 22))
          obtain ⟨hv23, hr23⟩ := (hT 23 73 rfl rfl : (Is (.agg #[.bool b2, .slice q m d])) (f' 73) (ρ 23))
          change Sep w (_ ++ ([21, 22, 23, 0, 1, 2, 3, 4, 5, 6, 7, 8, 9, 10, 11, 12, 13, 14, 15, 16, 17, 18, 19, 20].flatMap ρ ++ S)) w' at hS
          simp only [List.flatMap_cons, List.flatMap_nil, List.nil_append, List.cons_append, List.append_nil, hr21, hr22, hr23] at hS
          refine .inl ⟨want_on (e := 71) rfl rfl rfl hv21, ocall rfl rfl Try.call27 rfl (args2 (ev (v := .agg #[.bool b, .slice pc1 n cc1]) rfl hv22) (ev (v := .agg #[.bool b2, .slice q m d]) rfl hv23)) (wzcmp ((show Zr _ _ _ _ _ x 1048576 from ⟨_, hS.sl 2 rfl, hex, hn⟩).mono (by omega)) ((hzy.at hS).mono (by omega)) hs10) ?_⟩
          rintro _ w9 ⟨_, _, rfl, hTT, hN⟩
          exact ⟨_, rfl, _, _, rfl, hTT, hN⟩
        refine stepsCons rfl ?_ ?_
        · intro Q f' w' ρ S ho hT hS
          obtain ⟨hv21, hr21⟩ := (hT 21 71 rfl rfl : (Is (.bool false)) (f' 71) (ρ 21))
          change Sep w (_ ++ ([21, 0, 1, 2, 3, 4, 5, 6, 7, 8, 9, 10, 11, 12, 13, 14, 15, 16, 17, 18, 19, 20].flatMap ρ ++ S)) w' at hS
          simp only [List.flatMap_cons, List.flatMap_nil, List.nil_append, List.cons_append, List.append_nil, hr21] at hS
          exact .inl ⟨want_on (e := 71) rfl rfl rfl hv21, oload (vs := [.bool b, .slice p n c]) aggZ hS 4 rfl rfl (ev (v := .pointer (some ⟨g1, 0, none⟩)) rfl (ho 3 rfl)) rfl rfl rfl ⟨_, _, rfl, isI, New.same _⟩⟩
        refine stepsCons rfl ?_ ?_
        · intro Q f' w' ρ S ho hT hS
          obtain ⟨hv21, hr21⟩ := (hT 21 71 rfl rfl : (Is (.bool false)) (f' 71) (ρ 21))
          change Sep w (_ ++ ([21, 0, 1, 2, 3, 4, 5, 6, 7, 8, 9, 10, 11, 12, 13, 14, 15, 16, 17, 18, 19, 20].flatMap ρ ++ S)) w' at hS
          simp only [List.flatMap_cons, List.flatMap_nil, List.nil_append, List.cons_append, List.append_nil, hr21] at hS
          exact .inl ⟨want_on (e := 71) rfl rfl rfl hv21, oload (vs := [.bool b2, .slice q m d]) aggZ hS 3 rfl rfl (ev (v := .pointer (some ⟨g3, 0, none⟩)) rfl (ho 4 rfl)) rfl rfl rfl ⟨_, _, rfl, isI, New.same _⟩⟩
        refine stepsCons rfl ?_ ?_
        · intro Q f' w' ρ S ho hT hS
          obtain ⟨hv21, hr21⟩ := (hT 21 71 rfl rfl : (Is (.bool false)) (f' 71) (ρ 21))
          obtain ⟨hv25, hr25⟩ := (hT 25 75 rfl rfl : (Is (.agg #[.bool b, .slice p n c])) (f' 75) (ρ 25))
          obtain ⟨hv26, hr26⟩ := (hT 26 76 rfl rfl : (Is (.agg #[.bool b2, .slice q m d])) (f' 76) (ρ 26))
          change Sep w (_ ++ ([21, 25, 26, 0, 1, 2, 3, 4, 5, 6, 7, 8, 9, 10, 11, 12, 13, 14, 15, 16, 17, 18, 19, 20, 22, 23, 24].flatMap ρ ++ S)) w' at hS
          simp only [List.flatMap_cons, List.flatMap_nil, List.nil_append, List.cons_append, List.append_nil, hr21, hr25, hr26] at hS
          refine .inl ⟨want_on (e := 71) rfl rfl rfl hv21, ocall rfl rfl Try.call21 rfl (args2 (ev (v := .agg #[.bool b, .slice p n c]) rfl hv25) (ev (v := .agg #[.bool b2, .slice q m d]) rfl hv26)) (wqcmp ((hzx.at hS).mono (by omega)) ((hzy.at hS).mono (by omega)) hs11) ?_⟩
          rintro _ w9 ⟨_, _, rfl, hTT, hN⟩
          exact ⟨_, rfl, _, _, rfl, hTT, hN⟩
        refine stepsCons rfl ?_ ?_
        · intro Q f' w' ρ S ho hT hS
          obtain ⟨hv21, hr21⟩ := (hT 21 71 rfl rfl : (Is (.bool false)) (f' 71) (ρ 21))
          obtain ⟨hv24, hr24⟩ := (hT 24 74 rfl rfl : (Is (.int .i64 s10)) (f' 74) (ρ 24))
          obtain ⟨hv27, hr27⟩ := (hT 27 77 rfl rfl : (Is (.int .i64 s11)) (f' 77) (ρ 27))
          change Sep w (_ ++ ([21, 24, 27, 0, 1, 2, 3, 4, 5, 6, 7, 8, 9, 10, 11, 12, 13, 14, 15, 16, 17, 18, 19, 20, 22, 23, 25, 26].flatMap ρ ++ S)) w' at hS
          simp only [List.flatMap_cons, List.flatMap_nil, List.nil_append, List.cons_append, List.append_nil, hr21, hr24, hr27] at hS
          exact .inl ⟨want_on (e := 71) rfl rfl rfl hv21, obin (u := .int .i64 s10) (v := .int .i64 s11) (z := .bool false) rfl rfl (ev (v := .int .i64 s10) rfl hv24) (ev (v := .int .i64 s11) rfl hv27) (bin_neq (neF ((hs10.out.symm).trans (hs11.out.symm).symm))) ⟨_, _, rfl, isI, New.same _⟩⟩
        refine stepsCons rfl ?_ ?_
        · intro Q f' w' ρ S ho hT hS
          obtain ⟨hv21, hr21⟩ := (hT 21 71 rfl rfl : (Is (.bool false)) (f' 71) (ρ 21))
          obtain ⟨hv28, hr28⟩ := (hT 28 78 rfl rfl : (Is (.bool false)) (f' 78) (ρ 28))
          change Sep w (_ ++ ([21, 28, 0, 1, 2, 3, 4, 5, 6, 7, 8, 9, 10, 11, 12, 13, 14, 15, 16, 17, 18, 19, 20, 22, 23, 24, 25, 26, 27].flatMap ρ ++ S)) w' at hS
          simp only [List.flatMap_cons, List.flatMap_nil, List.nil_append, List.cons_append, List.append_nil, hr21, hr28] at hS
          exact .inl ⟨want_none rfl, opick (b := false) (v := .bool false) rfl rfl (ev (v := .bool false) rfl hv21) (ev (v := .bool false) rfl hv28) ⟨_, _, rfl, isI, New.same _⟩⟩
        exact stepsNil
      ·
        intro vs ρ w12 f' hf hT hS
        obtain ⟨hv0, hr0⟩ := (hT 0 (by decide) : (Is (.agg #[.bool b, .slice pc1 n cc1])) (vs 0) (ρ 0))
        obtain ⟨p4, n4, c4, hv1, hr1⟩ := (hT 1 (by decide) : (Zt z4) (vs 1) (ρ 1))
        obtain ⟨hv2, hr2⟩ := (hT 2 (by decide) : (Is (.agg #[.bool b, .slice p n c])) (vs 2) (ρ 2))
        obtain ⟨p5, n5, c5, hv3, hr3⟩ := (hT 3 (by decide) : (Zt z5) (vs 3) (ρ 3))
        obtain ⟨hv4, hr4⟩ := (hT 4 (by decide) : (Is (.bool true)) (vs 4) (ρ 4))
        obtain ⟨hv5, hr5⟩ := (hT 5 (by decide) : (Is (.bool false)) (vs 5) (ρ 5))
        obtain ⟨hv6, hr6⟩ := (hT 6 (by decide) : (Is (.bool false)) (vs 6) (ρ 6))
        obtain ⟨hv7, hr7⟩ := (hT 7 (by decide) : (Is (.int .i64 nn)) (vs 7) (ρ 7))
        obtain ⟨p6, n6, c6, hv8, hr8⟩ := (hT 8 (by decide) : (Zt nn) (vs 8) (ρ 8))
        obtain ⟨hv9, hr9⟩ := (hT 9 (by decide) : (Is (.int .i64 nn)) (vs 9) (ρ 9))
        obtain ⟨p7, n7, c7, hv10, hr10⟩ := (hT 10 (by decide) : (Zt nn) (vs 10) (ρ 10))
        obtain ⟨hv11, hr11⟩ := (hT 11 (by decide) : (Is (.bool true)) (vs 11) (ρ 11))
        obtain ⟨hv12, hr12⟩ := (hT 12 (by decide) : (Is (.bool false)) (vs 12) (ρ 12))
        obtain ⟨hv13, hr13⟩ := (hT 13 (by decide) : (Is (.bool false)) (vs 13) (ρ 13))
        obtain ⟨hv14, hr14⟩ := (hT 14 (by decide) : (Is (.bool false)) (vs 14) (ρ 14))
        obtain ⟨hv15, hr15⟩ := (hT 15 (by decide) : (Is (.agg #[.bool b, .slice pc1 n cc1])) (vs 15) (ρ 15))
        obtain ⟨hv16, hr16⟩ := (hT 16 (by decide) : (Is (.int .i64 s8)) (vs 16) (ρ 16))
        obtain ⟨hv17, hr17⟩ := (hT 17 (by decide) : (Is (.agg #[.bool b, .slice p n c])) (vs 17) (ρ 17))
        obtain ⟨hv18, hr18⟩ := (hT 18 (by decide) : (Is (.int .i64 s9)) (vs 18) (ρ 18))
        obtain ⟨hv19, hr19⟩ := (hT 19 (by decide) : (Is (.bool false)) (vs 19) (ρ 19))
        obtain ⟨hv20, hr20⟩ := (hT 20 (by decide) : (Is (.bool false)) (vs 20) (ρ 20))
        obtain ⟨hv21, hr21⟩ := (hT 21 (by decide) : (Is (.bool false)) (vs 21) (ρ 21))
        obtain ⟨hv22, hr22⟩ := (hT 22 (by decide) : (Is (.agg #[.bool b, .slice pc1 n cc1])) (vs 22) (ρ 22))
        obtain ⟨hv23, hr23⟩ := (hT 23 (by decide) : (Is (.agg #[.bool b2, .slice q m d])) (vs 23) (ρ 23))
        obtain ⟨hv24, hr24⟩ := (hT 24 (by decide) : (Is (.int .i64 s10)) (vs 24) (ρ 24))
        obtain ⟨hv25, hr25⟩ := (hT 25 (by decide) : (Is (.agg #[.bool b, .slice p n c])) (vs 25) (ρ 25))
        obtain ⟨hv26, hr26⟩ := (hT 26 (by decide) : (Is (.agg #[.bool b2, .slice q m d])) (vs 26) (ρ 26))
        obtain ⟨hv27, hr27⟩ := (hT 27 (by decide) : (Is (.int .i64 s11)) (vs 27) (ρ 27))
        obtain ⟨hv28, hr28⟩ := (hT 28 (by decide) : (Is (.bool false)) (vs 28) (ρ 28))
        obtain ⟨hv29, hr29⟩ := (hT 29 (by decide) : (Is (.bool false)) (vs 29) (ρ 29))
        simp only [pool, if_true, hr0, hr1, hr2, hr3, hr4, hr5, hr6, hr7, hr8, hr9, hr10, hr11, hr12, hr13, hr14, hr15, hr16, hr17, hr18, hr19, hr20, hr21, hr22, hr23, hr24, hr25, hr26, hr27, hr28, hr29, List.nil_append, List.cons_append, List.append_nil] at hS
        replace hS : Sep w [.row p7 n7 c7 (lim nn.natAbs), .row p6 n6 c6 (lim nn.natAbs), .row p5 n5 c5 (lim z5.natAbs), .row p4 n4 c4 (lim z4.natAbs), .row p2 n2 c2 (lim (-9223372036854775808 : Int).natAbs), .blk g6 [.bool b, .slice pc1 n cc1] 25, .row pc1 n cc1 xs, .blk g3 [.bool b2, .slice q m d] 25, .blk g1 [.bool b, .slice p n c] 25] w12 := hS
        simp only [layf, hv0, hv1, hv2, hv3, hv4, hv5, hv6, hv7, hv8, hv9, hv10, hv11, hv12, hv13, hv14, hv15, hv16, hv17, hv18, hv19, hv20, hv21, hv22, hv23, hv24, hv25, hv26, hv27, hv28, hv29] at hf
        subst hf; clear hT hv0 hv1 hv2 hv3 hv4 hv5 hv6 hv7 hv8 hv9 hv10 hv11 hv12 hv13 hv14 hv15 hv16 hv17 hv18 hv19 hv20 hv21 hv22 hv23 hv24 hv25 hv26 hv27 hv28 hv29 hr0 hr1 hr2 hr3 hr4 hr5 hr6 hr7 hr8 hr9 hr10 hr11 hr12 hr13 hr14 hr15 hr16 hr17 hr18 hr19 hr20 hr21 hr22 hr23 hr24 hr25 hr26 hr27 hr28 hr29
        refine wdone rfl ?_
        refine thenN ?_
        refine wF (ev (v := .bool false) rfl rfl) ?_
        refine wskip ?_
        refine thenN ?_
        refine wseq ?_
        obtain ⟨z12, hz12⟩ : ∃ z : Int, Hid (-x = z) := ⟨_, rfl⟩
        have hk12 : Wd z12 1048576 := Wd.neg hzx.wd hz12
        obtain ⟨z13, hz13⟩ : ∃ z : Int, Hid (-x = z) := ⟨_, rfl⟩
        have hk13 : Wd z13 1048576 := Wd.neg hzx.wd hz13
        obtain ⟨z14, hz14⟩ : ∃ z : Int, Hid ((Int.natAbs x : Int) = z) := ⟨_, rfl⟩
        have hk14 : Wd z14 1048576 := Wd.nabs hzx.wd hz14
        obtain ⟨z15, hz15⟩ : ∃ z : Int, Hid ((Int.natAbs x : Int) = z) := ⟨_, rfl⟩
        have hk15 : Wd z15 1048576 := Wd.nabs hzx.wd hz15
        refine wstage 21 [80, 81, 82, 83, 84, 85, 86, 87, 88, 89, 90, 91, 92, 93, 94, 95, 96, 97, 98, 99, 6] [[], [0], [], [2, 0, 1], [1, 3, 0, 2], [4, 0, 1, 2, 3], [5, 0, 1, 2, 3, 4], [5, 6, 0, 1, 2, 3, 4], [5, 0, 1, 2, 3, 4], [5, 8, 0, 1, 2, 3, 4, 6, 7], [5, 7, 9, 0, 1, 2, 3, 4, 6, 8], [5, 10, 0, 1, 2, 3, 4, 6, 7, 8, 9], [11, 0, 1, 2, 3, 4, 5, 6, 7, 8, 9, 10], [12, 0, 1, 2, 3, 4, 5, 6, 7, 8, 9, 10, 11], [12, 0, 1, 2, 3, 4, 5, 6, 7, 8, 9, 10, 11], [12, 13, 14, 0, 1, 2, 3, 4, 5, 6, 7, 8, 9, 10, 11], [12, 15, 0, 1, 2, 3, 4, 5, 6, 7, 8, 9, 10, 11, 13, 14], [16, 0, 1, 2, 3, 4, 5, 6, 7, 8, 9, 10, 11, 12, 13, 14, 15], [17, 0, 1, 2, 3, 4, 5, 6, 7, 8, 9, 10, 11, 12, 13, 14, 15, 16], [17, 18, 0, 1, 2, 3, 4, 5, 6, 7, 8, 9, 10, 11, 12, 13, 14, 15, 16], [19, 0, 1, 2, 3, 4, 5, 6, 7, 8, 9, 10, 11, 12, 13, 14, 15, 16, 17, 18]] [[], [], [], [], [], [], [], [], [], [], [], [], [], [], [], [], [], [], [], [], []] [] (fun i => ([fun _ => Is (.agg #[.bool b, .slice pc1 n cc1]), fun _ => Zt z12, fun _ => Is (.agg #[.bool b, .slice p n c]), fun _ => Zt z13, fun _ => Is (.bool true), fun _ => Is (.bool true), fun _ => Is (.agg #[.bool b, .slice pc1 n cc1]), fun _ => Zt z14, fun _ => Is (.agg #[.bool b, .slice p n c]), fun _ => Zt z15, fun _ => Is (.bool true), fun _ => Is (.bool true), fun _ => Is (.bool true), fun _ => Is (.agg #[.bool b, .slice pc1 n cc1]), fun _ => Is (.agg #[.bool b, .slice p n c]), fun _ => Is (.bool true), fun _ => Is (.bool true), fun _ => Is (.bool true), fun _ => Is (.bool true), fun _ => Is (.bool true), fun _ => Is (.bool true)] : List (List Value → Tell)).getD i (fun _ _ _ => False)) (fun d _ _ _ _ h => (by cases d <;> exact h)) (by kernel_rfl) (by kernel_rfl) (by kernel_rfl) hS ?_ ?_
        ·
          refine stepsCons rfl ?_ ?_
          · intro Q f' w' ρ S ho hT hS
            change Sep w (_ ++ ([].flatMap ρ ++ S)) w' at hS
            simp only [List.flatMap_cons, List.flatMap_nil, List.nil_append, List.cons_append, List.append_nil] at hS
            exact .inl ⟨want_none rfl, oload (vs := [.bool b, .slice pc1 n cc1]) aggZ hS 5 rfl rfl (ev (v := .pointer (some ⟨g6, 0, none⟩)) rfl (ho 7 rfl)) rfl rfl rfl ⟨_, _, rfl, isI, New.same _⟩⟩
          refine stepsCons rfl ?_ ?_
          · intro Q f' w' ρ S ho hT hS
            obtain ⟨hv0, hr0⟩ := (hT 0 80 rfl rfl : (Is (.agg #[.bool b, .slice pc1 n cc1])) (f' 80) (ρ 0))
            change Sep w (_ ++ ([0].flatMap ρ ++ S)) w' at hS
            simp only [List.flatMap_cons, List.flatMap_nil, List.nil_append, List.cons_append, List.append_nil, hr0] at hS
            refine .inl ⟨want_none rfl, ocall rfl rfl Try.call28 rfl (args1 (ev (v := .agg #[.bool b, .slice pc1 n cc1]) rfl hv0)) (wzneg ((show Zr _ _ _ _ _ x 1048576 from ⟨_, hS.sl 6 rfl, hex, hn⟩).mono (by omega)) hz12) ?_⟩
            rintro _ w9 ⟨_, _, rfl, hTT, hN⟩
            exact ⟨_, rfl, _, _, rfl, hTT, hN⟩
          refine stepsCons rfl ?_ ?_
          · intro Q f' w' ρ S ho hT hS
            change Sep w (_ ++ ([].flatMap ρ ++ S)) w' at hS
            simp only [List.flatMap_cons, List.flatMap_nil, List.nil_append, List.cons_append, List.append_nil] at hS
            exact .inl ⟨want_none rfl, oload (vs := [.bool b, .slice p n c]) aggZ hS 8 rfl rfl (ev (v := .pointer (some ⟨g1, 0, none⟩)) rfl (ho 3 rfl)) rfl rfl rfl ⟨_, _, rfl, isI, New.same _⟩⟩
          refine stepsCons rfl ?_ ?_
          · intro Q f' w' ρ S ho hT hS
            obtain ⟨hv2, hr2⟩ := (hT 2 82 rfl rfl : (Is (.agg #[.bool b, .slice p n c])) (f' 82) (ρ 2))
            change Sep w (_ ++ ([2, 0, 1].flatMap ρ ++ S)) w' at hS
            simp only [List.flatMap_cons, List.flatMap_nil, List.nil_append, List.cons_append, List.append_nil, hr2] at hS
            refine .inl ⟨want_none rfl, ocall rfl rfl Try.call29 rfl (args1 (ev (v := .agg #[.bool b, .slice p n c]) rfl hv2)) (wqneg ((hzx.at hS).mono (by omega)) hz13) ?_⟩
            rintro _ w9 ⟨_, _, rfl, hTT, hN⟩
            exact ⟨_, rfl, _, _, rfl, hTT, hN⟩
          refine stepsCons rfl ?_ ?_
          · intro Q f' w' ρ S ho hT hS
            obtain ⟨p12, n12, c12, hv1, hr1⟩ := (hT 1 81 rfl rfl : (Zt z12) (f' 81) (ρ 1))
            obtain ⟨p13, n13, c13, hv3, hr3⟩ := (hT 3 83 rfl rfl : (Zt z13) (f' 83) (ρ 3))
            change Sep w (_ ++ ([1, 3, 0, 2].flatMap ρ ++ S)) w' at hS
            simp only [List.flatMap_cons, List.flatMap_nil, List.nil_append, List.cons_append, List.append_nil, hr1, hr3] at hS
            refine .inl ⟨want_none rfl, ocall rfl rfl Try.call13 rfl (args2 (ev (v := .agg #[.bool (ng z12), .slice p12 n12 c12]) rfl hv1) (ev (v := .agg #[.bool (ng z13), .slice p13 n13 c13]) rfl hv3)) (wlsame (x := z12) (y := z13) (hS.sl 9 rfl) (hS.sl 10 rfl) ((hz12.out.symm).trans (hz13.out.symm).symm)) ?_⟩
            rintro _ w9 ⟨_, _, rfl, hTT, hN⟩
            exact ⟨_, rfl, _, _, rfl, hTT, hN⟩
          refine stepsCons rfl ?_ ?_
          · intro Q f' w' ρ S ho hT hS
            obtain ⟨hv4, hr4⟩ := (hT 4 84 rfl rfl : (Is (.bool true)) (f' 84) (ρ 4))
            change Sep w (_ ++ ([4, 0, 1, 2, 3].flatMap ρ ++ S)) w' at hS
            simp only [List.flatMap_cons, List.flatMap_nil, List.nil_append, List.cons_append, List.append_nil, hr4] at hS
            exact .inl ⟨want_none rfl, omove (v := .bool true) rfl rfl (ev (v := .bool true) rfl hv4) ⟨_, _, rfl, isI, New.same _⟩⟩
          refine stepsCons rfl ?_ ?_
          · intro Q f' w' ρ S ho hT hS
            obtain ⟨hv5, hr5⟩ := (hT 5 85 rfl rfl : (Is (.bool true)) (f' 85) (ρ 5))
            change Sep w (_ ++ ([5, 0, 1, 2, 3, 4].flatMap ρ ++ S)) w' at hS
            simp only [List.flatMap_cons, List.flatMap_nil, List.nil_append, List.cons_append, List.append_nil, hr5] at hS
            exact .inl ⟨want_on (e := 85) rfl rfl rfl hv5, oload (vs := [.bool b, .slice pc1 n cc1]) aggZ hS 5 rfl rfl (ev (v := .pointer (some ⟨g6, 0, none⟩)) rfl (ho 7 rfl)) rfl rfl rfl ⟨_, _, rfl, isI, New.same _⟩⟩
          refine stepsCons rfl ?_ ?_
          · intro Q f' w' ρ S ho hT hS
            obtain ⟨hv5, hr5⟩ := (hT 5 85 rfl rfl : (Is (.bool true)) (f' 85) (ρ 5))
            obtain ⟨hv6, hr6⟩ := (hT 6 86 rfl rfl : (Is (.agg #[.bool b, .slice pc1 n cc1])) (f' 86) (ρ 6))
            change Sep w (_ ++ ([5, 6, 0, 1, 2, 3, 4].flatMap ρ ++ S)) w' at hS
            simp only [List.flatMap_cons, List.flatMap_nil, List.nil_append, List.cons_append, List.append_nil, hr5, hr6] at hS
            refine .inl ⟨want_on (e := 85) rfl rfl rfl hv5, ocall rfl rfl Try.call30 rfl (args1 (ev (v := .agg #[.bool b, .slice pc1 n cc1]) rfl hv6)) (wzabs ((show Zr _ _ _ _ _ x 1048576 from ⟨_, hS.sl 6 rfl, hex, hn⟩).mono (by omega)) hz14) ?_⟩
            rintro _ w9 ⟨_, _, rfl, hTT, hN⟩
            exact ⟨_, rfl, _, _, rfl, hTT, hN⟩
          refine stepsCons rfl ?_ ?_
          · intro Q f' w' ρ S ho hT hS
            obtain ⟨hv5, hr5⟩ := (hT 5 85 rfl rfl : (Is (.bool true)) (f' 85) (ρ 5))
            change Sep w (_ ++ ([5, 0, 1, 2, 3, 4].flatMap ρ ++ S)) w' at hS
            simp only [List.flatMap_cons, List.flatMap_nil, List.nil_append, List.cons_append, List.append_nil, hr5] at hS
            exact .inl ⟨want_on (e := 85) rfl rfl rfl hv5, oload (vs := [.bool b, .slice p n c]) aggZ hS 8 rfl rfl (ev (v := .pointer (some ⟨g1, 0, none⟩)) rfl (ho 3 rfl)) rfl rfl rfl ⟨_, _, rfl, isI, New.same _⟩⟩
          refine stepsCons rfl ?_ ?_
          · intro Q f' w' ρ S ho hT hS
            obtain ⟨hv5, hr5⟩ := (hT 5 85 rfl rfl : (Is (.bool true)) (f' 85) (ρ 5))
            obtain ⟨hv8, hr8⟩ := (hT 8 88 rfl rfl : (Is (.agg #[.bool b, .slice p n c])) (f' 88) (ρ 8))
            change Sep w (_ ++ ([5, 8, 0, 1, 2, 3, 4, 6, 7].flatMap ρ ++ S)) w' at hS
            simp only [List.flatMap_cons, List.flatMap_nil, List.nil_append, List.cons_append, List.append_nil, hr5, hr8] at hS
            refine .inl ⟨want_on (e := 85) rfl rfl rfl hv5, ocall rfl rfl Try.call31 rfl (args1 (ev (v := .agg #[.bool b, .slice p n c]) rfl hv8)) (wqabs ((hzx.at hS).mono (by omega)) hz15) ?_⟩
            rintro _ w9 ⟨_, _, rfl, hTT, hN⟩
            exact ⟨_, rfl, _, _, rfl, hTT, hN⟩
          refine stepsCons rfl ?_ ?_
          · intro Q f' w' ρ S ho hT hS
            obtain ⟨hv5, hr5⟩ := (hT 5 85 rfl rfl : (Is (.bool true)) (f' 85) (ρ 5))
            obtain ⟨p14, n14, c14, hv7, hr7⟩ := (hT 7 87 rfl rfl : (Zt z14) (f' 87) (ρ 7))
            obtain ⟨p15, n15, c15, hv9, hr9⟩ := (hT 9 89 rfl rfl : (Zt z15) (f' 89) (ρ 9))
            change Sep w (_ ++ ([5, 7, 9, 0, 1, 2, 3, 4, 6, 8].flatMap ρ ++ S)) w' at hS
            simp only [List.flatMap_cons, List.flatMap_nil, List.nil_append, List.cons_append, List.append_nil, hr5, hr7, hr9] at hS
            refine .inl ⟨want_on (e := 85) rfl rfl rfl hv5, ocall rfl rfl Try.call13 rfl (args2 (ev (v := .agg #[.bool (ng z14), .slice p14 n14 c14]) rfl hv7) (ev (v := .agg #[.bool (ng z15), .slice p15 n15 c15]) rfl hv9)) (wlsame (x := z14) (y := z15) (hS.sl 9 rfl) (hS.sl 10 rfl) ((hz14.out.symm).trans (hz15.out.symm).symm)) ?_⟩
            rintro _ w9 ⟨_, _, rfl, hTT, hN⟩
            exact ⟨_, rfl, _, _, rfl, hTT, hN⟩
          refine stepsCons rfl ?_ ?_
          · intro Q f' w' ρ S ho hT hS
            obtain ⟨hv5, hr5⟩ := (hT 5 85 rfl rfl : (Is (.bool true)) (f' 85) (ρ 5))
            obtain ⟨hv10, hr10⟩ := (hT 10 90 rfl rfl : (Is (.bool true)) (f' 90) (ρ 10))
            change Sep w (_ ++ ([5, 10, 0, 1, 2, 3, 4, 6, 7, 8, 9].flatMap ρ ++ S)) w' at hS
            simp only [List.flatMap_cons, List.flatMap_nil, List.nil_append, List.cons_append, List.append_nil, hr5, hr10] at hS
            exact .inl ⟨want_none rfl, opick (b := true) (v := .bool true) rfl rfl (ev (v := .bool true) rfl hv5) (ev (v := .bool true) rfl hv10) ⟨_, _, rfl, isI, New.same _⟩⟩
          refine stepsCons rfl ?_ ?_
          · intro Q f' w' ρ S ho hT hS
            obtain ⟨hv11, hr11⟩ := (hT 11 91 rfl rfl : (Is (.bool true)) (f' 91) (ρ 11))
            change Sep w (_ ++ ([11, 0, 1, 2, 3, 4, 5, 6, 7, 8, 9, 10].flatMap ρ ++ S)) w' at hS
            simp only [List.flatMap_cons, List.flatMap_nil, List.nil_append, List.cons_append, List.append_nil, hr11] at hS
            exact .inl ⟨want_none rfl, omove (v := .bool true) rfl rfl (ev (v := .bool true) rfl hv11) ⟨_, _, rfl, isI, New.same _⟩⟩
          refine stepsCons rfl ?_ ?_
          · intro Q f' w' ρ S ho hT hS
            obtain ⟨hv12, hr12⟩ := (hT 12 92 rfl rfl : (Is (.bool true)) (f' 92) (ρ 12))
            change Sep w (_ ++ ([12, 0, 1, 2, 3, 4, 5, 6, 7, 8, 9, 10, 11].flatMap ρ ++ S)) w' at hS
            simp only [List.flatMap_cons, List.flatMap_nil, List.nil_append, List.cons_append, List.append_nil, hr12] at hS
            exact .inl ⟨want_on (e := 92) rfl rfl rfl hv12, oload (vs := [.bool b, .slice pc1 n cc1]) aggZ hS 5 rfl rfl (ev (v := .pointer (some ⟨g6, 0, none⟩)) rfl (ho 7 rfl)) rfl rfl rfl ⟨_, _, rfl, isI, New.same _⟩⟩
          refine stepsCons rfl ?_ ?_
          · intro Q f' w' ρ S ho hT hS
            obtain ⟨hv12, hr12⟩ := (hT 12 92 rfl rfl : (Is (.bool true)) (f' 92) (ρ 12))
            change Sep w (_ ++ ([12, 0, 1, 2, 3, 4, 5, 6, 7, 8, 9, 10, 11].flatMap ρ ++ S)) w' at hS
            simp only [List.flatMap_cons, List.flatMap_nil, List.nil_append, List.cons_append, List.append_nil, hr12] at hS
            exact .inl ⟨want_on (e := 92) rfl rfl rfl hv12, oload (vs := [.bool b, .slice p n c]) aggZ hS 8 rfl rfl (ev (v := .pointer (some ⟨g1, 0, none⟩)) rfl (ho 3 rfl)) rfl rfl rfl ⟨_, _, rfl, isI, New.same _⟩⟩
          refine stepsCons rfl ?_ ?_
          · intro Q f' w' ρ S ho hT hS
            obtain ⟨hv12, hr12⟩ := (hT 12 92 rfl rfl : (Is (.bool true)) (f' 92) (ρ 12))
            obtain ⟨hv13, hr13⟩ := (hT 13 93 rfl rfl : (Is (.agg #[.bool b, .slice pc1 n cc1])) (f' 93) (ρ 13))
            obtain ⟨hv14, hr14⟩ := (hT 14 94 rfl rfl : (Is (.agg #[.bool b, .slice p n c])) (f' 94) (ρ 14))
            change Sep w (_ ++ ([12, 13, 14, 0, 1, 2, 3, 4, 5, 6, 7, 8, 9, 10, 11].flatMap ρ ++ S)) w' at hS
            simp only [List.flatMap_cons, List.flatMap_nil, List.nil_append, List.cons_append, List.append_nil, hr12, hr13, hr14] at hS
            refine .inl ⟨want_on (e := 92) rfl rfl rfl hv12, ocall rfl rfl Try.call13 rfl (args2 (ev (v := .agg #[.bool b, .slice pc1 n cc1]) rfl hv13) (ev (v := .agg #[.bool b, .slice p n c]) rfl hv14)) (wlsameX (hS.sl 6 rfl) (hx.below hS.below (Nat.le_refl _))) ?_⟩
            rintro _ w9 ⟨_, _, rfl, hTT, hN⟩
            exact ⟨_, rfl, _, _, rfl, hTT, hN⟩
          refine stepsCons rfl ?_ ?_
          · intro Q f' w' ρ S ho hT hS
            obtain ⟨hv12, hr12⟩ := (hT 12 92 rfl rfl : (Is (.bool true)) (f' 92) (ρ 12))
            obtain ⟨hv15, hr15⟩ := (hT 15 95 rfl rfl : (Is (.bool true)) (f' 95) (ρ 15))
            change Sep w (_ ++ ([12, 15, 0, 1, 2, 3, 4, 5, 6, 7, 8, 9, 10, 11, 13, 14].flatMap ρ ++ S)) w' at hS
            simp only [List.flatMap_cons, List.flatMap_nil, List.nil_append, List.cons_append, List.append_nil, hr12, hr15] at hS
            exact .inl ⟨want_none rfl, opick (b := true) (v := .bool true) rfl rfl (ev (v := .bool true) rfl hv12) (ev (v := .bool true) rfl hv15) ⟨_, _, rfl, isI, New.same _⟩⟩
          refine stepsCons rfl ?_ ?_
          · intro Q f' w' ρ S ho hT hS
            obtain ⟨hv16, hr16⟩ := (hT 16 96 rfl rfl : (Is (.bool true)) (f' 96) (ρ 16))
            change Sep w (_ ++ ([16, 0, 1, 2, 3, 4, 5, 6, 7, 8, 9, 10, 11, 12, 13, 14, 15].flatMap ρ ++ S)) w' at hS
            simp only [List.flatMap_cons, List.flatMap_nil, List.nil_append, List.cons_append, List.append_nil, hr16] at hS
            exact .inl ⟨want_none rfl, omove (v := .bool true) rfl rfl (ev (v := .bool true) rfl hv16) ⟨_, _, rfl, isI, New.same _⟩⟩
          refine stepsCons rfl ?_ ?_
          · intro Q f' w' ρ S ho hT hS
            obtain ⟨hv17, hr17⟩ := (hT 17 97 rfl rfl : (Is (.bool true)) (f' 97) (ρ 17))
            change Sep w (_ ++ ([17, 0, 1, 2, 3, 4, 5, 6, 7, 8, 9, 10, 11, 12, 13, 14, 15, 16].flatMap ρ ++ S)) w' at hS
            simp only [List.flatMap_cons, List.flatMap_nil, List.nil_append, List.cons_append, List.append_nil, hr17] at hS
            refine .inl ⟨want_on (e := 97) rfl rfl rfl hv17, ocall rfl rfl Try.call19 rfl (args0 ) (wllives) ?_⟩
            rintro _ w9 ⟨_, _, rfl, hTT, hN⟩
            exact ⟨_, rfl, _, _, rfl, hTT, hN⟩
          refine stepsCons rfl ?_ ?_
          · intro Q f' w' ρ S ho hT hS
            obtain ⟨hv17, hr17⟩ := (hT 17 97 rfl rfl : (Is (.bool true)) (f' 97) (ρ 17))
            obtain ⟨hv18, hr18⟩ := (hT 18 98 rfl rfl : (Is (.bool true)) (f' 98) (ρ 18))
            change Sep w (_ ++ ([17, 18, 0, 1, 2, 3, 4, 5, 6, 7, 8, 9, 10, 11, 12, 13, 14, 15, 16].flatMap ρ ++ S)) w' at hS
            simp only [List.flatMap_cons, List.flatMap_nil, List.nil_append, List.cons_append, List.append_nil, hr17, hr18] at hS
            exact .inl ⟨want_none rfl, opick (b := true) (v := .bool true) rfl rfl (ev (v := .bool true) rfl hv17) (ev (v := .bool true) rfl hv18) ⟨_, _, rfl, isI, New.same _⟩⟩
          refine stepsCons rfl ?_ ?_
          · intro Q f' w' ρ S ho hT hS
            obtain ⟨hv19, hr19⟩ := (hT 19 99 rfl rfl : (Is (.bool true)) (f' 99) (ρ 19))
            change Sep w (_ ++ ([19, 0, 1, 2, 3, 4, 5, 6, 7, 8, 9, 10, 11, 12, 13, 14, 15, 16, 17, 18].flatMap ρ ++ S)) w' at hS
            simp only [List.flatMap_cons, List.flatMap_nil, List.nil_append, List.cons_append, List.append_nil, hr19] at hS
            exact .inl ⟨want_none rfl, oassign (v := .bool true) rfl rfl (ev (v := .bool true) rfl hv19) ⟨_, _, rfl, isI, New.same _⟩⟩
          exact stepsNil
        ·
          intro vs ρ w13 f' hf hT hS
          obtain ⟨hv0, hr0⟩ := (hT 0 (by decide) : (Is (.agg #[.bool b, .slice pc1 n cc1])) (vs 0) (ρ 0))
          obtain ⟨p12, n12, c12, hv1, hr1⟩ := (hT 1 (by decide) : (Zt z12) (vs 1) (ρ 1))
          obtain ⟨hv2, hr2⟩ := (hT 2 (by decide) : (Is (.agg #[.bool b, .slice p n c])) (vs 2) (ρ 2))
          obtain ⟨p13, n13, c13, hv3, hr3⟩ := (hT 3 (by decide) : (Zt z13) (vs 3) (ρ 3))
          obtain ⟨hv4, hr4⟩ := (hT 4 (by decide) : (Is (.bool true)) (vs 4) (ρ 4))
          obtain ⟨hv5, hr5⟩ := (hT 5 (by decide) : (Is (.bool true)) (vs 5) (ρ 5))
          obtain ⟨hv6, hr6⟩ := (hT 6 (by decide) : (Is (.agg #[.bool b, .slice pc1 n cc1])) (vs 6) (ρ 6))
          obtain ⟨p14, n14, c14, hv7, hr7⟩ := (hT 7 (by decide) : (Zt z14) (vs 7) (ρ 7))
          obtain ⟨hv8, hr8⟩ := (hT 8 (by decide) : (Is (.agg #[.bool b, .slice p n c])) (vs 8) (ρ 8))
          obtain ⟨p15, n15, c15, hv9, hr9⟩ := (hT 9 (by decide) : (Zt z15) (vs 9) (ρ 9))
          obtain ⟨hv10, hr10⟩ := (hT 10 (by decide) : (Is (.bool true)) (vs 10) (ρ 10))
          obtain ⟨hv11, hr11⟩ := (hT 11 (by decide) : (Is (.bool true)) (vs 11) (ρ 11))
          obtain ⟨hv12, hr12⟩ := (hT 12 (by decide) : (Is (.bool true)) (vs 12) (ρ 12))
          obtain ⟨hv13, hr13⟩ := (hT 13 (by decide) : (Is (.agg #[.bool b, .slice pc1 n cc1])) (vs 13) (ρ 13))
          obtain ⟨hv14, hr14⟩ := (hT 14 (by decide) : (Is (.agg #[.bool b, .slice p n c])) (vs 14) (ρ 14))
          obtain ⟨hv15, hr15⟩ := (hT 15 (by decide) : (Is (.bool true)) (vs 15) (ρ 15))
          obtain ⟨hv16, hr16⟩ := (hT 16 (by decide) : (Is (.bool true)) (vs 16) (ρ 16))
          obtain ⟨hv17, hr17⟩ := (hT 17 (by decide) : (Is (.bool true)) (vs 17) (ρ 17))
          obtain ⟨hv18, hr18⟩ := (hT 18 (by decide) : (Is (.bool true)) (vs 18) (ρ 18))
          obtain ⟨hv19, hr19⟩ := (hT 19 (by decide) : (Is (.bool true)) (vs 19) (ρ 19))
          obtain ⟨hv20, hr20⟩ := (hT 20 (by decide) : (Is (.bool true)) (vs 20) (ρ 20))
          simp only [pool, if_true, hr0, hr1, hr2, hr3, hr4, hr5, hr6, hr7, hr8, hr9, hr10, hr11, hr12, hr13, hr14, hr15, hr16, hr17, hr18, hr19, hr20, List.nil_append, List.cons_append, List.append_nil] at hS
          replace hS : Sep w [.row p15 n15 c15 (lim z15.natAbs), .row p14 n14 c14 (lim z14.natAbs), .row p13 n13 c13 (lim z13.natAbs), .row p12 n12 c12 (lim z12.natAbs), .row p7 n7 c7 (lim nn.natAbs), .row p6 n6 c6 (lim nn.natAbs), .row p5 n5 c5 (lim z5.natAbs), .row p4 n4 c4 (lim z4.natAbs), .row p2 n2 c2 (lim (-9223372036854775808 : Int).natAbs), .blk g6 [.bool b, .slice pc1 n cc1] 25, .row pc1 n cc1 xs, .blk g3 [.bool b2, .slice q m d] 25, .blk g1 [.bool b, .slice p n c] 25] w13 := hS
          simp only [layf, hv0, hv1, hv2, hv3, hv4, hv5, hv6, hv7, hv8, hv9, hv10, hv11, hv12, hv13, hv14, hv15, hv16, hv17, hv18, hv19, hv20] at hf
          subst hf; clear hT hv0 hv1 hv2 hv3 hv4 hv5 hv6 hv7 hv8 hv9 hv10 hv11 hv12 hv13 hv14 hv15 hv16 hv17 hv18 hv19 hv20 hr0 hr1 hr2 hr3 hr4 hr5 hr6 hr7 hr8 hr9 hr10 hr11 hr12 hr13 hr14 hr15 hr16 hr17 hr18 hr19 hr20
          refine wdone rfl ?_
          refine thenN ?_
          refine wleave ?_
          refine wret1 Try.results4 (tellT (v := .bool true) rfl rfl) ?_
          exact ⟨_, _, rfl, isI, hS.new0⟩

set_option maxRecDepth 100000 in
set_option maxHeartbeats 16000000 in
theorem zforms_hi {b b2 : Bool} {p q : Option Addr} {n m c d : Nat} {xs ys : List Nat} {w : World} (hx : Sl w p n c xs) (hy : Sl w q m d ys) (hn : n ≤ 1048576) (hm : m ≤ 1048576) {nn : Int} (hn1 : -9223372036854775808 ≤ nn) (hn2 : nn ≤ 9223372036854775807) (hhi : 9223372036854775807 < zv b (val xs)) :
    Calls Try.prog 4 #[.agg #[.bool b, .slice p n c], .agg #[.bool b2, .slice q m d], .int .i64 nn] w (Ret (Is (.bool true)) w) := by
  obtain ⟨x, hex⟩ : ∃ x : Int, zv b (val xs) = x := ⟨_, rfl⟩
  obtain ⟨y, hey⟩ : ∃ y : Int, zv b2 (val ys) = y := ⟨_, rfl⟩
  have hzx : Zr w b p n c x 1048576 := ⟨xs, hx, hex, hn⟩
  have hzy : Zr w b2 q m d y 1048576 := ⟨ys, hy, hey, hm⟩
  have hS := Sep.init w
  refine went Try.func4 rfl (n := 100) rfl rfl ?_
  refine wseq ?_
  refine wreg ?_
  refine wl rfl (obox [.bool b, .slice p n c] hS rfl rfl (ev (v := .agg #[.bool b, .slice p n c]) rfl rfl) rfl ?_)
  clear hS; intro g1 w2 hS
  refine wl rfl (obox [.bool b2, .slice q m d] hS rfl rfl (ev (v := .agg #[.bool b2, .slice q m d]) rfl rfl) rfl ?_)
  clear hS; intro g3 w4 hS
  refine wl rfl (oassign (v := .bool false) rfl rfl (evc (v := .bool false)) ?_)
  refine wnil ?_
  refine thenN ?_
  refine wseq ?_
  refine wreg ?_
  refine wl rfl (oload (vs := [.bool b, .slice p n c]) aggZ hS 1 rfl rfl (ev (v := .pointer (some ⟨g1, 0, none⟩)) rfl rfl) rfl rfl rfl ?_)
  refine wl rfl (ocall rfl rfl Try.call10 rfl (args1 (ev (v := .agg #[.bool b, .slice p n c]) rfl rfl)) (wqcopy (hx.below hS.below (Nat.le_refl _)) (by omega)) ?_)
  rintro _ w5 ⟨_, _, rfl, ⟨pc1, cc1, rfl, rfl⟩, hN⟩
  refine ⟨_, rfl, ?_⟩
  replace hS : Sep w [.row pc1 n cc1 xs, .blk g3 [.bool b2, .slice q m d] 25, .blk g1 [.bool b, .slice p n c] 25] w5 := hS.news hN; clear hN
  refine wl rfl (oalloc [.bool false, .slice none 0 0] hS rfl rfl Try.zeroValue25 rfl ?_)
  clear hS; intro g6 w7 hS
  refine wl rfl (ostore [.bool b, .slice pc1 n cc1] [.bool b, .slice pc1 n cc1] Try.sizeOf25 hS 0 rfl rfl (ev (v := .pointer (some ⟨g6, 0, none⟩)) rfl rfl) (ev (v := .agg #[.bool b, .slice pc1 n cc1]) rfl rfl) rfl rfl rfl rfl rfl rfl ?_)
  intro w8 hY; clear hS; have hS : Sep w [.blk g6 [.bool b, .slice pc1 n cc1] 25, .row pc1 n cc1 xs, .blk g3 [.bool b2, .slice q m d] 25, .blk g1 [.bool b, .slice p n c] 25] w8 := hY; clear hY
  refine wnil ?_
  refine thenN ?_
  refine wseq ?_
  refine wreg ?_
  refine wl rfl (oload (vs := [.bool b, .slice pc1 n cc1]) aggZ hS 0 rfl rfl (ev (v := .pointer (some ⟨g6, 0, none⟩)) rfl rfl) rfl rfl rfl ?_)
  rw [hex] at hhi
  refine wl rfl (ocall rfl rfl Try.call20 rfl (args1 (ev (v := .agg #[.bool b, .slice pc1 n cc1]) rfl rfl)) (wint64N ((show Zr _ _ _ _ _ x 1048576 from ⟨_, hS.sl 1 rfl, hex, hn⟩).mono (by omega)) (Or.inr hhi)) ?_)
  rintro _ w9 ⟨_, _, rfl, ⟨rfl, rfl⟩, hN⟩
  refine ⟨_, rfl, ?_⟩
  replace hS : Sep w [.blk g6 [.bool b, .slice pc1 n cc1] 25, .row pc1 n cc1 xs, .blk g3 [.bool b2, .slice q m d] 25, .blk g1 [.bool b, .slice p n c] 25] w9 := hS.news hN; clear hN
  refine wl rfl (omove (v := .tuple #[.int .i64 0, .bool false]) rfl rfl (ev (v := .tuple #[.int .i64 0, .bool false]) rfl rfl) ?_)
  refine wl rfl (oextract (vs := [.int .i64 0, .bool false]) (v := .int .i64 0) rfl rfl (ev (v := .tuple #[.int .i64 0, .bool false]) rfl rfl) rfl ?_)
  refine wl rfl (oextract (vs := [.int .i64 0, .bool false]) (v := .bool false) rfl rfl (ev (v := .tuple #[.int .i64 0, .bool false]) rfl rfl) rfl ?_)
  refine wl rfl (oassign (v := .int .i64 0) rfl rfl (ev (v := .int .i64 0) rfl rfl) ?_)
  refine wl rfl (oassign (v := .bool false) rfl rfl (ev (v := .bool false) rfl rfl) ?_)
  refine wnil ?_
  refine thenN ?_
  refine wseq ?_
  have hk2 : Wd (-9223372036854775808) 2 := Wd.i64 (by omega) (by omega)
  obtain ⟨s3, hs3⟩ : ∃ z : Int, Hid (cmpZ x (-9223372036854775808) = z) := ⟨_, rfl⟩
  have hk4 : Wd 9223372036854775807 2 := Wd.i64 (by omega) (by omega)
  obtain ⟨s5, hs5⟩ : ∃ z : Int, Hid (cmpZ x 9223372036854775807 = z) := ⟨_, rfl⟩
  refine wstage 11 [18, 19, 20, 21, 22, 23, 24, 25, 26, 27, 10] [[], [], [0, 1], [2, 0, 1], [3, 0, 1, 2], [4, 0, 1, 2, 3], [4, 0, 1, 2, 3], [4, 5, 6, 0, 1, 2, 3], [4, 7, 0, 1, 2, 3, 5, 6], [4, 8, 0, 1, 2, 3, 5, 6, 7], [9, 0, 1, 2, 3, 4, 5, 6, 7, 8]] [[], [], [], [], [], [], [], [], [], [], []] [] (fun i => ([fun _ => Is (.agg #[.bool b, .slice p n c]), fun _ => Zt (-9223372036854775808), fun _ => Is (.int .i64 s3), fun _ => Is (.bool true), fun _ => Is (.bool true), fun _ => Is (.agg #[.bool b, .slice p n c]), fun _ => Zt 9223372036854775807, fun _ => Is (.int .i64 s5), fun _ => Is (.bool false), fun _ => Is (.bool false), fun _ => Is (.bool false)] : List (List Value → Tell)).getD i (fun _ _ _ => False)) (fun d _ _ _ _ h => (by cases d <;> exact h)) (by kernel_rfl) (by kernel_rfl) (by kernel_rfl) hS ?_ ?_
  ·
    refine stepsCons rfl ?_ ?_
    · intro Q f' w' ρ S ho hT hS
      change Sep w (_ ++ ([].flatMap ρ ++ S)) w' at hS
      simp only [List.flatMap_cons, List.flatMap_nil, List.nil_append, List.cons_append, List.append_nil] at hS
      exact .inl ⟨want_none rfl, oload (vs := [.bool b, .slice p n c]) aggZ hS 3 rfl rfl (ev (v := .pointer (some ⟨g1, 0, none⟩)) rfl (ho 3 rfl)) rfl rfl rfl ⟨_, _, rfl, isI, New.same _⟩⟩
    refine stepsCons rfl ?_ ?_
    · intro Q f' w' ρ S ho hT hS
      change Sep w (_ ++ ([].flatMap ρ ++ S)) w' at hS
      simp only [List.flatMap_cons, List.flatMap_nil, List.nil_append, List.cons_append, List.append_nil] at hS
      refine .inl ⟨want_none rfl, ocall rfl rfl Try.call18 rfl (args1 (evc (v := .int .i64 (-9223372036854775808)))) (wlof (z := -9223372036854775808) (by omega) (by omega)) ?_⟩
      rintro _ w9 ⟨_, _, rfl, hTT, hN⟩
      exact ⟨_, rfl, _, _, rfl, hTT, hN⟩
    refine stepsCons rfl ?_ ?_
    · intro Q f' w' ρ S ho hT hS
      obtain ⟨hv0, hr0⟩ := (hT 0 18 rfl rfl : (Is (.agg #[.bool b, .slice p n c])) (f' 18) (ρ 0))
      obtain ⟨p2, n2, c2, hv1, hr1⟩ := (hT 1 19 rfl rfl : (Zt (-9223372036854775808)) (f' 19) (ρ 1))
      change Sep w (_ ++ ([0, 1].flatMap ρ ++ S)) w' at hS
      simp only [List.flatMap_cons, List.flatMap_nil, List.nil_append, List.cons_append, List.append_nil, hr0, hr1] at hS
      refine .inl ⟨want_none rfl, ocall rfl rfl Try.call21 rfl (args2 (ev (v := .agg #[.bool b, .slice p n c]) rfl hv0) (ev (v := .agg #[.bool (ng (-9223372036854775808)), .slice p2 n2 c2]) rfl hv1)) (wqcmp ((hzx.at hS).mono (by omega)) (((hS.sl 4 rfl).zr hk2).mono (by omega)) hs3) ?_⟩
      rintro _ w9 ⟨_, _, rfl, hTT, hN⟩
      exact ⟨_, rfl, _, _, rfl, hTT, hN⟩
    refine stepsCons rfl ?_ ?_
    · intro Q f' w' ρ S ho hT hS
      obtain ⟨hv2, hr2⟩ := (hT 2 20 rfl rfl : (Is (.int .i64 s3)) (f' 20) (ρ 2))
      change Sep w (_ ++ ([2, 0, 1].flatMap ρ ++ S)) w' at hS
      simp only [List.flatMap_cons, List.flatMap_nil, List.nil_append, List.cons_append, List.append_nil, hr2] at hS
      exact .inl ⟨want_none rfl, obin (u := .int .i64 s3) (v := .int .i64 0) (z := .bool true) rfl rfl (ev (v := .int .i64 s3) rfl hv2) (evc (v := .int .i64 0)) (bin_geq (leT (cmp_ge hs3 (by omega)))) ⟨_, _, rfl, isI, New.same _⟩⟩
    refine stepsCons rfl ?_ ?_
    · intro Q f' w' ρ S ho hT hS
      obtain ⟨hv3, hr3⟩ := (hT 3 21 rfl rfl : (Is (.bool true)) (f' 21) (ρ 3))
      change Sep w (_ ++ ([3, 0, 1, 2].flatMap ρ ++ S)) w' at hS
      simp only [List.flatMap_cons, List.flatMap_nil, List.nil_append, List.cons_append, List.append_nil, hr3] at hS
      exact .inl ⟨want_none rfl, omove (v := .bool true) rfl rfl (ev (v := .bool true) rfl hv3) ⟨_, _, rfl, isI, New.same _⟩⟩
    refine stepsCons rfl ?_ ?_
    · intro Q f' w' ρ S ho hT hS
      obtain ⟨hv4, hr4⟩ := (hT 4 22 rfl rfl : (Is (.bool true)) (f' 22) (ρ 4))
      change Sep w (_ ++ ([4, 0, 1, 2, 3].flatMap ρ ++ S)) w' at hS
      simp only [List.flatMap_cons, List.flatMap_nil, List.nil_append, List.cons_append, List.append_nil, hr4] at hS
      exact .inl ⟨want_on (e := 22) rfl rfl rfl hv4, oload (vs := [.bool b, .slice p n c]) aggZ hS 3 rfl rfl (ev (v := .pointer (some ⟨g1, 0, none⟩)) rfl (ho 3 rfl)) rfl rfl rfl ⟨_, _, rfl, isI, New.same _⟩⟩
    refine stepsCons rfl ?_ ?_
    · intro Q f' w' ρ S ho hT hS
      obtain ⟨hv4, hr4⟩ := (hT 4 22 rfl rfl : (Is (.bool true)) (f' 22) (ρ 4))
      change Sep w (_ ++ ([4, 0, 1, 2, 3].flatMap ρ ++ S)) w' at hS
      simp only [List.flatMap_cons, List.flatMap_nil, List.nil_append, List.cons_append, List.append_nil, hr4] at hS
      refine .inl ⟨want_on (e := 22) rfl rfl rfl hv4, ocall rfl rfl Try.call18 rfl (args1 (evc (v := .int .i64 9223372036854775807))) (wlof (z := 9223372036854775807) (by omega) (by omega)) ?_⟩
      rintro _ w9 ⟨_, _, rfl, hTT, hN⟩
      exact ⟨_, rfl, _, _, rfl, hTT, hN⟩
    refine stepsCons rfl ?_ ?_
    · intro Q f' w' ρ S ho hT hS
      obtain ⟨hv4, hr4⟩ := (hT 4 22 rfl rfl : (Is (.bool true)) (f' 22) (ρ 4))
      obtain ⟨hv5, hr5⟩ := (hT 5 23 rfl rfl : (Is (.agg #[.bool b, .slice p n c])) (f' 23) (ρ 5))
      obtain ⟨p4, n4, c4, hv6, hr6⟩ := (hT 6 24 rfl rfl : (Zt 9223372036854775807) (f' 24) (ρ 6))
      change Sep w (_ ++ ([4, 5, 6, 0, 1, 2, 3].flatMap ρ ++ S)) w' at hS
      simp only [List.flatMap_cons, List.flatMap_nil, List.nil_append, List.cons_append, List.append_nil, hr4, hr5, hr6] at hS
      refine .inl ⟨want_on (e := 22) rfl rfl rfl hv4, ocall rfl rfl Try.call21 rfl (args2 (ev (v := .agg #[.bool b, .slice p n c]) rfl hv5) (ev (v := .agg #[.bool (ng 9223372036854775807), .slice p4 n4 c4]) rfl hv6)) (wqcmp ((hzx.at hS).mono (by omega)) (((hS.sl 4 rfl).zr hk4).mono (by omega)) hs5) ?_⟩
      rintro _ w9 ⟨_, _, rfl, hTT, hN⟩
      exact ⟨_, rfl, _, _, rfl, hTT, hN⟩
    refine stepsCons rfl ?_ ?_
    · intro Q f' w' ρ S ho hT hS
      obtain ⟨hv4, hr4⟩ := (hT 4 22 rfl rfl : (Is (.bool true)) (f' 22) (ρ 4))
      obtain ⟨hv7, hr7⟩ := (hT 7 25 rfl rfl : (Is (.int .i64 s5)) (f' 25) (ρ 7))
      change Sep w (_ ++ ([4, 7, 0, 1, 2, 3, 5, 6].flatMap ρ ++ S)) w' at hS
      simp only [List.flatMap_cons, List.flatMap_nil, List.nil_append, List.cons_append, List.append_nil, hr4, hr7] at hS
      exact .inl ⟨want_on (e := 22) rfl rfl rfl hv4, obin (u := .int .i64 s5) (v := .int .i64 0) (z := .bool false) rfl rfl (ev (v := .int .i64 s5) rfl hv7) (evc (v := .int .i64 0)) (bin_leq (leF (cmp_gt hs5 hhi))) ⟨_, _, rfl, isI, New.same _⟩⟩
    refine stepsCons rfl ?_ ?_
    · intro Q f' w' ρ S ho hT hS
      obtain ⟨hv4, hr4⟩ := (hT 4 22 rfl rfl : (Is (.bool true)) (f' 22) (ρ 4))
      obtain ⟨hv8, hr8⟩ := (hT 8 26 rfl rfl : (Is (.bool false)) (f' 26) (ρ 8))
      change Sep w (_ ++ ([4, 8, 0, 1, 2, 3, 5, 6, 7].flatMap ρ ++ S)) w' at hS
      simp only [List.flatMap_cons, List.flatMap_nil, List.nil_append, List.cons_append, List.append_nil, hr4, hr8] at hS
      exact .inl ⟨want_none rfl, opick (b := true) (v := .bool false) rfl rfl (ev (v := .bool true) rfl hv4) (ev (v := .bool false) rfl hv8) ⟨_, _, rfl, isI, New.same _⟩⟩
    refine stepsCons rfl ?_ ?_
    · intro Q f' w' ρ S ho hT hS
      obtain ⟨hv9, hr9⟩ := (hT 9 27 rfl rfl : (Is (.bool false)) (f' 27) (ρ 9))
      change Sep w (_ ++ ([9, 0, 1, 2, 3, 4, 5, 6, 7, 8].flatMap ρ ++ S)) w' at hS
      simp only [List.flatMap_cons, List.flatMap_nil, List.nil_append, List.cons_append, List.append_nil, hr9] at hS
      exact .inl ⟨want_none rfl, oassign (v := .bool false) rfl rfl (ev (v := .bool false) rfl hv9) ⟨_, _, rfl, isI, New.same _⟩⟩
    exact stepsNil
  ·
    intro vs ρ w10 f' hf hT hS
    obtain ⟨hv0, hr0⟩ := (hT 0 (by decide) : (Is (.agg #[.bool b, .slice p n c])) (vs 0) (ρ 0))
    obtain ⟨p2, n2, c2, hv1, hr1⟩ := (hT 1 (by decide) : (Zt (-9223372036854775808)) (vs 1) (ρ 1))
    obtain ⟨hv2, hr2⟩ := (hT 2 (by decide) : (Is (.int .i64 s3)) (vs 2) (ρ 2))
    obtain ⟨hv3, hr3⟩ := (hT 3 (by decide) : (Is (.bool true)) (vs 3) (ρ 3))
    obtain ⟨hv4, hr4⟩ := (hT 4 (by decide) : (Is (.bool true)) (vs 4) (ρ 4))
    obtain ⟨hv5, hr5⟩ := (hT 5 (by decide) : (Is (.agg #[.bool b, .slice p n c])) (vs 5) (ρ 5))
    obtain ⟨p4, n4, c4, hv6, hr6⟩ := (hT 6 (by decide) : (Zt 9223372036854775807) (vs 6) (ρ 6))
    obtain ⟨hv7, hr7⟩ := (hT 7 (by decide) : (Is (.int .i64 s5)) (vs 7) (ρ 7))
    obtain ⟨hv8, hr8⟩ := (hT 8 (by decide) : (Is (.bool false)) (vs 8) (ρ 8))
    obtain ⟨hv9, hr9⟩ := (hT 9 (by decide) : (Is (.bool false)) (vs 9) (ρ 9))
    obtain ⟨hv10, hr10⟩ := (hT 10 (by decide) : (Is (.bool false)) (vs 10) (ρ 10))
    simp only [pool, if_true, hr0, hr1, hr2, hr3, hr4, hr5, hr6, hr7, hr8, hr9, hr10, List.nil_append, List.cons_append, List.append_nil] at hS
    replace hS : Sep w [.row p4 n4 c4 (lim (9223372036854775807 : Int).natAbs), .row p2 n2 c2 (lim (-9223372036854775808 : Int).natAbs), .blk g6 [.bool b, .slice pc1 n cc1] 25, .row pc1 n cc1 xs, .blk g3 [.bool b2, .slice q m d] 25, .blk g1 [.bool b, .slice p n c] 25] w10 := hS
    simp only [layf, hv0, hv1, hv2, hv3, hv4, hv5, hv6, hv7, hv8, hv9, hv10] at hf
    subst hf; clear hT hv0 hv1 hv2 hv3 hv4 hv5 hv6 hv7 hv8 hv9 hv10 hr0 hr1 hr2 hr3 hr4 hr5 hr6 hr7 hr8 hr9 hr10
    refine wdone rfl ?_
    refine thenN ?_
    refine wseq ?_
    refine wseq ?_
    refine wstage 22 [28, 29, 30, 31, 32, 33, 34, 35, 36, 37, 38, 39, 40, 41, 42, 43, 44, 45, 46, 47, 48, 49] [[], [], [0, 1], [2, 0, 1], [3, 0, 1, 2], [3, 4, 0, 1, 2], [5, 0, 1, 2, 3, 4], [5, 6, 0, 1, 2, 3, 4], [5, 0, 1, 2, 3, 4], [5, 8, 0, 1, 2, 3, 4, 6, 7], [5, 7, 9, 0, 1, 2, 3, 4, 6, 8], [5, 10, 0, 1, 2, 3, 4, 6, 7, 8, 9], [3, 5, 11, 0, 1, 2, 4, 6, 7, 8, 9, 10], [3, 12, 0, 1, 2, 4, 5, 6, 7, 8, 9, 10, 11], [13, 0, 1, 2, 3, 4, 5, 6, 7, 8, 9, 10, 11, 12], [14, 0, 1, 2, 3, 4, 5, 6, 7, 8, 9, 10, 11, 12, 13], [14, 15, 0, 1, 2, 3, 4, 5, 6, 7, 8, 9, 10, 11, 12, 13], [14, 16, 0, 1, 2, 3, 4, 5, 6, 7, 8, 9, 10, 11, 12, 13, 15], [17, 0, 1, 2, 3, 4, 5, 6, 7, 8, 9, 10, 11, 12, 13, 14, 15, 16], [17, 18, 0, 1, 2, 3, 4, 5, 6, 7, 8, 9, 10, 11, 12, 13, 14, 15, 16], [14, 17, 19, 0, 1, 2, 3, 4, 5, 6, 7, 8, 9, 10, 11, 12, 13, 15, 16, 18], [14, 20, 0, 1, 2, 3, 4, 5, 6, 7, 8, 9, 10, 11, 12, 13, 15, 16, 17, 18, 19]] [[], [], [], [], [], [], [], [], [], [], [], [], [], [], [], [], [], [], [], [], [], []] [] (fun i => ([fun _ => Is (.bool false), fun _ => Is (.bool false), fun _ => Is (.bool false), fun _ => Is (.bool false), fun _ => Is (.bool false), fun _ => Is (.bool false), fun _ => Is undef, fun _ => Is undef, fun _ => Is undef, fun _ => Is undef, fun _ => Is undef, fun _ => Is undef, fun _ => Is (.bool false), fun _ => Is (.bool false), fun _ => Is (.bool false), fun _ => Is (.bool false), fun _ => Is (.bool true), fun _ => Is (.bool true), fun _ => Is (.int .i64 0), fun _ => Is (.bool false), fun _ => Is (.bool false), fun _ => Is (.bool false)] : List (List Value → Tell)).getD i (fun _ _ _ => False)) (fun d _ _ _ _ h => (by cases d <;> exact h)) (by kernel_rfl) (by kernel_rfl) (by kernel_rfl) hS ?_ ?_
    ·
      refine stepsCons rfl ?_ ?_
      · intro Q f' w' ρ S ho hT hS
        change Sep w (_ ++ ([].flatMap ρ ++ S)) w' at hS
        simp only [List.flatMap_cons, List.flatMap_nil, List.nil_append, List.cons_append, List.append_nil] at hS
        exact .inl ⟨want_none rfl, omove (v := .bool false) rfl rfl (ev (v := .bool false) rfl (ho 9 rfl)) ⟨_, _, rfl, isI, New.same _⟩⟩
      refine stepsCons rfl ?_ ?_
      · intro Q f' w' ρ S ho hT hS
        change Sep w (_ ++ ([].flatMap ρ ++ S)) w' at hS
        simp only [List.flatMap_cons, List.flatMap_nil, List.nil_append, List.cons_append, List.append_nil] at hS
        exact .inl ⟨want_none rfl, omove (v := .bool false) rfl rfl (ev (v := .bool false) rfl (ho 10 rfl)) ⟨_, _, rfl, isI, New.same _⟩⟩
      refine stepsCons rfl ?_ ?_
      · intro Q f' w' ρ S ho hT hS
        obtain ⟨hv0, hr0⟩ := (hT 0 28 rfl rfl : (Is (.bool false)) (f' 28) (ρ 0))
        obtain ⟨hv1, hr1⟩ := (hT 1 29 rfl rfl : (Is (.bool false)) (f' 29) (ρ 1))
        change Sep w (_ ++ ([0, 1].flatMap ρ ++ S)) w' at hS
        simp only [List.flatMap_cons, List.flatMap_nil, List.nil_append, List.cons_append, List.append_nil, hr0, hr1] at hS
        exact .inl ⟨want_none rfl, obin (u := .bool false) (v := .bool false) (z := .bool false) rfl rfl (ev (v := .bool false) rfl hv0) (ev (v := .bool false) rfl hv1) (bin_neqB Try.underlying4 (rfl)) ⟨_, _, rfl, isI, New.same _⟩⟩
      refine stepsCons rfl ?_ ?_
      · intro Q f' w' ρ S ho hT hS
        obtain ⟨hv2, hr2⟩ := (hT 2 30 rfl rfl : (Is (.bool false)) (f' 30) (ρ 2))
        change Sep w (_ ++ ([2, 0, 1].flatMap ρ ++ S)) w' at hS
        simp only [List.flatMap_cons, List.flatMap_nil, List.nil_append, List.cons_append, List.append_nil, hr2] at hS
        exact .inl ⟨want_none rfl, omove (v := .bool false) rfl rfl (ev (v := .bool false) rfl hv2) ⟨_, _, rfl, isI, New.same _⟩⟩
      refine stepsCons rfl ?_ ?_
      · intro Q f' w' ρ S ho hT hS
        obtain ⟨hv3, hr3⟩ := (hT 3 31 rfl rfl : (Is (.bool false)) (f' 31) (ρ 3))
        change Sep w (_ ++ ([3, 0, 1, 2].flatMap ρ ++ S)) w' at hS
        simp only [List.flatMap_cons, List.flatMap_nil, List.nil_append, List.cons_append, List.append_nil, hr3] at hS
        exact .inl ⟨want_on (e := 31) rfl rfl rfl hv3, omove (v := .bool false) rfl rfl (ev (v := .bool false) rfl (ho 9 rfl)) ⟨_, _, rfl, isI, New.same _⟩⟩
      refine stepsCons rfl ?_ ?_
      · intro Q f' w' ρ S ho hT hS
        obtain ⟨hv3, hr3⟩ := (hT 3 31 rfl rfl : (Is (.bool false)) (f' 31) (ρ 3))
        obtain ⟨hv4, hr4⟩ := (hT 4 32 rfl rfl : (Is (.bool false)) (f' 32) (ρ 4))
        change Sep w (_ ++ ([3, 4, 0, 1, 2].flatMap ρ ++ S)) w' at hS
        simp only [List.flatMap_cons, List.flatMap_nil, List.nil_append, List.cons_append, List.append_nil, hr3, hr4] at hS
        exact .inl ⟨want_on (e := 31) rfl rfl rfl hv3, omove (v := .bool false) rfl rfl (ev (v := .bool false) rfl hv4) ⟨_, _, rfl, isI, New.same _⟩⟩
      refine stepsCons rfl ?_ ?_
      · intro Q f' w' ρ S ho hT hS
        obtain ⟨hv5, hr5⟩ := (hT 5 33 rfl rfl : (Is (.bool false)) (f' 33) (ρ 5))
        change Sep w (_ ++ ([5, 0, 1, 2, 3, 4].flatMap ρ ++ S)) w' at hS
        simp only [List.flatMap_cons, List.flatMap_nil, List.nil_append, List.cons_append, List.append_nil, hr5] at hS
        exact .inr ⟨want_off (e := 33) (b' := false) rfl rfl rfl hv5 rfl, isI⟩
      refine stepsCons rfl ?_ ?_
      · intro Q f' w' ρ S ho hT hS
        obtain ⟨hv5, hr5⟩ := (hT 5 33 rfl rfl : (Is (.bool false)) (f' 33) (ρ 5))
        obtain ⟨hv6, hr6⟩ := (hT 6 34 rfl rfl : (Is undef) (f' 34) (ρ 6))
        change Sep w (_ ++ ([5, 6, 0, 1, 2, 3, 4].flatMap ρ ++ S)) w' at hS
        simp only [List.flatMap_cons, List.flatMap_nil, List.nil_append, List.cons_append, List.append_nil, hr5, hr6] at hS
        exact .inr ⟨want_off (e := 33) (b' := false) rfl rfl rfl hv5 rfl, isI⟩
      refine stepsCons rfl ?_ ?_
      · intro Q f' w' ρ S ho hT hS
        obtain ⟨hv5, hr5⟩ := (hT 5 33 rfl rfl : (Is (.bool false)) (f' 33) (ρ 5))
        change Sep w (_ ++ ([5, 0, 1, 2, 3, 4].flatMap ρ ++ S)) w' at hS
        simp only [List.flatMap_cons, List.flatMap_nil, List.nil_append, List.cons_append, List.append_nil, hr5] at hS
        exact .inr ⟨want_off (e := 33) (b' := false) rfl rfl rfl hv5 rfl, isI⟩
      refine stepsCons rfl ?_ ?_
      · intro Q f' w' ρ S ho hT hS
        obtain ⟨hv5, hr5⟩ := (hT 5 33 rfl rfl : (Is (.bool false)) (f' 33) (ρ 5))
        obtain ⟨hv8, hr8⟩ := (hT 8 36 rfl rfl : (Is undef) (f' 36) (ρ 8))
        change Sep w (_ ++ ([5, 8, 0, 1, 2, 3, 4, 6, 7].flatMap ρ ++ S)) w' at hS
        simp only [List.flatMap_cons, List.flatMap_nil, List.nil_append, List.cons_append, List.append_nil, hr5, hr8] at hS
        exact .inr ⟨want_off (e := 33) (b' := false) rfl rfl rfl hv5 rfl, isI⟩
      refine stepsCons rfl ?_ ?_
      · intro Q f' w' ρ S ho hT hS
        obtain ⟨hv5, hr5⟩ := (hT 5 33 rfl rfl : (Is (.bool false)) (f' 33) (ρ 5))
        obtain ⟨hv7, hr7⟩ := (hT 7 35 rfl rfl : (Is undef) (f' 35) (ρ 7))
        obtain ⟨hv9, hr9⟩ := (hT 9 37 rfl rfl : (Is undef) (f' 37) (ρ 9))
        change Sep w (_ ++ ([5, 7, 9, 0, 1, 2, 3, 4, 6, 8].flatMap ρ ++ S)) w' at hS
        simp only [List.flatMap_cons, List.flatMap_nil, List.nil_append, List.cons_append, List.append_nil, hr5, hr7, hr9] at hS
        exact .inr ⟨want_off (e := 33) (b' := false) rfl rfl rfl hv5 rfl, isI⟩
      refine stepsCons rfl ?_ ?_
      · intro Q f' w' ρ S ho hT hS
        obtain ⟨hv5, hr5⟩ := (hT 5 33 rfl rfl : (Is (.bool false)) (f' 33) (ρ 5))
        obtain ⟨hv10, hr10⟩ := (hT 10 38 rfl rfl : (Is undef) (f' 38) (ρ 10))
        change Sep w (_ ++ ([5, 10, 0, 1, 2, 3, 4, 6, 7, 8, 9].flatMap ρ ++ S)) w' at hS
        simp only [List.flatMap_cons, List.flatMap_nil, List.nil_append, List.cons_append, List.append_nil, hr5, hr10] at hS
        exact .inr ⟨want_off (e := 33) (b' := false) rfl rfl rfl hv5 rfl, isI⟩
      refine stepsCons rfl ?_ ?_
      · intro Q f' w' ρ S ho hT hS
        obtain ⟨hv3, hr3⟩ := (hT 3 31 rfl rfl : (Is (.bool false)) (f' 31) (ρ 3))
        obtain ⟨hv5, hr5⟩ := (hT 5 33 rfl rfl : (Is (.bool false)) (f' 33) (ρ 5))
        obtain ⟨hv11, hr11⟩ := (hT 11 39 rfl rfl : (Is undef) (f' 39) (ρ 11))
        change Sep w (_ ++ ([3, 5, 11, 0, 1, 2, 4, 6, 7, 8, 9, 10].flatMap ρ ++ S)) w' at hS
        simp only [List.flatMap_cons, List.flatMap_nil, List.nil_append, List.cons_append, List.append_nil, hr3, hr5, hr11] at hS
        exact .inl ⟨want_on (e := 31) rfl rfl rfl hv3, opick (b := false) (v := .bool false) rfl rfl (ev (v := .bool false) rfl hv5) (evc (v := .bool false)) ⟨_, _, rfl, isI, New.same _⟩⟩
      refine stepsCons rfl ?_ ?_
      · intro Q f' w' ρ S ho hT hS
        obtain ⟨hv3, hr3⟩ := (hT 3 31 rfl rfl : (Is (.bool false)) (f' 31) (ρ 3))
        obtain ⟨hv12, hr12⟩ := (hT 12 40 rfl rfl : (Is (.bool false)) (f' 40) (ρ 12))
        change Sep w (_ ++ ([3, 12, 0, 1, 2, 4, 5, 6, 7, 8, 9, 10, 11].flatMap ρ ++ S)) w' at hS
        simp only [List.flatMap_cons, List.flatMap_nil, List.nil_append, List.cons_append, List.append_nil, hr3, hr12] at hS
        exact .inl ⟨want_none rfl, opick (b := false) (v := .bool false) rfl rfl (ev (v := .bool false) rfl hv3) (ev (v := .bool false) rfl hv12) ⟨_, _, rfl, isI, New.same _⟩⟩
      refine stepsCons rfl ?_ ?_
      · intro Q f' w' ρ S ho hT hS
        obtain ⟨hv13, hr13⟩ := (hT 13 41 rfl rfl : (Is (.bool false)) (f' 41) (ρ 13))
        change Sep w (_ ++ ([13, 0, 1, 2, 3, 4, 5, 6, 7, 8, 9, 10, 11, 12].flatMap ρ ++ S)) w' at hS
        simp only [List.flatMap_cons, List.flatMap_nil, List.nil_append, List.cons_append, List.append_nil, hr13] at hS
        exact .inl ⟨want_none rfl, omove (v := .bool false) rfl rfl (ev (v := .bool false) rfl hv13) ⟨_, _, rfl, isI, New.same _⟩⟩
      refine stepsCons rfl ?_ ?_
      · intro Q f' w' ρ S ho hT hS
        obtain ⟨hv14, hr14⟩ := (hT 14 42 rfl rfl : (Is (.bool false)) (f' 42) (ρ 14))
        change Sep w (_ ++ ([14, 0, 1, 2, 3, 4, 5, 6, 7, 8, 9, 10, 11, 12, 13].flatMap ρ ++ S)) w' at hS
        simp only [List.flatMap_cons, List.flatMap_nil, List.nil_append, List.cons_append, List.append_nil, hr14] at hS
        exact .inl ⟨want_on (e := 42) rfl rfl rfl hv14, omove (v := .bool false) rfl rfl (ev (v := .bool false) rfl (ho 9 rfl)) ⟨_, _, rfl, isI, New.same _⟩⟩
      refine stepsCons rfl ?_ ?_
      · intro Q f' w' ρ S ho hT hS
        obtain ⟨hv14, hr14⟩ := (hT 14 42 rfl rfl : (Is (.bool false)) (f' 42) (ρ 14))
        obtain ⟨hv15, hr15⟩ := (hT 15 43 rfl rfl : (Is (.bool false)) (f' 43) (ρ 15))
        change Sep w (_ ++ ([14, 15, 0, 1, 2, 3, 4, 5, 6, 7, 8, 9, 10, 11, 12, 13].flatMap ρ ++ S)) w' at hS
        simp only [List.flatMap_cons, List.flatMap_nil, List.nil_append, List.cons_append, List.append_nil, hr14, hr15] at hS
        exact .inl ⟨want_on (e := 42) rfl rfl rfl hv14, onot (b := false) rfl rfl (ev (v := .bool false) rfl hv15) ⟨_, _, rfl, isI, New.same _⟩⟩
      refine stepsCons rfl ?_ ?_
      · intro Q f' w' ρ S ho hT hS
        obtain ⟨hv14, hr14⟩ := (hT 14 42 rfl rfl : (Is (.bool false)) (f' 42) (ρ 14))
        obtain ⟨hv16, hr16⟩ := (hT 16 44 rfl rfl : (Is (.bool true)) (f' 44) (ρ 16))
        change Sep w (_ ++ ([14, 16, 0, 1, 2, 3, 4, 5, 6, 7, 8, 9, 10, 11, 12, 13, 15].flatMap ρ ++ S)) w' at hS
        simp only [List.flatMap_cons, List.flatMap_nil, List.nil_append, List.cons_append, List.append_nil, hr14, hr16] at hS
        exact .inl ⟨want_on (e := 42) rfl rfl rfl hv14, omove (v := .bool true) rfl rfl (ev (v := .bool true) rfl hv16) ⟨_, _, rfl, isI, New.same _⟩⟩
      refine stepsCons rfl ?_ ?_
      · intro Q f' w' ρ S ho hT hS
        obtain ⟨hv17, hr17⟩ := (hT 17 45 rfl rfl : (Is (.bool true)) (f' 45) (ρ 17))
        change Sep w (_ ++ ([17, 0, 1, 2, 3, 4, 5, 6, 7, 8, 9, 10, 11, 12, 13, 14, 15, 16].flatMap ρ ++ S)) w' at hS
        simp only [List.flatMap_cons, List.flatMap_nil, List.nil_append, List.cons_append, List.append_nil, hr17] at hS
        exact .inl ⟨want_on (e := 45) rfl rfl rfl hv17, omove (v := .int .i64 0) rfl rfl (ev (v := .int .i64 0) rfl (ho 8 rfl)) ⟨_, _, rfl, isI, New.same _⟩⟩
      refine stepsCons rfl ?_ ?_
      · intro Q f' w' ρ S ho hT hS
        obtain ⟨hv17, hr17⟩ := (hT 17 45 rfl rfl : (Is (.bool true)) (f' 45) (ρ 17))
        obtain ⟨hv18, hr18⟩ := (hT 18 46 rfl rfl : (Is (.int .i64 0)) (f' 46) (ρ 18))
        change Sep w (_ ++ ([17, 18, 0, 1, 2, 3, 4, 5, 6, 7, 8, 9, 10, 11, 12, 13, 14, 15, 16].flatMap ρ ++ S)) w' at hS
        simp only [List.flatMap_cons, List.flatMap_nil, List.nil_append, List.cons_append, List.append_nil, hr17, hr18] at hS
        exact .inl ⟨want_on (e := 45) rfl rfl rfl hv17, obin (u := .int .i64 0) (v := .int .i64 0) (z := .bool false) rfl rfl (ev (v := .int .i64 0) rfl hv18) (evc (v := .int .i64 0)) (bin_neq (by decide)) ⟨_, _, rfl, isI, New.same _⟩⟩
      refine stepsCons rfl ?_ ?_
      · intro Q f' w' ρ S ho hT hS
        obtain ⟨hv14, hr14⟩ := (hT 14 42 rfl rfl : (Is (.bool false)) (f' 42) (ρ 14))
        obtain ⟨hv17, hr17⟩ := (hT 17 45 rfl rfl : (Is (.bool true)) (f' 45) (ρ 17))
        obtain ⟨hv19, hr19⟩ := (hT 19 47 rfl rfl : (Is (.bool false)) (f' 47) (ρ 19))
        change Sep w (_ ++ ([14, 17, 19, 0, 1, 2, 3, 4, 5, 6, 7, 8, 9, 10, 11, 12, 13, 15, 16, 18].flatMap ρ ++ S)) w' at hS
        simp only [List.flatMap_cons, List.flatMap_nil, List.nil_append, List.cons_append, List.append_nil, hr14, hr17, hr19] at hS
        exact .inl ⟨want_on (e := 42) rfl rfl rfl hv14, opick (b := true) (v := .bool false) rfl rfl (ev (v := .bool true) rfl hv17) (ev (v := .bool false) rfl hv19) ⟨_, _, rfl, isI, New.same _⟩⟩
      refine stepsCons rfl ?_ ?_
      · intro Q f' w' ρ S ho hT hS
        obtain ⟨hv14, hr14⟩ := (hT 14 42 rfl rfl : (Is (.bool false)) (f' 42) (ρ 14))
        obtain ⟨hv20, hr20⟩ := (hT 20 48 rfl rfl : (Is (.bool false)) (f' 48) (ρ 20))
        change Sep w (_ ++ ([14, 20, 0, 1, 2, 3, 4, 5, 6, 7, 8, 9, 10, 11, 12, 13, 15, 16, 17, 18, 19].flatMap ρ ++ S)) w' at hS
        simp only [List.flatMap_cons, List.flatMap_nil, List.nil_append, List.cons_append, List.append_nil, hr14, hr20] at hS
        exact .inl ⟨want_none rfl, opick (b := false) (v := .bool false) rfl rfl (ev (v := .bool false) rfl hv14) (ev (v := .bool false) rfl hv20) ⟨_, _, rfl, isI, New.same _⟩⟩
      exact stepsNil
    ·
      intro vs ρ w11 f' hf hT hS
      obtain ⟨hv0, hr0⟩ := (hT 0 (by decide) : (Is (.bool false)) (vs 0) (ρ 0))
      obtain ⟨hv1, hr1⟩ := (hT 1 (by decide) : (Is (.bool false)) (vs 1) (ρ 1))
      obtain ⟨hv2, hr2⟩ := (hT 2 (by decide) : (Is (.bool false)) (vs 2) (ρ 2))
      obtain ⟨hv3, hr3⟩ := (hT 3 (by decide) : (Is (.bool false)) (vs 3) (ρ 3))
      obtain ⟨hv4, hr4⟩ := (hT 4 (by decide) : (Is (.bool false)) (vs 4) (ρ 4))
      obtain ⟨hv5, hr5⟩ := (hT 5 (by decide) : (Is (.bool false)) (vs 5) (ρ 5))
      obtain ⟨hv6, hr6⟩ := (hT 6 (by decide) : (Is undef) (vs 6) (ρ 6))
      obtain ⟨hv7, hr7⟩ := (hT 7 (by decide) : (Is undef) (vs 7) (ρ 7))
      obtain ⟨hv8, hr8⟩ := (hT 8 (by decide) : (Is undef) (vs 8) (ρ 8))
      obtain ⟨hv9, hr9⟩ := (hT 9 (by decide) : (Is undef) (vs 9) (ρ 9))
      obtain ⟨hv10, hr10⟩ := (hT 10 (by decide) : (Is undef) (vs 10) (ρ 10))
      obtain ⟨hv11, hr11⟩ := (hT 11 (by decide) : (Is undef) (vs 11) (ρ 11))
      obtain ⟨hv12, hr12⟩ := (hT 12 (by decide) : (Is (.bool false)) (vs 12) (ρ 12))
      obtain ⟨hv13, hr13⟩ := (hT 13 (by decide) : (Is (.bool false)) (vs 13) (ρ 13))
      obtain ⟨hv14, hr14⟩ := (hT 14 (by decide) : (Is (.bool false)) (vs 14) (ρ 14))
      obtain ⟨hv15, hr15⟩ := (hT 15 (by decide) : (Is (.bool false)) (vs 15) (ρ 15))
      obtain ⟨hv16, hr16⟩ := (hT 16 (by decide) : (Is (.bool true)) (vs 16) (ρ 16))
      obtain ⟨hv17, hr17⟩ := (hT 17 (by decide) : (Is (.bool true)) (vs 17) (ρ 17))
      obtain ⟨hv18, hr18⟩ := (hT 18 (by decide) : (Is (.int .i64 0)) (vs 18) (ρ 18))
      obtain ⟨hv19, hr19⟩ := (hT 19 (by decide) : (Is (.bool false)) (vs 19) (ρ 19))
      obtain ⟨hv20, hr20⟩ := (hT 20 (by decide) : (Is (.bool false)) (vs 20) (ρ 20))
      obtain ⟨hv21, hr21⟩ := (hT 21 (by decide) : (Is (.bool false)) (vs 21) (ρ 21))
      simp only [pool, if_true, hr0, hr1, hr2, hr3, hr4, hr5, hr6, hr7, hr8, hr9, hr10, hr11, hr12, hr13, hr14, hr15, hr16, hr17, hr18, hr19, hr20, hr21, List.nil_append, List.cons_append, List.append_nil] at hS
      replace hS : Sep w [.row p4 n4 c4 (lim (9223372036854775807 : Int).natAbs), .row p2 n2 c2 (lim (-9223372036854775808 : Int).natAbs), .blk g6 [.bool b, .slice pc1 n cc1] 25, .row pc1 n cc1 xs, .blk g3 [.bool b2, .slice q m d] 25, .blk g1 [.bool b, .slice p n c] 25] w11 := hS
      simp only [layf, hv0, hv1, hv2, hv3, hv4, hv5, hv6, hv7, hv8, hv9, hv10, hv11, hv12, hv13, hv14, hv15, hv16, hv17, hv18, hv19, hv20, hv21] at hf
      subst hf; clear hT hv0 hv1 hv2 hv3 hv4 hv5 hv6 hv7 hv8 hv9 hv10 hv11 hv12 hv13 hv14 hv15 hv16 hv17 hv18 hv19 hv20 hv21 hr0 hr1 hr2 hr3 hr4 hr5 hr6 hr7 hr8 hr9 hr10 hr11 hr12 hr13 hr14 hr15 hr16 hr17 hr18 hr19 hr20 hr21
      refine wdone rfl ?_
      refine thenN ?_
      refine wF (ev (v := .bool false) rfl rfl) ?_
      refine wskip ?_
      refine thenN ?_
      refine wseq ?_
      refine wseq ?_
      obtain ⟨z6, hz6⟩ : ∃ z : Int, Hid (x = z) := ⟨_, rfl⟩
      have hk6 : Wd z6 1048576 := Wd.same hzx.wd hz6
      obtain ⟨z7, hz7⟩ : ∃ z : Int, Hid (x = z) := ⟨_, rfl⟩
      have hk7 : Wd z7 1048576 := Wd.same hzx.wd hz7
      have hk8 : Wd nn 2 := Wd.i64 (hn1) (hn2)
      have hk9 : Wd nn 2 := Wd.i64 (hn1) (hn2)
      obtain ⟨s10, hs10⟩ : ∃ z : Int, Hid ((x : Int).sign = z) := ⟨_, rfl⟩
      obtain ⟨s11, hs11⟩ : ∃ z : Int, Hid ((x : Int).sign = z) := ⟨_, rfl⟩
      obtain ⟨s12, hs12⟩ : ∃ z : Int, Hid (cmpZ x y = z) := ⟨_, rfl⟩
      obtain ⟨s13, hs13⟩ : ∃ z : Int, Hid (cmpZ x y = z) := ⟨_, rfl⟩
      refine wstage 30 [50, 51, 52, 53, 54, 55, 56, 57, 58, 59, 60, 61, 62, 63, 64, 65, 66, 67, 68, 69, 70, 71, 72, 73, 74, 75, 76, 77, 78, 79] [[], [0], [], [2, 0, 1], [1, 3, 0, 2], [4, 0, 1, 2, 3], [5, 0, 1, 2, 3, 4], [6, 0, 1, 2, 3, 4, 5], [6, 7, 0, 1, 2, 3, 4, 5], [6, 0, 1, 2, 3, 4, 5], [6, 9, 0, 1, 2, 3, 4, 5, 7, 8], [6, 8, 10, 0, 1, 2, 3, 4, 5, 7, 9], [6, 11, 0, 1, 2, 3, 4, 5, 7, 8, 9, 10], [6, 12, 0, 1, 2, 3, 4, 5, 7, 8, 9, 10, 11], [13, 0, 1, 2, 3, 4, 5, 6, 7, 8, 9, 10, 11, 12], [14, 0, 1, 2, 3, 4, 5, 6, 7, 8, 9, 10, 11, 12, 13], [14, 15, 0, 1, 2, 3, 4, 5, 6, 7, 8, 9, 10, 11, 12, 13], [14, 0, 1, 2, 3, 4, 5, 6, 7, 8, 9, 10, 11, 12, 13], [14, 17, 0, 1, 2, 3, 4, 5, 6, 7, 8, 9, 10, 11, 12, 13, 15, 16], [14, 16, 18, 0, 1, 2, 3, 4, 5, 6, 7, 8, 9, 10, 11, 12, 13, 15, 17], [14, 19, 0, 1, 2, 3, 4, 5, 6, 7, 8, 9, 10, 11, 12, 13, 15, 16, 17, 18], [20, 0, 1, 2, 3, 4, 5, 6, 7, 8, 9, 10, 11, 12, 13, 14, 15, 16, 17, 18, 19], [21, 0, 1, 2, 3, 4, 5, 6, 7, 8, 9, 10, 11, 12, 13, 14, 15, 16, 17, 18, 19, 20], [21, 0, 1, 2, 3, 4, 5, 6, 7, 8, 9, 10, 11, 12, 13, 14, 15, 16, 17, 18, 19, 20], [21, 22, 23, 0, 1, 2, 3, 4, 5, 6, 7, 8, 9, 10, 11, 12, 13, 14, 15, 16, 17, 18, 19, 20], [21, 0, 1, 2, 3, 4, 5, 6, 7, 8, 9, 10, 11, 12, 13, 14, 15, 16, 17, 18, 19, 20], [21, 0, 1, 2, 3, 4, 5, 6, 7, 8, 9, 10, 11, 12, 13, 14, 15, 16, 17, 18, 19, 20], [21, 25, 26, 0, 1, 2, 3, 4, 5, 6, 7, 8, 9, 10, 11, 12, 13, 14, 15, 16, 17, 18, 19, 20, 22, 23, 24], [21, 24, 27, 0, 1, 2, 3, 4, 5, 6, 7, 8, 9, 10, 11, 12, 13, 14, 15, 16, 17, 18, 19, 20, 22, 23, 25, 26], [21, 28, 0, 1, 2, 3, 4, 5, 6, 7, 8, 9, 10, 11, 12, 13, 14, 15, 16, 17, 18, 19, 20, 22, 23, 24, 25, 26, 27]] [[], [], [], [], [], [], [], [], [], [], [], [], [], [], [], [], [], [], [], [], [], [], [], [], [], [], [], [], [], []] [] (fun i => ([fun _ => Is (.agg #[.bool b, .slice pc1 n cc1]), fun _ => Zt z6, fun _ => Is (.agg #[.bool b, .slice p n c]), fun _ => Zt z7, fun _ => Is (.bool true), fun _ => Is (.bool false), fun _ => Is (.bool false), fun _ => Is (.int .i64 nn), fun _ => Zt nn, fun _ => Is (.int .i64 nn), fun _ => Zt nn, fun _ => Is (.bool true), fun _ => Is (.bool false), fun _ => Is (.bool false), fun _ => Is (.bool false), fun _ => Is (.agg #[.bool b, .slice pc1 n cc1]), fun _ => Is (.int .i64 s10), fun _ => Is (.agg #[.bool b, .slice p n c]), fun _ => Is (.int .i64 s11), fun _ => Is (.bool false), fun _ => Is (.bool false), fun _ => Is (.bool false), fun _ => Is (.agg #[.bool b, .slice pc1 n cc1]), fun _ => Is (.agg #[.bool b2, .slice q m d]), fun _ => Is (.int .i64 s12), fun _ => Is (.agg #[.bool b, .slice p n c]), fun _ => Is (.agg #[.bool b2, .slice q m d]), fun _ => Is (.int .i64 s13), fun _ => Is (.bool false), fun _ => Is (.bool false)] : List (List Value → Tell)).getD i (fun _ _ _ => False)) (fun d _ _ _ _ h => (by cases d <;> exact h)) (by kernel_rfl) (by kernel_rfl) (by kernel_rfl) hS ?_ ?_
      ·
        refine stepsCons rfl ?_ ?_
        · intro Q f' w' ρ S ho hT hS
          change Sep w (_ ++ ([].flatMap ρ ++ S)) w' at hS
          simp only [List.flatMap_cons, List.flatMap_nil, List.nil_append, List.cons_append, List.append_nil] at hS
          exact .inl ⟨want_none rfl, oload (vs := [.bool b, .slice pc1 n cc1]) aggZ hS 2 rfl rfl (ev (v := .pointer (some ⟨g6, 0, none⟩)) rfl (ho 7 rfl)) rfl rfl rfl ⟨_, _, rfl, isI, New.same _⟩⟩
        refine stepsCons rfl ?_ ?_
        · intro Q f' w' ρ S ho hT hS
          obtain ⟨hv0, hr0⟩ := (hT 0 50 rfl rfl : (Is (.agg #[.bool b, .slice pc1 n cc1])) (f' 50) (ρ 0))
          change Sep w (_ ++ ([0].flatMap ρ ++ S)) w' at hS
          simp only [List.flatMap_cons, List.flatMap_nil, List.nil_append, List.cons_append, List.append_nil, hr0] at hS
          refine .inl ⟨want_none rfl, ocall rfl rfl Try.call23 rfl (args1 (ev (v := .agg #[.bool b, .slice pc1 n cc1]) rfl hv0)) (wznorm ((show Zr _ _ _ _ _ x 1048576 from ⟨_, hS.sl 3 rfl, hex, hn⟩).mono (by omega)) hz6) ?_⟩
          rintro _ w9 ⟨_, _, rfl, hTT, hN⟩
          exact ⟨_, rfl, _, _, rfl, hTT, hN⟩
        refine stepsCons rfl ?_ ?_
        · intro Q f' w' ρ S ho hT hS
          change Sep w (_ ++ ([].flatMap ρ ++ S)) w' at hS
          simp only [List.flatMap_cons, List.flatMap_nil, List.nil_append, List.cons_append, List.append_nil] at hS
          exact .inl ⟨want_none rfl, oload (vs := [.bool b, .slice p n c]) aggZ hS 5 rfl rfl (ev (v := .pointer (some ⟨g1, 0, none⟩)) rfl (ho 3 rfl)) rfl rfl rfl ⟨_, _, rfl, isI, New.same _⟩⟩
        refine stepsCons rfl ?_ ?_
        · intro Q f' w' ρ S ho hT hS
          obtain ⟨hv2, hr2⟩ := (hT 2 52 rfl rfl : (Is (.agg #[.bool b, .slice p n c])) (f' 52) (ρ 2))
          change Sep w (_ ++ ([2, 0, 1].flatMap ρ ++ S)) w' at hS
          simp only [List.flatMap_cons, List.flatMap_nil, List.nil_append, List.cons_append, List.append_nil, hr2] at hS
          refine .inl ⟨want_none rfl, ocall rfl rfl Try.call22 rfl (args1 (ev (v := .agg #[.bool b, .slice p n c]) rfl hv2)) (wqnorm ((hzx.at hS).mono (by omega)) hz7) ?_⟩
          rintro _ w9 ⟨_, _, rfl, hTT, hN⟩
          exact ⟨_, rfl, _, _, rfl, hTT, hN⟩
        refine stepsCons rfl ?_ ?_
        · intro Q f' w' ρ S ho hT hS
          obtain ⟨p6, n6, c6, hv1, hr1⟩ := (hT 1 51 rfl rfl : (Zt z6) (f' 51) (ρ 1))
          obtain ⟨p7, n7, c7, hv3, hr3⟩ := (hT 3 53 rfl rfl : (Zt z7) (f' 53) (ρ 3))
          change Sep w (_ ++ ([1, 3, 0, 2].flatMap ρ ++ S)) w' at hS
          simp only [List.flatMap_cons, List.flatMap_nil, List.nil_append, List.cons_append, List.append_nil, hr1, hr3] at hS
          refine .inl ⟨want_none rfl, ocall rfl rfl Try.call13 rfl (args2 (ev (v := .agg #[.bool (ng z6), .slice p6 n6 c6]) rfl hv1) (ev (v := .agg #[.bool (ng z7), .slice p7 n7 c7]) rfl hv3)) (wlsame (x := z6) (y := z7) (hS.sl 6 rfl) (hS.sl 7 rfl) ((hz6.out.symm).trans (hz7.out.symm).symm)) ?_⟩
          rintro _ w9 ⟨_, _, rfl, hTT, hN⟩
          exact ⟨_, rfl, _, _, rfl, hTT, hN⟩
        refine stepsCons rfl ?_ ?_
        · intro Q f' w' ρ S ho hT hS
          obtain ⟨hv4, hr4⟩ := (hT 4 54 rfl rfl : (Is (.bool true)) (f' 54) (ρ 4))
          change Sep w (_ ++ ([4, 0, 1, 2, 3].flatMap ρ ++ S)) w' at hS
          simp only [List.flatMap_cons, List.flatMap_nil, List.nil_append, List.cons_append, List.append_nil, hr4] at hS
          exact .inl ⟨want_none rfl, onot (b := true) rfl rfl (ev (v := .bool true) rfl hv4) ⟨_, _, rfl, isI, New.same _⟩⟩
        refine stepsCons rfl ?_ ?_
        · intro Q f' w' ρ S ho hT hS
          obtain ⟨hv5, hr5⟩ := (hT 5 55 rfl rfl : (Is (.bool false)) (f' 55) (ρ 5))
          change Sep w (_ ++ ([5, 0, 1, 2, 3, 4].flatMap ρ ++ S)) w' at hS
          simp only [List.flatMap_cons, List.flatMap_nil, List.nil_append, List.cons_append, List.append_nil, hr5] at hS
          exact .inl ⟨want_none rfl, omove (v := .bool false) rfl rfl (ev (v := .bool false) rfl hv5) ⟨_, _, rfl, isI, New.same _⟩⟩
        refine stepsCons rfl ?_ ?_
        · intro Q f' w' ρ S ho hT hS
          obtain ⟨hv6, hr6⟩ := (hT 6 56 rfl rfl : (Is (.bool false)) (f' 56) (ρ 6))
          change Sep w (_ ++ ([6, 0, 1, 2, 3, 4, 5].flatMap ρ ++ S)) w' at hS
          simp only [List.flatMap_cons, List.flatMap_nil, List.nil_append, List.cons_append, List.append_nil, hr6] at hS
          exact .inl ⟨want_on (e := 56) rfl rfl rfl hv6, omove (v := .int .i64 nn) rfl rfl (ev (v := .int .i64 nn) rfl (ho 2 rfl)) ⟨_, _, rfl, isI, New.same _⟩⟩
        refine stepsCons rfl ?_ ?_
        · intro Q f' w' ρ S ho hT hS
          obtain ⟨hv6, hr6⟩ := (hT 6 56 rfl rfl : (Is (.bool false)) (f' 56) (ρ 6))
          obtain ⟨hv7, hr7⟩ := (hT 7 57 rfl rfl : (Is (.int .i64 nn)) (f' 57) (ρ 7))
          change Sep w (_ ++ ([6, 7, 0, 1, 2, 3, 4, 5].flatMap ρ ++ S)) w' at hS
          simp only [List.flatMap_cons, List.flatMap_nil, List.nil_append, List.cons_append, List.append_nil, hr6, hr7] at hS
          refine .inl ⟨want_on (e := 56) rfl rfl rfl hv6, ocall rfl rfl Try.call24 rfl (args1 (ev (v := .int .i64 nn) rfl hv7)) (wzof (z := nn) (hn1) (hn2)) ?_⟩
          rintro _ w9 ⟨_, _, rfl, hTT, hN⟩
          exact ⟨_, rfl, _, _, rfl, hTT, hN⟩
        refine stepsCons rfl ?_ ?_
        · intro Q f' w' ρ S ho hT hS
          obtain ⟨hv6, hr6⟩ := (hT 6 56 rfl rfl : (Is (.bool false)) (f' 56) (ρ 6))
          change Sep w (_ ++ ([6, 0, 1, 2, 3, 4, 5].flatMap ρ ++ S)) w' at hS
          simp only [List.flatMap_cons, List.flatMap_nil, List.nil_append, List.cons_append, List.append_nil, hr6] at hS
          exact .inl ⟨want_on (e := 56) rfl rfl rfl hv6, omove (v := .int .i64 nn) rfl rfl (ev (v := .int .i64 nn) rfl (ho 2 rfl)) ⟨_, _, rfl, isI, New.same _⟩⟩
        refine stepsCons rfl ?_ ?_
        · intro Q f' w' ρ S ho hT hS
          obtain ⟨hv6, hr6⟩ := (hT 6 56 rfl rfl : (Is (.bool false)) (f' 56) (ρ 6))
          obtain ⟨hv9, hr9⟩ := (hT 9 59 rfl rfl : (Is (.int .i64 nn)) (f' 59) (ρ 9))
          change Sep w (_ ++ ([6, 9, 0, 1, 2, 3, 4, 5, 7, 8].flatMap ρ ++ S)) w' at hS
          simp only [List.flatMap_cons, List.flatMap_nil, List.nil_append, List.cons_append, List.append_nil, hr6, hr9] at hS
          refine .inl ⟨want_on (e := 56) rfl rfl rfl hv6, ocall rfl rfl Try.call18 rfl (args1 (ev (v := .int .i64 nn) rfl hv9)) (wlof (z := nn) (hn1) (hn2)) ?_⟩
          rintro _ w9 ⟨_, _, rfl, hTT, hN⟩
          exact ⟨_, rfl, _, _, rfl, hTT, hN⟩
        refine stepsCons rfl ?_ ?_
        · intro Q f' w' ρ S ho hT hS
          obtain ⟨hv6, hr6⟩ := (hT 6 56 rfl rfl : (Is (.bool false)) (f' 56) (ρ 6))
          obtain ⟨p8, n8, c8, hv8, hr8⟩ := (hT 8 58 rfl rfl : (Zt nn) (f' 58) (ρ 8))
          obtain ⟨p9, n9, c9, hv10, hr10⟩ := (hT 10 60 rfl rfl : (Zt nn) (f' 60) (ρ 10))
          change Sep w (_ ++ ([6, 8, 10, 0, 1, 2, 3, 4, 5, 7, 9].flatMap ρ ++ S)) w' at hS
          simp only [List.flatMap_cons, List.flatMap_nil, List.nil_append, List.cons_append, List.append_nil, hr6, hr8, hr10] at hS
          refine .inl ⟨want_on (e := 56) rfl rfl rfl hv6, ocall rfl rfl Try.call13 rfl (args2 (ev (v := .agg #[.bool (ng nn), .slice p8 n8 c8]) rfl hv8) (ev (v := .agg #[.bool (ng nn), .slice p9 n9 c9]) rfl hv10)) (wlsame (x := nn) (y := nn) (hS.sl 6 rfl) (hS.sl 7 rfl) (rfl)) ?_⟩
          rintro _ w9 ⟨_, _, rfl, hTT, hN⟩
          exact ⟨_, rfl, _, _, rfl, hTT, hN⟩
        refine stepsCons rfl ?_ ?_
        · intro Q f' w' ρ S ho hT hS
          obtain ⟨hv6, hr6⟩ := (hT 6 56 rfl rfl : (Is (.bool false)) (f' 56) (ρ 6))
          obtain ⟨hv11, hr11⟩ := (hT 11 61 rfl rfl : (Is (.bool true)) (f' 61) (ρ 11))
          change Sep w (_ ++ ([6, 11, 0, 1, 2, 3, 4, 5, 7, 8, 9, 10].flatMap ρ ++ S)) w' at hS
          simp only [List.flatMap_cons, List.flatMap_nil, List.nil_append, List.cons_append, List.append_nil, hr6, hr11] at hS
          exact .inl ⟨want_on (e := 56) rfl rfl rfl hv6, onot (b := true) rfl rfl (ev (v := .bool true) rfl hv11) ⟨_, _, rfl, isI, New.same _⟩⟩
        refine stepsCons rfl ?_ ?_
        · intro Q f' w' ρ S ho hT hS
          obtain ⟨hv6, hr6⟩ := (hT 6 56 rfl rfl : (Is (.bool false)) (f' 56) (ρ 6))
          obtain ⟨hv12, hr12⟩ := (hT 12 62 rfl rfl : (Is (.bool false)) (f' 62) (ρ 12))
          change Sep w (_ ++ ([6, 12, 0, 1, 2, 3, 4, 5, 7, 8, 9, 10, 11].flatMap ρ ++ S)) w' at hS
          simp only [List.flatMap_cons, List.flatMap_nil, List.nil_append, List.cons_append, List.append_nil, hr6, hr12] at hS
          exact .inl ⟨want_none rfl, opick (b := false) (v := .bool false) rfl rfl (ev (v := .bool false) rfl hv6) (ev (v := .bool false) rfl hv12) ⟨_, _, rfl, isI, New.same _⟩⟩
        refine stepsCons rfl ?_ ?_
        · intro Q f' w' ρ S ho hT hS
          obtain ⟨hv13, hr13⟩ := (hT 13 63 rfl rfl : (Is (.bool false)) (f' 63) (ρ 13))
          change Sep w (_ ++ ([13, 0, 1, 2, 3, 4, 5, 6, 7, 8, 9, 10, 11, 12].flatMap ρ ++ S)) w' at hS
          simp only [List.flatMap_cons, List.flatMap_nil, List.nil_append, List.cons_append, List.append_nil, hr13] at hS
          exact .inl ⟨want_none rfl, omove (v := .bool false) rfl rfl (ev (v := .bool false) rfl hv13) ⟨_, _, rfl, isI, New.same _⟩⟩
        refine stepsCons rfl ?_ ?_
        · intro Q f' w' ρ S ho hT hS
          obtain ⟨hv14, hr14⟩ := (hT 14 64 rfl rfl : (Is (.bool false)) (f' 64) (ρ 14))
          change Sep w (_ ++ ([14, 0, 1, 2, 3, 4, 5, 6, 7, 8, 9, 10, 11, 12, 13].flatMap ρ ++ S)) w' at hS
          simp only [List.flatMap_cons, List.flatMap_nil, List.nil_append, List.cons_append, List.append_nil, hr14] at hS
          exact .inl ⟨want_on (e := 64) rfl rfl rfl hv14, oload (vs := [.bool b, .slice pc1 n cc1]) aggZ hS 2 rfl rfl (ev (v := .pointer (some ⟨g6, 0, none⟩)) rfl (ho 7 rfl)) rfl rfl rfl ⟨_, _, rfl, isI, New.same _⟩⟩
        refine stepsCons rfl ?_ ?_
        · intro Q f' w' ρ S ho hT hS
          obtain ⟨hv14, hr14⟩ := (hT 14 64 rfl rfl : (Is (.bool false)) (f' 64) (ρ 14))
          obtain ⟨hv15, hr15⟩ := (hT 15 65 rfl rfl : (Is (.agg #[.bool b, .slice pc1 n cc1])) (f' 65) (ρ 15))
          change Sep w (_ ++ ([14, 15, 0, 1, 2, 3, 4, 5, 6, 7, 8, 9, 10, 11, 12, 13].flatMap ρ ++ S)) w' at hS
          simp only [List.flatMap_cons, List.flatMap_nil, List.nil_append, List.cons_append, List.append_nil, hr14, hr15] at hS
          refine .inl ⟨want_on (e := 64) rfl rfl rfl hv14, ocall rfl rfl Try.call25 rfl (args1 (ev (v := .agg #[.bool b, .slice pc1 n cc1]) rfl hv15)) (wzsign ((show Zr _ _ _ _ _ x 1048576 from ⟨_, hS.sl 3 rfl, hex, hn⟩).mono (by omega)) hs10) ?_⟩
          rintro _ w9 ⟨_, _, rfl, hTT, hN⟩
          exact ⟨_, rfl, _, _, rfl, hTT, hN⟩
        refine stepsCons rfl ?_ ?_
        · intro Q f' w' ρ S ho hT hS
          obtain ⟨hv14, hr14⟩ := (hT 14 64 rfl rfl : (Is (.bool false)) (f' 64) (ρ 14))
          change Sep w (_ ++ ([14, 0, 1, 2, 3, 4, 5, 6, 7, 8, 9, 10, 11, 12, 13].flatMap ρ ++ S)) w' at hS
          simp only [List.flatMap_cons, List.flatMap_nil, List.nil_append, List.cons_append, List.append_nil, hr14] at hS
          exact .inl ⟨want_on (e := 64) rfl rfl rfl hv14, oload (vs := [.bool b, .slice p n c]) aggZ hS 5 rfl rfl (ev (v := .pointer (some ⟨g1, 0, none⟩)) rfl (ho 3 rfl)) rfl rfl rfl ⟨_, _, rfl, isI, New.same _⟩⟩
        refine stepsCons rfl ?_ ?_
        · intro Q f' w' ρ S ho hT hS
          obtain ⟨hv14, hr14⟩ := (hT 14 64 rfl rfl : (Is (.bool false)) (f' 64) (ρ 14))
          obtain ⟨hv17, hr17⟩ := (hT 17 67 rfl rfl : (Is (.agg #[.bool b, .slice p n c])) (f' 67) (ρ 17))
          change Sep w (_ ++ ([14, 17, 0, 1, 2, 3, 4, 5, 6, 7, 8, 9, 10, 11, 12, 13, 15, 16].flatMap ρ ++ S)) w' at hS
          simp only [List.flatMap_cons, List.flatMap_nil, List.nil_append, List.cons_append, List.append_nil, hr14, hr17] at hS
          refine .inl ⟨want_on (e := 64) rfl rfl rfl hv14, ocall rfl rfl Try.call26 rfl (args1 (ev (v := .agg #[.bool b, .slice p n c]) rfl hv17)) (wqsign ((hzx.at hS).mono (by omega)) hs11) ?_⟩
          rintro _ w9 ⟨_, _, rfl, hTT, hN⟩
          exact ⟨_, rfl, _, _, rfl, hTT, hN⟩
        refine stepsCons rfl ?_ ?_
        · intro Q f' w' ρ S ho hT hS
          obtain ⟨hv14, hr14⟩ := (hT 14 64 rfl rfl : (Is (.bool false)) (f' 64) (ρ 14))
          obtain ⟨hv16, hr16⟩ := (hT 16 66 rfl rfl : (Is (.int .i64 s10)) (f' 66) (ρ 16))
          obtain ⟨hv18, hr18⟩ := (hT 18 68 rfl rfl : (Is (.int .i64 s11)) (f' 68) (ρ 18))
          change Sep w (_ ++ ([14, 16, 18, 0, 1, 2, 3, 4, 5, 6, 7, 8, 9, 10, 11, 12, 13, 15, 17].flatMap ρ ++ S)) w' at hS
          simp only [List.flatMap_cons, List.flatMap_nil, List.nil_append, List.cons_append, List.append_nil, hr14, hr16, hr18] at hS
          exact .inl ⟨want_on (e := 64) rfl rfl rfl hv14, obin (u := .int .i64 s10) (v := .int .i64 s11) (z := .bool false) rfl rfl (ev (v := .int .i64 s10) rfl hv16) (ev (v := .int .i64 s11) rfl hv18) (bin_neq (neF ((hs10.out.symm).trans (hs11.out.symm).symm))) ⟨_, _, rfl, isI, New.same _⟩⟩
        refine stepsCons rfl ?_ ?_
        · intro Q f' w' ρ S ho hT hS
          obtain ⟨hv14, hr14⟩ := (hT 14 64 rfl rfl : (Is (.bool false)) (f' 64) (ρ 14))
          obtain ⟨hv19, hr19⟩ := (hT 19 69 rfl rfl : (Is (.bool false)) (f' 69) (ρ 19))
          change Sep w (_ ++ ([14, 19, 0, 1, 2, 3, 4, 5, 6, 7, 8, 9, 10, 11, 12, 13, 15, 16, 17, 18].flatMap ρ ++ S)) w' at hS
          simp only [List.flatMap_cons, List.flatMap_nil, List.nil_append, List.cons_append, List.append_nil, hr14, hr19] at hS
          exact .inl ⟨want_none rfl, opick (b := false) (v := .bool false) rfl rfl (ev (v := .bool false) rfl hv14) (ev (v := .bool false) rfl hv19) ⟨_, _, rfl, isI, New.same _⟩⟩
        refine stepsCons rfl ?_ ?_
        · intro Q f' w' ρ S ho hT hS
          obtain ⟨hv20, hr20⟩ := (hT 20 70 rfl rfl : (Is (.bool false)) (f' 70) (ρ 20))
          change Sep w (_ ++ ([20, 0, 1, 2, 3, 4, 5, 6, 7, 8, 9, 10, 11, 12, 13, 14, 15, 16, 17, 18, 19].flatMap ρ ++ S)) w' at hS
          simp only [List.flatMap_cons, List.flatMap_nil, List.nil_append, List.cons_append, List.append_nil, hr20] at hS
          exact .inl ⟨want_none rfl, omove (v := .bool false) rfl rfl (ev (v := .bool false) rfl hv20) ⟨_, _, rfl, isI, New.same _⟩⟩
        refine stepsCons rfl ?_ ?_
        · intro Q f' w' ρ S ho hT hS
          obtain ⟨hv21, hr21⟩ := (hT 21 71 rfl rfl : (Is (.bool false)) (f' 71) (ρ 21))
          change Sep w (_ ++ ([21, 0, 1, 2, 3, 4, 5, 6, 7, 8, 9, 10, 11, 12, 13, 14, 15, 16, 17, 18, 19, 20].flatMap ρ ++ S)) w' at hS
          simp only [List.flatMap_cons, List.flatMap_nil, List.nil_append, List.cons_append, List.append_nil, hr21] at hS
          exact .inl ⟨want_on (e := 71) rfl rfl rfl hv21, oload (vs := [.bool b, .slice pc1 n cc1]) aggZ hS 2 rfl rfl (ev (v := .pointer (some ⟨g6, 0, none⟩)) rfl (ho 7 rfl)) rfl rfl rfl ⟨_, _, rfl, isI, New.same _⟩⟩
        refine stepsCons rfl ?_ ?_
        · intro Q f' w' ρ S ho hT hS
          obtain ⟨hv21, hr21⟩ := (hT 21 71 rfl rfl : (Is (.bool false)) (f' 71) (ρ 21))
          change Sep w (_ ++ ([21, 0, 1, 2, 3, 4, 5, 6, 7, 8, 9, 10, 11, 12, 13, 14, 15, 16, 17, 18, 19, 20].flatMap ρ ++ S)) w' at hS
          simp only [List.flatMap_cons, List.flatMap_nil, List.nil_append, List.cons_append, List.append_nil, hr21] at hS
          exact .inl ⟨want_on (e := 71) rfl rfl rfl hv21, oload (vs := [.bool b2, .slice q m d]) aggZ hS 4 rfl rfl (ev (v := .pointer (some ⟨g3, 0, none⟩)) rfl (ho 4 rfl)) rfl rfl rfl ⟨_, _, rfl, isI, New.same _⟩⟩
        refine stepsCons rfl ?_ ?_
        · intro Q f' w' ρ S ho hT hS
          obtain ⟨hv21, hr21⟩ := (hT 21 71 rfl rfl : (Is (.bool false)) (f' 71) (ρ 21))
          obtain ⟨hv22, hr22⟩ := (hT 22 72 rfl rfl : (Is (.agg #[.bool b, .slice pc1 n cc1])) (f' 72) (ρ 22))
          obtain ⟨hv23, hr23⟩ := (hT 23 73 rfl rfl : (Is (.agg #[.bool b2, .slice q m d])) (f' 73) (ρ 23))
          change Sep w (_ ++ ([21, 22, 23, 0, 1, 2, 3, 4, 5, 6, 7, 8, 9, 10, 11, 12, 13, 14, 15, 16, 17, 18, 19, 20].flatMap ρ ++ S)) w' at hS
          simp only [List.flatMap_cons, List.flatMap_nil, List.nil_append, List.cons_append, List.append_nil, hr21, hr22, hr23] at hS
          refine .inl ⟨want_on (e := 71) rfl rfl rfl hv21, ocall rfl rfl Try.call27 rfl (args2 (ev (v := .agg #[.bool b, .slice pc1 n cc1]) rfl hv22) (ev (v := .agg #[.bool b2, .slice q m d]) rfl hv23)) (wzcmp ((show Zr _ _ _ _ _ x 1048576 from ⟨_, hS.sl 3 rfl, hex, hn⟩).mono (by omega)) ((hzy.at hS).mono (by omega)) hs12) ?_⟩
          rintro _ w9 ⟨_, _, rfl, hTT, hN⟩
          exact ⟨_, rfl, _, _, rfl, hTT, hN⟩
        refine stepsCons rfl ?_ ?_
        · intro Q f' w' ρ S ho hT hS
          obtain ⟨hv21, hr21⟩ := (hT 21 71 rfl rfl : (Is (.bool false)) (f' 71) (ρ 21))
          change Sep w (_ ++ ([21, 0, 1, 2, 3, 4, 5, 6, 7, 8, 9, 10, 11, 12, 13, 14, 15, 16, 17, 18, 19, 20].flatMap ρ ++ S)) w' at hS
          simp only [List.flatMap_cons, List.flatMap_nil, List.nil_append, List.cons_append, List.append_nil, hr21] at hS
          exact .inl ⟨want_on (e := 71) rfl rfl rfl hv21, oload (vs := [.bool b, .slice p n c]) aggZ hS 5 rfl rfl (ev (v := .pointer (some ⟨g1, 0, none⟩)) rfl (ho 3 rfl)) rfl rfl rfl ⟨_, _, rfl, isI, New.same _⟩⟩
        refine stepsCons rfl ?_ ?_
        · intro Q f' w' ρ S ho hT hS
          obtain ⟨hv21, hr21⟩ := (hT 21 71 rfl rfl : (Is (.bool false)) (f' 71) (ρ 21))
          change Sep w (_ ++ ([21, 0, 1, 2, 3, 4, 5, 6, 7, 8, 9, 10, 11, 12, 13, 14, 15, 16, 17, 18, 19, 20].flatMap ρ ++ S)) w' at hS
          simp only [List.flatMap_cons, List.flatMap_nil, List.nil_append, List.cons_append, List.append_nil, hr21] at hS
          exact .inl ⟨want_on (e := 71) rfl rfl rfl hv21, oload (vs := [.bool b2, .slice q m d]) aggZ hS 4 rfl rfl (ev (v := .pointer (some ⟨g3, 0, none⟩)) rfl (ho 4 rfl)) rfl rfl rfl ⟨_, _, rfl, isI, New.same _⟩⟩
        refine stepsCons rfl ?_ ?_
        · intro Q f' w' ρ S ho hT hS
          obtain ⟨hv21, hr21⟩ := (hT 21 71 rfl rfl : (Is (.bool false)) (f' 71) (ρ 21))
          obtain ⟨hv25, hr25⟩ := (hT 25 75 rfl rfl : (Is (.agg #[.bool b, .slice p n c])) (f' 75) (ρ 25))
          obtain ⟨hv26, hr26⟩ := (hT 26 76 rfl rfl : (Is (.agg #[.bool b2, .slice q m d])) (f' 76) (ρ 26))
          change Sep w (_ ++ ([21, 25, 26, 0, 1, 2, 3, 4, 5, 6, 7, 8, 9, 10, 11, 12, 13, 14, 15, 16, 17, 18, 19, 20, 22, 23, 24].flatMap ρ ++ S)) w' at hS
          simp only [List.flatMap_cons, List.flatMap_nil, List.nil_append, List.cons_append, List.append_nil, hr21, hr25, hr26] at hS
          refine .inl ⟨want_on (e := 71) rfl rfl rfl hv21, ocall rfl rfl Try.call21 rfl (args2 (ev (v := .agg #[.bool b, .slice p n c]) rfl hv25) (ev (v := .agg #[.bool b2, .slice q m d]) rfl hv26)) (wqcmp ((hzx.at hS).mono (by omega)) ((hzy.at hS).mono (by omega)) hs13) ?_⟩
          rintro _ w9 ⟨_, _, rfl, hTT, hN⟩
          exact ⟨_, rfl, _, _, rfl, hTT, hN⟩
        refine stepsCons rfl ?_ ?_
        · intro Q f' w' ρ S ho hT hS
          obtain ⟨hv21, hr21⟩ := (hT 21 71 rfl rfl : (Is (.bool false)) (f' 71) (ρ 21))
          obtain ⟨hv24, hr24⟩ := (hT 24 74 rfl rfl : (Is (.int .i64 s12)) (f' 74) (ρ 24))
          obtain ⟨hv27, hr27⟩ := (hT 27 77 rfl rfl : (Is (.int .i64 s13)) (f' 77) (ρ 27))
          change Sep w (_ ++ ([21, 24, 27, 0, 1, 2, 3, 4, 5, 6, 7, 8, 9, 10, 11, 12, 13, 14, 15, 16, 17, 18, 19, 20, 22, 23, 25, 26].flatMap ρ ++ S)) w' at hS
          simp only [List.flatMap_cons, List.flatMap_nil, List.nil_append, List.cons_append, List.append_nil, hr21, hr24, hr27] at hS
          exact .inl ⟨want_on (e := 71) rfl rfl rfl hv21, obin (u := .int .i64 s12) (v := .int .i64 s13) (z := .bool false) rfl rfl (ev (v := .int .i64 s12) rfl hv24) (ev (v := .int .i64 s13) rfl hv27) (bin_neq (neF ((hs12.out.symm).trans (hs13.out.symm).symm))) ⟨_, _, rfl, isI, New.same _⟩⟩
        refine stepsCons rfl ?_ ?_
        · intro Q f' w' ρ S ho hT hS
          obtain ⟨hv21, hr21⟩ := (hT 21 71 rfl rfl : (Is (.bool false)) (f' 71) (ρ 21))
          obtain ⟨hv28, hr28⟩ := (hT 28 78 rfl rfl : (Is (.bool false)) (f' 78) (ρ 28))
          change Sep w (_ ++ ([21, 28, 0, 1, 2, 3, 4, 5, 6, 7, 8, 9, 10, 11, 12, 13, 14, 15, 16, 17, 18, 19, 20, 22, 23, 24, 25, 26, 27].flatMap ρ ++ S)) w' at hS
          simp only [List.flatMap_cons, List.flatMap_nil, List.nil_append, List.cons_append, List.append_nil, hr21, hr28] at hS
          exact .inl ⟨want_none rfl, opick (b := false) (v := .bool false) rfl rfl (ev (v := .bool false) rfl hv21) (ev (v := .bool false) rfl hv28) ⟨_, _, rfl, isI, New.same _⟩⟩
        exact stepsNil
      ·
        intro vs ρ w12 f' hf hT hS
        obtain ⟨hv0, hr0⟩ := (hT 0 (by decide) : (Is (.agg #[.bool b, .slice pc1 n cc1])) (vs 0) (ρ 0))
        obtain ⟨p6, n6, c6, hv1, hr1⟩ := (hT 1 (by decide) : (Zt z6) (vs 1) (ρ 1))
        obtain ⟨hv2, hr2⟩ := (hT 2 (by decide) : (Is (.agg #[.bool b, .slice p n c])) (vs 2) (ρ 2))
        obtain ⟨p7, n7, c7, hv3, hr3⟩ := (hT 3 (by decide) : (Zt z7) (vs 3) (ρ 3))
        obtain ⟨hv4, hr4⟩ := (hT 4 (by decide) : (Is (.bool true)) (vs 4) (ρ 4))
        obtain ⟨hv5, hr5⟩ := (hT 5 (by decide) : (Is (.bool false)) (vs 5) (ρ 5))
        obtain ⟨hv6, hr6⟩ := (hT 6 (by decide) : (Is (.bool false)) (vs 6) (ρ 6))
        obtain ⟨hv7, hr7⟩ := (hT 7 (by decide) : (Is (.int .i64 nn)) (vs 7) (ρ 7))
        obtain ⟨p8, n8, c8, hv8, hr8⟩ := (hT 8 (by decide) : (Zt nn) (vs 8) (ρ 8))
        obtain ⟨hv9, hr9⟩ := (hT 9 (by decide) : (Is (.int .i64 nn)) (vs 9) (ρ 9))
        obtain ⟨p9, n9, c9, hv10, hr10⟩ := (hT 10 (by decide) : (Zt nn) (vs 10) (ρ 10))
        obtain ⟨hv11, hr11⟩ := (hT 11 (by decide) : (Is (.bool true)) (vs 11) (ρ 11))
        obtain ⟨hv12, hr12⟩ := (hT 12 (by decide) : (Is (.bool false)) (vs 12) (ρ 12))
        obtain ⟨hv13, hr13⟩ := (hT 13 (by decide) : (Is (.bool false)) (vs 13) (ρ 13))
        obtain ⟨hv14, hr14⟩ := (hT 14 (by decide) : (Is (.bool false)) (vs 14) (ρ 14))
        obtain ⟨hv15, hr15⟩ := (hT 15 (by decide) : (Is (.agg #[.bool b, .slice pc1 n cc1])) (vs 15) (ρ 15))
        obtain ⟨hv16, hr16⟩ := (hT 16 (by decide) : (Is (.int .i64 s10)) (vs 16) (ρ 16))
        obtain ⟨hv17, hr17⟩ := (hT 17 (by decide) : (Is (.agg #[.bool b, .slice p n c])) (vs 17) (ρ 17))
        obtain ⟨hv18, hr18⟩ := (hT 18 (by decide) : (Is (.int .i64 s11)) (vs 18) (ρ 18))
        obtain ⟨hv19, hr19⟩ := (hT 19 (by decide) : (Is (.bool false)) (vs 19) (ρ 19))
        obtain ⟨hv20, hr20⟩ := (hT 20 (by decide) : (Is (.bool false)) (vs 20) (ρ 20))
        obtain ⟨hv21, hr21⟩ := (hT 21 (by decide) : (Is (.bool false)) (vs 21) (ρ 21))
        obtain ⟨hv22, hr22⟩ := (hT 22 (by decide) : (Is (.agg #[.bool b, .slice pc1 n cc1])) (vs 22) (ρ 22))
        obtain ⟨hv23, hr23⟩ := (hT 23 (by decide) : (Is (.agg #[.bool b2, .slice q m d])) (vs 23) (ρ 23))
        obtain ⟨hv24, hr24⟩ := (hT 24 (by decide) : (Is (.int .i64 s12)) (vs 24) (ρ 24))
        obtain ⟨hv25, hr25⟩ := (hT 25 (by decide) : (Is (.agg #[.bool b, .slice p n c])) (vs 25) (ρ 25))
        obtain ⟨hv26, hr26⟩ := (hT 26 (by decide) : (Is (.agg #[.bool b2, .slice q m d])) (vs 26) (ρ 26))
        obtain ⟨hv27, hr27⟩ := (hT 27 (by decide) : (Is (.int .i64 s13)) (vs 27) (ρ 27))
        obtain ⟨hv28, hr28⟩ := (hT 28 (by decide) : (Is (.bool false)) (vs 28) (ρ 28))
        obtain ⟨hv29, hr29⟩ := (hT 29 (by decide) : (Is (.bool false)) (vs 29) (ρ 29))
        simp only [pool, if_true, hr0, hr1, hr2, hr3, hr4, hr5, hr6, hr7, hr8, hr9, hr10, hr11, hr12, hr13, hr14, hr15, hr16, hr17, hr18, hr19, hr20, hr21, hr22, hr23, hr24, hr25, hr26, hr27, hr28, hr29, List.nil_append, List.cons_append, List.append_nil] at hS
        replace hS : Sep w [.row p9 n9 c9 (lim nn.natAbs), .row p8 n8 c8 (lim nn.natAbs), .row p7 n7 c7 (lim z7.natAbs), .row p6 n6 c6 (lim z6.natAbs), .row p4 n4 c4 (lim (9223372036854775807 : Int).natAbs), .row p2 n2 c2 (lim (-9223372036854775808 : Int).natAbs), .blk g6 [.bool b, .slice pc1 n cc1] 25, .row pc1 n cc1 xs, .blk g3 [.bool b2, .slice q m d] 25, .blk g1 [.bool b, .slice p n c] 25] w12 := hS
        simp only [layf, hv0, hv1, hv2, hv3, hv4, hv5, hv6, hv7, hv8, hv9, hv10, hv11, hv12, hv13, hv14, hv15, hv16, hv17, hv18, hv19, hv20, hv21, hv22, hv23, hv24, hv25, hv26, hv27, hv28, hv29] at hf
        subst hf; clear hT hv0 hv1 hv2 hv3 hv4 hv5 hv6 hv7 hv8 hv9 hv10 hv11 hv12 hv13 hv14 hv15 hv16 hv17 hv18 hv19 hv20 hv21 hv22 hv23 hv24 hv25 hv26 hv27 hv28 hv29 hr0 hr1 hr2 hr3 hr4 hr5 hr6 hr7 hr8 hr9 hr10 hr11 hr12 hr13 hr14 hr15 hr16 hr17 hr18 hr19 hr20 hr21 hr22 hr23 hr24 hr25 hr26 hr27 hr28 hr29
        refine wdone rfl ?_
        refine thenN ?_
        refine wF (ev (v := .bool false) rfl rfl) ?_
        refine wskip ?_
        refine thenN ?_
        refine wseq ?_
        obtain ⟨z14, hz14⟩ : ∃ z : Int, Hid (-x = z) := ⟨_, rfl⟩
        have hk14 : Wd z14 1048576 := Wd.neg hzx.wd hz14
        obtain ⟨z15, hz15⟩ : ∃ z : Int, Hid (-x = z) := ⟨_, rfl⟩
        have hk15 : Wd z15 1048576 := Wd.neg hzx.wd hz15
        obtain ⟨z16, hz16⟩ : ∃ z : Int, Hid ((Int.natAbs x : Int) = z) := ⟨_, rfl⟩
        have hk16 : Wd z16 1048576 := Wd.nabs hzx.wd hz16
        obtain ⟨z17, hz17⟩ : ∃ z : Int, Hid ((Int.natAbs x : Int) = z) := ⟨_, rfl⟩
        have hk17 : Wd z17 1048576 := Wd.nabs hzx.wd hz17
        refine wstage 21 [80, 81, 82, 83, 84, 85, 86, 87, 88, 89, 90, 91, 92, 93, 94, 95, 96, 97, 98, 99, 6] [[], [0], [], [2, 0, 1], [1, 3, 0, 2], [4, 0, 1, 2, 3], [5, 0, 1, 2, 3, 4], [5, 6, 0, 1, 2, 3, 4], [5, 0, 1, 2, 3, 4], [5, 8, 0, 1, 2, 3, 4, 6, 7], [5, 7, 9, 0, 1, 2, 3, 4, 6, 8], [5, 10, 0, 1, 2, 3, 4, 6, 7, 8, 9], [11, 0, 1, 2, 3, 4, 5, 6, 7, 8, 9, 10], [12, 0, 1, 2, 3, 4, 5, 6, 7, 8, 9, 10, 11], [12, 0, 1, 2, 3, 4, 5, 6, 7, 8, 9, 10, 11], [12, 13, 14, 0, 1, 2, 3, 4, 5, 6, 7, 8, 9, 10, 11], [12, 15, 0, 1, 2, 3, 4, 5, 6, 7, 8, 9, 10, 11, 13, 14], [16, 0, 1, 2, 3, 4, 5, 6, 7, 8, 9, 10, 11, 12, 13, 14, 15], [17, 0, 1, 2, 3, 4, 5, 6, 7, 8, 9, 10, 11, 12, 13, 14, 15, 16], [17, 18, 0, 1, 2, 3, 4, 5, 6, 7, 8, 9, 10, 11, 12, 13, 14, 15, 16], [19, 0, 1, 2, 3, 4, 5, 6, 7, 8, 9, 10, 11, 12, 13, 14, 15, 16, 17, 18]] [[], [], [], [], [], [], [], [], [], [], [], [], [], [], [], [], [], [], [], [], []] [] (fun i => ([fun _ => Is (.agg #[.bool b, .slice pc1 n cc1]), fun _ => Zt z14, fun _ => Is (.agg #[.bool b, .slice p n c]), fun _ => Zt z15, fun _ => Is (.bool true), fun _ => Is (.bool true), fun _ => Is (.agg #[.bool b, .slice pc1 n cc1]), fun _ => Zt z16, fun _ => Is (.agg #[.bool b, .slice p n c]), fun _ => Zt z17, fun _ => Is (.bool true), fun _ => Is (.bool true), fun _ => Is (.bool true), fun _ => Is (.agg #[.bool b, .slice pc1 n cc1]), fun _ => Is (.agg #[.bool b, .slice p n c]), fun _ => Is (.bool true), fun _ => Is (.bool true), fun _ => Is (.bool true), fun _ => Is (.bool true), fun _ => Is (.bool true), fun _ => Is (.bool true)] : List (List Value → Tell)).getD i (fun _ _ _ => False)) (fun d _ _ _ _ h => (by cases d <;> exact h)) (by kernel_rfl) (by kernel_rfl) (by kernel_rfl) hS ?_ ?_
        ·
          refine stepsCons rfl ?_ ?_
          · intro Q f' w' ρ S ho hT hS
            change Sep w (_ ++ ([].flatMap ρ ++ S)) w' at hS
            simp only [List.flatMap_cons, List.flatMap_nil, List.nil_append, List.cons_append, List.append_nil] at hS
            exact .inl ⟨want_none rfl, oload (vs := [.bool b, .slice pc1 n cc1]) aggZ hS 6 rfl rfl (ev (v := .pointer (some ⟨g6, 0, none⟩)) rfl (ho 7 rfl)) rfl rfl rfl ⟨_, _, rfl, isI, New.same _⟩⟩
          refine stepsCons rfl ?_ ?_
          · intro Q f' w' ρ S ho hT hS
            obtain ⟨hv0, hr0⟩ := (hT 0 80 rfl rfl : (Is (.agg #[.bool b, .slice pc1 n cc1])) (f' 80) (ρ 0))
            change Sep w (_ ++ ([0].flatMap ρ ++ S)) w' at hS
            simp only [List.flatMap_cons, List.flatMap_nil, List.nil_append, List.cons_append, List.append_nil, hr0] at hS
            refine .inl ⟨want_none rfl, ocall rfl rfl Try.call28 rfl (args1 (ev (v := .agg #[.bool b, .slice pc1 n cc1]) rfl hv0)) (wzneg ((show Zr _ _ _ _ _ x 1048576 from ⟨_, hS.sl 7 rfl, hex, hn⟩).mono (by omega)) hz14) ?_⟩
            rintro _ w9 ⟨_, _, rfl, hTT, hN⟩
            exact ⟨_, rfl, _, _, rfl, hTT, hN⟩
          refine stepsCons rfl ?_ ?_
          · intro Q f' w' ρ S ho hT hS
            change Sep w (_ ++ ([].flatMap ρ ++ S)) w' at hS
            simp only [List.flatMap_cons, List.flatMap_nil, List.nil_append, List.cons_append, List.append_nil] at hS
            exact .inl ⟨want_none rfl, oload (vs := [.bool b, .slice p n c]) aggZ hS 9 rfl rfl (ev (v := .pointer (some ⟨g1, 0, none⟩)) rfl (ho 3 rfl)) rfl rfl rfl ⟨_, _, rfl, isI, New.same _⟩⟩
          refine stepsCons rfl ?_ ?_
          · intro Q f' w' ρ S ho hT hS
            obtain ⟨hv2, hr2⟩ := (hT 2 82 rfl rfl : (Is (.agg #[.bool b, .slice p n c])) (f' 82) (ρ 2))
            change Sep w (_ ++ ([2, 0, 1].flatMap ρ ++ S)) w' at hS
            simp only [List.flatMap_cons, List.flatMap_nil, List.nil_append, List.cons_append, List.append_nil, hr2] at hS
            refine .inl ⟨want_none rfl, ocall rfl rfl Try.call29 rfl (args1 (ev (v := .agg #[.bool b, .slice p n c]) rfl hv2)) (wqneg ((hzx.at hS).mono (by omega)) hz15) ?_⟩
            rintro _ w9 ⟨_, _, rfl, hTT, hN⟩
            exact ⟨_, rfl, _, _, rfl, hTT, hN⟩
          refine stepsCons rfl ?_ ?_
          · intro Q f' w' ρ S ho hT hS
            obtain ⟨p14, n14, c14, hv1, hr1⟩ := (hT 1 81 rfl rfl : (Zt z14) (f' 81) (ρ 1))
            obtain ⟨p15, n15, c15, hv3, hr3⟩ := (hT 3 83 rfl rfl : (Zt z15) (f' 83) (ρ 3))
            change Sep w (_ ++ ([1, 3, 0, 2].flatMap ρ ++ S)) w' at hS
            simp only [List.flatMap_cons, List.flatMap_nil, List.nil_append, List.cons_append, List.append_nil, hr1, hr3] at hS
            refine .inl ⟨want_none rfl, ocall rfl rfl Try.call13 rfl (args2 (ev (v := .agg #[.bool (ng z14), .slice p14 n14 c14]) rfl hv1) (ev (v := .agg #[.bool (ng z15), .slice p15 n15 c15]) rfl hv3)) (wlsame (x := z14) (y := z15) (hS.sl 10 rfl) (hS.sl 11 rfl) ((hz14.out.symm).trans (hz15.out.symm).symm)) ?_⟩
            rintro _ w9 ⟨_, _, rfl, hTT, hN⟩
            exact ⟨_, rfl, _, _, rfl, hTT, hN⟩
          refine stepsCons rfl ?_ ?_
          · intro Q f' w' ρ S ho hT hS
            obtain ⟨hv4, hr4⟩ := (hT 4 84 rfl rfl : (Is (.bool true)) (f' 84) (ρ 4))
            change Sep w (_ ++ ([4, 0, 1, 2, 3].flatMap ρ ++ S)) w' at hS
            simp only [List.flatMap_cons, List.flatMap_nil, List.nil_append, List.cons_append, List.append_nil, hr4] at hS
            exact .inl ⟨want_none rfl, omove (v := .bool true) rfl rfl (ev (v := .bool true) rfl hv4) ⟨_, _, rfl, isI, New.same _⟩⟩
          refine stepsCons rfl ?_ ?_
          · intro Q f' w' ρ S ho hT hS
            obtain ⟨hv5, hr5⟩ := (hT 5 85 rfl rfl : (Is (.bool true)) (f' 85) (ρ 5))
            change Sep w (_ ++ ([5, 0, 1, 2, 3, 4].flatMap ρ ++ S)) w' at hS
            simp only [List.flatMap_cons, List.flatMap_nil, List.nil_append, List.cons_append, List.append_nil, hr5] at hS
            exact .inl ⟨want_on (e := 85) rfl rfl rfl hv5, oload (vs := [.bool b, .slice pc1 n cc1]) aggZ hS 6 rfl rfl (ev (v := .pointer (some ⟨g6, 0, none⟩)) rfl (ho 7 rfl)) rfl rfl rfl ⟨_, _, rfl, isI, New.same _⟩⟩
          refine stepsCons rfl ?_ ?_
          · intro Q f' w' ρ S ho hT hS
            obtain ⟨hv5, hr5⟩ := (hT 5 85 rfl rfl : (Is (.bool true)) (f' 85) (ρ 5))
            obtain ⟨hv6, hr6⟩ := (hT 6 86 rfl rfl : (Is (.agg #[.bool b, .slice pc1 n cc1])) (f' 86) (ρ 6))
            change Sep w (_ ++ ([5, 6, 0, 1, 2, 3, 4].flatMap ρ ++ S)) w' at hS
            simp only [List.flatMap_cons, List.flatMap_nil, List.nil_append, List.cons_append, List.append_nil, hr5, hr6] at hS
            refine .inl ⟨want_on (e := 85) rfl rfl rfl hv5, ocall rfl rfl Try.call30 rfl (args1 (ev (v := .agg #[.bool b, .slice pc1 n cc1]) rfl hv6)) (wzabs ((show Zr _ _ _ _ _ x 1048576 from ⟨_, hS.sl 7 rfl, hex, hn⟩).mono (by omega)) hz16) ?_⟩
            rintro _ w9 ⟨_, _, rfl, hTT, hN⟩
            exact ⟨_, rfl, _, _, rfl, hTT, hN⟩
          refine stepsCons rfl ?_ ?_
          · intro Q f' w' ρ S ho hT hS
            obtain ⟨hv5, hr5⟩ := (hT 5 85 rfl rfl : (Is (.bool true)) (f' 85) (ρ 5))
            change Sep w (_ ++ ([5, 0, 1, 2, 3, 4].flatMap ρ ++ S)) w' at hS
            simp only [List.flatMap_cons, List.flatMap_nil, List.nil_append, List.cons_append, List.append_nil, hr5] at hS
            exact .inl ⟨want_on (e := 85) rfl rfl rfl hv5, oload (vs := [.bool b, .slice p n c]) aggZ hS 9 rfl rfl (ev (v := .pointer (some ⟨g1, 0, none⟩)) rfl (ho 3 rfl)) rfl rfl rfl ⟨_, _, rfl, isI, New.same _⟩⟩
          refine stepsCons rfl ?_ ?_
          · intro Q f' w' ρ S ho hT hS
            obtain ⟨hv5, hr5⟩ := (hT 5 85 rfl rfl : (Is (.bool true)) (f' 85) (ρ 5))
            obtain ⟨hv8, hr8⟩ := (hT 8 88 rfl rfl : (Is (.agg #[.bool b, .slice p n c])) (f' 88) (ρ 8))
            change Sep w (_ ++ ([5, 8, 0, 1, 2, 3, 4, 6, 7].flatMap ρ ++ S)) w' at hS
            simp only [List.flatMap_cons, List.flatMap_nil, List.nil_append, List.cons_append, List.append_nil, hr5, hr8] at hS
            refine .inl ⟨want_on (e := 85) rfl rfl rfl hv5, ocall rfl rfl Try.call31 rfl (args1 (ev (v := .agg #[.bool b, .slice p n c]) rfl hv8)) (wqabs ((hzx.at hS).mono (by omega)) hz17) ?_⟩
            rintro _ w9 ⟨_, _, rfl, hTT, hN⟩
            exact ⟨_, rfl, _, _, rfl, hTT, hN⟩
          refine stepsCons rfl ?_ ?_
          · intro Q f' w' ρ S ho hT hS
            obtain ⟨hv5, hr5⟩ := (hT 5 85 rfl rfl : (Is (.bool true)) (f' 85) (ρ 5))
            obtain ⟨p16, n16, c16, hv7, hr7⟩ := (hT 7 87 rfl rfl : (Zt z16) (f' 87) (ρ 7))
            obtain ⟨p17, n17, c17, hv9, hr9⟩ := (hT 9 89 rfl rfl : (Zt z17) (f' 89) (ρ 9))
            change Sep w (_ ++ ([5, 7, 9, 0, 1, 2, 3, 4, 6, 8].flatMap ρ ++ S)) w' at hS
            simp only [List.flatMap_cons, List.flatMap_nil, List.nil_append, List.cons_append, List.append_nil, hr5, hr7, hr9] at hS
            refine .inl ⟨want_on (e := 85) rfl rfl rfl hv5, ocall rfl rfl Try.call13 rfl (args2 (ev (v := .agg #[.bool (ng z16), .slice p16 n16 c16]) rfl hv7) (ev (v := .agg #[.bool (ng z17), .slice p17 n17 c17]) rfl hv9)) (wlsame (x := z16) (y := z17) (hS.sl 10 rfl) (hS.sl 11 rfl) ((hz16.out.symm).trans (hz17.out.symm).symm)) ?_⟩
            rintro _ w9 ⟨_, _, rfl, hTT, hN⟩
            exact ⟨_, rfl, _, _, rfl, hTT, hN⟩
          refine stepsCons rfl ?_ ?_
          · intro Q f' w' ρ S ho hT hS
            obtain ⟨hv5, hr5⟩ := (hT 5 85 rfl rfl : (Is (.bool true)) (f' 85) (ρ 5))
            obtain ⟨hv10, hr10⟩ := (hT 10 90 rfl rfl : (Is (.bool true)) (f' 90) (ρ 10))
            change Sep w (_ ++ ([5, 10, 0, 1, 2, 3, 4, 6, 7, 8, 9].flatMap ρ ++ S)) w' at hS
            simp only [List.flatMap_cons, List.flatMap_nil, List.nil_append, List.cons_append, List.append_nil, hr5, hr10] at hS
            exact .inl ⟨want_none rfl, opick (b := true) (v := .bool true) rfl rfl (ev (v := .bool true) rfl hv5) (ev (v := .bool true) rfl hv10) ⟨_, _, rfl, isI, New.same _⟩⟩
          refine stepsCons rfl ?_ ?_
          · intro Q f' w' ρ S ho hT hS
            obtain ⟨hv11, hr11⟩ := (hT 11 91 rfl rfl : (Is (.bool true)) (f' 91) (ρ 11))
            change Sep w (_ ++ ([11, 0, 1, 2, 3, 4, 5, 6, 7, 8, 9, 10].flatMap ρ ++ S)) w' at hS
            simp only [List.flatMap_cons, List.flatMap_nil, List.nil_append, List.cons_append, List.append_nil, hr11] at hS
            exact .inl ⟨want_none rfl, omove (v := .bool true) rfl rfl (ev (v := .bool true) rfl hv11) ⟨_, _, rfl, isI, New.same _⟩⟩
          refine stepsCons rfl ?_ ?_
          · intro Q f' w' ρ S ho hT hS
            obtain ⟨hv12, hr12⟩ := (hT 12 92 rfl rfl : (Is (.bool true)) (f' 92) (ρ 12))
            change Sep w (_ ++ ([12, 0, 1, 2, 3, 4, 5, 6, 7, 8, 9, 10, 11].flatMap ρ ++ S)) w' at hS
            simp only [List.flatMap_cons, List.flatMap_nil, List.nil_append, List.cons_append, List.append_nil, hr12] at hS
            exact .inl ⟨want_on (e := 92) rfl rfl rfl hv12, oload (vs := [.bool b, .slice pc1 n cc1]) aggZ hS 6 rfl rfl (ev (v := .pointer (some ⟨g6, 0, none⟩)) rfl (ho 7 rfl)) rfl rfl rfl ⟨_, _, rfl, isI, New.same _⟩⟩
          refine stepsCons rfl ?_ ?_
          · intro Q f' w' ρ S ho hT hS
            obtain ⟨hv12, hr12⟩ := (hT 12 92 rfl rfl : (Is (.bool true)) (f' 92) (ρ 12))
            change Sep w (_ ++ ([12, 0, 1, 2, 3, 4, 5, 6, 7, 8, 9, 10, 11].flatMap ρ ++ S)) w' at hS
            simp only [List.flatMap_cons, List.flatMap_nil, List.nil_append, List.cons_append, List.append_nil, hr12] at hS
            exact .inl ⟨want_on (e := 92) rfl rfl rfl hv12, oload (vs := [.bool b, .slice p n c]) aggZ hS 9 rfl rfl (ev (v := .pointer (some ⟨g1, 0, none⟩)) rfl (ho 3 rfl)) rfl rfl rfl ⟨_, _, rfl, isI, New.same _⟩⟩
          refine stepsCons rfl ?_ ?_
          · intro Q f' w' ρ S ho hT hS
            obtain ⟨hv12, hr12⟩ := (hT 12 92 rfl rfl : (Is (.bool true)) (f' 92) (ρ 12))
            obtain ⟨hv13, hr13⟩ := (hT 13 93 rfl rfl : (Is (.agg #[.bool b, .slice pc1 n cc1])) (f' 93) (ρ 13))
            obtain ⟨hv14, hr14⟩ := (hT 14 94 rfl rfl : (Is (.agg #[.bool b, .slice p n c])) (f' 94) (ρ 14))
            change Sep w (_ ++ ([12, 13, 14, 0, 1, 2, 3, 4, 5, 6, 7, 8, 9, 10, 11].flatMap ρ ++ S)) w' at hS
            simp only [List.flatMap_cons, List.flatMap_nil, List.nil_append, List.cons_append, List.append_nil, hr12, hr13, hr14] at hS
            refine .inl ⟨want_on (e := 92) rfl rfl rfl hv12, ocall rfl rfl Try.call13 rfl (args2 (ev (v := .agg #[.bool b, .slice pc1 n cc1]) rfl hv13) (ev (v := .agg #[.bool b, .slice p n c]) rfl hv14)) (wlsameX (hS.sl 7 rfl) (hx.below hS.below (Nat.le_refl _))) ?_⟩
            rintro _ w9 ⟨_, _, rfl, hTT, hN⟩
            exact ⟨_, rfl, _, _, rfl, hTT, hN⟩
          refine stepsCons rfl ?_ ?_
          · intro Q f' w' ρ S ho hT hS
            obtain ⟨hv12, hr12⟩ := (hT 12 92 rfl rfl : (Is (.bool true)) (f' 92) (ρ 12))
            obtain ⟨hv15, hr15⟩ := (hT 15 95 rfl rfl : (Is (.bool true)) (f' 95) (ρ 15))
            change Sep w (_ ++ ([12, 15, 0, 1, 2, 3, 4, 5, 6, 7, 8, 9, 10, 11, 13, 14].flatMap ρ ++ S)) w' at hS
            simp only [List.flatMap_cons, List.flatMap_nil, List.nil_append, List.cons_append, List.append_nil, hr12, hr15] at hS
            exact .inl ⟨want_none rfl, opick (b := true) (v := .bool true) rfl rfl (ev (v := .bool true) rfl hv12) (ev (v := .bool true) rfl hv15) ⟨_, _, rfl, isI, New.same _⟩⟩
          refine stepsCons rfl ?_ ?_
          · intro Q f' w' ρ S ho hT hS
            obtain ⟨hv16, hr16⟩ := (hT 16 96 rfl rfl : (Is (.bool true)) (f' 96) (ρ 16))
            change Sep w (_ ++ ([16, 0, 1, 2, 3, 4, 5, 6, 7, 8, 9, 10, 11, 12, 13, 14, 15].flatMap ρ ++ S)) w' at hS
            simp only [List.flatMap_cons, List.flatMap_nil, List.nil_append, List.cons_append, List.append_nil, hr16] at hS
            exact .inl ⟨want_none rfl, omove (v := .bool true) rfl rfl (ev (v := .bool true) rfl hv16) ⟨_, _, rfl, isI, New.same _⟩⟩
          refine stepsCons rfl ?_ ?_
          · intro Q f' w' ρ S ho hT hS
            obtain ⟨hv17, hr17⟩ := (hT 17 97 rfl rfl : (Is (.bool true)) (f' 97) (ρ 17))
            change Sep w (_ ++ ([17, 0, 1, 2, 3, 4, 5, 6, 7, 8, 9, 10, 11, 12, 13, 14, 15, 16].flatMap ρ ++ S)) w' at hS
            simp only [List.flatMap_cons, List.flatMap_nil, List.nil_append, List.cons_append, List.append_nil, hr17] at hS
            refine .inl ⟨want_on (e := 97) rfl rfl rfl hv17, ocall rfl rfl Try.call19 rfl (args0 ) (wllives) ?_⟩
            rintro _ w9 ⟨_, _, rfl, hTT, hN⟩
            exact ⟨_, rfl, _, _, rfl, hTT, hN⟩
          refine stepsCons rfl ?_ ?_
          · intro Q f' w' ρ S ho hT hS
            obtain ⟨hv17, hr17⟩ := (hT 17 97 rfl rfl : (Is (.bool true)) (f' 97) (ρ 17))
            obtain ⟨hv18, hr18⟩ := (hT 18 98 rfl rfl : (Is (.bool true)) (f' 98) (ρ 18))
            change Sep w (_ ++ ([17, 18, 0, 1, 2, 3, 4, 5, 6, 7, 8, 9, 10, 11, 12, 13, 14, 15, 16].flatMap ρ ++ S)) w' at hS
            simp only [List.flatMap_cons, List.flatMap_nil, List.nil_append, List.cons_append, List.append_nil, hr17, hr18] at hS
            exact .inl ⟨want_none rfl, opick (b := true) (v := .bool true) rfl rfl (ev (v := .bool true) rfl hv17) (ev (v := .bool true) rfl hv18) ⟨_, _, rfl, isI, New.same _⟩⟩
          refine stepsCons rfl ?_ ?_
          · intro Q f' w' ρ S ho hT hS
            obtain ⟨hv19, hr19⟩ := (hT 19 99 rfl rfl : (Is (.bool true)) (f' 99) (ρ 19))
            change Sep w (_ ++ ([19, 0, 1, 2, 3, 4, 5, 6, 7, 8, 9, 10, 11, 12, 13, 14, 15, 16, 17, 18].flatMap ρ ++ S)) w' at hS
            simp only [List.flatMap_cons, List.flatMap_nil, List.nil_append, List.cons_append, List.append_nil, hr19] at hS
            exact .inl ⟨want_none rfl, oassign (v := .bool true) rfl rfl (ev (v := .bool true) rfl hv19) ⟨_, _, rfl, isI, New.same _⟩⟩
          exact stepsNil
        ·
          intro vs ρ w13 f' hf hT hS
          obtain ⟨hv0, hr0⟩ := (hT 0 (by decide) : (Is (.agg #[.bool b, .slice pc1 n cc1])) (vs 0) (ρ 0))
          obtain ⟨p14, n14, c14, hv1, hr1⟩ := (hT 1 (by decide) : (Zt z14) (vs 1) (ρ 1))
          obtain ⟨hv2, hr2⟩ := (hT 2 (by decide) : (Is (.agg #[.bool b, .slice p n c])) (vs 2) (ρ 2))
          obtain ⟨p15, n15, c15, hv3, hr3⟩ := (hT 3 (by decide) : (Zt z15) (vs 3) (ρ 3))
          obtain ⟨hv4, hr4⟩ := (hT 4 (by decide) : (Is (.bool true)) (vs 4) (ρ 4))
          obtain ⟨hv5, hr5⟩ := (hT 5 (by decide) : (Is (.bool true)) (vs 5) (ρ 5))
          obtain ⟨hv6, hr6⟩ := (hT 6 (by decide) : (Is (.agg #[.bool b, .slice pc1 n cc1])) (vs 6) (ρ 6))
          obtain ⟨p16, n16, c16, hv7, hr7⟩ := (hT 7 (by decide) : (Zt z16) (vs 7) (ρ 7))
          obtain ⟨hv8, hr8⟩ := (hT 8 (by decide) : (Is (.agg #[.bool b, .slice p n c])) (vs 8) (ρ 8))
          obtain ⟨p17, n17, c17, hv9, hr9⟩ := (hT 9 (by decide) : (Zt z17) (vs 9) (ρ 9))
          obtain ⟨hv10, hr10⟩ := (hT 10 (by decide) : (Is (.bool true)) (vs 10) (ρ 10))
          obtain ⟨hv11, hr11⟩ := (hT 11 (by decide) : (Is (.bool true)) (vs 11) (ρ 11))
          obtain ⟨hv12, hr12⟩ := (hT 12 (by decide) : (Is (.bool true)) (vs 12) (ρ 12))
          obtain ⟨hv13, hr13⟩ := (hT 13 (by decide) : (Is (.agg #[.bool b, .slice pc1 n cc1])) (vs 13) (ρ 13))
          obtain ⟨hv14, hr14⟩ := (hT 14 (by decide) : (Is (.agg #[.bool b, .slice p n c])) (vs 14) (ρ 14))
          obtain ⟨hv15, hr15⟩ := (hT 15 (by decide) : (Is (.bool true)) (vs 15) (ρ 15))
          obtain ⟨hv16, hr16⟩ := (hT 16 (by decide) : (Is (.bool true)) (vs 16) (ρ 16))
          obtain ⟨hv17, hr17⟩ := (hT 17 (by decide) : (Is (.bool true)) (vs 17) (ρ 17))
          obtain ⟨hv18, hr18⟩ := (hT 18 (by decide) : (Is (.bool true)) (vs 18) (ρ 18))
          obtain ⟨hv19, hr19⟩ := (hT 19 (by decide) : (Is (.bool true)) (vs 19) (ρ 19))
          obtain ⟨hv20, hr20⟩ := (hT 20 (by decide) : (Is (.bool true)) (vs 20) (ρ 20))
          simp only [pool, if_true, hr0, hr1, hr2, hr3, hr4, hr5, hr6, hr7, hr8, hr9, hr10, hr11, hr12, hr13, hr14, hr15, hr16, hr17, hr18, hr19, hr20, List.nil_append, List.cons_append, List.append_nil] at hS
          replace hS : Sep w [.row p17 n17 c17 (lim z17.natAbs), .row p16 n16 c16 (lim z16.natAbs), .row p15 n15 c15 (lim z15.natAbs), .row p14 n14 c14 (lim z14.natAbs), .row p9 n9 c9 (lim nn.natAbs), .row p8 n8 c8 (lim nn.natAbs), .row p7 n7 c7 (lim z7.natAbs), .row p6 n6 c6 (lim z6.natAbs), .row p4 n4 c4 (lim (9223372036854775807 : Int).natAbs), .row p2 n2 c2 (lim (-9223372036854775808 : Int).natAbs), .blk g6 [.bool b, .slice pc1 n cc1] 25, .row pc1 n cc1 xs, .blk g3 [.bool b2, .slice q m d] 25, .blk g1 [.bool b, .slice p n c] 25] w13 := hS
          simp only [layf, hv0, hv1, hv2, hv3, hv4, hv5, hv6, hv7, hv8, hv9, hv10, hv11, hv12, hv13, hv14, hv15, hv16, hv17, hv18, hv19, hv20] at hf
          subst hf; clear hT hv0 hv1 hv2 hv3 hv4 hv5 hv6 hv7 hv8 hv9 hv10 hv11 hv12 hv13 hv14 hv15 hv16 hv17 hv18 hv19 hv20 hr0 hr1 hr2 hr3 hr4 hr5 hr6 hr7 hr8 hr9 hr10 hr11 hr12 hr13 hr14 hr15 hr16 hr17 hr18 hr19 hr20
          refine wdone rfl ?_
          refine thenN ?_
          refine wleave ?_
          refine wret1 Try.results4 (tellT (v := .bool true) rfl rfl) ?_
          exact ⟨_, _, rfl, isI, hS.new0⟩

theorem zforms_any {b b2 : Bool} {p q : Option Addr} {n m c d : Nat} {xs ys : List Nat} {w : World} (hx : Sl w p n c xs) (hy : Sl w q m d ys) (hn : n ≤ 1048576) (hm : m ≤ 1048576) {nn : Int} (hn1 : -9223372036854775808 ≤ nn ∧ nn ≤ 9223372036854775807) :
    Calls Try.prog 4 #[.agg #[.bool b, .slice p n c], .agg #[.bool b2, .slice q m d], .int .i64 nn] w (RetB w true) := by
  by_cases h1 : zv b (val xs) < -9223372036854775808
  · exact (zforms_lo hx hy hn hm hn1.1 hn1.2 h1).mono Ret.b
  · by_cases h2 : 9223372036854775807 < zv b (val xs)
    · exact (zforms_hi hx hy hn hm hn1.1 hn1.2 h2).mono Ret.b
    · exact (zforms_in hx hy hn hm hn1.1 hn1.2 (by omega) (by omega)).mono Ret.b

end Go.Proofs.Ytlnilkghbbbhbaa
