
/-
  rat's functions and the document's, as contracts.
-/
import Derived.Test.YtoinfkimlhhmpaaRatOps
import Derived.Test.YtoinfkimlhhmpaaZDiv
set_option linter.unusedVariables false
set_option linter.unusedSimpArgs false
namespace Go.Proofs.Ytoinfkimlhhmpaa
open Go.RowKit

/-- The order of two fractions. -/
def cmpQ (x y u v : Int) : Int := ((x * v - u * y) * (y * v)).sign
set_option maxRecDepth 100000 in
set_option maxHeartbeats 16000000 in
theorem wlfrac {x y : Int} {w : World} (h1 : -9223372036854775808 ≤ x) (h2 : x ≤ 9223372036854775807) (h3 : -9223372036854775808 ≤ y) (h4 : y ≤ 9223372036854775807) :
    Calls Try.prog 61 #[.int .i64 x, .int .i64 y] w (Ret (Rrt x y) w) := by
  have hS := Sep.init w
  refine went Try.func61 rfl (n := 10) rfl rfl ?_
  refine wseq ?_
  refine wreg ?_
  refine wl rfl (oalloc [.bool false, .slice none 0 0, .bool false, .slice none 0 0] hS rfl rfl Try.zeroValue27 rfl ?_)
  clear hS; intro g1 w2 hS
  refine wnil ?_
  refine thenN ?_
  refine wseq ?_
  refine wreg ?_
  refine wl rfl (omove (v := .int .i64 x) rfl rfl (ev (v := .int .i64 x) rfl rfl) ?_)
  have hk1 : Wd x 2 := Wd.i64 (h1) (h2)
  refine wl rfl (ocall rfl rfl Try.call60 rfl ((wqof (z := x) (h1) (h2)).mono Zt.m) (args1 (ev rfl rfl)) ?_)
  rintro _ w3 ⟨_, _, rfl, ⟨p1, n1, c1, rfl, rfl⟩, hN⟩
  refine ⟨_, rfl, ?_⟩
  replace hS := hS.news hN; clear hN
  refine wl rfl (omove (v := .int .i64 y) rfl rfl (ev (v := .int .i64 y) rfl rfl) ?_)
  have hk2 : Wd y 2 := Wd.i64 (h3) (h4)
  refine wl rfl (ocall rfl rfl Try.call60 rfl ((wqof (z := y) (h3) (h4)).mono Zt.m) (args1 (ev rfl rfl)) ?_)
  rintro _ w4 ⟨_, _, rfl, ⟨p2, n2, c2, rfl, rfl⟩, hN⟩
  refine ⟨_, rfl, ?_⟩
  replace hS := hS.news hN; clear hN
  refine wl rfl (obuild (ps := #[(0, .agg #[.bool (ng x), .slice p1 n1 c1]), (1, .agg #[.bool (ng y), .slice p2 n2 c2])]) (v := .agg #[.bool (ng x), .slice p1 n1 c1, .bool (ng y), .slice p2 n2 c2]) rfl rfl (parts2 (ev (v := .agg #[.bool (ng x), .slice p1 n1 c1]) rfl rfl) (ev (v := .agg #[.bool (ng y), .slice p2 n2 c2]) rfl rfl)) (fun w => by simp [go_sem, Instr.build, Instr.fill]) ?_)
  refine wl rfl (ostore [.bool (ng x), .slice p1 n1 c1, .bool (ng y), .slice p2 n2 c2] [.bool (ng x), .slice p1 n1 c1, .bool (ng y), .slice p2 n2 c2] Try.sizeOf27 hS 2 rfl rfl (ev rfl rfl) (ev (v := .agg #[.bool (ng x), .slice p1 n1 c1, .bool (ng y), .slice p2 n2 c2]) rfl rfl) rfl rfl rfl rfl rfl rfl ?_)
  clear hS; intro w5 hS
  refine wnil ?_
  refine thenN ?_
  refine wleave ?_
  refine wret1 Try.results61 (tellC (cs := [.bool (ng x), .slice p1 n1 c1, .bool (ng y), .slice p2 n2 c2]) aggR hS 2 rfl rfl rfl rfl) ?_
  exact ⟨_, _, rfl, ⟨_, _, _, _, _, _, rfl, rfl⟩, hS.newM [1, 0] (by decide) rfl rfl⟩

set_option maxRecDepth 100000 in
set_option maxHeartbeats 16000000 in
theorem wsmul {x y u v z t : Int} {bA bB bC bD : Bool} {qA qB qC qD : Option Addr} {nA kA nB kB nC kC nD kD : Nat} {w : World} (hzA : Zr w bA qA nA kA x 16777216) (hzB : Zr w bB qB nB kB y 16777216) (hzC : Zr w bC qC nC kC u 16777216) (hzD : Zr w bD qD nD kD v 16777216) (hy : y ≠ 0) (hv : v ≠ 0) (hz : Hid (RN (x * u) (y * v) = z)) (ht : Hid (RD (x * u) (y * v) = t)) :
    Calls Try.prog 36 #[.agg #[.bool bA, .slice qA nA kA, .bool bB, .slice qB nB kB], .agg #[.bool bC, .slice qC nC kC, .bool bD, .slice qD nD kD]] w (Ret (Rrt z t) w) := by
  have hS := Sep.init w
  refine went Try.func36 rfl (n := 16) rfl rfl ?_
  refine wseq ?_
  refine wreg ?_
  refine wl rfl (obox [.bool bA, .slice qA nA kA, .bool bB, .slice qB nB kB] hS rfl rfl (ev (v := .agg #[.bool bA, .slice qA nA kA, .bool bB, .slice qB nB kB]) rfl rfl) rfl ?_)
  clear hS; intro g1 w2 hS
  refine wl rfl (obox [.bool bC, .slice qC nC kC, .bool bD, .slice qD nD kD] hS rfl rfl (ev (v := .agg #[.bool bC, .slice qC nC kC, .bool bD, .slice qD nD kD]) rfl rfl) rfl ?_)
  clear hS; intro g3 w4 hS
  refine wl rfl (oalloc [.bool false, .slice none 0 0, .bool false, .slice none 0 0] hS rfl rfl Try.zeroValue27 rfl ?_)
  clear hS; intro g5 w6 hS
  refine wnil ?_
  refine thenN ?_
  refine wseq ?_
  obtain ⟨z1, hz1⟩ : ∃ z : Int, Hid (x * u = z) := ⟨_, rfl⟩
  have hk1 : Wd z1 33554432 := Wd.mul hzA.wd hzC.wd hz1 (by omega)
  obtain ⟨z2, hz2⟩ : ∃ z : Int, Hid (y * v = z) := ⟨_, rfl⟩
  have hk2 : Wd z2 33554432 := Wd.mul hzB.wd hzD.wd hz2 (by omega)
  obtain ⟨z3, hz3⟩ : ∃ z : Int, Hid (RN z1 z2 = z) := ⟨_, rfl⟩
  have hk3 : Wd z3 33554432 := Wd.rn hk1 hz3
  obtain ⟨z4, hz4⟩ : ∃ z : Int, Hid (RD z1 z2 = z) := ⟨_, rfl⟩
  have hk4 : Wd z4 33554432 := Wd.rd hk2 hz4
  refine wstage 11 [5, 6, 7, 8, 9, 10, 11, 12, 13, 14, 15] [[], [0], [], [2], [1, 3, 0, 2], [], [5], [], [7], [6, 8, 0, 1, 2, 3, 4, 5, 7], [4, 9, 0, 1, 2, 3, 5, 6, 7, 8]] [[], [], [], [], [], [], [], [], [], [], []] [] [] (fun i9 => ([fun _ => Is (.pointer (some ⟨g1, 0, none⟩)), fun _ => Is (.agg #[.bool bA, .slice qA nA kA]), fun _ => Is (.pointer (some ⟨g3, 0, none⟩)), fun _ => Is (.agg #[.bool bC, .slice qC nC kC]), fun _ => Zt z1, fun _ => Is (.pointer (some ⟨g1, 2, none⟩)), fun _ => Is (.agg #[.bool bB, .slice qB nB kB]), fun _ => Is (.pointer (some ⟨g3, 2, none⟩)), fun _ => Is (.agg #[.bool bD, .slice qD nD kD]), fun _ => Zt z2, fun _ => Rrt z3 z4] : List (List Value → Tell)).getD i9 (fun _ _ _ => False)) (heldNil) (fun d _ _ _ _ h => (by cases d <;> exact h)) (by kernel_rfl) (by kernel_rfl) (by kernel_rfl) hS ?_ ?_
  ·
    refine stepsCons rfl ?_ ?_
    · intro Q f' w' ρ S ho hT hS hB
      exact .inl ⟨want_none rfl, ofieldAddr (g := g1) (off := 0) 0 rfl rfl (ev (v := .pointer (some ⟨g1, 0, none⟩)) rfl (ho 2 rfl)) Try.runUnderlying27 rfl Try.sizeOf25 rfl ⟨_, _, rfl, isI, New.same _⟩⟩
    refine stepsCons rfl ?_ ?_
    · intro Q f' w' ρ S ho hT hS hB
      obtain ⟨hv0, hr0⟩ := (hT 0 5 rfl rfl : (Is (.pointer (some ⟨g1, 0, none⟩))) (f' 5) (ρ 0))
      obtain hS := hS.flat1 hr0
      exact .inl ⟨want_none rfl, oload (vs := [.bool bA, .slice qA nA kA]) aggZ hS 2 rfl rfl (ev rfl hv0) rfl rfl rfl ⟨_, _, rfl, isI, New.same _⟩⟩
    refine stepsCons rfl ?_ ?_
    · intro Q f' w' ρ S ho hT hS hB
      exact .inl ⟨want_none rfl, ofieldAddr (g := g3) (off := 0) 0 rfl rfl (ev (v := .pointer (some ⟨g3, 0, none⟩)) rfl (ho 3 rfl)) Try.runUnderlying27 rfl Try.sizeOf25 rfl ⟨_, _, rfl, isI, New.same _⟩⟩
    refine stepsCons rfl ?_ ?_
    · intro Q f' w' ρ S ho hT hS hB
      obtain ⟨hv2, hr2⟩ := (hT 2 7 rfl rfl : (Is (.pointer (some ⟨g3, 0, none⟩))) (f' 7) (ρ 2))
      obtain hS := hS.flat1 hr2
      exact .inl ⟨want_none rfl, oload (vs := [.bool bC, .slice qC nC kC]) aggZ hS 1 rfl rfl (ev rfl hv2) rfl rfl rfl ⟨_, _, rfl, isI, New.same _⟩⟩
    refine stepsCons rfl ?_ ?_
    · intro Q f' w' ρ S ho hT hS hB
      obtain ⟨hv1, hr1⟩ := (hT 1 6 rfl rfl : (Is (.agg #[.bool bA, .slice qA nA kA])) (f' 6) (ρ 1))
      obtain ⟨hv3, hr3⟩ := (hT 3 8 rfl rfl : (Is (.agg #[.bool bC, .slice qC nC kC])) (f' 8) (ρ 3))
      obtain hS := hS.flat2 hr1 hr3
      refine .inl ⟨want_none rfl, ocall rfl rfl Try.call83 rfl (wqmul ((hzA.at hS).mono (by omega)) ((hzC.at hS).mono (by omega)) hz1) (args2 (ev rfl hv1) (ev rfl hv3)) ?_⟩
      rintro _ w9 ⟨_, _, rfl, hTT, hN⟩
      exact ⟨_, rfl, _, _, rfl, hTT, hN⟩
    refine stepsCons rfl ?_ ?_
    · intro Q f' w' ρ S ho hT hS hB
      exact .inl ⟨want_none rfl, ofieldAddr (g := g1) (off := 0) 2 rfl rfl (ev (v := .pointer (some ⟨g1, 0, none⟩)) rfl (ho 2 rfl)) Try.runUnderlying27 rfl Try.sizeOf25 rfl ⟨_, _, rfl, isI, New.same _⟩⟩
    refine stepsCons rfl ?_ ?_
    · intro Q f' w' ρ S ho hT hS hB
      obtain ⟨hv5, hr5⟩ := (hT 5 10 rfl rfl : (Is (.pointer (some ⟨g1, 2, none⟩))) (f' 10) (ρ 5))
      obtain hS := hS.flat1 hr5
      exact .inl ⟨want_none rfl, oload (vs := [.bool bB, .slice qB nB kB]) aggZ hS 2 rfl rfl (ev rfl hv5) rfl rfl rfl ⟨_, _, rfl, isI, New.same _⟩⟩
    refine stepsCons rfl ?_ ?_
    · intro Q f' w' ρ S ho hT hS hB
      exact .inl ⟨want_none rfl, ofieldAddr (g := g3) (off := 0) 2 rfl rfl (ev (v := .pointer (some ⟨g3, 0, none⟩)) rfl (ho 3 rfl)) Try.runUnderlying27 rfl Try.sizeOf25 rfl ⟨_, _, rfl, isI, New.same _⟩⟩
    refine stepsCons rfl ?_ ?_
    · intro Q f' w' ρ S ho hT hS hB
      obtain ⟨hv7, hr7⟩ := (hT 7 12 rfl rfl : (Is (.pointer (some ⟨g3, 2, none⟩))) (f' 12) (ρ 7))
      obtain hS := hS.flat1 hr7
      exact .inl ⟨want_none rfl, oload (vs := [.bool bD, .slice qD nD kD]) aggZ hS 1 rfl rfl (ev rfl hv7) rfl rfl rfl ⟨_, _, rfl, isI, New.same _⟩⟩
    refine stepsCons rfl ?_ ?_
    · intro Q f' w' ρ S ho hT hS hB
      obtain ⟨hv6, hr6⟩ := (hT 6 11 rfl rfl : (Is (.agg #[.bool bB, .slice qB nB kB])) (f' 11) (ρ 6))
      obtain ⟨hv8, hr8⟩ := (hT 8 13 rfl rfl : (Is (.agg #[.bool bD, .slice qD nD kD])) (f' 13) (ρ 8))
      obtain hS := hS.flat2 hr6 hr8
      refine .inl ⟨want_none rfl, ocall rfl rfl Try.call83 rfl (wqmul ((hzB.at hS).mono (by omega)) ((hzD.at hS).mono (by omega)) hz2) (args2 (ev rfl hv6) (ev rfl hv8)) ?_⟩
      rintro _ w9 ⟨_, _, rfl, hTT, hN⟩
      exact ⟨_, rfl, _, _, rfl, hTT, hN⟩
    refine stepsCons rfl ?_ ?_
    · intro Q f' w' ρ S ho hT hS hB
      obtain ⟨p1, n1, c1, hv4, hr4⟩ := (hT 4 9 rfl rfl : (Zt z1) (f' 9) (ρ 4))
      obtain ⟨p2, n2, c2, hv9, hr9⟩ := (hT 9 14 rfl rfl : (Zt z2) (f' 14) (ρ 9))
      obtain hS := hS.flat2 hr4 hr9
      refine .inl ⟨want_none rfl, ocall rfl rfl Try.call59 rfl (wsmake (((hS.sl 3 rfl).zr hk1).mono (by omega)) (((hS.sl 4 rfl).zr hk2).mono (by omega)) (by rw [← hz2.out]; exact ne_mul hy hv) hz3 hz4) (args2 (ev rfl hv4) (ev rfl hv9)) ?_⟩
      rintro _ w9 ⟨_, _, rfl, hTT, hN⟩
      exact ⟨_, rfl, _, _, rfl, hTT, hN⟩
    exact stepsNil
  ·
    intro vs ρ w7 f' hf hT hS
    obtain ⟨hv0, hr0⟩ := (hT 0 (by decide) : (Is (.pointer (some ⟨g1, 0, none⟩))) (vs 0) (ρ 0))
    obtain ⟨hv1, hr1⟩ := (hT 1 (by decide) : (Is (.agg #[.bool bA, .slice qA nA kA])) (vs 1) (ρ 1))
    obtain ⟨hv2, hr2⟩ := (hT 2 (by decide) : (Is (.pointer (some ⟨g3, 0, none⟩))) (vs 2) (ρ 2))
    obtain ⟨hv3, hr3⟩ := (hT 3 (by decide) : (Is (.agg #[.bool bC, .slice qC nC kC])) (vs 3) (ρ 3))
    obtain ⟨p1, n1, c1, hv4, hr4⟩ := (hT 4 (by decide) : (Zt z1) (vs 4) (ρ 4))
    obtain ⟨hv5, hr5⟩ := (hT 5 (by decide) : (Is (.pointer (some ⟨g1, 2, none⟩))) (vs 5) (ρ 5))
    obtain ⟨hv6, hr6⟩ := (hT 6 (by decide) : (Is (.agg #[.bool bB, .slice qB nB kB])) (vs 6) (ρ 6))
    obtain ⟨hv7, hr7⟩ := (hT 7 (by decide) : (Is (.pointer (some ⟨g3, 2, none⟩))) (vs 7) (ρ 7))
    obtain ⟨hv8, hr8⟩ := (hT 8 (by decide) : (Is (.agg #[.bool bD, .slice qD nD kD])) (vs 8) (ρ 8))
    obtain ⟨p2, n2, c2, hv9, hr9⟩ := (hT 9 (by decide) : (Zt z2) (vs 9) (ρ 9))
    obtain ⟨p3, n3, c3, p4, n4, c4, hv10, hr10⟩ := (hT 10 (by decide) : (Rrt z3 z4) (vs 10) (ρ 10))
    simp only [pool, if_true, hr0, hr1, hr2, hr3, hr4, hr5, hr6, hr7, hr8, hr9, hr10, List.nil_append, List.cons_append, List.append_nil] at hS
    simp only [layf, hv0, hv1, hv2, hv3, hv4, hv5, hv6, hv7, hv8, hv9, hv10] at hf
    subst hf; clear hT hv0 hv1 hv2 hv3 hv4 hv5 hv6 hv7 hv8 hv9 hv10 hr0 hr1 hr2 hr3 hr4 hr5 hr6 hr7 hr8 hr9 hr10
    refine wlate 11 rfl (by kernel_rfl) (ostore [.bool (ng z3), .slice p3 n3 c3, .bool (ng z4), .slice p4 n4 c4] [.bool (ng z3), .slice p3 n3 c3, .bool (ng z4), .slice p4 n4 c4] Try.sizeOf27 hS 4 rfl rfl (ev rfl rfl) (ev (v := .agg #[.bool (ng z3), .slice p3 n3 c3, .bool (ng z4), .slice p4 n4 c4]) rfl rfl) rfl rfl rfl rfl rfl rfl ?_)
    clear hS; intro w8 hS
    refine ⟨heldNil, ?_⟩
    refine wdone rfl ?_
    refine thenN ?_
    refine wleave ?_
    refine wret1 Try.results36 (tellC (cs := [.bool (ng z3), .slice p3 n3 c3, .bool (ng z4), .slice p4 n4 c4]) aggR hS 4 rfl rfl rfl rfl) ?_
    obtain rfl : z3 = z := (by rw [← hz3.out, ← hz1.out, ← hz2.out]; exact hz.out)
    obtain rfl : z4 = t := (by rw [← hz4.out, ← hz1.out, ← hz2.out]; exact ht.out)
    exact ⟨_, _, rfl, ⟨_, _, _, _, _, _, rfl, rfl⟩, hS.newM [0, 1] (by decide) rfl rfl⟩

set_option maxRecDepth 100000 in
set_option maxHeartbeats 16000000 in
theorem wsmay {y : Int} {bB bA : Bool} {qA qB : Option Addr} {nA kA nB kB : Nat} {w : World} (hzB : Zr w bB qB nB kB y 67108864) (hy : y ≠ 0) :
    Calls Try.prog 11 #[.agg #[.bool bA, .slice qA nA kA, .bool bB, .slice qB nB kB]] w (Ret (Is (.bool true)) w) := by
  have hS := Sep.init w
  refine went Try.func11 rfl (n := 7) rfl rfl ?_
  refine wseq ?_
  refine wreg ?_
  refine wl rfl (obox [.bool bA, .slice qA nA kA, .bool bB, .slice qB nB kB] hS rfl rfl (ev (v := .agg #[.bool bA, .slice qA nA kA, .bool bB, .slice qB nB kB]) rfl rfl) rfl ?_)
  clear hS; intro g1 w2 hS
  refine wl rfl (oassign (v := .bool false) rfl rfl (evc (v := .bool false)) ?_)
  refine wnil ?_
  refine thenN ?_
  refine wseq ?_
  refine wreg ?_
  refine wl rfl (ofieldAddr (g := g1) (off := 0) 2 rfl rfl (ev (v := .pointer (some ⟨g1, 0, none⟩)) rfl rfl) Try.runUnderlying27 rfl Try.sizeOf25 rfl ?_)
  refine wl rfl (oload (vs := [.bool bB, .slice qB nB kB]) aggZ hS 0 rfl rfl (ev rfl rfl) rfl rfl rfl ?_)
  obtain ⟨s1, hs1⟩ : ∃ z : Int, Hid ((y : Int).sign = z) := ⟨_, rfl⟩
  refine wl rfl (ocall rfl rfl Try.call57 rfl (wqsign ((hzB.at hS).mono (by omega)) hs1) (args1 (ev rfl rfl)) ?_)
  rintro _ w3 ⟨_, _, rfl, ⟨rfl, rfl⟩, hN⟩
  refine ⟨_, rfl, ?_⟩
  replace hS := hS.news hN; clear hN
  refine wl rfl (obin (u := .int .i64 s1) (v := .int .i64 0) (z := .bool true) rfl rfl (ev (v := .int .i64 s1) rfl rfl) (evc (v := .int .i64 0)) (bin_neq (bne_iff_ne.2 (fun e => by have := sign_ne hs1 hy; rw [e] at this; exact absurd this (by decide)))) ?_)
  refine wl rfl (oassign (v := .bool true) rfl rfl (ev (v := .bool true) rfl rfl) ?_)
  refine wnil ?_
  refine thenN ?_
  refine wleave ?_
  refine wret1 Try.results11 (tellT (v := .bool true) rfl rfl) ?_
  exact ⟨_, _, rfl, isI, hS.new0⟩

set_option maxRecDepth 100000 in
set_option maxHeartbeats 16000000 in
theorem wsmay0 {y : Int} {bB bA : Bool} {qA qB : Option Addr} {nA kA nB kB : Nat} {w : World} (hzB : Zr w bB qB nB kB y 67108864) (hy : y = 0) :
    Calls Try.prog 11 #[.agg #[.bool bA, .slice qA nA kA, .bool bB, .slice qB nB kB]] w (Ret (Is (.bool false)) w) := by
  have hS := Sep.init w
  refine went Try.func11 rfl (n := 7) rfl rfl ?_
  refine wseq ?_
  refine wreg ?_
  refine wl rfl (obox [.bool bA, .slice qA nA kA, .bool bB, .slice qB nB kB] hS rfl rfl (ev (v := .agg #[.bool bA, .slice qA nA kA, .bool bB, .slice qB nB kB]) rfl rfl) rfl ?_)
  clear hS; intro g1 w2 hS
  refine wl rfl (oassign (v := .bool false) rfl rfl (evc (v := .bool false)) ?_)
  refine wnil ?_
  refine thenN ?_
  refine wseq ?_
  refine wreg ?_
  refine wl rfl (ofieldAddr (g := g1) (off := 0) 2 rfl rfl (ev (v := .pointer (some ⟨g1, 0, none⟩)) rfl rfl) Try.runUnderlying27 rfl Try.sizeOf25 rfl ?_)
  refine wl rfl (oload (vs := [.bool bB, .slice qB nB kB]) aggZ hS 0 rfl rfl (ev rfl rfl) rfl rfl rfl ?_)
  obtain ⟨s1, hs1⟩ : ∃ z : Int, Hid ((y : Int).sign = z) := ⟨_, rfl⟩
  refine wl rfl (ocall rfl rfl Try.call57 rfl (wqsign ((hzB.at hS).mono (by omega)) hs1) (args1 (ev rfl rfl)) ?_)
  rintro _ w3 ⟨_, _, rfl, ⟨rfl, rfl⟩, hN⟩
  refine ⟨_, rfl, ?_⟩
  replace hS := hS.news hN; clear hN
  refine wl rfl (obin (u := .int .i64 s1) (v := .int .i64 0) (z := .bool false) rfl rfl (ev (v := .int .i64 s1) rfl rfl) (evc (v := .int .i64 0)) (bin_neq (neF (by have := sign_eq hs1 hy; simpa using this))) ?_)
  refine wl rfl (oassign (v := .bool false) rfl rfl (ev (v := .bool false) rfl rfl) ?_)
  refine wnil ?_
  refine thenN ?_
  refine wleave ?_
  refine wret1 Try.results11 (tellT (v := .bool false) rfl rfl) ?_
  exact ⟨_, _, rfl, isI, hS.new0⟩

set_option maxRecDepth 100000 in
set_option maxHeartbeats 16000000 in
theorem wsint {x : Int} {bA : Bool} {qA : Option Addr} {nA kA : Nat} {w : World} (hzA : Zr w bA qA nA kA x 16777216) :
    Calls Try.prog 72 #[.agg #[.bool bA, .slice qA nA kA]] w (Ret (Rrt x 1) w) := by
  have hS := Sep.init w
  refine went Try.func72 rfl (n := 7) rfl rfl ?_
  refine wseq ?_
  refine wreg ?_
  refine wl rfl (obox [.bool bA, .slice qA nA kA] hS rfl rfl (ev (v := .agg #[.bool bA, .slice qA nA kA]) rfl rfl) rfl ?_)
  clear hS; intro g1 w2 hS
  refine wl rfl (oalloc [.bool false, .slice none 0 0, .bool false, .slice none 0 0] hS rfl rfl Try.zeroValue27 rfl ?_)
  clear hS; intro g3 w4 hS
  refine wnil ?_
  refine thenN ?_
  refine wseq ?_
  refine wreg ?_
  refine wl rfl (oload (vs := [.bool bA, .slice qA nA kA]) aggZ hS 1 rfl rfl (ev rfl rfl) rfl rfl rfl ?_)
  obtain ⟨z1, hz1⟩ : ∃ z : Int, Hid (x = z) := ⟨_, rfl⟩
  have hk1 : Wd z1 16777216 := Wd.same hzA.wd hz1
  refine wl rfl (ocall rfl rfl Try.call112 rfl ((wqnorm ((hzA.at hS).mono (by omega)) hz1).mono Zt.m) (args1 (ev rfl rfl)) ?_)
  rintro _ w5 ⟨_, _, rfl, ⟨p1, n1, c1, rfl, rfl⟩, hN⟩
  refine ⟨_, rfl, ?_⟩
  replace hS := hS.news hN; clear hN
  have hk2 : Wd 1 2 := Wd.i64 (by omega) (by omega)
  refine wl rfl (ocall rfl rfl Try.call60 rfl ((wqof (z := 1) (by omega) (by omega)).mono Zt.m) (args1 evc) ?_)
  rintro _ w6 ⟨_, _, rfl, ⟨p2, n2, c2, rfl, rfl⟩, hN⟩
  refine ⟨_, rfl, ?_⟩
  replace hS := hS.news hN; clear hN
  refine wl rfl (obuild (ps := #[(0, .agg #[.bool (ng z1), .slice p1 n1 c1]), (1, .agg #[.bool (ng 1), .slice p2 n2 c2])]) (v := .agg #[.bool (ng z1), .slice p1 n1 c1, .bool (ng 1), .slice p2 n2 c2]) rfl rfl (parts2 (ev (v := .agg #[.bool (ng z1), .slice p1 n1 c1]) rfl rfl) (ev (v := .agg #[.bool (ng 1), .slice p2 n2 c2]) rfl rfl)) (fun w => by simp [go_sem, Instr.build, Instr.fill]) ?_)
  refine wl rfl (ostore [.bool (ng z1), .slice p1 n1 c1, .bool (ng 1), .slice p2 n2 c2] [.bool (ng z1), .slice p1 n1 c1, .bool (ng 1), .slice p2 n2 c2] Try.sizeOf27 hS 2 rfl rfl (ev rfl rfl) (ev (v := .agg #[.bool (ng z1), .slice p1 n1 c1, .bool (ng 1), .slice p2 n2 c2]) rfl rfl) rfl rfl rfl rfl rfl rfl ?_)
  clear hS; intro w7 hS
  refine wnil ?_
  refine thenN ?_
  refine wleave ?_
  refine wret1 Try.results72 (tellC (cs := [.bool (ng z1), .slice p1 n1 c1, .bool (ng 1), .slice p2 n2 c2]) aggR hS 2 rfl rfl rfl rfl) ?_
  obtain rfl := hz1.out
  exact ⟨_, _, rfl, ⟨_, _, _, _, _, _, rfl, rfl⟩, hS.newM [1, 0] (by decide) rfl rfl⟩

end Go.Proofs.Ytoinfkimlhhmpaa
