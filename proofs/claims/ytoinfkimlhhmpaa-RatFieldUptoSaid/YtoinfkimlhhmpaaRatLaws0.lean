
/-
  What the laws of rat share: same, told, some, lives.
-/
import Derived.Test.YtoinfkimlhhmpaaRatFns
set_option linter.unusedVariables false
set_option linter.unusedSimpArgs false
namespace Go.Proofs.Ytoinfkimlhhmpaa
open Go.RowKit

set_option maxRecDepth 100000 in
set_option maxHeartbeats 16000000 in
theorem wssameX {b1 b2 : Bool} {qA qB qC qD : Option Addr} {nA kA nB kB nC kC nD kD : Nat} {xs ys : List Nat} {w : World} (hsA : Sl w qA nA kA xs) (hsB : Sl w qB nB kB ys) (hsC : Sl w qC nC kC xs) (hsD : Sl w qD nD kD ys) :
    Calls Try.prog 58 #[.agg #[.bool b1, .slice qA nA kA, .bool b2, .slice qB nB kB], .agg #[.bool b1, .slice qC nC kC, .bool b2, .slice qD nD kD]] w (Ret (Is (.bool true)) w) := by
  have hS := Sep.init w
  refine went Try.func58 rfl (n := 17) rfl rfl ?_
  refine wseq ?_
  refine wreg ?_
  refine wl rfl (obox [.bool b1, .slice qA nA kA, .bool b2, .slice qB nB kB] hS rfl rfl (ev (v := .agg #[.bool b1, .slice qA nA kA, .bool b2, .slice qB nB kB]) rfl rfl) rfl ?_)
  clear hS; intro g1 w2 hS
  refine wl rfl (obox [.bool b1, .slice qC nC kC, .bool b2, .slice qD nD kD] hS rfl rfl (ev (v := .agg #[.bool b1, .slice qC nC kC, .bool b2, .slice qD nD kD]) rfl rfl) rfl ?_)
  clear hS; intro g3 w4 hS
  refine wl rfl (oassign (v := .bool false) rfl rfl (evc (v := .bool false)) ?_)
  refine wnil ?_
  refine thenN ?_
  refine wseq ?_
  refine wreg ?_
  refine wl rfl (ofieldAddr (g := g1) (off := 0) 0 rfl rfl (ev (v := .pointer (some ⟨g1, 0, none⟩)) rfl rfl) Try.runUnderlying27 rfl Try.sizeOf25 rfl ?_)
  refine wl rfl (oload (vs := [.bool b1, .slice qA nA kA]) aggZ hS 1 rfl rfl (ev rfl rfl) rfl rfl rfl ?_)
  refine wl rfl (ofieldAddr (g := g3) (off := 0) 0 rfl rfl (ev (v := .pointer (some ⟨g3, 0, none⟩)) rfl rfl) Try.runUnderlying27 rfl Try.sizeOf25 rfl ?_)
  refine wl rfl (oload (vs := [.bool b1, .slice qC nC kC]) aggZ hS 0 rfl rfl (ev rfl rfl) rfl rfl rfl ?_)
  refine wl rfl (ocall rfl rfl Try.call22 rfl ((qsame_yes (hsA.below hS.below (Nat.le_refl _)) (hsC.below hS.below (Nat.le_refl _))).mono RetB.u) (args2 (ev rfl rfl) (ev rfl rfl)) ?_)
  rintro _ w5 ⟨_, _, rfl, ⟨rfl, rfl⟩, hN⟩
  refine ⟨_, rfl, ?_⟩
  replace hS := hS.news hN; clear hN
  refine wl rfl (omove (v := .bool true) rfl rfl (ev (v := .bool true) rfl rfl) ?_)
  refine wlOn (e := 10) rfl rfl rfl rfl (ofieldAddr (g := g1) (off := 0) 2 rfl rfl (ev (v := .pointer (some ⟨g1, 0, none⟩)) rfl rfl) Try.runUnderlying27 rfl Try.sizeOf25 rfl ?_)
  refine wlOn (e := 10) rfl rfl rfl rfl (oload (vs := [.bool b2, .slice qB nB kB]) aggZ hS 1 rfl rfl (ev rfl rfl) rfl rfl rfl ?_)
  refine wlOn (e := 10) rfl rfl rfl rfl (ofieldAddr (g := g3) (off := 0) 2 rfl rfl (ev (v := .pointer (some ⟨g3, 0, none⟩)) rfl rfl) Try.runUnderlying27 rfl Try.sizeOf25 rfl ?_)
  refine wlOn (e := 10) rfl rfl rfl rfl (oload (vs := [.bool b2, .slice qD nD kD]) aggZ hS 0 rfl rfl (ev rfl rfl) rfl rfl rfl ?_)
  refine wlOn (e := 10) rfl rfl rfl rfl (ocall rfl rfl Try.call22 rfl ((qsame_yes (hsB.below hS.below (Nat.le_refl _)) (hsD.below hS.below (Nat.le_refl _))).mono RetB.u) (args2 (ev rfl rfl) (ev rfl rfl)) ?_)
  rintro _ w6 ⟨_, _, rfl, ⟨rfl, rfl⟩, hN⟩
  refine ⟨_, rfl, ?_⟩
  replace hS := hS.news hN; clear hN
  refine wl rfl (opick (b := true) (v := .bool true) rfl rfl (ev (v := .bool true) rfl rfl) (ev (v := .bool true) rfl rfl) ?_)
  refine wl rfl (oassign (v := .bool true) rfl rfl (ev (v := .bool true) rfl rfl) ?_)
  refine wnil ?_
  refine thenN ?_
  refine wleave ?_
  refine wret1 Try.results58 (tellT (v := .bool true) rfl rfl) ?_
  exact ⟨_, _, rfl, isI, hS.new0⟩

set_option maxRecDepth 100000 in
set_option maxHeartbeats 16000000 in
theorem wlsame5X {b1 b2 : Bool} {qA qB qC qD : Option Addr} {nA kA nB kB nC kC nD kD : Nat} {xs ys : List Nat} {w : World} (hsA : Sl w qA nA kA xs) (hsB : Sl w qB nB kB ys) (hsC : Sl w qC nC kC xs) (hsD : Sl w qD nD kD ys) :
    Calls Try.prog 13 #[.agg #[.bool b1, .slice qA nA kA, .bool b2, .slice qB nB kB], .agg #[.bool b1, .slice qC nC kC, .bool b2, .slice qD nD kD]] w (Ret (Is (.bool true)) w) := by
  have hS := Sep.init w
  refine went Try.func13 rfl (n := 8) rfl rfl ?_
  refine wseq ?_
  refine wreg ?_
  refine wl rfl (obox [.bool b1, .slice qA nA kA, .bool b2, .slice qB nB kB] hS rfl rfl (ev (v := .agg #[.bool b1, .slice qA nA kA, .bool b2, .slice qB nB kB]) rfl rfl) rfl ?_)
  clear hS; intro g1 w2 hS
  refine wl rfl (obox [.bool b1, .slice qC nC kC, .bool b2, .slice qD nD kD] hS rfl rfl (ev (v := .agg #[.bool b1, .slice qC nC kC, .bool b2, .slice qD nD kD]) rfl rfl) rfl ?_)
  clear hS; intro g3 w4 hS
  refine wl rfl (oassign (v := .bool false) rfl rfl (evc (v := .bool false)) ?_)
  refine wnil ?_
  refine thenN ?_
  refine wseq ?_
  refine wreg ?_
  refine wl rfl (oload (vs := [.bool b1, .slice qA nA kA, .bool b2, .slice qB nB kB]) aggR hS 1 rfl rfl (ev rfl rfl) rfl rfl rfl ?_)
  refine wl rfl (oload (vs := [.bool b1, .slice qC nC kC, .bool b2, .slice qD nD kD]) aggR hS 0 rfl rfl (ev rfl rfl) rfl rfl rfl ?_)
  refine wl rfl (ocall rfl rfl Try.call58 rfl (wssameX (hsA.below hS.below (Nat.le_refl _)) (hsB.below hS.below (Nat.le_refl _)) (hsC.below hS.below (Nat.le_refl _)) (hsD.below hS.below (Nat.le_refl _))) (args2 (ev rfl rfl) (ev rfl rfl)) ?_)
  rintro _ w5 ⟨_, _, rfl, ⟨rfl, rfl⟩, hN⟩
  refine ⟨_, rfl, ?_⟩
  replace hS := hS.news hN; clear hN
  refine wl rfl (oassign (v := .bool true) rfl rfl (ev (v := .bool true) rfl rfl) ?_)
  refine wnil ?_
  refine thenN ?_
  refine wleave ?_
  refine wret1 Try.results13 (tellT (v := .bool true) rfl rfl) ?_
  exact ⟨_, _, rfl, isI, hS.new0⟩

theorem wlsame5 {x y u v : Int} {qA qB qC qD : Option Addr} {nA kA nB kB nC kC nD kD : Nat} {w : World} (hsA : Sl w qA nA kA (lim x.natAbs)) (hsB : Sl w qB nB kB (lim y.natAbs)) (hsC : Sl w qC nC kC (lim u.natAbs)) (hsD : Sl w qD nD kD (lim v.natAbs)) (h1 : x = u) (h2 : y = v) :
    Calls Try.prog 13 #[.agg #[.bool (ng x), .slice qA nA kA, .bool (ng y), .slice qB nB kB], .agg #[.bool (ng u), .slice qC nC kC, .bool (ng v), .slice qD nD kD]] w (Ret (Is (.bool true)) w) := by
  subst h1; subst h2; exact wlsame5X hsA hsB hsC hsD
set_option maxRecDepth 100000 in
set_option maxHeartbeats 16000000 in
theorem wlsome {y : Int} {bA bB : Bool} {qA qB : Option Addr} {nA kA nB kB : Nat} {w : World} (hzB : Zr w bB qB nB kB y 67108864) (hy : y ≠ 0) :
    Calls Try.prog 27 #[.agg #[.bool bA, .slice qA nA kA, .bool bB, .slice qB nB kB]] w (Ret (Is (.agg #[.bool bA, .slice qA nA kA, .bool bB, .slice qB nB kB])) w) := by
  have hS := Sep.init w
  refine went Try.func27 rfl (n := 8) rfl rfl ?_
  refine wseq ?_
  refine wreg ?_
  refine wl rfl (obox [.bool bA, .slice qA nA kA, .bool bB, .slice qB nB kB] hS rfl rfl (ev (v := .agg #[.bool bA, .slice qA nA kA, .bool bB, .slice qB nB kB]) rfl rfl) rfl ?_)
  clear hS; intro g1 w2 hS
  refine wl rfl (oalloc [.bool false, .slice none 0 0, .bool false, .slice none 0 0] hS rfl rfl Try.zeroValue27 rfl ?_)
  clear hS; intro g3 w4 hS
  refine wnil ?_
  refine thenN ?_
  refine wseq ?_
  refine wseq ?_
  refine wreg ?_
  refine wl rfl (oload (vs := [.bool bA, .slice qA nA kA, .bool bB, .slice qB nB kB]) aggR hS 1 rfl rfl (ev rfl rfl) rfl rfl rfl ?_)
  refine wl rfl (ocall rfl rfl Try.call11 rfl (wsmay (hzB.at hS) (hy)) (args1 (ev rfl rfl)) ?_)
  rintro _ w5 ⟨_, _, rfl, ⟨rfl, rfl⟩, hN⟩
  refine ⟨_, rfl, ?_⟩
  replace hS := hS.news hN; clear hN
  refine wl rfl (onot (b := true) rfl rfl (ev (v := .bool true) rfl rfl) ?_)
  refine wnil ?_
  refine thenN ?_
  refine wF (ev (v := .bool false) rfl rfl) ?_
  refine wskip ?_
  refine thenN ?_
  refine wseq ?_
  refine wreg ?_
  refine wl rfl (oload (vs := [.bool bA, .slice qA nA kA, .bool bB, .slice qB nB kB]) aggR hS 1 rfl rfl (ev rfl rfl) rfl rfl rfl ?_)
  refine wl rfl (ostore [.bool bA, .slice qA nA kA, .bool bB, .slice qB nB kB] [.bool bA, .slice qA nA kA, .bool bB, .slice qB nB kB] Try.sizeOf27 hS 0 rfl rfl (ev rfl rfl) (ev (v := .agg #[.bool bA, .slice qA nA kA, .bool bB, .slice qB nB kB]) rfl rfl) rfl rfl rfl rfl rfl rfl ?_)
  clear hS; intro w6 hS
  refine wnil ?_
  refine thenN ?_
  refine wleave ?_
  refine wret1 Try.results27 (tellC (cs := [.bool bA, .slice qA nA kA, .bool bB, .slice qB nB kB]) aggR hS 0 rfl rfl rfl rfl) ?_
  exact ⟨_, _, rfl, isI, hS.new0⟩

set_option maxRecDepth 100000 in
set_option maxHeartbeats 16000000 in
theorem wlsome0 {y : Int} {bA bB : Bool} {qA qB : Option Addr} {nA kA nB kB : Nat} {w : World} (hzB : Zr w bB qB nB kB y 67108864) (hy : y = 0) :
    Calls Try.prog 27 #[.agg #[.bool bA, .slice qA nA kA, .bool bB, .slice qB nB kB]] w (Ret (Rrt 1 1) w) := by
  have hS := Sep.init w
  refine went Try.func27 rfl (n := 8) rfl rfl ?_
  refine wseq ?_
  refine wreg ?_
  refine wl rfl (obox [.bool bA, .slice qA nA kA, .bool bB, .slice qB nB kB] hS rfl rfl (ev (v := .agg #[.bool bA, .slice qA nA kA, .bool bB, .slice qB nB kB]) rfl rfl) rfl ?_)
  clear hS; intro g1 w2 hS
  refine wl rfl (oalloc [.bool false, .slice none 0 0, .bool false, .slice none 0 0] hS rfl rfl Try.zeroValue27 rfl ?_)
  clear hS; intro g3 w4 hS
  refine wnil ?_
  refine thenN ?_
  refine wseq ?_
  refine wseq ?_
  refine wreg ?_
  refine wl rfl (oload (vs := [.bool bA, .slice qA nA kA, .bool bB, .slice qB nB kB]) aggR hS 1 rfl rfl (ev rfl rfl) rfl rfl rfl ?_)
  refine wl rfl (ocall rfl rfl Try.call11 rfl (wsmay0 (hzB.at hS) (hy)) (args1 (ev rfl rfl)) ?_)
  rintro _ w5 ⟨_, _, rfl, ⟨rfl, rfl⟩, hN⟩
  refine ⟨_, rfl, ?_⟩
  replace hS := hS.news hN; clear hN
  refine wl rfl (onot (b := false) rfl rfl (ev (v := .bool false) rfl rfl) ?_)
  refine wnil ?_
  refine thenN ?_
  refine wT (ev (v := .bool true) rfl rfl) ?_
  refine wseq ?_
  refine wreg ?_
  have hk1 : Wd 1 2 := Wd.i64 (by omega) (by omega)
  have hk2 : Wd 1 2 := Wd.i64 (by omega) (by omega)
  refine wl rfl (ocall rfl rfl Try.call61 rfl (wlfrac (x := 1) (y := 1) (by omega) (by omega) (by omega) (by omega)) (args2 evc evc) ?_)
  rintro _ w6 ⟨_, _, rfl, ⟨p1, n1, c1, p2, n2, c2, rfl, rfl⟩, hN⟩
  refine ⟨_, rfl, ?_⟩
  replace hS := hS.news hN; clear hN
  refine wl rfl (ostore [.bool (ng 1), .slice p1 n1 c1, .bool (ng 1), .slice p2 n2 c2] [.bool (ng 1), .slice p1 n1 c1, .bool (ng 1), .slice p2 n2 c2] Try.sizeOf27 hS 2 rfl rfl (ev rfl rfl) (ev (v := .agg #[.bool (ng 1), .slice p1 n1 c1, .bool (ng 1), .slice p2 n2 c2]) rfl rfl) rfl rfl rfl rfl rfl rfl ?_)
  clear hS; intro w7 hS
  refine wnil ?_
  refine thenN ?_
  refine wleave ?_
  refine thenR ?_
  refine wret1 Try.results27 (tellC (cs := [.bool (ng 1), .slice p1 n1 c1, .bool (ng 1), .slice p2 n2 c2]) aggR hS 2 rfl rfl rfl rfl) ?_
  exact ⟨_, _, rfl, ⟨_, _, _, _, _, _, rfl, rfl⟩, hS.newM [0, 1] (by decide) rfl rfl⟩

theorem rs_zero {x y s : Int} (h : Hid (x.sign * y.sign = s)) (hx : x = 0) : (s == 0) = true := by
  rw [← h.out, hx]; simp
theorem rs_ne {x y s : Int} (h : Hid (x.sign * y.sign = s)) (hx : x ≠ 0) (hy : y ≠ 0) : (s == 0) = false := by
  rw [← h.out, ← Int.sign_mul]
  have := ne_mul hx hy
  rcases Int.lt_or_gt_of_ne this with h | h
  · rw [Int.sign_eq_neg_one_of_neg h]; rfl
  · rw [Int.sign_eq_one_of_pos h]; rfl

set_option maxRecDepth 100000 in
set_option maxHeartbeats 16000000 in
theorem wllives5 {w : World} :
    Calls Try.prog 15 #[] w (Ret (Is (.bool true)) w) := by
  have hS := Sep.init w
  refine went Try.func15 rfl (n := 27) rfl rfl ?_
  refine wseq ?_
  refine wreg ?_
  refine wl rfl (oassign (v := .bool false) rfl rfl (evc (v := .bool false)) ?_)
  refine wnil ?_
  refine thenN ?_
  refine wseq ?_
  refine wreg ?_
  have hk1 : Wd 6 2 := Wd.i64 (by omega) (by omega)
  refine wl rfl (ocall rfl rfl Try.call60 rfl (wqof (z := 6) (by omega) (by omega)) (args1 evc) ?_)
  rintro _ w1 ⟨_, _, rfl, ⟨p1, n1, c1, rfl, rfl⟩, hN⟩
  refine ⟨_, rfl, ?_⟩
  replace hS := hS.news hN; clear hN
  have hk2 : Wd (-4) 2 := Wd.i64 (by omega) (by omega)
  refine wl rfl (ocall rfl rfl Try.call60 rfl (wqof (z := -4) (by omega) (by omega)) (args1 evc) ?_)
  rintro _ w2 ⟨_, _, rfl, ⟨p2, n2, c2, rfl, rfl⟩, hN⟩
  refine ⟨_, rfl, ?_⟩
  replace hS := hS.news hN; clear hN
  obtain ⟨z3, hz3⟩ : ∃ z : Int, Hid (RN 6 (-4) = z) := ⟨_, rfl⟩
  have hk3 : Wd z3 2 := Wd.rn hk1 hz3
  obtain ⟨z4, hz4⟩ : ∃ z : Int, Hid (RD 6 (-4) = z) := ⟨_, rfl⟩
  have hk4 : Wd z4 2 := Wd.rd hk2 hz4
  refine wl rfl (ocall rfl rfl Try.call42 rfl (wrmake (((hS.sl 1 rfl).zr hk1).mono (by omega)) (((hS.sl 0 rfl).zr hk2).mono (by omega)) (by omega) hz3 hz4) (args2 (ev rfl rfl) (ev rfl rfl)) ?_)
  rintro _ w3 ⟨_, _, rfl, ⟨p3, n3, c3, p4, n4, c4, rfl, rfl⟩, hN⟩
  refine ⟨_, rfl, ?_⟩
  replace hS := hS.news hN; clear hN
  refine wl rfl (omove (v := .tuple #[.agg #[.bool (ng z3), .slice p3 n3 c3, .bool (ng z4), .slice p4 n4 c4], .int .i64 0]) rfl rfl (ev (v := .tuple #[.agg #[.bool (ng z3), .slice p3 n3 c3, .bool (ng z4), .slice p4 n4 c4], .int .i64 0]) rfl rfl) ?_)
  refine wl rfl (oextract (vs := [.agg #[.bool (ng z3), .slice p3 n3 c3, .bool (ng z4), .slice p4 n4 c4], .int .i64 0]) (v := .agg #[.bool (ng z3), .slice p3 n3 c3, .bool (ng z4), .slice p4 n4 c4]) rfl rfl (ev (v := .tuple #[.agg #[.bool (ng z3), .slice p3 n3 c3, .bool (ng z4), .slice p4 n4 c4], .int .i64 0]) rfl rfl) rfl ?_)
  refine wl rfl (oextract (vs := [.agg #[.bool (ng z3), .slice p3 n3 c3, .bool (ng z4), .slice p4 n4 c4], .int .i64 0]) (v := .int .i64 0) rfl rfl (ev (v := .tuple #[.agg #[.bool (ng z3), .slice p3 n3 c3, .bool (ng z4), .slice p4 n4 c4], .int .i64 0]) rfl rfl) rfl ?_)
  refine wl rfl (oalloc [.bool false, .slice none 0 0, .bool false, .slice none 0 0] hS rfl rfl Try.zeroValue27 rfl ?_)
  clear hS; intro g4 w5 hS
  refine wl rfl (ostore [.bool (ng z3), .slice p3 n3 c3, .bool (ng z4), .slice p4 n4 c4] [.bool (ng z3), .slice p3 n3 c3, .bool (ng z4), .slice p4 n4 c4] Try.sizeOf27 hS 0 rfl rfl (ev rfl rfl) (ev (v := .agg #[.bool (ng z3), .slice p3 n3 c3, .bool (ng z4), .slice p4 n4 c4]) rfl rfl) rfl rfl rfl rfl rfl rfl ?_)
  clear hS; intro w6 hS
  refine wl rfl (oassign (v := .int .i64 0) rfl rfl (ev (v := .int .i64 0) rfl rfl) ?_)
  refine wnil ?_
  refine thenN ?_
  refine wseq ?_
  refine wreg ?_
  have hk5 : Wd 1 2 := Wd.i64 (by omega) (by omega)
  have hk6 : Wd 0 2 := Wd.i64 (by omega) (by omega)
  refine wl rfl (ocall rfl rfl Try.call61 rfl (wlfrac (x := 1) (y := 0) (by omega) (by omega) (by omega) (by omega)) (args2 evc evc) ?_)
  rintro _ w7 ⟨_, _, rfl, ⟨p5, n5, c5, p6, n6, c6, rfl, rfl⟩, hN⟩
  refine ⟨_, rfl, ?_⟩
  replace hS := hS.news hN; clear hN
  refine wl rfl (ocall rfl rfl Try.call43 rfl (wrnorm0 (((hS.slm 0 rfl).zr hk5).mono (by omega)) (((hS.slm 1 rfl).zr hk6).mono (by omega)) (rfl)) (args1 (ev rfl rfl)) ?_)
  rintro _ w8 ⟨_, _, rfl, ⟨rfl, rfl⟩, hN⟩
  refine ⟨_, rfl, ?_⟩
  replace hS := hS.news hN; clear hN
  refine wl rfl (omove (v := .tuple #[.agg #[.bool false, .slice none 0 0, .bool false, .slice none 0 0], .int .i64 6]) rfl rfl (ev (v := .tuple #[.agg #[.bool false, .slice none 0 0, .bool false, .slice none 0 0], .int .i64 6]) rfl rfl) ?_)
  refine wl rfl (oextract (vs := [.agg #[.bool false, .slice none 0 0, .bool false, .slice none 0 0], .int .i64 6]) (v := .agg #[.bool false, .slice none 0 0, .bool false, .slice none 0 0]) rfl rfl (ev (v := .tuple #[.agg #[.bool false, .slice none 0 0, .bool false, .slice none 0 0], .int .i64 6]) rfl rfl) rfl ?_)
  refine wl rfl (oextract (vs := [.agg #[.bool false, .slice none 0 0, .bool false, .slice none 0 0], .int .i64 6]) (v := .int .i64 6) rfl rfl (ev (v := .tuple #[.agg #[.bool false, .slice none 0 0, .bool false, .slice none 0 0], .int .i64 6]) rfl rfl) rfl ?_)
  refine wl rfl (oalloc [.bool false, .slice none 0 0, .bool false, .slice none 0 0] hS rfl rfl Try.zeroValue27 rfl ?_)
  clear hS; intro g9 w10 hS
  refine wl rfl (ostore [.bool false, .slice none 0 0, .bool false, .slice none 0 0] [.bool false, .slice none 0 0, .bool false, .slice none 0 0] Try.sizeOf27 hS 0 rfl rfl (ev rfl rfl) (ev (v := .agg #[.bool false, .slice none 0 0, .bool false, .slice none 0 0]) rfl rfl) rfl rfl rfl rfl rfl rfl ?_)
  clear hS; intro w11 hS
  refine wl rfl (oassign (v := .int .i64 6) rfl rfl (ev (v := .int .i64 6) rfl rfl) ?_)
  refine wnil ?_
  refine thenN ?_
  refine wseq ?_
  have hk7 : Wd (-3) 2 := Wd.i64 (by omega) (by omega)
  have hk8 : Wd 2 2 := Wd.i64 (by omega) (by omega)
  refine wstage 12 [16, 17, 18, 19, 20, 21, 22, 23, 24, 25, 26, 0] [[], [0], [1, 0], [2, 0, 1], [2, 0, 1], [2, 3, 4, 0, 1], [2, 5, 0, 1, 3, 4], [6, 0, 1, 2, 3, 4, 5], [7, 0, 1, 2, 3, 4, 5, 6], [7, 8, 0, 1, 2, 3, 4, 5, 6], [7, 9, 0, 1, 2, 3, 4, 5, 6, 8], [10, 0, 1, 2, 3, 4, 5, 6, 7, 8, 9]] [[], [], [], [], [], [], [], [], [], [], [], []] [] [] (fun i9 => ([fun _ => Is (.int .i64 0), fun _ => Is (.bool true), fun _ => Is (.bool true), fun _ => Is (.agg #[.bool (ng z3), .slice p3 n3 c3, .bool (ng z4), .slice p4 n4 c4]), fun _ => Rrt (-3) 2, fun _ => Is (.bool true), fun _ => Is (.bool true), fun _ => Is (.bool true), fun _ => Is (.int .i64 6), fun _ => Is (.bool true), fun _ => Is (.bool true), fun _ => Is (.bool true)] : List (List Value → Tell)).getD i9 (fun _ _ _ => False)) (heldNil) (fun d _ _ _ _ h => (by cases d <;> exact h)) (by kernel_rfl) (by kernel_rfl) (by kernel_rfl) hS ?_ ?_
  ·
    refine stepsCons rfl ?_ ?_
    · intro Q f' w' ρ S ho hT hS hB
      exact .inl ⟨want_none rfl, omove (v := .int .i64 0) rfl rfl (ev (v := .int .i64 0) rfl (ho 2 rfl)) ⟨_, _, rfl, isI, New.same _⟩⟩
    refine stepsCons rfl ?_ ?_
    · intro Q f' w' ρ S ho hT hS hB
      obtain ⟨hv0, hr0⟩ := (hT 0 16 rfl rfl : (Is (.int .i64 0)) (f' 16) (ρ 0))
      obtain hS := hS.flat1 hr0
      exact .inl ⟨want_none rfl, obin (u := .int .i64 0) (v := .int .i64 0) (z := .bool true) rfl rfl (ev (v := .int .i64 0) rfl hv0) (evc (v := .int .i64 0)) (bin_eql (by decide)) ⟨_, _, rfl, isI, New.same _⟩⟩
    refine stepsCons rfl ?_ ?_
    · intro Q f' w' ρ S ho hT hS hB
      obtain ⟨hv1, hr1⟩ := (hT 1 17 rfl rfl : (Is (.bool true)) (f' 17) (ρ 1))
      obtain hS := hS.flat1 hr1
      exact .inl ⟨want_none rfl, omove (v := .bool true) rfl rfl (ev (v := .bool true) rfl hv1) ⟨_, _, rfl, isI, New.same _⟩⟩
    refine stepsCons rfl ?_ ?_
    · intro Q f' w' ρ S ho hT hS hB
      obtain ⟨hv2, hr2⟩ := (hT 2 18 rfl rfl : (Is (.bool true)) (f' 18) (ρ 2))
      obtain hS := hS.flat1 hr2
      exact .inl ⟨want_on (e := 18) rfl rfl rfl hv2, oload (vs := [.bool (ng z3), .slice p3 n3 c3, .bool (ng z4), .slice p4 n4 c4]) aggR hS 3 rfl rfl (ev rfl (ho 1 rfl)) rfl rfl rfl ⟨_, _, rfl, isI, New.same _⟩⟩
    refine stepsCons rfl ?_ ?_
    · intro Q f' w' ρ S ho hT hS hB
      obtain ⟨hv2, hr2⟩ := (hT 2 18 rfl rfl : (Is (.bool true)) (f' 18) (ρ 2))
      obtain hS := hS.flat1 hr2
      refine .inl ⟨want_on (e := 18) rfl rfl rfl hv2, ocall rfl rfl Try.call61 rfl (wlfrac (x := -3) (y := 2) (by omega) (by omega) (by omega) (by omega)) (args2 evc evc) ?_⟩
      rintro _ w9 ⟨_, _, rfl, hTT, hN⟩
      exact ⟨_, rfl, _, _, rfl, hTT, hN⟩
    refine stepsCons rfl ?_ ?_
    · intro Q f' w' ρ S ho hT hS hB
      obtain ⟨hv2, hr2⟩ := (hT 2 18 rfl rfl : (Is (.bool true)) (f' 18) (ρ 2))
      obtain ⟨hv3, hr3⟩ := (hT 3 19 rfl rfl : (Is (.agg #[.bool (ng z3), .slice p3 n3 c3, .bool (ng z4), .slice p4 n4 c4])) (f' 19) (ρ 3))
      obtain ⟨p7, n7, c7, p8, n8, c8, hv4, hr4⟩ := (hT 4 20 rfl rfl : (Rrt (-3) 2) (f' 20) (ρ 4))
      obtain hS := hS.flat3 hr2 hr3 hr4
      refine .inl ⟨want_on (e := 18) rfl rfl rfl hv2, ocall rfl rfl Try.call13 rfl (wlsame5 (x := z3) (y := z4) (u := -3) (v := 2) (hS.slm 4 rfl) (hS.slm 5 rfl) (hS.slm 8 rfl) (hS.slm 9 rfl) (by rw [← hz3.out]; decide +kernel) (by rw [← hz4.out]; decide +kernel)) (args2 (ev rfl hv3) (ev rfl hv4)) ?_⟩
      rintro _ w9 ⟨_, _, rfl, hTT, hN⟩
      exact ⟨_, rfl, _, _, rfl, hTT, hN⟩
    refine stepsCons rfl ?_ ?_
    · intro Q f' w' ρ S ho hT hS hB
      obtain ⟨hv2, hr2⟩ := (hT 2 18 rfl rfl : (Is (.bool true)) (f' 18) (ρ 2))
      obtain ⟨hv5, hr5⟩ := (hT 5 21 rfl rfl : (Is (.bool true)) (f' 21) (ρ 5))
      obtain hS := hS.flat2 hr2 hr5
      exact .inl ⟨want_none rfl, opick (b := true) (v := .bool true) rfl rfl (ev (v := .bool true) rfl hv2) (ev (v := .bool true) rfl hv5) ⟨_, _, rfl, isI, New.same _⟩⟩
    refine stepsCons rfl ?_ ?_
    · intro Q f' w' ρ S ho hT hS hB
      obtain ⟨hv6, hr6⟩ := (hT 6 22 rfl rfl : (Is (.bool true)) (f' 22) (ρ 6))
      obtain hS := hS.flat1 hr6
      exact .inl ⟨want_none rfl, omove (v := .bool true) rfl rfl (ev (v := .bool true) rfl hv6) ⟨_, _, rfl, isI, New.same _⟩⟩
    refine stepsCons rfl ?_ ?_
    · intro Q f' w' ρ S ho hT hS hB
      obtain ⟨hv7, hr7⟩ := (hT 7 23 rfl rfl : (Is (.bool true)) (f' 23) (ρ 7))
      obtain hS := hS.flat1 hr7
      exact .inl ⟨want_on (e := 23) rfl rfl rfl hv7, omove (v := .int .i64 6) rfl rfl (ev (v := .int .i64 6) rfl (ho 4 rfl)) ⟨_, _, rfl, isI, New.same _⟩⟩
    refine stepsCons rfl ?_ ?_
    · intro Q f' w' ρ S ho hT hS hB
      obtain ⟨hv7, hr7⟩ := (hT 7 23 rfl rfl : (Is (.bool true)) (f' 23) (ρ 7))
      obtain ⟨hv8, hr8⟩ := (hT 8 24 rfl rfl : (Is (.int .i64 6)) (f' 24) (ρ 8))
      obtain hS := hS.flat2 hr7 hr8
      exact .inl ⟨want_on (e := 23) rfl rfl rfl hv7, obin (u := .int .i64 6) (v := .int .i64 6) (z := .bool true) rfl rfl (ev (v := .int .i64 6) rfl hv8) (evc (v := .int .i64 6)) (bin_eql (by decide)) ⟨_, _, rfl, isI, New.same _⟩⟩
    refine stepsCons rfl ?_ ?_
    · intro Q f' w' ρ S ho hT hS hB
      obtain ⟨hv7, hr7⟩ := (hT 7 23 rfl rfl : (Is (.bool true)) (f' 23) (ρ 7))
      obtain ⟨hv9, hr9⟩ := (hT 9 25 rfl rfl : (Is (.bool true)) (f' 25) (ρ 9))
      obtain hS := hS.flat2 hr7 hr9
      exact .inl ⟨want_none rfl, opick (b := true) (v := .bool true) rfl rfl (ev (v := .bool true) rfl hv7) (ev (v := .bool true) rfl hv9) ⟨_, _, rfl, isI, New.same _⟩⟩
    refine stepsCons rfl ?_ ?_
    · intro Q f' w' ρ S ho hT hS hB
      obtain ⟨hv10, hr10⟩ := (hT 10 26 rfl rfl : (Is (.bool true)) (f' 26) (ρ 10))
      obtain hS := hS.flat1 hr10
      exact .inl ⟨want_none rfl, oassign (v := .bool true) rfl rfl (ev (v := .bool true) rfl hv10) ⟨_, _, rfl, isI, New.same _⟩⟩
    exact stepsNil
  ·
    intro vs ρ w12 f' hf hT hS
    obtain ⟨hv0, hr0⟩ := (hT 0 (by decide) : (Is (.int .i64 0)) (vs 0) (ρ 0))
    obtain ⟨hv1, hr1⟩ := (hT 1 (by decide) : (Is (.bool true)) (vs 1) (ρ 1))
    obtain ⟨hv2, hr2⟩ := (hT 2 (by decide) : (Is (.bool true)) (vs 2) (ρ 2))
    obtain ⟨hv3, hr3⟩ := (hT 3 (by decide) : (Is (.agg #[.bool (ng z3), .slice p3 n3 c3, .bool (ng z4), .slice p4 n4 c4])) (vs 3) (ρ 3))
    obtain ⟨p7, n7, c7, p8, n8, c8, hv4, hr4⟩ := (hT 4 (by decide) : (Rrt (-3) 2) (vs 4) (ρ 4))
    obtain ⟨hv5, hr5⟩ := (hT 5 (by decide) : (Is (.bool true)) (vs 5) (ρ 5))
    obtain ⟨hv6, hr6⟩ := (hT 6 (by decide) : (Is (.bool true)) (vs 6) (ρ 6))
    obtain ⟨hv7, hr7⟩ := (hT 7 (by decide) : (Is (.bool true)) (vs 7) (ρ 7))
    obtain ⟨hv8, hr8⟩ := (hT 8 (by decide) : (Is (.int .i64 6)) (vs 8) (ρ 8))
    obtain ⟨hv9, hr9⟩ := (hT 9 (by decide) : (Is (.bool true)) (vs 9) (ρ 9))
    obtain ⟨hv10, hr10⟩ := (hT 10 (by decide) : (Is (.bool true)) (vs 10) (ρ 10))
    obtain ⟨hv11, hr11⟩ := (hT 11 (by decide) : (Is (.bool true)) (vs 11) (ρ 11))
    simp only [pool, if_true, hr0, hr1, hr2, hr3, hr4, hr5, hr6, hr7, hr8, hr9, hr10, hr11, List.nil_append, List.cons_append, List.append_nil] at hS
    simp only [layf, hv0, hv1, hv2, hv3, hv4, hv5, hv6, hv7, hv8, hv9, hv10, hv11] at hf
    subst hf; clear hT hv0 hv1 hv2 hv3 hv4 hv5 hv6 hv7 hv8 hv9 hv10 hv11 hr0 hr1 hr2 hr3 hr4 hr5 hr6 hr7 hr8 hr9 hr10 hr11
    refine wdone rfl ?_
    refine thenN ?_
    refine wleave ?_
    refine wret1 Try.results15 (tellT (v := .bool true) rfl rfl) ?_
    exact ⟨_, _, rfl, isI, hS.new0⟩

end Go.Proofs.Ytoinfkimlhhmpaa
