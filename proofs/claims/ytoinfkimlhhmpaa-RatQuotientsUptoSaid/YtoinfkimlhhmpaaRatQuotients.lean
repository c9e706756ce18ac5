
/-
  The walk of similelaw05.RatQuotients.
-/
import Derived.Test.YtoinfkimlhhmpaaRatLaws0
set_option linter.unusedVariables false
set_option linter.unusedSimpArgs false
namespace Go.Proofs.Ytoinfkimlhhmpaa
open Go.RowKit

theorem rs_zero {x y s : Int} (h : Hid (x.sign * y.sign = s)) (hx : x = 0) : (s == 0) = true := by
  rw [← h.out, hx]; simp
theorem rs_ne {x y s : Int} (h : Hid (x.sign * y.sign = s)) (hx : x ≠ 0) (hy : y ≠ 0) : (s == 0) = false := by
  rw [← h.out, ← Int.sign_mul]
  have := ne_mul hx hy
  rcases Int.lt_or_gt_of_ne this with h | h
  · rw [Int.sign_eq_neg_one_of_neg h]; rfl
  · rw [Int.sign_eq_one_of_pos h]; rfl

set_option maxRecDepth 100000 in
set_option maxHeartbeats 16000000 in
theorem rquotients_w {x y u v : Int} {bA bB bC bD : Bool} {qA qB qC qD : Option Addr} {nA kA nB kB nC kC nD kD : Nat} {w : World} (hzA : Zr w bA qA nA kA x 1048576) (hzB : Zr w bB qB nB kB y 1048576) (hzC : Zr w bC qC nC kC u 1048576) (hzD : Zr w bD qD nD kD v 1048576) :
    Calls Try.prog 3 #[.agg #[.bool bA, .slice qA nA kA, .bool bB, .slice qB nB kB], .agg #[.bool bC, .slice qC nC kC, .bool bD, .slice qD nD kD]] w (Ret (Is (.bool true)) w) := by
  have hS := Sep.init w
  refine went Try.func3 rfl (n := 98) rfl rfl ?_
  refine wseq ?_
  refine wreg ?_
  refine wl rfl (obox [.bool bA, .slice qA nA kA, .bool bB, .slice qB nB kB] hS rfl rfl (ev (v := .agg #[.bool bA, .slice qA nA kA, .bool bB, .slice qB nB kB]) rfl rfl) rfl ?_)
  clear hS; intro g1 w2 hS
  refine wl rfl (obox [.bool bC, .slice qC nC kC, .bool bD, .slice qD nD kD] hS rfl rfl (ev (v := .agg #[.bool bC, .slice qC nC kC, .bool bD, .slice qD nD kD]) rfl rfl) rfl ?_)
  clear hS; intro g3 w4 hS
  refine wl rfl (oassign (v := .bool false) rfl rfl (evc (v := .bool false)) ?_)
  refine wnil ?_
  refine thenN ?_
  refine wseq ?_
  refine wreg ?_
  refine wl rfl (oload (vs := [.bool bA, .slice qA nA kA, .bool bB, .slice qB nB kB]) aggR hS 1 rfl rfl (ev rfl rfl) rfl rfl rfl ?_)
  by_cases hy : y = 0
  ·
    refine wl rfl (ocall rfl rfl Try.call9 rfl (wrinv0 ((hzA.at hS).mono (by omega)) ((hzB.at hS).mono (by omega)) (hy)) (args1 (ev rfl rfl)) ?_)
    rintro _ w5 ⟨_, _, rfl, ⟨rfl, rfl⟩, hN⟩
    refine ⟨_, rfl, ?_⟩
    replace hS := hS.news hN; clear hN
    refine wl rfl (omove (v := .tuple #[.agg #[.bool false, .slice none 0 0, .bool false, .slice none 0 0], .int .i64 6]) rfl rfl (ev (v := .tuple #[.agg #[.bool false, .slice none 0 0, .bool false, .slice none 0 0], .int .i64 6]) rfl rfl) ?_)
    refine wl rfl (oextract (vs := [.agg #[.bool false, .slice none 0 0, .bool false, .slice none 0 0], .int .i64 6]) (v := .agg #[.bool false, .slice none 0 0, .bool false, .slice none 0 0]) rfl rfl (ev (v := .tuple #[.agg #[.bool false, .slice none 0 0, .bool false, .slice none 0 0], .int .i64 6]) rfl rfl) rfl ?_)
    refine wl rfl (oextract (vs := [.agg #[.bool false, .slice none 0 0, .bool false, .slice none 0 0], .int .i64 6]) (v := .int .i64 6) rfl rfl (ev (v := .tuple #[.agg #[.bool false, .slice none 0 0, .bool false, .slice none 0 0], .int .i64 6]) rfl rfl) rfl ?_)
    refine wl rfl (oalloc [.bool false, .slice none 0 0, .bool false, .slice none 0 0] hS rfl rfl Try.zeroValue27 rfl ?_)
    clear hS; intro g6 w7 hS
    refine wl rfl (ostore [.bool false, .slice none 0 0, .bool false, .slice none 0 0] [.bool false, .slice none 0 0, .bool false, .slice none 0 0] Try.sizeOf27 hS 0 rfl rfl (ev rfl rfl) (ev (v := .agg #[.bool false, .slice none 0 0, .bool false, .slice none 0 0]) rfl rfl) rfl rfl rfl rfl rfl rfl ?_)
    clear hS; intro w8 hS
    refine wl rfl (oassign (v := .int .i64 6) rfl rfl (ev (v := .int .i64 6) rfl rfl) ?_)
    refine wnil ?_
    refine thenN ?_
    refine wseq ?_
    refine wreg ?_
    refine wl rfl (oload (vs := [.bool bA, .slice qA nA kA, .bool bB, .slice qB nB kB]) aggR hS 2 rfl rfl (ev rfl rfl) rfl rfl rfl ?_)
    refine wl rfl (oload (vs := [.bool bC, .slice qC nC kC, .bool bD, .slice qD nD kD]) aggR hS 1 rfl rfl (ev rfl rfl) rfl rfl rfl ?_)
    refine wl rfl (ocall rfl rfl Try.call10 rfl (wrquo0 ((hzA.at hS).mono (by omega)) ((hzB.at hS).mono (by omega)) ((hzC.at hS).mono (by omega)) ((hzD.at hS).mono (by omega)) (.inl hy)) (args2 (ev rfl rfl) (ev rfl rfl)) ?_)
    rintro _ w9 ⟨_, _, rfl, ⟨rfl, rfl⟩, hN⟩
    refine ⟨_, rfl, ?_⟩
    replace hS := hS.news hN; clear hN
    refine wl rfl (omove (v := .tuple #[.agg #[.bool false, .slice none 0 0, .bool false, .slice none 0 0], .int .i64 6]) rfl rfl (ev (v := .tuple #[.agg #[.bool false, .slice none 0 0, .bool false, .slice none 0 0], .int .i64 6]) rfl rfl) ?_)
    refine wl rfl (oextract (vs := [.agg #[.bool false, .slice none 0 0, .bool false, .slice none 0 0], .int .i64 6]) (v := .agg #[.bool false, .slice none 0 0, .bool false, .slice none 0 0]) rfl rfl (ev (v := .tuple #[.agg #[.bool false, .slice none 0 0, .bool false, .slice none 0 0], .int .i64 6]) rfl rfl) rfl ?_)
    refine wl rfl (oextract (vs := [.agg #[.bool false, .slice none 0 0, .bool false, .slice none 0 0], .int .i64 6]) (v := .int .i64 6) rfl rfl (ev (v := .tuple #[.agg #[.bool false, .slice none 0 0, .bool false, .slice none 0 0], .int .i64 6]) rfl rfl) rfl ?_)
    refine wl rfl (oalloc [.bool false, .slice none 0 0, .bool false, .slice none 0 0] hS rfl rfl Try.zeroValue27 rfl ?_)
    clear hS; intro g10 w11 hS
    refine wl rfl (ostore [.bool false, .slice none 0 0, .bool false, .slice none 0 0] [.bool false, .slice none 0 0, .bool false, .slice none 0 0] Try.sizeOf27 hS 0 rfl rfl (ev rfl rfl) (ev (v := .agg #[.bool false, .slice none 0 0, .bool false, .slice none 0 0]) rfl rfl) rfl rfl rfl rfl rfl rfl ?_)
    clear hS; intro w12 hS
    refine wl rfl (oassign (v := .int .i64 6) rfl rfl (ev (v := .int .i64 6) rfl rfl) ?_)
    refine wnil ?_
    refine thenN ?_
    refine wseq ?_
    refine wseq ?_
    refine wreg ?_
    refine wl rfl (oload (vs := [.bool bA, .slice qA nA kA, .bool bB, .slice qB nB kB]) aggR hS 3 rfl rfl (ev rfl rfl) rfl rfl rfl ?_)
    refine wl rfl (ocall rfl rfl Try.call11 rfl (wsmay0 ((hzB.at hS).mono (by omega)) (hy)) (args1 (ev rfl rfl)) ?_)
    rintro _ w13 ⟨_, _, rfl, ⟨rfl, rfl⟩, hN⟩
    refine ⟨_, rfl, ?_⟩
    replace hS := hS.news hN; clear hN
    refine wl rfl (omove (v := .bool false) rfl rfl (ev (v := .bool false) rfl rfl) ?_)
    refine wlOff (e := 22) (d := 23) (b' := false) rfl rfl rfl rfl rfl rfl ?_
    refine wlOff (e := 22) (d := 24) (b' := false) rfl rfl rfl rfl rfl rfl ?_
    refine wlOff (e := 22) (d := 25) (b' := false) rfl rfl rfl rfl rfl rfl ?_
    refine wl rfl (opick (b := false) (v := .bool false) rfl rfl (ev (v := .bool false) rfl rfl) (evc (v := .bool false)) ?_)
    refine wnil ?_
    refine thenN ?_
    refine wF (ev (v := .bool false) rfl rfl) ?_
    refine wseq ?_
    refine wreg ?_
    refine wl rfl (oload (vs := [.bool bA, .slice qA nA kA, .bool bB, .slice qB nB kB]) aggR hS 3 rfl rfl (ev rfl rfl) rfl rfl rfl ?_)
    refine wl rfl (ocall rfl rfl Try.call11 rfl (wsmay0 ((hzB.at hS).mono (by omega)) (hy)) (args1 (ev rfl rfl)) ?_)
    rintro _ w14 ⟨_, _, rfl, ⟨rfl, rfl⟩, hN⟩
    refine ⟨_, rfl, ?_⟩
    replace hS := hS.news hN; clear hN
    refine wl rfl (onot (b := false) rfl rfl (ev (v := .bool false) rfl rfl) ?_)
    refine wnil ?_
    refine thenN ?_
    refine wT (ev (v := .bool true) rfl rfl) ?_
    refine wseq ?_
    refine wreg ?_
    refine wl rfl (omove (v := .int .i64 6) rfl rfl (ev (v := .int .i64 6) rfl rfl) ?_)
    refine wl rfl (obin (u := .int .i64 6) (v := .int .i64 6) (z := .bool false) rfl rfl (ev (v := .int .i64 6) rfl rfl) (evc (v := .int .i64 6)) (bin_neq (by decide)) ?_)
    refine wl rfl (omove (v := .bool false) rfl rfl (ev (v := .bool false) rfl rfl) ?_)
    refine wlOn (e := 40) rfl rfl rfl rfl (oload (vs := [.bool false, .slice none 0 0, .bool false, .slice none 0 0]) aggR hS 1 rfl rfl (ev rfl rfl) rfl rfl rfl ?_)
    refine wlOn (e := 40) rfl rfl rfl rfl (obuild (ps := #[]) (v := .agg #[.bool false, .slice none 0 0, .bool false, .slice none 0 0]) rfl rfl (parts0) (fun w => by simp [go_sem, Instr.build, Instr.fill]) ?_)
    refine wlOn (e := 40) rfl rfl rfl rfl (ocall rfl rfl Try.call13 rfl (wlsame5 (x := 0) (y := 0) (u := 0) (v := 0) (Sl.nil _) (Sl.nil _) (Sl.nil _) (Sl.nil _) (rfl) (rfl)) (args2 (ev rfl rfl) (ev rfl rfl)) ?_)
    rintro _ w15 ⟨_, _, rfl, ⟨rfl, rfl⟩, hN⟩
    refine ⟨_, rfl, ?_⟩
    replace hS := hS.news hN; clear hN
    refine wlOn (e := 40) rfl rfl rfl rfl (onot (b := true) rfl rfl (ev (v := .bool true) rfl rfl) ?_)
    refine wl rfl (opick (b := false) (v := .bool false) rfl rfl (ev (v := .bool false) rfl rfl) (ev (v := .bool false) rfl rfl) ?_)
    refine wnil ?_
    refine thenN ?_
    refine wF (ev (v := .bool false) rfl rfl) ?_
    refine wskip ?_
    refine thenN ?_
    refine wseq ?_
    refine wseq ?_
    refine wreg ?_
    refine wl rfl (oload (vs := [.bool bA, .slice qA nA kA, .bool bB, .slice qB nB kB]) aggR hS 3 rfl rfl (ev rfl rfl) rfl rfl rfl ?_)
    refine wl rfl (ocall rfl rfl Try.call11 rfl (wsmay0 ((hzB.at hS).mono (by omega)) (hy)) (args1 (ev rfl rfl)) ?_)
    rintro _ w16 ⟨_, _, rfl, ⟨rfl, rfl⟩, hN⟩
    refine ⟨_, rfl, ?_⟩
    replace hS := hS.news hN; clear hN
    refine wl rfl (onot (b := false) rfl rfl (ev (v := .bool false) rfl rfl) ?_)
    refine wl rfl (omove (v := .bool true) rfl rfl (ev (v := .bool true) rfl rfl) ?_)
    refine wlOff (e := 58) (d := 59) (b' := true) rfl rfl rfl rfl rfl rfl ?_
    refine wlOff (e := 58) (d := 60) (b' := true) rfl rfl rfl rfl rfl rfl ?_
    refine wlOff (e := 58) (d := 61) (b' := true) rfl rfl rfl rfl rfl rfl ?_
    refine wl rfl (opick (b := true) (v := .bool true) rfl rfl (ev (v := .bool true) rfl rfl) (evc (v := .bool true)) ?_)
    refine wnil ?_
    refine thenN ?_
    refine wT (ev (v := .bool true) rfl rfl) ?_
    refine wseq ?_
    refine wreg ?_
    refine wl rfl (omove (v := .int .i64 6) rfl rfl (ev (v := .int .i64 6) rfl rfl) ?_)
    refine wl rfl (obin (u := .int .i64 6) (v := .int .i64 6) (z := .bool true) rfl rfl (ev (v := .int .i64 6) rfl rfl) (evc (v := .int .i64 6)) (bin_eql (by decide)) ?_)
    refine wl rfl (omove (v := .bool true) rfl rfl (ev (v := .bool true) rfl rfl) ?_)
    refine wlOn (e := 65) rfl rfl rfl rfl (oload (vs := [.bool false, .slice none 0 0, .bool false, .slice none 0 0]) aggR hS 0 rfl rfl (ev rfl rfl) rfl rfl rfl ?_)
    refine wlOn (e := 65) rfl rfl rfl rfl (obuild (ps := #[]) (v := .agg #[.bool false, .slice none 0 0, .bool false, .slice none 0 0]) rfl rfl (parts0) (fun w => by simp [go_sem, Instr.build, Instr.fill]) ?_)
    refine wlOn (e := 65) rfl rfl rfl rfl (ocall rfl rfl Try.call13 rfl (wlsame5 (x := 0) (y := 0) (u := 0) (v := 0) (Sl.nil _) (Sl.nil _) (Sl.nil _) (Sl.nil _) (rfl) (rfl)) (args2 (ev rfl rfl) (ev rfl rfl)) ?_)
    rintro _ w17 ⟨_, _, rfl, ⟨rfl, rfl⟩, hN⟩
    refine ⟨_, rfl, ?_⟩
    replace hS := hS.news hN; clear hN
    refine wl rfl (opick (b := true) (v := .bool true) rfl rfl (ev (v := .bool true) rfl rfl) (ev (v := .bool true) rfl rfl) ?_)
    refine wl rfl (omove (v := .bool true) rfl rfl (ev (v := .bool true) rfl rfl) ?_)
    refine wlOn (e := 70) rfl rfl rfl rfl (ocall rfl rfl Try.call15 rfl (wllives5) (args0 ) ?_)
    rintro _ w18 ⟨_, _, rfl, ⟨rfl, rfl⟩, hN⟩
    refine ⟨_, rfl, ?_⟩
    replace hS := hS.news hN; clear hN
    refine wl rfl (opick (b := true) (v := .bool true) rfl rfl (ev (v := .bool true) rfl rfl) (ev (v := .bool true) rfl rfl) ?_)
    refine wl rfl (oassign (v := .bool true) rfl rfl (ev (v := .bool true) rfl rfl) ?_)
    refine wnil ?_
    refine thenN ?_
    refine wleave ?_
    refine thenR ?_
    refine wret1 Try.results3 (tellT (v := .bool true) rfl rfl) ?_
    exact ⟨_, _, rfl, isI, hS.new0⟩
  ·
    by_cases hx : x = 0
    ·
      by_cases hv : v = 0
      ·
        have hk1 : Wd 0 2 := Wd.i64 (by omega) (by omega)
        have hk2 : Wd 0 2 := Wd.i64 (by omega) (by omega)
        refine wl rfl (ocall rfl rfl Try.call9 rfl (wrinvz ((hzA.at hS).mono (by omega)) ((hzB.at hS).mono (by omega)) (hy) (hx)) (args1 (ev rfl rfl)) ?_)
        rintro _ w5 ⟨_, _, rfl, ⟨p1, n1, c1, p2, n2, c2, rfl, rfl⟩, hN⟩
        refine ⟨_, rfl, ?_⟩
        replace hS := hS.news hN; clear hN
        refine wl rfl (omove (v := .tuple #[.agg #[.bool (ng 0), .slice p1 n1 c1, .bool (ng 0), .slice p2 n2 c2], .int .i64 5]) rfl rfl (ev (v := .tuple #[.agg #[.bool (ng 0), .slice p1 n1 c1, .bool (ng 0), .slice p2 n2 c2], .int .i64 5]) rfl rfl) ?_)
        refine wl rfl (oextract (vs := [.agg #[.bool (ng 0), .slice p1 n1 c1, .bool (ng 0), .slice p2 n2 c2], .int .i64 5]) (v := .agg #[.bool (ng 0), .slice p1 n1 c1, .bool (ng 0), .slice p2 n2 c2]) rfl rfl (ev (v := .tuple #[.agg #[.bool (ng 0), .slice p1 n1 c1, .bool (ng 0), .slice p2 n2 c2], .int .i64 5]) rfl rfl) rfl ?_)
        refine wl rfl (oextract (vs := [.agg #[.bool (ng 0), .slice p1 n1 c1, .bool (ng 0), .slice p2 n2 c2], .int .i64 5]) (v := .int .i64 5) rfl rfl (ev (v := .tuple #[.agg #[.bool (ng 0), .slice p1 n1 c1, .bool (ng 0), .slice p2 n2 c2], .int .i64 5]) rfl rfl) rfl ?_)
        refine wl rfl (oalloc [.bool false, .slice none 0 0, .bool false, .slice none 0 0] hS rfl rfl Try.zeroValue27 rfl ?_)
        clear hS; intro g6 w7 hS
        refine wl rfl (ostore [.bool (ng 0), .slice p1 n1 c1, .bool (ng 0), .slice p2 n2 c2] [.bool (ng 0), .slice p1 n1 c1, .bool (ng 0), .slice p2 n2 c2] Try.sizeOf27 hS 0 rfl rfl (ev rfl rfl) (ev (v := .agg #[.bool (ng 0), .slice p1 n1 c1, .bool (ng 0), .slice p2 n2 c2]) rfl rfl) rfl rfl rfl rfl rfl rfl ?_)
        clear hS; intro w8 hS
        refine wl rfl (oassign (v := .int .i64 5) rfl rfl (ev (v := .int .i64 5) rfl rfl) ?_)
        refine wnil ?_
        refine thenN ?_
        refine wseq ?_
        refine wreg ?_
        refine wl rfl (oload (vs := [.bool bA, .slice qA nA kA, .bool bB, .slice qB nB kB]) aggR hS 4 rfl rfl (ev rfl rfl) rfl rfl rfl ?_)
        refine wl rfl (oload (vs := [.bool bC, .slice qC nC kC, .bool bD, .slice qD nD kD]) aggR hS 3 rfl rfl (ev rfl rfl) rfl rfl rfl ?_)
        refine wl rfl (ocall rfl rfl Try.call10 rfl (wrquo0 ((hzA.at hS).mono (by omega)) ((hzB.at hS).mono (by omega)) ((hzC.at hS).mono (by omega)) ((hzD.at hS).mono (by omega)) (.inr hv)) (args2 (ev rfl rfl) (ev rfl rfl)) ?_)
        rintro _ w9 ⟨_, _, rfl, ⟨rfl, rfl⟩, hN⟩
        refine ⟨_, rfl, ?_⟩
        replace hS := hS.news hN; clear hN
        refine wl rfl (omove (v := .tuple #[.agg #[.bool false, .slice none 0 0, .bool false, .slice none 0 0], .int .i64 6]) rfl rfl (ev (v := .tuple #[.agg #[.bool false, .slice none 0 0, .bool false, .slice none 0 0], .int .i64 6]) rfl rfl) ?_)
        refine wl rfl (oextract (vs := [.agg #[.bool false, .slice none 0 0, .bool false, .slice none 0 0], .int .i64 6]) (v := .agg #[.bool false, .slice none 0 0, .bool false, .slice none 0 0]) rfl rfl (ev (v := .tuple #[.agg #[.bool false, .slice none 0 0, .bool false, .slice none 0 0], .int .i64 6]) rfl rfl) rfl ?_)
        refine wl rfl (oextract (vs := [.agg #[.bool false, .slice none 0 0, .bool false, .slice none 0 0], .int .i64 6]) (v := .int .i64 6) rfl rfl (ev (v := .tuple #[.agg #[.bool false, .slice none 0 0, .bool false, .slice none 0 0], .int .i64 6]) rfl rfl) rfl ?_)
        refine wl rfl (oalloc [.bool false, .slice none 0 0, .bool false, .slice none 0 0] hS rfl rfl Try.zeroValue27 rfl ?_)
        clear hS; intro g10 w11 hS
        refine wl rfl (ostore [.bool false, .slice none 0 0, .bool false, .slice none 0 0] [.bool false, .slice none 0 0, .bool false, .slice none 0 0] Try.sizeOf27 hS 0 rfl rfl (ev rfl rfl) (ev (v := .agg #[.bool false, .slice none 0 0, .bool false, .slice none 0 0]) rfl rfl) rfl rfl rfl rfl rfl rfl ?_)
        clear hS; intro w12 hS
        refine wl rfl (oassign (v := .int .i64 6) rfl rfl (ev (v := .int .i64 6) rfl rfl) ?_)
        refine wnil ?_
        refine thenN ?_
        refine wseq ?_
        refine wseq ?_
        refine wreg ?_
        refine wl rfl (oload (vs := [.bool bA, .slice qA nA kA, .bool bB, .slice qB nB kB]) aggR hS 5 rfl rfl (ev rfl rfl) rfl rfl rfl ?_)
        refine wl rfl (ocall rfl rfl Try.call11 rfl (wsmay ((hzB.at hS).mono (by omega)) (hy)) (args1 (ev rfl rfl)) ?_)
        rintro _ w13 ⟨_, _, rfl, ⟨rfl, rfl⟩, hN⟩
        refine ⟨_, rfl, ?_⟩
        replace hS := hS.news hN; clear hN
        refine wl rfl (omove (v := .bool true) rfl rfl (ev (v := .bool true) rfl rfl) ?_)
        refine wlOn (e := 22) rfl rfl rfl rfl (oload (vs := [.bool bA, .slice qA nA kA, .bool bB, .slice qB nB kB]) aggR hS 5 rfl rfl (ev rfl rfl) rfl rfl rfl ?_)
        obtain ⟨s3, hs3⟩ : ∃ z : Int, Hid ((x : Int).sign * (y : Int).sign = z) := ⟨_, rfl⟩
        refine wlOn (e := 22) rfl rfl rfl rfl (ocall rfl rfl Try.call12 rfl (wssign ((hzA.at hS).mono (by omega)) ((hzB.at hS).mono (by omega)) (hy) hs3) (args1 (ev rfl rfl)) ?_)
        rintro _ w14 ⟨_, _, rfl, ⟨rfl, rfl⟩, hN⟩
        refine ⟨_, rfl, ?_⟩
        replace hS := hS.news hN; clear hN
        refine wlOn (e := 22) rfl rfl rfl rfl (obin (u := .int .i64 s3) (v := .int .i64 0) (z := .bool true) rfl rfl (ev (v := .int .i64 s3) rfl rfl) (evc (v := .int .i64 0)) (bin_eql (rs_zero hs3 hx)) ?_)
        refine wl rfl (opick (b := true) (v := .bool true) rfl rfl (ev (v := .bool true) rfl rfl) (ev (v := .bool true) rfl rfl) ?_)
        refine wnil ?_
        refine thenN ?_
        refine wT (ev (v := .bool true) rfl rfl) ?_
        refine wseq ?_
        refine wreg ?_
        refine wl rfl (omove (v := .int .i64 5) rfl rfl (ev (v := .int .i64 5) rfl rfl) ?_)
        refine wl rfl (obin (u := .int .i64 5) (v := .int .i64 5) (z := .bool false) rfl rfl (ev (v := .int .i64 5) rfl rfl) (evc (v := .int .i64 5)) (bin_neq (by decide)) ?_)
        refine wl rfl (omove (v := .bool false) rfl rfl (ev (v := .bool false) rfl rfl) ?_)
        refine wlOn (e := 29) rfl rfl rfl rfl (oload (vs := [.bool (ng 0), .slice p1 n1 c1, .bool (ng 0), .slice p2 n2 c2]) aggR hS 1 rfl rfl (ev rfl rfl) rfl rfl rfl ?_)
        refine wlOn (e := 29) rfl rfl rfl rfl (obuild (ps := #[]) (v := .agg #[.bool false, .slice none 0 0, .bool false, .slice none 0 0]) rfl rfl (parts0) (fun w => by simp [go_sem, Instr.build, Instr.fill]) ?_)
        refine wlOn (e := 29) rfl rfl rfl rfl (ocall rfl rfl Try.call13 rfl (wlsame5 (x := 0) (y := 0) (u := 0) (v := 0) (hS.slm 2 rfl) (hS.slm 3 rfl) (Sl.nil _) (Sl.nil _) (rfl) (rfl)) (args2 (ev rfl rfl) (ev rfl rfl)) ?_)
        rintro _ w15 ⟨_, _, rfl, ⟨rfl, rfl⟩, hN⟩
        refine ⟨_, rfl, ?_⟩
        replace hS := hS.news hN; clear hN
        refine wlOn (e := 29) rfl rfl rfl rfl (onot (b := true) rfl rfl (ev (v := .bool true) rfl rfl) ?_)
        refine wl rfl (opick (b := false) (v := .bool false) rfl rfl (ev (v := .bool false) rfl rfl) (ev (v := .bool false) rfl rfl) ?_)
        refine wnil ?_
        refine thenN ?_
        refine wF (ev (v := .bool false) rfl rfl) ?_
        refine wskip ?_
        refine thenN ?_
        refine wseq ?_
        refine wseq ?_
        refine wreg ?_
        refine wl rfl (oload (vs := [.bool bA, .slice qA nA kA, .bool bB, .slice qB nB kB]) aggR hS 5 rfl rfl (ev rfl rfl) rfl rfl rfl ?_)
        refine wl rfl (ocall rfl rfl Try.call11 rfl (wsmay ((hzB.at hS).mono (by omega)) (hy)) (args1 (ev rfl rfl)) ?_)
        rintro _ w16 ⟨_, _, rfl, ⟨rfl, rfl⟩, hN⟩
        refine ⟨_, rfl, ?_⟩
        replace hS := hS.news hN; clear hN
        refine wl rfl (onot (b := true) rfl rfl (ev (v := .bool true) rfl rfl) ?_)
        refine wl rfl (omove (v := .bool false) rfl rfl (ev (v := .bool false) rfl rfl) ?_)
        refine wlOn (e := 58) rfl rfl rfl rfl (oload (vs := [.bool bC, .slice qC nC kC, .bool bD, .slice qD nD kD]) aggR hS 4 rfl rfl (ev rfl rfl) rfl rfl rfl ?_)
        refine wlOn (e := 58) rfl rfl rfl rfl (ocall rfl rfl Try.call11 rfl (wsmay0 ((hzD.at hS).mono (by omega)) (hv)) (args1 (ev rfl rfl)) ?_)
        rintro _ w17 ⟨_, _, rfl, ⟨rfl, rfl⟩, hN⟩
        refine ⟨_, rfl, ?_⟩
        replace hS := hS.news hN; clear hN
        refine wlOn (e := 58) rfl rfl rfl rfl (onot (b := false) rfl rfl (ev (v := .bool false) rfl rfl) ?_)
        refine wl rfl (opick (b := false) (v := .bool true) rfl rfl (ev (v := .bool false) rfl rfl) (ev (v := .bool true) rfl rfl) ?_)
        refine wnil ?_
        refine thenN ?_
        refine wT (ev (v := .bool true) rfl rfl) ?_
        refine wseq ?_
        refine wreg ?_
        refine wl rfl (omove (v := .int .i64 6) rfl rfl (ev (v := .int .i64 6) rfl rfl) ?_)
        refine wl rfl (obin (u := .int .i64 6) (v := .int .i64 6) (z := .bool true) rfl rfl (ev (v := .int .i64 6) rfl rfl) (evc (v := .int .i64 6)) (bin_eql (by decide)) ?_)
        refine wl rfl (omove (v := .bool true) rfl rfl (ev (v := .bool true) rfl rfl) ?_)
        refine wlOn (e := 65) rfl rfl rfl rfl (oload (vs := [.bool false, .slice none 0 0, .bool false, .slice none 0 0]) aggR hS 0 rfl rfl (ev rfl rfl) rfl rfl rfl ?_)
        refine wlOn (e := 65) rfl rfl rfl rfl (obuild (ps := #[]) (v := .agg #[.bool false, .slice none 0 0, .bool false, .slice none 0 0]) rfl rfl (parts0) (fun w => by simp [go_sem, Instr.build, Instr.fill]) ?_)
        refine wlOn (e := 65) rfl rfl rfl rfl (ocall rfl rfl Try.call13 rfl (wlsame5 (x := 0) (y := 0) (u := 0) (v := 0) (Sl.nil _) (Sl.nil _) (Sl.nil _) (Sl.nil _) (rfl) (rfl)) (args2 (ev rfl rfl) (ev rfl rfl)) ?_)
        rintro _ w18 ⟨_, _, rfl, ⟨rfl, rfl⟩, hN⟩
        refine ⟨_, rfl, ?_⟩
        replace hS := hS.news hN; clear hN
        refine wl rfl (opick (b := true) (v := .bool true) rfl rfl (ev (v := .bool true) rfl rfl) (ev (v := .bool true) rfl rfl) ?_)
        refine wl rfl (omove (v := .bool true) rfl rfl (ev (v := .bool true) rfl rfl) ?_)
        refine wlOn (e := 70) rfl rfl rfl rfl (ocall rfl rfl Try.call15 rfl (wllives5) (args0 ) ?_)
        rintro _ w19 ⟨_, _, rfl, ⟨rfl, rfl⟩, hN⟩
        refine ⟨_, rfl, ?_⟩
        replace hS := hS.news hN; clear hN
        refine wl rfl (opick (b := true) (v := .bool true) rfl rfl (ev (v := .bool true) rfl rfl) (ev (v := .bool true) rfl rfl) ?_)
        refine wl rfl (oassign (v := .bool true) rfl rfl (ev (v := .bool true) rfl rfl) ?_)
        refine wnil ?_
        refine thenN ?_
        refine wleave ?_
        refine thenR ?_
        refine wret1 Try.results3 (tellT (v := .bool true) rfl rfl) ?_
        exact ⟨_, _, rfl, isI, hS.new0⟩
      ·
        by_cases hu : u = 0
        ·
          have hk1 : Wd 0 2 := Wd.i64 (by omega) (by omega)
          have hk2 : Wd 0 2 := Wd.i64 (by omega) (by omega)
          refine wl rfl (ocall rfl rfl Try.call9 rfl (wrinvz ((hzA.at hS).mono (by omega)) ((hzB.at hS).mono (by omega)) (hy) (hx)) (args1 (ev rfl rfl)) ?_)
          rintro _ w5 ⟨_, _, rfl, ⟨p1, n1, c1, p2, n2, c2, rfl, rfl⟩, hN⟩
          refine ⟨_, rfl, ?_⟩
          replace hS := hS.news hN; clear hN
          refine wl rfl (omove (v := .tuple #[.agg #[.bool (ng 0), .slice p1 n1 c1, .bool (ng 0), .slice p2 n2 c2], .int .i64 5]) rfl rfl (ev (v := .tuple #[.agg #[.bool (ng 0), .slice p1 n1 c1, .bool (ng 0), .slice p2 n2 c2], .int .i64 5]) rfl rfl) ?_)
          refine wl rfl (oextract (vs := [.agg #[.bool (ng 0), .slice p1 n1 c1, .bool (ng 0), .slice p2 n2 c2], .int .i64 5]) (v := .agg #[.bool (ng 0), .slice p1 n1 c1, .bool (ng 0), .slice p2 n2 c2]) rfl rfl (ev (v := .tuple #[.agg #[.bool (ng 0), .slice p1 n1 c1, .bool (ng 0), .slice p2 n2 c2], .int .i64 5]) rfl rfl) rfl ?_)
          refine wl rfl (oextract (vs := [.agg #[.bool (ng 0), .slice p1 n1 c1, .bool (ng 0), .slice p2 n2 c2], .int .i64 5]) (v := .int .i64 5) rfl rfl (ev (v := .tuple #[.agg #[.bool (ng 0), .slice p1 n1 c1, .bool (ng 0), .slice p2 n2 c2], .int .i64 5]) rfl rfl) rfl ?_)
          refine wl rfl (oalloc [.bool false, .slice none 0 0, .bool false, .slice none 0 0] hS rfl rfl Try.zeroValue27 rfl ?_)
          clear hS; intro g6 w7 hS
          refine wl rfl (ostore [.bool (ng 0), .slice p1 n1 c1, .bool (ng 0), .slice p2 n2 c2] [.bool (ng 0), .slice p1 n1 c1, .bool (ng 0), .slice p2 n2 c2] Try.sizeOf27 hS 0 rfl rfl (ev rfl rfl) (ev (v := .agg #[.bool (ng 0), .slice p1 n1 c1, .bool (ng 0), .slice p2 n2 c2]) rfl rfl) rfl rfl rfl rfl rfl rfl ?_)
          clear hS; intro w8 hS
          refine wl rfl (oassign (v := .int .i64 5) rfl rfl (ev (v := .int .i64 5) rfl rfl) ?_)
          refine wnil ?_
          refine thenN ?_
          refine wseq ?_
          refine wreg ?_
          refine wl rfl (oload (vs := [.bool bA, .slice qA nA kA, .bool bB, .slice qB nB kB]) aggR hS 4 rfl rfl (ev rfl rfl) rfl rfl rfl ?_)
          refine wl rfl (oload (vs := [.bool bC, .slice qC nC kC, .bool bD, .slice qD nD kD]) aggR hS 3 rfl rfl (ev rfl rfl) rfl rfl rfl ?_)
          have hk3 : Wd 0 2 := Wd.i64 (by omega) (by omega)
          have hk4 : Wd 0 2 := Wd.i64 (by omega) (by omega)
          refine wl rfl (ocall rfl rfl Try.call10 rfl (wrquoz ((hzA.at hS).mono (by omega)) ((hzB.at hS).mono (by omega)) ((hzC.at hS).mono (by omega)) ((hzD.at hS).mono (by omega)) (hy) (hv) (hu)) (args2 (ev rfl rfl) (ev rfl rfl)) ?_)
          rintro _ w9 ⟨_, _, rfl, ⟨p3, n3, c3, p4, n4, c4, rfl, rfl⟩, hN⟩
          refine ⟨_, rfl, ?_⟩
          replace hS := hS.news hN; clear hN
          refine wl rfl (omove (v := .tuple #[.agg #[.bool (ng 0), .slice p3 n3 c3, .bool (ng 0), .slice p4 n4 c4], .int .i64 5]) rfl rfl (ev (v := .tuple #[.agg #[.bool (ng 0), .slice p3 n3 c3, .bool (ng 0), .slice p4 n4 c4], .int .i64 5]) rfl rfl) ?_)
          refine wl rfl (oextract (vs := [.agg #[.bool (ng 0), .slice p3 n3 c3, .bool (ng 0), .slice p4 n4 c4], .int .i64 5]) (v := .agg #[.bool (ng 0), .slice p3 n3 c3, .bool (ng 0), .slice p4 n4 c4]) rfl rfl (ev (v := .tuple #[.agg #[.bool (ng 0), .slice p3 n3 c3, .bool (ng 0), .slice p4 n4 c4], .int .i64 5]) rfl rfl) rfl ?_)
          refine wl rfl (oextract (vs := [.agg #[.bool (ng 0), .slice p3 n3 c3, .bool (ng 0), .slice p4 n4 c4], .int .i64 5]) (v := .int .i64 5) rfl rfl (ev (v := .tuple #[.agg #[.bool (ng 0), .slice p3 n3 c3, .bool (ng 0), .slice p4 n4 c4], .int .i64 5]) rfl rfl) rfl ?_)
          refine wl rfl (oalloc [.bool false, .slice none 0 0, .bool false, .slice none 0 0] hS rfl rfl Try.zeroValue27 rfl ?_)
          clear hS; intro g10 w11 hS
          refine wl rfl (ostore [.bool (ng 0), .slice p3 n3 c3, .bool (ng 0), .slice p4 n4 c4] [.bool (ng 0), .slice p3 n3 c3, .bool (ng 0), .slice p4 n4 c4] Try.sizeOf27 hS 0 rfl rfl (ev rfl rfl) (ev (v := .agg #[.bool (ng 0), .slice p3 n3 c3, .bool (ng 0), .slice p4 n4 c4]) rfl rfl) rfl rfl rfl rfl rfl rfl ?_)
          clear hS; intro w12 hS
          refine wl rfl (oassign (v := .int .i64 5) rfl rfl (ev (v := .int .i64 5) rfl rfl) ?_)
          refine wnil ?_
          refine thenN ?_
          refine wseq ?_
          refine wseq ?_
          refine wreg ?_
          refine wl rfl (oload (vs := [.bool bA, .slice qA nA kA, .bool bB, .slice qB nB kB]) aggR hS 7 rfl rfl (ev rfl rfl) rfl rfl rfl ?_)
          refine wl rfl (ocall rfl rfl Try.call11 rfl (wsmay ((hzB.at hS).mono (by omega)) (hy)) (args1 (ev rfl rfl)) ?_)
          rintro _ w13 ⟨_, _, rfl, ⟨rfl, rfl⟩, hN⟩
          refine ⟨_, rfl, ?_⟩
          replace hS := hS.news hN; clear hN
          refine wl rfl (omove (v := .bool true) rfl rfl (ev (v := .bool true) rfl rfl) ?_)
          refine wlOn (e := 22) rfl rfl rfl rfl (oload (vs := [.bool bA, .slice qA nA kA, .bool bB, .slice qB nB kB]) aggR hS 7 rfl rfl (ev rfl rfl) rfl rfl rfl ?_)
          obtain ⟨s5, hs5⟩ : ∃ z : Int, Hid ((x : Int).sign * (y : Int).sign = z) := ⟨_, rfl⟩
          refine wlOn (e := 22) rfl rfl rfl rfl (ocall rfl rfl Try.call12 rfl (wssign ((hzA.at hS).mono (by omega)) ((hzB.at hS).mono (by omega)) (hy) hs5) (args1 (ev rfl rfl)) ?_)
          rintro _ w14 ⟨_, _, rfl, ⟨rfl, rfl⟩, hN⟩
          refine ⟨_, rfl, ?_⟩
          replace hS := hS.news hN; clear hN
          refine wlOn (e := 22) rfl rfl rfl rfl (obin (u := .int .i64 s5) (v := .int .i64 0) (z := .bool true) rfl rfl (ev (v := .int .i64 s5) rfl rfl) (evc (v := .int .i64 0)) (bin_eql (rs_zero hs5 hx)) ?_)
          refine wl rfl (opick (b := true) (v := .bool true) rfl rfl (ev (v := .bool true) rfl rfl) (ev (v := .bool true) rfl rfl) ?_)
          refine wnil ?_
          refine thenN ?_
          refine wT (ev (v := .bool true) rfl rfl) ?_
          refine wseq ?_
          refine wreg ?_
          refine wl rfl (omove (v := .int .i64 5) rfl rfl (ev (v := .int .i64 5) rfl rfl) ?_)
          refine wl rfl (obin (u := .int .i64 5) (v := .int .i64 5) (z := .bool false) rfl rfl (ev (v := .int .i64 5) rfl rfl) (evc (v := .int .i64 5)) (bin_neq (by decide)) ?_)
          refine wl rfl (omove (v := .bool false) rfl rfl (ev (v := .bool false) rfl rfl) ?_)
          refine wlOn (e := 29) rfl rfl rfl rfl (oload (vs := [.bool (ng 0), .slice p1 n1 c1, .bool (ng 0), .slice p2 n2 c2]) aggR hS 3 rfl rfl (ev rfl rfl) rfl rfl rfl ?_)
          refine wlOn (e := 29) rfl rfl rfl rfl (obuild (ps := #[]) (v := .agg #[.bool false, .slice none 0 0, .bool false, .slice none 0 0]) rfl rfl (parts0) (fun w => by simp [go_sem, Instr.build, Instr.fill]) ?_)
          refine wlOn (e := 29) rfl rfl rfl rfl (ocall rfl rfl Try.call13 rfl (wlsame5 (x := 0) (y := 0) (u := 0) (v := 0) (hS.slm 4 rfl) (hS.slm 5 rfl) (Sl.nil _) (Sl.nil _) (rfl) (rfl)) (args2 (ev rfl rfl) (ev rfl rfl)) ?_)
          rintro _ w15 ⟨_, _, rfl, ⟨rfl, rfl⟩, hN⟩
          refine ⟨_, rfl, ?_⟩
          replace hS := hS.news hN; clear hN
          refine wlOn (e := 29) rfl rfl rfl rfl (onot (b := true) rfl rfl (ev (v := .bool true) rfl rfl) ?_)
          refine wl rfl (opick (b := false) (v := .bool false) rfl rfl (ev (v := .bool false) rfl rfl) (ev (v := .bool false) rfl rfl) ?_)
          refine wnil ?_
          refine thenN ?_
          refine wF (ev (v := .bool false) rfl rfl) ?_
          refine wskip ?_
          refine thenN ?_
          refine wseq ?_
          refine wseq ?_
          refine wreg ?_
          refine wl rfl (oload (vs := [.bool bA, .slice qA nA kA, .bool bB, .slice qB nB kB]) aggR hS 7 rfl rfl (ev rfl rfl) rfl rfl rfl ?_)
          refine wl rfl (ocall rfl rfl Try.call11 rfl (wsmay ((hzB.at hS).mono (by omega)) (hy)) (args1 (ev rfl rfl)) ?_)
          rintro _ w16 ⟨_, _, rfl, ⟨rfl, rfl⟩, hN⟩
          refine ⟨_, rfl, ?_⟩
          replace hS := hS.news hN; clear hN
          refine wl rfl (onot (b := true) rfl rfl (ev (v := .bool true) rfl rfl) ?_)
          refine wl rfl (omove (v := .bool false) rfl rfl (ev (v := .bool false) rfl rfl) ?_)
          refine wlOn (e := 58) rfl rfl rfl rfl (oload (vs := [.bool bC, .slice qC nC kC, .bool bD, .slice qD nD kD]) aggR hS 6 rfl rfl (ev rfl rfl) rfl rfl rfl ?_)
          refine wlOn (e := 58) rfl rfl rfl rfl (ocall rfl rfl Try.call11 rfl (wsmay ((hzD.at hS).mono (by omega)) (hv)) (args1 (ev rfl rfl)) ?_)
          rintro _ w17 ⟨_, _, rfl, ⟨rfl, rfl⟩, hN⟩
          refine ⟨_, rfl, ?_⟩
          replace hS := hS.news hN; clear hN
          refine wlOn (e := 58) rfl rfl rfl rfl (onot (b := true) rfl rfl (ev (v := .bool true) rfl rfl) ?_)
          refine wl rfl (opick (b := false) (v := .bool false) rfl rfl (ev (v := .bool false) rfl rfl) (ev (v := .bool false) rfl rfl) ?_)
          refine wnil ?_
          refine thenN ?_
          refine wF (ev (v := .bool false) rfl rfl) ?_
          refine wskip ?_
          refine thenN ?_
          refine wseq ?_
          refine wseq ?_
          refine wreg ?_
          refine wl rfl (oload (vs := [.bool bC, .slice qC nC kC, .bool bD, .slice qD nD kD]) aggR hS 6 rfl rfl (ev rfl rfl) rfl rfl rfl ?_)
          obtain ⟨s6, hs6⟩ : ∃ z : Int, Hid ((u : Int).sign * (v : Int).sign = z) := ⟨_, rfl⟩
          refine wl rfl (ocall rfl rfl Try.call12 rfl (wssign ((hzC.at hS).mono (by omega)) ((hzD.at hS).mono (by omega)) (hv) hs6) (args1 (ev rfl rfl)) ?_)
          rintro _ w18 ⟨_, _, rfl, ⟨rfl, rfl⟩, hN⟩
          refine ⟨_, rfl, ?_⟩
          replace hS := hS.news hN; clear hN
          refine wl rfl (obin (u := .int .i64 s6) (v := .int .i64 0) (z := .bool true) rfl rfl (ev (v := .int .i64 s6) rfl rfl) (evc (v := .int .i64 0)) (bin_eql (rs_zero hs6 hu)) ?_)
          refine wnil ?_
          refine thenN ?_
          refine wT (ev (v := .bool true) rfl rfl) ?_
          refine wseq ?_
          refine wreg ?_
          refine wl rfl (omove (v := .int .i64 5) rfl rfl (ev (v := .int .i64 5) rfl rfl) ?_)
          refine wl rfl (obin (u := .int .i64 5) (v := .int .i64 5) (z := .bool true) rfl rfl (ev (v := .int .i64 5) rfl rfl) (evc (v := .int .i64 5)) (bin_eql (by decide)) ?_)
          refine wl rfl (omove (v := .bool true) rfl rfl (ev (v := .bool true) rfl rfl) ?_)
          refine wlOn (e := 78) rfl rfl rfl rfl (oload (vs := [.bool (ng 0), .slice p3 n3 c3, .bool (ng 0), .slice p4 n4 c4]) aggR hS 0 rfl rfl (ev rfl rfl) rfl rfl rfl ?_)
          refine wlOn (e := 78) rfl rfl rfl rfl (obuild (ps := #[]) (v := .agg #[.bool false, .slice none 0 0, .bool false, .slice none 0 0]) rfl rfl (parts0) (fun w => by simp [go_sem, Instr.build, Instr.fill]) ?_)
          refine wlOn (e := 78) rfl rfl rfl rfl (ocall rfl rfl Try.call13 rfl (wlsame5 (x := 0) (y := 0) (u := 0) (v := 0) (hS.slm 1 rfl) (hS.slm 2 rfl) (Sl.nil _) (Sl.nil _) (rfl) (rfl)) (args2 (ev rfl rfl) (ev rfl rfl)) ?_)
          rintro _ w19 ⟨_, _, rfl, ⟨rfl, rfl⟩, hN⟩
          refine ⟨_, rfl, ?_⟩
          replace hS := hS.news hN; clear hN
          refine wl rfl (opick (b := true) (v := .bool true) rfl rfl (ev (v := .bool true) rfl rfl) (ev (v := .bool true) rfl rfl) ?_)
          refine wl rfl (omove (v := .bool true) rfl rfl (ev (v := .bool true) rfl rfl) ?_)
          refine wlOn (e := 83) rfl rfl rfl rfl (ocall rfl rfl Try.call15 rfl (wllives5) (args0 ) ?_)
          rintro _ w20 ⟨_, _, rfl, ⟨rfl, rfl⟩, hN⟩
          refine ⟨_, rfl, ?_⟩
          replace hS := hS.news hN; clear hN
          refine wl rfl (opick (b := true) (v := .bool true) rfl rfl (ev (v := .bool true) rfl rfl) (ev (v := .bool true) rfl rfl) ?_)
          refine wl rfl (oassign (v := .bool true) rfl rfl (ev (v := .bool true) rfl rfl) ?_)
          refine wnil ?_
          refine thenN ?_
          refine wleave ?_
          refine thenR ?_
          refine wret1 Try.results3 (tellT (v := .bool true) rfl rfl) ?_
          exact ⟨_, _, rfl, isI, hS.new0⟩
        ·
          have hk1 : Wd 0 2 := Wd.i64 (by omega) (by omega)
          have hk2 : Wd 0 2 := Wd.i64 (by omega) (by omega)
          refine wl rfl (ocall rfl rfl Try.call9 rfl (wrinvz ((hzA.at hS).mono (by omega)) ((hzB.at hS).mono (by omega)) (hy) (hx)) (args1 (ev rfl rfl)) ?_)
          rintro _ w5 ⟨_, _, rfl, ⟨p1, n1, c1, p2, n2, c2, rfl, rfl⟩, hN⟩
          refine ⟨_, rfl, ?_⟩
          replace hS := hS.news hN; clear hN
          refine wl rfl (omove (v := .tuple #[.agg #[.bool (ng 0), .slice p1 n1 c1, .bool (ng 0), .slice p2 n2 c2], .int .i64 5]) rfl rfl (ev (v := .tuple #[.agg #[.bool (ng 0), .slice p1 n1 c1, .bool (ng 0), .slice p2 n2 c2], .int .i64 5]) rfl rfl) ?_)
          refine wl rfl (oextract (vs := [.agg #[.bool (ng 0), .slice p1 n1 c1, .bool (ng 0), .slice p2 n2 c2], .int .i64 5]) (v := .agg #[.bool (ng 0), .slice p1 n1 c1, .bool (ng 0), .slice p2 n2 c2]) rfl rfl (ev (v := .tuple #[.agg #[.bool (ng 0), .slice p1 n1 c1, .bool (ng 0), .slice p2 n2 c2], .int .i64 5]) rfl rfl) rfl ?_)
          refine wl rfl (oextract (vs := [.agg #[.bool (ng 0), .slice p1 n1 c1, .bool (ng 0), .slice p2 n2 c2], .int .i64 5]) (v := .int .i64 5) rfl rfl (ev (v := .tuple #[.agg #[.bool (ng 0), .slice p1 n1 c1, .bool (ng 0), .slice p2 n2 c2], .int .i64 5]) rfl rfl) rfl ?_)
          refine wl rfl (oalloc [.bool false, .slice none 0 0, .bool false, .slice none 0 0] hS rfl rfl Try.zeroValue27 rfl ?_)
          clear hS; intro g6 w7 hS
          refine wl rfl (ostore [.bool (ng 0), .slice p1 n1 c1, .bool (ng 0), .slice p2 n2 c2] [.bool (ng 0), .slice p1 n1 c1, .bool (ng 0), .slice p2 n2 c2] Try.sizeOf27 hS 0 rfl rfl (ev rfl rfl) (ev (v := .agg #[.bool (ng 0), .slice p1 n1 c1, .bool (ng 0), .slice p2 n2 c2]) rfl rfl) rfl rfl rfl rfl rfl rfl ?_)
          clear hS; intro w8 hS
          refine wl rfl (oassign (v := .int .i64 5) rfl rfl (ev (v := .int .i64 5) rfl rfl) ?_)
          refine wnil ?_
          refine thenN ?_
          refine wseq ?_
          refine wreg ?_
          refine wl rfl (oload (vs := [.bool bA, .slice qA nA kA, .bool bB, .slice qB nB kB]) aggR hS 4 rfl rfl (ev rfl rfl) rfl rfl rfl ?_)
          refine wl rfl (oload (vs := [.bool bC, .slice qC nC kC, .bool bD, .slice qD nD kD]) aggR hS 3 rfl rfl (ev rfl rfl) rfl rfl rfl ?_)
          obtain ⟨z3, hz3⟩ : ∃ z : Int, Hid (RN (x * v) (y * u) = z) := ⟨_, rfl⟩
          have hk3 : Wd z3 2097152 := Wd.rn (Wd.mul (m := 2097152) hzA.wd hzD.wd rfl (by omega)) hz3
          obtain ⟨z4, hz4⟩ : ∃ z : Int, Hid (RD (x * v) (y * u) = z) := ⟨_, rfl⟩
          have hk4 : Wd z4 2097152 := Wd.rd (Wd.mul (m := 2097152) hzB.wd hzC.wd rfl (by omega)) hz4
          refine wl rfl (ocall rfl rfl Try.call10 rfl (wrquo ((hzA.at hS).mono (by omega)) ((hzB.at hS).mono (by omega)) ((hzC.at hS).mono (by omega)) ((hzD.at hS).mono (by omega)) (hy) (hv) (hu) hz3 hz4) (args2 (ev rfl rfl) (ev rfl rfl)) ?_)
          rintro _ w9 ⟨_, _, rfl, ⟨p3, n3, c3, p4, n4, c4, rfl, rfl⟩, hN⟩
          refine ⟨_, rfl, ?_⟩
          replace hS := hS.news hN; clear hN
          refine wl rfl (omove (v := .tuple #[.agg #[.bool (ng z3), .slice p3 n3 c3, .bool (ng z4), .slice p4 n4 c4], .int .i64 0]) rfl rfl (ev (v := .tuple #[.agg #[.bool (ng z3), .slice p3 n3 c3, .bool (ng z4), .slice p4 n4 c4], .int .i64 0]) rfl rfl) ?_)
          refine wl rfl (oextract (vs := [.agg #[.bool (ng z3), .slice p3 n3 c3, .bool (ng z4), .slice p4 n4 c4], .int .i64 0]) (v := .agg #[.bool (ng z3), .slice p3 n3 c3, .bool (ng z4), .slice p4 n4 c4]) rfl rfl (ev (v := .tuple #[.agg #[.bool (ng z3), .slice p3 n3 c3, .bool (ng z4), .slice p4 n4 c4], .int .i64 0]) rfl rfl) rfl ?_)
          refine wl rfl (oextract (vs := [.agg #[.bool (ng z3), .slice p3 n3 c3, .bool (ng z4), .slice p4 n4 c4], .int .i64 0]) (v := .int .i64 0) rfl rfl (ev (v := .tuple #[.agg #[.bool (ng z3), .slice p3 n3 c3, .bool (ng z4), .slice p4 n4 c4], .int .i64 0]) rfl rfl) rfl ?_)
          refine wl rfl (oalloc [.bool false, .slice none 0 0, .bool false, .slice none 0 0] hS rfl rfl Try.zeroValue27 rfl ?_)
          clear hS; intro g10 w11 hS
          refine wl rfl (ostore [.bool (ng z3), .slice p3 n3 c3, .bool (ng z4), .slice p4 n4 c4] [.bool (ng z3), .slice p3 n3 c3, .bool (ng z4), .slice p4 n4 c4] Try.sizeOf27 hS 0 rfl rfl (ev rfl rfl) (ev (v := .agg #[.bool (ng z3), .slice p3 n3 c3, .bool (ng z4), .slice p4 n4 c4]) rfl rfl) rfl rfl rfl rfl rfl rfl ?_)
          clear hS; intro w12 hS
          refine wl rfl (oassign (v := .int .i64 0) rfl rfl (ev (v := .int .i64 0) rfl rfl) ?_)
          refine wnil ?_
          refine thenN ?_
          refine wseq ?_
          refine wseq ?_
          refine wreg ?_
          refine wl rfl (oload (vs := [.bool bA, .slice qA nA kA, .bool bB, .slice qB nB kB]) aggR hS 7 rfl rfl (ev rfl rfl) rfl rfl rfl ?_)
          refine wl rfl (ocall rfl rfl Try.call11 rfl (wsmay ((hzB.at hS).mono (by omega)) (hy)) (args1 (ev rfl rfl)) ?_)
          rintro _ w13 ⟨_, _, rfl, ⟨rfl, rfl⟩, hN⟩
          refine ⟨_, rfl, ?_⟩
          replace hS := hS.news hN; clear hN
          refine wl rfl (omove (v := .bool true) rfl rfl (ev (v := .bool true) rfl rfl) ?_)
          refine wlOn (e := 22) rfl rfl rfl rfl (oload (vs := [.bool bA, .slice qA nA kA, .bool bB, .slice qB nB kB]) aggR hS 7 rfl rfl (ev rfl rfl) rfl rfl rfl ?_)
          obtain ⟨s5, hs5⟩ : ∃ z : Int, Hid ((x : Int).sign * (y : Int).sign = z) := ⟨_, rfl⟩
          refine wlOn (e := 22) rfl rfl rfl rfl (ocall rfl rfl Try.call12 rfl (wssign ((hzA.at hS).mono (by omega)) ((hzB.at hS).mono (by omega)) (hy) hs5) (args1 (ev rfl rfl)) ?_)
          rintro _ w14 ⟨_, _, rfl, ⟨rfl, rfl⟩, hN⟩
          refine ⟨_, rfl, ?_⟩
          replace hS := hS.news hN; clear hN
          refine wlOn (e := 22) rfl rfl rfl rfl (obin (u := .int .i64 s5) (v := .int .i64 0) (z := .bool true) rfl rfl (ev (v := .int .i64 s5) rfl rfl) (evc (v := .int .i64 0)) (bin_eql (rs_zero hs5 hx)) ?_)
          refine wl rfl (opick (b := true) (v := .bool true) rfl rfl (ev (v := .bool true) rfl rfl) (ev (v := .bool true) rfl rfl) ?_)
          refine wnil ?_
          refine thenN ?_
          refine wT (ev (v := .bool true) rfl rfl) ?_
          refine wseq ?_
          refine wreg ?_
          refine wl rfl (omove (v := .int .i64 5) rfl rfl (ev (v := .int .i64 5) rfl rfl) ?_)
          refine wl rfl (obin (u := .int .i64 5) (v := .int .i64 5) (z := .bool false) rfl rfl (ev (v := .int .i64 5) rfl rfl) (evc (v := .int .i64 5)) (bin_neq (by decide)) ?_)
          refine wl rfl (omove (v := .bool false) rfl rfl (ev (v := .bool false) rfl rfl) ?_)
          refine wlOn (e := 29) rfl rfl rfl rfl (oload (vs := [.bool (ng 0), .slice p1 n1 c1, .bool (ng 0), .slice p2 n2 c2]) aggR hS 3 rfl rfl (ev rfl rfl) rfl rfl rfl ?_)
          refine wlOn (e := 29) rfl rfl rfl rfl (obuild (ps := #[]) (v := .agg #[.bool false, .slice none 0 0, .bool false, .slice none 0 0]) rfl rfl (parts0) (fun w => by simp [go_sem, Instr.build, Instr.fill]) ?_)
          refine wlOn (e := 29) rfl rfl rfl rfl (ocall rfl rfl Try.call13 rfl (wlsame5 (x := 0) (y := 0) (u := 0) (v := 0) (hS.slm 4 rfl) (hS.slm 5 rfl) (Sl.nil _) (Sl.nil _) (rfl) (rfl)) (args2 (ev rfl rfl) (ev rfl rfl)) ?_)
          rintro _ w15 ⟨_, _, rfl, ⟨rfl, rfl⟩, hN⟩
          refine ⟨_, rfl, ?_⟩
          replace hS := hS.news hN; clear hN
          refine wlOn (e := 29) rfl rfl rfl rfl (onot (b := true) rfl rfl (ev (v := .bool true) rfl rfl) ?_)
          refine wl rfl (opick (b := false) (v := .bool false) rfl rfl (ev (v := .bool false) rfl rfl) (ev (v := .bool false) rfl rfl) ?_)
          refine wnil ?_
          refine thenN ?_
          refine wF (ev (v := .bool false) rfl rfl) ?_
          refine wskip ?_
          refine thenN ?_
          refine wseq ?_
          refine wseq ?_
          refine wreg ?_
          refine wl rfl (oload (vs := [.bool bA, .slice qA nA kA, .bool bB, .slice qB nB kB]) aggR hS 7 rfl rfl (ev rfl rfl) rfl rfl rfl ?_)
          refine wl rfl (ocall rfl rfl Try.call11 rfl (wsmay ((hzB.at hS).mono (by omega)) (hy)) (args1 (ev rfl rfl)) ?_)
          rintro _ w16 ⟨_, _, rfl, ⟨rfl, rfl⟩, hN⟩
          refine ⟨_, rfl, ?_⟩
          replace hS := hS.news hN; clear hN
          refine wl rfl (onot (b := true) rfl rfl (ev (v := .bool true) rfl rfl) ?_)
          refine wl rfl (omove (v := .bool false) rfl rfl (ev (v := .bool false) rfl rfl) ?_)
          refine wlOn (e := 58) rfl rfl rfl rfl (oload (vs := [.bool bC, .slice qC nC kC, .bool bD, .slice qD nD kD]) aggR hS 6 rfl rfl (ev rfl rfl) rfl rfl rfl ?_)
          refine wlOn (e := 58) rfl rfl rfl rfl (ocall rfl rfl Try.call11 rfl (wsmay ((hzD.at hS).mono (by omega)) (hv)) (args1 (ev rfl rfl)) ?_)
          rintro _ w17 ⟨_, _, rfl, ⟨rfl, rfl⟩, hN⟩
          refine ⟨_, rfl, ?_⟩
          replace hS := hS.news hN; clear hN
          refine wlOn (e := 58) rfl rfl rfl rfl (onot (b := true) rfl rfl (ev (v := .bool true) rfl rfl) ?_)
          refine wl rfl (opick (b := false) (v := .bool false) rfl rfl (ev (v := .bool false) rfl rfl) (ev (v := .bool false) rfl rfl) ?_)
          refine wnil ?_
          refine thenN ?_
          refine wF (ev (v := .bool false) rfl rfl) ?_
          refine wskip ?_
          refine thenN ?_
          refine wseq ?_
          refine wseq ?_
          refine wreg ?_
          refine wl rfl (oload (vs := [.bool bC, .slice qC nC kC, .bool bD, .slice qD nD kD]) aggR hS 6 rfl rfl (ev rfl rfl) rfl rfl rfl ?_)
          obtain ⟨s6, hs6⟩ : ∃ z : Int, Hid ((u : Int).sign * (v : Int).sign = z) := ⟨_, rfl⟩
          refine wl rfl (ocall rfl rfl Try.call12 rfl (wssign ((hzC.at hS).mono (by omega)) ((hzD.at hS).mono (by omega)) (hv) hs6) (args1 (ev rfl rfl)) ?_)
          rintro _ w18 ⟨_, _, rfl, ⟨rfl, rfl⟩, hN⟩
          refine ⟨_, rfl, ?_⟩
          replace hS := hS.news hN; clear hN
          refine wl rfl (obin (u := .int .i64 s6) (v := .int .i64 0) (z := .bool false) rfl rfl (ev (v := .int .i64 s6) rfl rfl) (evc (v := .int .i64 0)) (bin_eql (rs_ne hs6 hu hv)) ?_)
          refine wnil ?_
          refine thenN ?_
          refine wF (ev (v := .bool false) rfl rfl) ?_
          refine wskip ?_
          refine thenN ?_
          refine wseq ?_
          obtain ⟨z7, hz7⟩ : ∃ z : Int, Hid (RN (x * v) (y * u) = z) := ⟨_, rfl⟩
          have hk7 : Wd z7 2097152 := Wd.rn (Wd.mul (m := 2097152) hzA.wd hzD.wd rfl (by omega)) hz7
          obtain ⟨z8, hz8⟩ : ∃ z : Int, Hid (RD (x * v) (y * u) = z) := ⟨_, rfl⟩
          have hk8 : Wd z8 2097152 := Wd.rd (Wd.mul (m := 2097152) hzB.wd hzC.wd rfl (by omega)) hz8
          refine wstage 13 [86, 87, 88, 89, 90, 91, 92, 93, 94, 95, 96, 97, 4] [[], [0], [1, 0], [2, 0, 1], [2, 0, 1], [2, 0, 1], [2, 4, 5, 0, 1], [2, 3, 6, 0, 1, 4, 5], [2, 7, 0, 1, 3, 4, 5, 6], [8, 0, 1, 2, 3, 4, 5, 6, 7], [9, 0, 1, 2, 3, 4, 5, 6, 7, 8], [9, 10, 0, 1, 2, 3, 4, 5, 6, 7, 8], [11, 0, 1, 2, 3, 4, 5, 6, 7, 8, 9, 10]] [[], [], [], [], [], [], [], [], [], [], [], [], []] [] [] (fun i9 => ([fun _ => Is (.int .i64 0), fun _ => Is (.bool true), fun _ => Is (.bool true), fun _ => Is (.agg #[.bool (ng z3), .slice p3 n3 c3, .bool (ng z4), .slice p4 n4 c4]), fun _ => Is (.agg #[.bool bA, .slice qA nA kA, .bool bB, .slice qB nB kB]), fun _ => Is (.agg #[.bool bC, .slice qC nC kC, .bool bD, .slice qD nD kD]), fun _ => Rrt z7 z8, fun _ => Is (.bool true), fun _ => Is (.bool true), fun _ => Is (.bool true), fun _ => Is (.bool true), fun _ => Is (.bool true), fun _ => Is (.bool true)] : List (List Value → Tell)).getD i9 (fun _ _ _ => False)) (heldNil) (fun d _ _ _ _ h => (by cases d <;> exact h)) (by kernel_rfl) (by kernel_rfl) (by kernel_rfl) hS ?_ ?_
          ·
            refine stepsCons rfl ?_ ?_
            · intro Q f' w' ρ S ho hT hS hB
              exact .inl ⟨want_none rfl, omove (v := .int .i64 0) rfl rfl (ev (v := .int .i64 0) rfl (ho 8 rfl)) ⟨_, _, rfl, isI, New.same _⟩⟩
            refine stepsCons rfl ?_ ?_
            · intro Q f' w' ρ S ho hT hS hB
              obtain ⟨hv0, hr0⟩ := (hT 0 86 rfl rfl : (Is (.int .i64 0)) (f' 86) (ρ 0))
              obtain hS := hS.flat1 hr0
              exact .inl ⟨want_none rfl, obin (u := .int .i64 0) (v := .int .i64 0) (z := .bool true) rfl rfl (ev (v := .int .i64 0) rfl hv0) (evc (v := .int .i64 0)) (bin_eql (by decide)) ⟨_, _, rfl, isI, New.same _⟩⟩
            refine stepsCons rfl ?_ ?_
            · intro Q f' w' ρ S ho hT hS hB
              obtain ⟨hv1, hr1⟩ := (hT 1 87 rfl rfl : (Is (.bool true)) (f' 87) (ρ 1))
              obtain hS := hS.flat1 hr1
              exact .inl ⟨want_none rfl, omove (v := .bool true) rfl rfl (ev (v := .bool true) rfl hv1) ⟨_, _, rfl, isI, New.same _⟩⟩
            refine stepsCons rfl ?_ ?_
            · intro Q f' w' ρ S ho hT hS hB
              obtain ⟨hv2, hr2⟩ := (hT 2 88 rfl rfl : (Is (.bool true)) (f' 88) (ρ 2))
              obtain hS := hS.flat1 hr2
              exact .inl ⟨want_on (e := 88) rfl rfl rfl hv2, oload (vs := [.bool (ng z3), .slice p3 n3 c3, .bool (ng z4), .slice p4 n4 c4]) aggR hS 0 rfl rfl (ev rfl (ho 7 rfl)) rfl rfl rfl ⟨_, _, rfl, isI, New.same _⟩⟩
            refine stepsCons rfl ?_ ?_
            · intro Q f' w' ρ S ho hT hS hB
              obtain ⟨hv2, hr2⟩ := (hT 2 88 rfl rfl : (Is (.bool true)) (f' 88) (ρ 2))
              obtain hS := hS.flat1 hr2
              exact .inl ⟨want_on (e := 88) rfl rfl rfl hv2, oload (vs := [.bool bA, .slice qA nA kA, .bool bB, .slice qB nB kB]) aggR hS 7 rfl rfl (ev rfl (ho 2 rfl)) rfl rfl rfl ⟨_, _, rfl, isI, New.same _⟩⟩
            refine stepsCons rfl ?_ ?_
            · intro Q f' w' ρ S ho hT hS hB
              obtain ⟨hv2, hr2⟩ := (hT 2 88 rfl rfl : (Is (.bool true)) (f' 88) (ρ 2))
              obtain hS := hS.flat1 hr2
              exact .inl ⟨want_on (e := 88) rfl rfl rfl hv2, oload (vs := [.bool bC, .slice qC nC kC, .bool bD, .slice qD nD kD]) aggR hS 6 rfl rfl (ev rfl (ho 3 rfl)) rfl rfl rfl ⟨_, _, rfl, isI, New.same _⟩⟩
            refine stepsCons rfl ?_ ?_
            · intro Q f' w' ρ S ho hT hS hB
              obtain ⟨hv2, hr2⟩ := (hT 2 88 rfl rfl : (Is (.bool true)) (f' 88) (ρ 2))
              obtain ⟨hv4, hr4⟩ := (hT 4 90 rfl rfl : (Is (.agg #[.bool bA, .slice qA nA kA, .bool bB, .slice qB nB kB])) (f' 90) (ρ 4))
              obtain ⟨hv5, hr5⟩ := (hT 5 91 rfl rfl : (Is (.agg #[.bool bC, .slice qC nC kC, .bool bD, .slice qD nD kD])) (f' 91) (ρ 5))
              obtain hS := hS.flat3 hr2 hr4 hr5
              refine .inl ⟨want_on (e := 88) rfl rfl rfl hv2, ocall rfl rfl Try.call16 rfl (wsquo ((hzA.at hS).mono (by omega)) ((hzB.at hS).mono (by omega)) ((hzC.at hS).mono (by omega)) ((hzD.at hS).mono (by omega)) (hy) (hv) (hu) hz7 hz8) (args2 (ev rfl hv4) (ev rfl hv5)) ?_⟩
              rintro _ w9 ⟨_, _, rfl, hTT, hN⟩
              exact ⟨_, rfl, _, _, rfl, hTT, hN⟩
            refine stepsCons rfl ?_ ?_
            · intro Q f' w' ρ S ho hT hS hB
              obtain ⟨hv2, hr2⟩ := (hT 2 88 rfl rfl : (Is (.bool true)) (f' 88) (ρ 2))
              obtain ⟨hv3, hr3⟩ := (hT 3 89 rfl rfl : (Is (.agg #[.bool (ng z3), .slice p3 n3 c3, .bool (ng z4), .slice p4 n4 c4])) (f' 89) (ρ 3))
              obtain ⟨p7, n7, c7, p8, n8, c8, hv6, hr6⟩ := (hT 6 92 rfl rfl : (Rrt z7 z8) (f' 92) (ρ 6))
              obtain hS := hS.flat3 hr2 hr3 hr6
              refine .inl ⟨want_on (e := 88) rfl rfl rfl hv2, ocall rfl rfl Try.call13 rfl (wlsame5 (x := z3) (y := z4) (u := z7) (v := z8) (hS.slm 1 rfl) (hS.slm 2 rfl) (hS.slm 8 rfl) (hS.slm 9 rfl) ((hz3.out.symm).trans (hz7.out.symm).symm) ((hz4.out.symm).trans (hz8.out.symm).symm)) (args2 (ev rfl hv3) (ev rfl hv6)) ?_⟩
              rintro _ w9 ⟨_, _, rfl, hTT, hN⟩
              exact ⟨_, rfl, _, _, rfl, hTT, hN⟩
            refine stepsCons rfl ?_ ?_
            · intro Q f' w' ρ S ho hT hS hB
              obtain ⟨hv2, hr2⟩ := (hT 2 88 rfl rfl : (Is (.bool true)) (f' 88) (ρ 2))
              obtain ⟨hv7, hr7⟩ := (hT 7 93 rfl rfl : (Is (.bool true)) (f' 93) (ρ 7))
              obtain hS := hS.flat2 hr2 hr7
              exact .inl ⟨want_none rfl, opick (b := true) (v := .bool true) rfl rfl (ev (v := .bool true) rfl hv2) (ev (v := .bool true) rfl hv7) ⟨_, _, rfl, isI, New.same _⟩⟩
            refine stepsCons rfl ?_ ?_
            · intro Q f' w' ρ S ho hT hS hB
              obtain ⟨hv8, hr8⟩ := (hT 8 94 rfl rfl : (Is (.bool true)) (f' 94) (ρ 8))
              obtain hS := hS.flat1 hr8
              exact .inl ⟨want_none rfl, omove (v := .bool true) rfl rfl (ev (v := .bool true) rfl hv8) ⟨_, _, rfl, isI, New.same _⟩⟩
            refine stepsCons rfl ?_ ?_
            · intro Q f' w' ρ S ho hT hS hB
              obtain ⟨hv9, hr9⟩ := (hT 9 95 rfl rfl : (Is (.bool true)) (f' 95) (ρ 9))
              obtain hS := hS.flat1 hr9
              refine .inl ⟨want_on (e := 95) rfl rfl rfl hv9, ocall rfl rfl Try.call15 rfl (wllives5) (args0 ) ?_⟩
              rintro _ w9 ⟨_, _, rfl, hTT, hN⟩
              exact ⟨_, rfl, _, _, rfl, hTT, hN⟩
            refine stepsCons rfl ?_ ?_
            · intro Q f' w' ρ S ho hT hS hB
              obtain ⟨hv9, hr9⟩ := (hT 9 95 rfl rfl : (Is (.bool true)) (f' 95) (ρ 9))
              obtain ⟨hv10, hr10⟩ := (hT 10 96 rfl rfl : (Is (.bool true)) (f' 96) (ρ 10))
              obtain hS := hS.flat2 hr9 hr10
              exact .inl ⟨want_none rfl, opick (b := true) (v := .bool true) rfl rfl (ev (v := .bool true) rfl hv9) (ev (v := .bool true) rfl hv10) ⟨_, _, rfl, isI, New.same _⟩⟩
            refine stepsCons rfl ?_ ?_
            · intro Q f' w' ρ S ho hT hS hB
              obtain ⟨hv11, hr11⟩ := (hT 11 97 rfl rfl : (Is (.bool true)) (f' 97) (ρ 11))
              obtain hS := hS.flat1 hr11
              exact .inl ⟨want_none rfl, oassign (v := .bool true) rfl rfl (ev (v := .bool true) rfl hv11) ⟨_, _, rfl, isI, New.same _⟩⟩
            exact stepsNil
          ·
            intro vs ρ w19 f' hf hT hS
            obtain ⟨hv0, hr0⟩ := (hT 0 (by decide) : (Is (.int .i64 0)) (vs 0) (ρ 0))
            obtain ⟨hv1, hr1⟩ := (hT 1 (by decide) : (Is (.bool true)) (vs 1) (ρ 1))
            obtain ⟨hv2, hr2⟩ := (hT 2 (by decide) : (Is (.bool true)) (vs 2) (ρ 2))
            obtain ⟨hv3, hr3⟩ := (hT 3 (by decide) : (Is (.agg #[.bool (ng z3), .slice p3 n3 c3, .bool (ng z4), .slice p4 n4 c4])) (vs 3) (ρ 3))
            obtain ⟨hv4, hr4⟩ := (hT 4 (by decide) : (Is (.agg #[.bool bA, .slice qA nA kA, .bool bB, .slice qB nB kB])) (vs 4) (ρ 4))
            obtain ⟨hv5, hr5⟩ := (hT 5 (by decide) : (Is (.agg #[.bool bC, .slice qC nC kC, .bool bD, .slice qD nD kD])) (vs 5) (ρ 5))
            obtain ⟨p7, n7, c7, p8, n8, c8, hv6, hr6⟩ := (hT 6 (by decide) : (Rrt z7 z8) (vs 6) (ρ 6))
            obtain ⟨hv7, hr7⟩ := (hT 7 (by decide) : (Is (.bool true)) (vs 7) (ρ 7))
            obtain ⟨hv8, hr8⟩ := (hT 8 (by decide) : (Is (.bool true)) (vs 8) (ρ 8))
            obtain ⟨hv9, hr9⟩ := (hT 9 (by decide) : (Is (.bool true)) (vs 9) (ρ 9))
            obtain ⟨hv10, hr10⟩ := (hT 10 (by decide) : (Is (.bool true)) (vs 10) (ρ 10))
            obtain ⟨hv11, hr11⟩ := (hT 11 (by decide) : (Is (.bool true)) (vs 11) (ρ 11))
            obtain ⟨hv12, hr12⟩ := (hT 12 (by decide) : (Is (.bool true)) (vs 12) (ρ 12))
            simp only [pool, if_true, hr0, hr1, hr2, hr3, hr4, hr5, hr6, hr7, hr8, hr9, hr10, hr11, hr12, List.nil_append, List.cons_append, List.append_nil] at hS
            simp only [layf, hv0, hv1, hv2, hv3, hv4, hv5, hv6, hv7, hv8, hv9, hv10, hv11, hv12] at hf
            subst hf; clear hT hv0 hv1 hv2 hv3 hv4 hv5 hv6 hv7 hv8 hv9 hv10 hv11 hv12 hr0 hr1 hr2 hr3 hr4 hr5 hr6 hr7 hr8 hr9 hr10 hr11 hr12
            refine wdone rfl ?_
            refine thenN ?_
            refine wleave ?_
            refine wret1 Try.results3 (tellT (v := .bool true) rfl rfl) ?_
            exact ⟨_, _, rfl, isI, hS.new0⟩
    ·
      by_cases hv : v = 0
      ·
        obtain ⟨z1, hz1⟩ : ∃ z : Int, Hid (RN y x = z) := ⟨_, rfl⟩
        have hk1 : Wd z1 1048576 := Wd.rn hzB.wd hz1
        obtain ⟨z2, hz2⟩ : ∃ z : Int, Hid (RD y x = z) := ⟨_, rfl⟩
        have hk2 : Wd z2 1048576 := Wd.rd hzA.wd hz2
        refine wl rfl (ocall rfl rfl Try.call9 rfl (wrinv ((hzA.at hS).mono (by omega)) ((hzB.at hS).mono (by omega)) (hy) (hx) hz1 hz2) (args1 (ev rfl rfl)) ?_)
        rintro _ w5 ⟨_, _, rfl, ⟨p1, n1, c1, p2, n2, c2, rfl, rfl⟩, hN⟩
        refine ⟨_, rfl, ?_⟩
        replace hS := hS.news hN; clear hN
        refine wl rfl (omove (v := .tuple #[.agg #[.bool (ng z1), .slice p1 n1 c1, .bool (ng z2), .slice p2 n2 c2], .int .i64 0]) rfl rfl (ev (v := .tuple #[.agg #[.bool (ng z1), .slice p1 n1 c1, .bool (ng z2), .slice p2 n2 c2], .int .i64 0]) rfl rfl) ?_)
        refine wl rfl (oextract (vs := [.agg #[.bool (ng z1), .slice p1 n1 c1, .bool (ng z2), .slice p2 n2 c2], .int .i64 0]) (v := .agg #[.bool (ng z1), .slice p1 n1 c1, .bool (ng z2), .slice p2 n2 c2]) rfl rfl (ev (v := .tuple #[.agg #[.bool (ng z1), .slice p1 n1 c1, .bool (ng z2), .slice p2 n2 c2], .int .i64 0]) rfl rfl) rfl ?_)
        refine wl rfl (oextract (vs := [.agg #[.bool (ng z1), .slice p1 n1 c1, .bool (ng z2), .slice p2 n2 c2], .int .i64 0]) (v := .int .i64 0) rfl rfl (ev (v := .tuple #[.agg #[.bool (ng z1), .slice p1 n1 c1, .bool (ng z2), .slice p2 n2 c2], .int .i64 0]) rfl rfl) rfl ?_)
        refine wl rfl (oalloc [.bool false, .slice none 0 0, .bool false, .slice none 0 0] hS rfl rfl Try.zeroValue27 rfl ?_)
        clear hS; intro g6 w7 hS
        refine wl rfl (ostore [.bool (ng z1), .slice p1 n1 c1, .bool (ng z2), .slice p2 n2 c2] [.bool (ng z1), .slice p1 n1 c1, .bool (ng z2), .slice p2 n2 c2] Try.sizeOf27 hS 0 rfl rfl (ev rfl rfl) (ev (v := .agg #[.bool (ng z1), .slice p1 n1 c1, .bool (ng z2), .slice p2 n2 c2]) rfl rfl) rfl rfl rfl rfl rfl rfl ?_)
        clear hS; intro w8 hS
        refine wl rfl (oassign (v := .int .i64 0) rfl rfl (ev (v := .int .i64 0) rfl rfl) ?_)
        refine wnil ?_
        refine thenN ?_
        refine wseq ?_
        refine wreg ?_
        refine wl rfl (oload (vs := [.bool bA, .slice qA nA kA, .bool bB, .slice qB nB kB]) aggR hS 4 rfl rfl (ev rfl rfl) rfl rfl rfl ?_)
        refine wl rfl (oload (vs := [.bool bC, .slice qC nC kC, .bool bD, .slice qD nD kD]) aggR hS 3 rfl rfl (ev rfl rfl) rfl rfl rfl ?_)
        refine wl rfl (ocall rfl rfl Try.call10 rfl (wrquo0 ((hzA.at hS).mono (by omega)) ((hzB.at hS).mono (by omega)) ((hzC.at hS).mono (by omega)) ((hzD.at hS).mono (by omega)) (.inr hv)) (args2 (ev rfl rfl) (ev rfl rfl)) ?_)
        rintro _ w9 ⟨_, _, rfl, ⟨rfl, rfl⟩, hN⟩
        refine ⟨_, rfl, ?_⟩
        replace hS := hS.news hN; clear hN
        refine wl rfl (omove (v := .tuple #[.agg #[.bool false, .slice none 0 0, .bool false, .slice none 0 0], .int .i64 6]) rfl rfl (ev (v := .tuple #[.agg #[.bool false, .slice none 0 0, .bool false, .slice none 0 0], .int .i64 6]) rfl rfl) ?_)
        refine wl rfl (oextract (vs := [.agg #[.bool false, .slice none 0 0, .bool false, .slice none 0 0], .int .i64 6]) (v := .agg #[.bool false, .slice none 0 0, .bool false, .slice none 0 0]) rfl rfl (ev (v := .tuple #[.agg #[.bool false, .slice none 0 0, .bool false, .slice none 0 0], .int .i64 6]) rfl rfl) rfl ?_)
        refine wl rfl (oextract (vs := [.agg #[.bool false, .slice none 0 0, .bool false, .slice none 0 0], .int .i64 6]) (v := .int .i64 6) rfl rfl (ev (v := .tuple #[.agg #[.bool false, .slice none 0 0, .bool false, .slice none 0 0], .int .i64 6]) rfl rfl) rfl ?_)
        refine wl rfl (oalloc [.bool false, .slice none 0 0, .bool false, .slice none 0 0] hS rfl rfl Try.zeroValue27 rfl ?_)
        clear hS; intro g10 w11 hS
        refine wl rfl (ostore [.bool false, .slice none 0 0, .bool false, .slice none 0 0] [.bool false, .slice none 0 0, .bool false, .slice none 0 0] Try.sizeOf27 hS 0 rfl rfl (ev rfl rfl) (ev (v := .agg #[.bool false, .slice none 0 0, .bool false, .slice none 0 0]) rfl rfl) rfl rfl rfl rfl rfl rfl ?_)
        clear hS; intro w12 hS
        refine wl rfl (oassign (v := .int .i64 6) rfl rfl (ev (v := .int .i64 6) rfl rfl) ?_)
        refine wnil ?_
        refine thenN ?_
        refine wseq ?_
        refine wseq ?_
        refine wreg ?_
        refine wl rfl (oload (vs := [.bool bA, .slice qA nA kA, .bool bB, .slice qB nB kB]) aggR hS 5 rfl rfl (ev rfl rfl) rfl rfl rfl ?_)
        refine wl rfl (ocall rfl rfl Try.call11 rfl (wsmay ((hzB.at hS).mono (by omega)) (hy)) (args1 (ev rfl rfl)) ?_)
        rintro _ w13 ⟨_, _, rfl, ⟨rfl, rfl⟩, hN⟩
        refine ⟨_, rfl, ?_⟩
        replace hS := hS.news hN; clear hN
        refine wl rfl (omove (v := .bool true) rfl rfl (ev (v := .bool true) rfl rfl) ?_)
        refine wlOn (e := 22) rfl rfl rfl rfl (oload (vs := [.bool bA, .slice qA nA kA, .bool bB, .slice qB nB kB]) aggR hS 5 rfl rfl (ev rfl rfl) rfl rfl rfl ?_)
        obtain ⟨s3, hs3⟩ : ∃ z : Int, Hid ((x : Int).sign * (y : Int).sign = z) := ⟨_, rfl⟩
        refine wlOn (e := 22) rfl rfl rfl rfl (ocall rfl rfl Try.call12 rfl (wssign ((hzA.at hS).mono (by omega)) ((hzB.at hS).mono (by omega)) (hy) hs3) (args1 (ev rfl rfl)) ?_)
        rintro _ w14 ⟨_, _, rfl, ⟨rfl, rfl⟩, hN⟩
        refine ⟨_, rfl, ?_⟩
        replace hS := hS.news hN; clear hN
        refine wlOn (e := 22) rfl rfl rfl rfl (obin (u := .int .i64 s3) (v := .int .i64 0) (z := .bool false) rfl rfl (ev (v := .int .i64 s3) rfl rfl) (evc (v := .int .i64 0)) (bin_eql (rs_ne hs3 hx hy)) ?_)
        refine wl rfl (opick (b := true) (v := .bool false) rfl rfl (ev (v := .bool true) rfl rfl) (ev (v := .bool false) rfl rfl) ?_)
        refine wnil ?_
        refine thenN ?_
        refine wF (ev (v := .bool false) rfl rfl) ?_
        refine wseq ?_
        refine wreg ?_
        refine wl rfl (oload (vs := [.bool bA, .slice qA nA kA, .bool bB, .slice qB nB kB]) aggR hS 5 rfl rfl (ev rfl rfl) rfl rfl rfl ?_)
        refine wl rfl (ocall rfl rfl Try.call11 rfl (wsmay ((hzB.at hS).mono (by omega)) (hy)) (args1 (ev rfl rfl)) ?_)
        rintro _ w15 ⟨_, _, rfl, ⟨rfl, rfl⟩, hN⟩
        refine ⟨_, rfl, ?_⟩
        replace hS := hS.news hN; clear hN
        refine wl rfl (onot (b := true) rfl rfl (ev (v := .bool true) rfl rfl) ?_)
        refine wnil ?_
        refine thenN ?_
        refine wF (ev (v := .bool false) rfl rfl) ?_
        refine wseq ?_
        obtain ⟨z4, hz4⟩ : ∃ z : Int, Hid (RN y x = z) := ⟨_, rfl⟩
        have hk4 : Wd z4 1048576 := Wd.rn hzB.wd hz4
        obtain ⟨z5, hz5⟩ : ∃ z : Int, Hid (RD y x = z) := ⟨_, rfl⟩
        have hk5 : Wd z5 1048576 := Wd.rd hzA.wd hz5
        refine wstage 9 [46, 47, 48, 49, 50, 51, 52, 53, 54] [[], [0], [1, 0], [2, 0, 1], [2, 0, 1], [2, 4, 0, 1], [2, 3, 5, 0, 1, 4], [2, 6, 0, 1, 3, 4, 5], [2, 7, 0, 1, 3, 4, 5, 6]] [[], [], [], [], [], [], [], [], []] [] [] (fun i9 => ([fun _ => Is (.int .i64 0), fun _ => Is (.bool false), fun _ => Is (.bool false), fun _ => Is (.agg #[.bool (ng z1), .slice p1 n1 c1, .bool (ng z2), .slice p2 n2 c2]), fun _ => Is (.agg #[.bool bA, .slice qA nA kA, .bool bB, .slice qB nB kB]), fun _ => Rrt z4 z5, fun _ => Is (.bool true), fun _ => Is (.bool false), fun _ => Is (.bool false)] : List (List Value → Tell)).getD i9 (fun _ _ _ => False)) (heldNil) (fun d _ _ _ _ h => (by cases d <;> exact h)) (by kernel_rfl) (by kernel_rfl) (by kernel_rfl) hS ?_ ?_
        ·
          refine stepsCons rfl ?_ ?_
          · intro Q f' w' ρ S ho hT hS hB
            exact .inl ⟨want_none rfl, omove (v := .int .i64 0) rfl rfl (ev (v := .int .i64 0) rfl (ho 6 rfl)) ⟨_, _, rfl, isI, New.same _⟩⟩
          refine stepsCons rfl ?_ ?_
          · intro Q f' w' ρ S ho hT hS hB
            obtain ⟨hv0, hr0⟩ := (hT 0 46 rfl rfl : (Is (.int .i64 0)) (f' 46) (ρ 0))
            obtain hS := hS.flat1 hr0
            exact .inl ⟨want_none rfl, obin (u := .int .i64 0) (v := .int .i64 0) (z := .bool false) rfl rfl (ev (v := .int .i64 0) rfl hv0) (evc (v := .int .i64 0)) (bin_neq (by decide)) ⟨_, _, rfl, isI, New.same _⟩⟩
          refine stepsCons rfl ?_ ?_
          · intro Q f' w' ρ S ho hT hS hB
            obtain ⟨hv1, hr1⟩ := (hT 1 47 rfl rfl : (Is (.bool false)) (f' 47) (ρ 1))
            obtain hS := hS.flat1 hr1
            exact .inl ⟨want_none rfl, omove (v := .bool false) rfl rfl (ev (v := .bool false) rfl hv1) ⟨_, _, rfl, isI, New.same _⟩⟩
          refine stepsCons rfl ?_ ?_
          · intro Q f' w' ρ S ho hT hS hB
            obtain ⟨hv2, hr2⟩ := (hT 2 48 rfl rfl : (Is (.bool false)) (f' 48) (ρ 2))
            obtain hS := hS.flat1 hr2
            exact .inl ⟨want_on (e := 48) rfl rfl rfl hv2, oload (vs := [.bool (ng z1), .slice p1 n1 c1, .bool (ng z2), .slice p2 n2 c2]) aggR hS 1 rfl rfl (ev rfl (ho 5 rfl)) rfl rfl rfl ⟨_, _, rfl, isI, New.same _⟩⟩
          refine stepsCons rfl ?_ ?_
          · intro Q f' w' ρ S ho hT hS hB
            obtain ⟨hv2, hr2⟩ := (hT 2 48 rfl rfl : (Is (.bool false)) (f' 48) (ρ 2))
            obtain hS := hS.flat1 hr2
            exact .inl ⟨want_on (e := 48) rfl rfl rfl hv2, oload (vs := [.bool bA, .slice qA nA kA, .bool bB, .slice qB nB kB]) aggR hS 5 rfl rfl (ev rfl (ho 2 rfl)) rfl rfl rfl ⟨_, _, rfl, isI, New.same _⟩⟩
          refine stepsCons rfl ?_ ?_
          · intro Q f' w' ρ S ho hT hS hB
            obtain ⟨hv2, hr2⟩ := (hT 2 48 rfl rfl : (Is (.bool false)) (f' 48) (ρ 2))
            obtain ⟨hv4, hr4⟩ := (hT 4 50 rfl rfl : (Is (.agg #[.bool bA, .slice qA nA kA, .bool bB, .slice qB nB kB])) (f' 50) (ρ 4))
            obtain hS := hS.flat2 hr2 hr4
            refine .inl ⟨want_on (e := 48) rfl rfl rfl hv2, ocall rfl rfl Try.call14 rfl (wsinv ((hzA.at hS).mono (by omega)) ((hzB.at hS).mono (by omega)) (hx) hz4 hz5) (args1 (ev rfl hv4)) ?_⟩
            rintro _ w9 ⟨_, _, rfl, hTT, hN⟩
            exact ⟨_, rfl, _, _, rfl, hTT, hN⟩
          refine stepsCons rfl ?_ ?_
          · intro Q f' w' ρ S ho hT hS hB
            obtain ⟨hv2, hr2⟩ := (hT 2 48 rfl rfl : (Is (.bool false)) (f' 48) (ρ 2))
            obtain ⟨hv3, hr3⟩ := (hT 3 49 rfl rfl : (Is (.agg #[.bool (ng z1), .slice p1 n1 c1, .bool (ng z2), .slice p2 n2 c2])) (f' 49) (ρ 3))
            obtain ⟨p4, n4, c4, p5, n5, c5, hv5, hr5⟩ := (hT 5 51 rfl rfl : (Rrt z4 z5) (f' 51) (ρ 5))
            obtain hS := hS.flat3 hr2 hr3 hr5
            refine .inl ⟨want_on (e := 48) rfl rfl rfl hv2, ocall rfl rfl Try.call13 rfl (wlsame5 (x := z1) (y := z2) (u := z4) (v := z5) (hS.slm 2 rfl) (hS.slm 3 rfl) (hS.slm 6 rfl) (hS.slm 7 rfl) ((hz1.out.symm).trans (hz4.out.symm).symm) ((hz2.out.symm).trans (hz5.out.symm).symm)) (args2 (ev rfl hv3) (ev rfl hv5)) ?_⟩
            rintro _ w9 ⟨_, _, rfl, hTT, hN⟩
            exact ⟨_, rfl, _, _, rfl, hTT, hN⟩
          refine stepsCons rfl ?_ ?_
          · intro Q f' w' ρ S ho hT hS hB
            obtain ⟨hv2, hr2⟩ := (hT 2 48 rfl rfl : (Is (.bool false)) (f' 48) (ρ 2))
            obtain ⟨hv6, hr6⟩ := (hT 6 52 rfl rfl : (Is (.bool true)) (f' 52) (ρ 6))
            obtain hS := hS.flat2 hr2 hr6
            exact .inl ⟨want_on (e := 48) rfl rfl rfl hv2, onot (b := true) rfl rfl (ev (v := .bool true) rfl hv6) ⟨_, _, rfl, isI, New.same _⟩⟩
          refine stepsCons rfl ?_ ?_
          · intro Q f' w' ρ S ho hT hS hB
            obtain ⟨hv2, hr2⟩ := (hT 2 48 rfl rfl : (Is (.bool false)) (f' 48) (ρ 2))
            obtain ⟨hv7, hr7⟩ := (hT 7 53 rfl rfl : (Is (.bool false)) (f' 53) (ρ 7))
            obtain hS := hS.flat2 hr2 hr7
            exact .inl ⟨want_none rfl, opick (b := false) (v := .bool false) rfl rfl (ev (v := .bool false) rfl hv2) (ev (v := .bool false) rfl hv7) ⟨_, _, rfl, isI, New.same _⟩⟩
          exact stepsNil
        ·
          intro vs ρ w16 f' hf hT hS
          obtain ⟨hv0, hr0⟩ := (hT 0 (by decide) : (Is (.int .i64 0)) (vs 0) (ρ 0))
          obtain ⟨hv1, hr1⟩ := (hT 1 (by decide) : (Is (.bool false)) (vs 1) (ρ 1))
          obtain ⟨hv2, hr2⟩ := (hT 2 (by decide) : (Is (.bool false)) (vs 2) (ρ 2))
          obtain ⟨hv3, hr3⟩ := (hT 3 (by decide) : (Is (.agg #[.bool (ng z1), .slice p1 n1 c1, .bool (ng z2), .slice p2 n2 c2])) (vs 3) (ρ 3))
          obtain ⟨hv4, hr4⟩ := (hT 4 (by decide) : (Is (.agg #[.bool bA, .slice qA nA kA, .bool bB, .slice qB nB kB])) (vs 4) (ρ 4))
          obtain ⟨p4, n4, c4, p5, n5, c5, hv5, hr5⟩ := (hT 5 (by decide) : (Rrt z4 z5) (vs 5) (ρ 5))
          obtain ⟨hv6, hr6⟩ := (hT 6 (by decide) : (Is (.bool true)) (vs 6) (ρ 6))
          obtain ⟨hv7, hr7⟩ := (hT 7 (by decide) : (Is (.bool false)) (vs 7) (ρ 7))
          obtain ⟨hv8, hr8⟩ := (hT 8 (by decide) : (Is (.bool false)) (vs 8) (ρ 8))
          simp only [pool, if_true, hr0, hr1, hr2, hr3, hr4, hr5, hr6, hr7, hr8, List.nil_append, List.cons_append, List.append_nil] at hS
          simp only [layf, hv0, hv1, hv2, hv3, hv4, hv5, hv6, hv7, hv8] at hf
          subst hf; clear hT hv0 hv1 hv2 hv3 hv4 hv5 hv6 hv7 hv8 hr0 hr1 hr2 hr3 hr4 hr5 hr6 hr7 hr8
          refine wdone rfl ?_
          refine thenN ?_
          refine wF (ev (v := .bool false) rfl rfl) ?_
          refine wskip ?_
          refine thenN ?_
          refine wseq ?_
          refine wseq ?_
          refine wreg ?_
          refine wl rfl (oload (vs := [.bool bA, .slice qA nA kA, .bool bB, .slice qB nB kB]) aggR hS 7 rfl rfl (ev rfl rfl) rfl rfl rfl ?_)
          refine wl rfl (ocall rfl rfl Try.call11 rfl (wsmay ((hzB.at hS).mono (by omega)) (hy)) (args1 (ev rfl rfl)) ?_)
          rintro _ w17 ⟨_, _, rfl, ⟨rfl, rfl⟩, hN⟩
          refine ⟨_, rfl, ?_⟩
          replace hS := hS.news hN; clear hN
          refine wl rfl (onot (b := true) rfl rfl (ev (v := .bool true) rfl rfl) ?_)
          refine wl rfl (omove (v := .bool false) rfl rfl (ev (v := .bool false) rfl rfl) ?_)
          refine wlOn (e := 58) rfl rfl rfl rfl (oload (vs := [.bool bC, .slice qC nC kC, .bool bD, .slice qD nD kD]) aggR hS 6 rfl rfl (ev rfl rfl) rfl rfl rfl ?_)
          refine wlOn (e := 58) rfl rfl rfl rfl (ocall rfl rfl Try.call11 rfl (wsmay0 ((hzD.at hS).mono (by omega)) (hv)) (args1 (ev rfl rfl)) ?_)
          rintro _ w18 ⟨_, _, rfl, ⟨rfl, rfl⟩, hN⟩
          refine ⟨_, rfl, ?_⟩
          replace hS := hS.news hN; clear hN
          refine wlOn (e := 58) rfl rfl rfl rfl (onot (b := false) rfl rfl (ev (v := .bool false) rfl rfl) ?_)
          refine wl rfl (opick (b := false) (v := .bool true) rfl rfl (ev (v := .bool false) rfl rfl) (ev (v := .bool true) rfl rfl) ?_)
          refine wnil ?_
          refine thenN ?_
          refine wT (ev (v := .bool true) rfl rfl) ?_
          refine wseq ?_
          refine wreg ?_
          refine wl rfl (omove (v := .int .i64 6) rfl rfl (ev (v := .int .i64 6) rfl rfl) ?_)
          refine wl rfl (obin (u := .int .i64 6) (v := .int .i64 6) (z := .bool true) rfl rfl (ev (v := .int .i64 6) rfl rfl) (evc (v := .int .i64 6)) (bin_eql (by decide)) ?_)
          refine wl rfl (omove (v := .bool true) rfl rfl (ev (v := .bool true) rfl rfl) ?_)
          refine wlOn (e := 65) rfl rfl rfl rfl (oload (vs := [.bool false, .slice none 0 0, .bool false, .slice none 0 0]) aggR hS 2 rfl rfl (ev rfl rfl) rfl rfl rfl ?_)
          refine wlOn (e := 65) rfl rfl rfl rfl (obuild (ps := #[]) (v := .agg #[.bool false, .slice none 0 0, .bool false, .slice none 0 0]) rfl rfl (parts0) (fun w => by simp [go_sem, Instr.build, Instr.fill]) ?_)
          refine wlOn (e := 65) rfl rfl rfl rfl (ocall rfl rfl Try.call13 rfl (wlsame5 (x := 0) (y := 0) (u := 0) (v := 0) (Sl.nil _) (Sl.nil _) (Sl.nil _) (Sl.nil _) (rfl) (rfl)) (args2 (ev rfl rfl) (ev rfl rfl)) ?_)
          rintro _ w19 ⟨_, _, rfl, ⟨rfl, rfl⟩, hN⟩
          refine ⟨_, rfl, ?_⟩
          replace hS := hS.news hN; clear hN
          refine wl rfl (opick (b := true) (v := .bool true) rfl rfl (ev (v := .bool true) rfl rfl) (ev (v := .bool true) rfl rfl) ?_)
          refine wl rfl (omove (v := .bool true) rfl rfl (ev (v := .bool true) rfl rfl) ?_)
          refine wlOn (e := 70) rfl rfl rfl rfl (ocall rfl rfl Try.call15 rfl (wllives5) (args0 ) ?_)
          rintro _ w20 ⟨_, _, rfl, ⟨rfl, rfl⟩, hN⟩
          refine ⟨_, rfl, ?_⟩
          replace hS := hS.news hN; clear hN
          refine wl rfl (opick (b := true) (v := .bool true) rfl rfl (ev (v := .bool true) rfl rfl) (ev (v := .bool true) rfl rfl) ?_)
          refine wl rfl (oassign (v := .bool true) rfl rfl (ev (v := .bool true) rfl rfl) ?_)
          refine wnil ?_
          refine thenN ?_
          refine wleave ?_
          refine thenR ?_
          refine wret1 Try.results3 (tellT (v := .bool true) rfl rfl) ?_
          exact ⟨_, _, rfl, isI, hS.new0⟩
      ·
        by_cases hu : u = 0
        ·
          obtain ⟨z1, hz1⟩ : ∃ z : Int, Hid (RN y x = z) := ⟨_, rfl⟩
          have hk1 : Wd z1 1048576 := Wd.rn hzB.wd hz1
          obtain ⟨z2, hz2⟩ : ∃ z : Int, Hid (RD y x = z) := ⟨_, rfl⟩
          have hk2 : Wd z2 1048576 := Wd.rd hzA.wd hz2
          refine wl rfl (ocall rfl rfl Try.call9 rfl (wrinv ((hzA.at hS).mono (by omega)) ((hzB.at hS).mono (by omega)) (hy) (hx) hz1 hz2) (args1 (ev rfl rfl)) ?_)
          rintro _ w5 ⟨_, _, rfl, ⟨p1, n1, c1, p2, n2, c2, rfl, rfl⟩, hN⟩
          refine ⟨_, rfl, ?_⟩
          replace hS := hS.news hN; clear hN
          refine wl rfl (omove (v := .tuple #[.agg #[.bool (ng z1), .slice p1 n1 c1, .bool (ng z2), .slice p2 n2 c2], .int .i64 0]) rfl rfl (ev (v := .tuple #[.agg #[.bool (ng z1), .slice p1 n1 c1, .bool (ng z2), .slice p2 n2 c2], .int .i64 0]) rfl rfl) ?_)
          refine wl rfl (oextract (vs := [.agg #[.bool (ng z1), .slice p1 n1 c1, .bool (ng z2), .slice p2 n2 c2], .int .i64 0]) (v := .agg #[.bool (ng z1), .slice p1 n1 c1, .bool (ng z2), .slice p2 n2 c2]) rfl rfl (ev (v := .tuple #[.agg #[.bool (ng z1), .slice p1 n1 c1, .bool (ng z2), .slice p2 n2 c2], .int .i64 0]) rfl rfl) rfl ?_)
          refine wl rfl (oextract (vs := [.agg #[.bool (ng z1), .slice p1 n1 c1, .bool (ng z2), .slice p2 n2 c2], .int .i64 0]) (v := .int .i64 0) rfl rfl (ev (v := .tuple #[.agg #[.bool (ng z1), .slice p1 n1 c1, .bool (ng z2), .slice p2 n2 c2], .int .i64 0]) rfl rfl) rfl ?_)
          refine wl rfl (oalloc [.bool false, .slice none 0 0, .bool false, .slice none 0 0] hS rfl rfl Try.zeroValue27 rfl ?_)
          clear hS; intro g6 w7 hS
          refine wl rfl (ostore [.bool (ng z1), .slice p1 n1 c1, .bool (ng z2), .slice p2 n2 c2] [.bool (ng z1), .slice p1 n1 c1, .bool (ng z2), .slice p2 n2 c2] Try.sizeOf27 hS 0 rfl rfl (ev rfl rfl) (ev (v := .agg #[.bool (ng z1), .slice p1 n1 c1, .bool (ng z2), .slice p2 n2 c2]) rfl rfl) rfl rfl rfl rfl rfl rfl ?_)
          clear hS; intro w8 hS
          refine wl rfl (oassign (v := .int .i64 0) rfl rfl (ev (v := .int .i64 0) rfl rfl) ?_)
          refine wnil ?_
          refine thenN ?_
          refine wseq ?_
          refine wreg ?_
          refine wl rfl (oload (vs := [.bool bA, .slice qA nA kA, .bool bB, .slice qB nB kB]) aggR hS 4 rfl rfl (ev rfl rfl) rfl rfl rfl ?_)
          refine wl rfl (oload (vs := [.bool bC, .slice qC nC kC, .bool bD, .slice qD nD kD]) aggR hS 3 rfl rfl (ev rfl rfl) rfl rfl rfl ?_)
          have hk3 : Wd 0 2 := Wd.i64 (by omega) (by omega)
          have hk4 : Wd 0 2 := Wd.i64 (by omega) (by omega)
          refine wl rfl (ocall rfl rfl Try.call10 rfl (wrquoz ((hzA.at hS).mono (by omega)) ((hzB.at hS).mono (by omega)) ((hzC.at hS).mono (by omega)) ((hzD.at hS).mono (by omega)) (hy) (hv) (hu)) (args2 (ev rfl rfl) (ev rfl rfl)) ?_)
          rintro _ w9 ⟨_, _, rfl, ⟨p3, n3, c3, p4, n4, c4, rfl, rfl⟩, hN⟩
          refine ⟨_, rfl, ?_⟩
          replace hS := hS.news hN; clear hN
          refine wl rfl (omove (v := .tuple #[.agg #[.bool (ng 0), .slice p3 n3 c3, .bool (ng 0), .slice p4 n4 c4], .int .i64 5]) rfl rfl (ev (v := .tuple #[.agg #[.bool (ng 0), .slice p3 n3 c3, .bool (ng 0), .slice p4 n4 c4], .int .i64 5]) rfl rfl) ?_)
          refine wl rfl (oextract (vs := [.agg #[.bool (ng 0), .slice p3 n3 c3, .bool (ng 0), .slice p4 n4 c4], .int .i64 5]) (v := .agg #[.bool (ng 0), .slice p3 n3 c3, .bool (ng 0), .slice p4 n4 c4]) rfl rfl (ev (v := .tuple #[.agg #[.bool (ng 0), .slice p3 n3 c3, .bool (ng 0), .slice p4 n4 c4], .int .i64 5]) rfl rfl) rfl ?_)
          refine wl rfl (oextract (vs := [.agg #[.bool (ng 0), .slice p3 n3 c3, .bool (ng 0), .slice p4 n4 c4], .int .i64 5]) (v := .int .i64 5) rfl rfl (ev (v := .tuple #[.agg #[.bool (ng 0), .slice p3 n3 c3, .bool (ng 0), .slice p4 n4 c4], .int .i64 5]) rfl rfl) rfl ?_)
          refine wl rfl (oalloc [.bool false, .slice none 0 0, .bool false, .slice none 0 0] hS rfl rfl Try.zeroValue27 rfl ?_)
          clear hS; intro g10 w11 hS
          refine wl rfl (ostore [.bool (ng 0), .slice p3 n3 c3, .bool (ng 0), .slice p4 n4 c4] [.bool (ng 0), .slice p3 n3 c3, .bool (ng 0), .slice p4 n4 c4] Try.sizeOf27 hS 0 rfl rfl (ev rfl rfl) (ev (v := .agg #[.bool (ng 0), .slice p3 n3 c3, .bool (ng 0), .slice p4 n4 c4]) rfl rfl) rfl rfl rfl rfl rfl rfl ?_)
          clear hS; intro w12 hS
          refine wl rfl (oassign (v := .int .i64 5) rfl rfl (ev (v := .int .i64 5) rfl rfl) ?_)
          refine wnil ?_
          refine thenN ?_
          refine wseq ?_
          refine wseq ?_
          refine wreg ?_
          refine wl rfl (oload (vs := [.bool bA, .slice qA nA kA, .bool bB, .slice qB nB kB]) aggR hS 7 rfl rfl (ev rfl rfl) rfl rfl rfl ?_)
          refine wl rfl (ocall rfl rfl Try.call11 rfl (wsmay ((hzB.at hS).mono (by omega)) (hy)) (args1 (ev rfl rfl)) ?_)
          rintro _ w13 ⟨_, _, rfl, ⟨rfl, rfl⟩, hN⟩
          refine ⟨_, rfl, ?_⟩
          replace hS := hS.news hN; clear hN
          refine wl rfl (omove (v := .bool true) rfl rfl (ev (v := .bool true) rfl rfl) ?_)
          refine wlOn (e := 22) rfl rfl rfl rfl (oload (vs := [.bool bA, .slice qA nA kA, .bool bB, .slice qB nB kB]) aggR hS 7 rfl rfl (ev rfl rfl) rfl rfl rfl ?_)
          obtain ⟨s5, hs5⟩ : ∃ z : Int, Hid ((x : Int).sign * (y : Int).sign = z) := ⟨_, rfl⟩
          refine wlOn (e := 22) rfl rfl rfl rfl (ocall rfl rfl Try.call12 rfl (wssign ((hzA.at hS).mono (by omega)) ((hzB.at hS).mono (by omega)) (hy) hs5) (args1 (ev rfl rfl)) ?_)
          rintro _ w14 ⟨_, _, rfl, ⟨rfl, rfl⟩, hN⟩
          refine ⟨_, rfl, ?_⟩
          replace hS := hS.news hN; clear hN
          refine wlOn (e := 22) rfl rfl rfl rfl (obin (u := .int .i64 s5) (v := .int .i64 0) (z := .bool false) rfl rfl (ev (v := .int .i64 s5) rfl rfl) (evc (v := .int .i64 0)) (bin_eql (rs_ne hs5 hx hy)) ?_)
          refine wl rfl (opick (b := true) (v := .bool false) rfl rfl (ev (v := .bool true) rfl rfl) (ev (v := .bool false) rfl rfl) ?_)
          refine wnil ?_
          refine thenN ?_
          refine wF (ev (v := .bool false) rfl rfl) ?_
          refine wseq ?_
          refine wreg ?_
          refine wl rfl (oload (vs := [.bool bA, .slice qA nA kA, .bool bB, .slice qB nB kB]) aggR hS 7 rfl rfl (ev rfl rfl) rfl rfl rfl ?_)
          refine wl rfl (ocall rfl rfl Try.call11 rfl (wsmay ((hzB.at hS).mono (by omega)) (hy)) (args1 (ev rfl rfl)) ?_)
          rintro _ w15 ⟨_, _, rfl, ⟨rfl, rfl⟩, hN⟩
          refine ⟨_, rfl, ?_⟩
          replace hS := hS.news hN; clear hN
          refine wl rfl (onot (b := true) rfl rfl (ev (v := .bool true) rfl rfl) ?_)
          refine wnil ?_
          refine thenN ?_
          refine wF (ev (v := .bool false) rfl rfl) ?_
          refine wseq ?_
          obtain ⟨z6, hz6⟩ : ∃ z : Int, Hid (RN y x = z) := ⟨_, rfl⟩
          have hk6 : Wd z6 1048576 := Wd.rn hzB.wd hz6
          obtain ⟨z7, hz7⟩ : ∃ z : Int, Hid (RD y x = z) := ⟨_, rfl⟩
          have hk7 : Wd z7 1048576 := Wd.rd hzA.wd hz7
          refine wstage 9 [46, 47, 48, 49, 50, 51, 52, 53, 54] [[], [0], [1, 0], [2, 0, 1], [2, 0, 1], [2, 4, 0, 1], [2, 3, 5, 0, 1, 4], [2, 6, 0, 1, 3, 4, 5], [2, 7, 0, 1, 3, 4, 5, 6]] [[], [], [], [], [], [], [], [], []] [] [] (fun i9 => ([fun _ => Is (.int .i64 0), fun _ => Is (.bool false), fun _ => Is (.bool false), fun _ => Is (.agg #[.bool (ng z1), .slice p1 n1 c1, .bool (ng z2), .slice p2 n2 c2]), fun _ => Is (.agg #[.bool bA, .slice qA nA kA, .bool bB, .slice qB nB kB]), fun _ => Rrt z6 z7, fun _ => Is (.bool true), fun _ => Is (.bool false), fun _ => Is (.bool false)] : List (List Value → Tell)).getD i9 (fun _ _ _ => False)) (heldNil) (fun d _ _ _ _ h => (by cases d <;> exact h)) (by kernel_rfl) (by kernel_rfl) (by kernel_rfl) hS ?_ ?_
          ·
            refine stepsCons rfl ?_ ?_
            · intro Q f' w' ρ S ho hT hS hB
              exact .inl ⟨want_none rfl, omove (v := .int .i64 0) rfl rfl (ev (v := .int .i64 0) rfl (ho 6 rfl)) ⟨_, _, rfl, isI, New.same _⟩⟩
            refine stepsCons rfl ?_ ?_
            · intro Q f' w' ρ S ho hT hS hB
              obtain ⟨hv0, hr0⟩ := (hT 0 46 rfl rfl : (Is (.int .i64 0)) (f' 46) (ρ 0))
              obtain hS := hS.flat1 hr0
              exact .inl ⟨want_none rfl, obin (u := .int .i64 0) (v := .int .i64 0) (z := .bool false) rfl rfl (ev (v := .int .i64 0) rfl hv0) (evc (v := .int .i64 0)) (bin_neq (by decide)) ⟨_, _, rfl, isI, New.same _⟩⟩
            refine stepsCons rfl ?_ ?_
            · intro Q f' w' ρ S ho hT hS hB
              obtain ⟨hv1, hr1⟩ := (hT 1 47 rfl rfl : (Is (.bool false)) (f' 47) (ρ 1))
              obtain hS := hS.flat1 hr1
              exact .inl ⟨want_none rfl, omove (v := .bool false) rfl rfl (ev (v := .bool false) rfl hv1) ⟨_, _, rfl, isI, New.same _⟩⟩
            refine stepsCons rfl ?_ ?_
            · intro Q f' w' ρ S ho hT hS hB
              obtain ⟨hv2, hr2⟩ := (hT 2 48 rfl rfl : (Is (.bool false)) (f' 48) (ρ 2))
              obtain hS := hS.flat1 hr2
              exact .inl ⟨want_on (e := 48) rfl rfl rfl hv2, oload (vs := [.bool (ng z1), .slice p1 n1 c1, .bool (ng z2), .slice p2 n2 c2]) aggR hS 3 rfl rfl (ev rfl (ho 5 rfl)) rfl rfl rfl ⟨_, _, rfl, isI, New.same _⟩⟩
            refine stepsCons rfl ?_ ?_
            · intro Q f' w' ρ S ho hT hS hB
              obtain ⟨hv2, hr2⟩ := (hT 2 48 rfl rfl : (Is (.bool false)) (f' 48) (ρ 2))
              obtain hS := hS.flat1 hr2
              exact .inl ⟨want_on (e := 48) rfl rfl rfl hv2, oload (vs := [.bool bA, .slice qA nA kA, .bool bB, .slice qB nB kB]) aggR hS 7 rfl rfl (ev rfl (ho 2 rfl)) rfl rfl rfl ⟨_, _, rfl, isI, New.same _⟩⟩
            refine stepsCons rfl ?_ ?_
            · intro Q f' w' ρ S ho hT hS hB
              obtain ⟨hv2, hr2⟩ := (hT 2 48 rfl rfl : (Is (.bool false)) (f' 48) (ρ 2))
              obtain ⟨hv4, hr4⟩ := (hT 4 50 rfl rfl : (Is (.agg #[.bool bA, .slice qA nA kA, .bool bB, .slice qB nB kB])) (f' 50) (ρ 4))
              obtain hS := hS.flat2 hr2 hr4
              refine .inl ⟨want_on (e := 48) rfl rfl rfl hv2, ocall rfl rfl Try.call14 rfl (wsinv ((hzA.at hS).mono (by omega)) ((hzB.at hS).mono (by omega)) (hx) hz6 hz7) (args1 (ev rfl hv4)) ?_⟩
              rintro _ w9 ⟨_, _, rfl, hTT, hN⟩
              exact ⟨_, rfl, _, _, rfl, hTT, hN⟩
            refine stepsCons rfl ?_ ?_
            · intro Q f' w' ρ S ho hT hS hB
              obtain ⟨hv2, hr2⟩ := (hT 2 48 rfl rfl : (Is (.bool false)) (f' 48) (ρ 2))
              obtain ⟨hv3, hr3⟩ := (hT 3 49 rfl rfl : (Is (.agg #[.bool (ng z1), .slice p1 n1 c1, .bool (ng z2), .slice p2 n2 c2])) (f' 49) (ρ 3))
              obtain ⟨p6, n6, c6, p7, n7, c7, hv5, hr5⟩ := (hT 5 51 rfl rfl : (Rrt z6 z7) (f' 51) (ρ 5))
              obtain hS := hS.flat3 hr2 hr3 hr5
              refine .inl ⟨want_on (e := 48) rfl rfl rfl hv2, ocall rfl rfl Try.call13 rfl (wlsame5 (x := z1) (y := z2) (u := z6) (v := z7) (hS.slm 4 rfl) (hS.slm 5 rfl) (hS.slm 8 rfl) (hS.slm 9 rfl) ((hz1.out.symm).trans (hz6.out.symm).symm) ((hz2.out.symm).trans (hz7.out.symm).symm)) (args2 (ev rfl hv3) (ev rfl hv5)) ?_⟩
              rintro _ w9 ⟨_, _, rfl, hTT, hN⟩
              exact ⟨_, rfl, _, _, rfl, hTT, hN⟩
            refine stepsCons rfl ?_ ?_
            · intro Q f' w' ρ S ho hT hS hB
              obtain ⟨hv2, hr2⟩ := (hT 2 48 rfl rfl : (Is (.bool false)) (f' 48) (ρ 2))
              obtain ⟨hv6, hr6⟩ := (hT 6 52 rfl rfl : (Is (.bool true)) (f' 52) (ρ 6))
              obtain hS := hS.flat2 hr2 hr6
              exact .inl ⟨want_on (e := 48) rfl rfl rfl hv2, onot (b := true) rfl rfl (ev (v := .bool true) rfl hv6) ⟨_, _, rfl, isI, New.same _⟩⟩
            refine stepsCons rfl ?_ ?_
            · intro Q f' w' ρ S ho hT hS hB
              obtain ⟨hv2, hr2⟩ := (hT 2 48 rfl rfl : (Is (.bool false)) (f' 48) (ρ 2))
              obtain ⟨hv7, hr7⟩ := (hT 7 53 rfl rfl : (Is (.bool false)) (f' 53) (ρ 7))
              obtain hS := hS.flat2 hr2 hr7
              exact .inl ⟨want_none rfl, opick (b := false) (v := .bool false) rfl rfl (ev (v := .bool false) rfl hv2) (ev (v := .bool false) rfl hv7) ⟨_, _, rfl, isI, New.same _⟩⟩
            exact stepsNil
          ·
            intro vs ρ w16 f' hf hT hS
            obtain ⟨hv0, hr0⟩ := (hT 0 (by decide) : (Is (.int .i64 0)) (vs 0) (ρ 0))
            obtain ⟨hv1, hr1⟩ := (hT 1 (by decide) : (Is (.bool false)) (vs 1) (ρ 1))
            obtain ⟨hv2, hr2⟩ := (hT 2 (by decide) : (Is (.bool false)) (vs 2) (ρ 2))
            obtain ⟨hv3, hr3⟩ := (hT 3 (by decide) : (Is (.agg #[.bool (ng z1), .slice p1 n1 c1, .bool (ng z2), .slice p2 n2 c2])) (vs 3) (ρ 3))
            obtain ⟨hv4, hr4⟩ := (hT 4 (by decide) : (Is (.agg #[.bool bA, .slice qA nA kA, .bool bB, .slice qB nB kB])) (vs 4) (ρ 4))
            obtain ⟨p6, n6, c6, p7, n7, c7, hv5, hr5⟩ := (hT 5 (by decide) : (Rrt z6 z7) (vs 5) (ρ 5))
            obtain ⟨hv6, hr6⟩ := (hT 6 (by decide) : (Is (.bool true)) (vs 6) (ρ 6))
            obtain ⟨hv7, hr7⟩ := (hT 7 (by decide) : (Is (.bool false)) (vs 7) (ρ 7))
            obtain ⟨hv8, hr8⟩ := (hT 8 (by decide) : (Is (.bool false)) (vs 8) (ρ 8))
            simp only [pool, if_true, hr0, hr1, hr2, hr3, hr4, hr5, hr6, hr7, hr8, List.nil_append, List.cons_append, List.append_nil] at hS
            simp only [layf, hv0, hv1, hv2, hv3, hv4, hv5, hv6, hv7, hv8] at hf
            subst hf; clear hT hv0 hv1 hv2 hv3 hv4 hv5 hv6 hv7 hv8 hr0 hr1 hr2 hr3 hr4 hr5 hr6 hr7 hr8
            refine wdone rfl ?_
            refine thenN ?_
            refine wF (ev (v := .bool false) rfl rfl) ?_
            refine wskip ?_
            refine thenN ?_
            refine wseq ?_
            refine wseq ?_
            refine wreg ?_
            refine wl rfl (oload (vs := [.bool bA, .slice qA nA kA, .bool bB, .slice qB nB kB]) aggR hS 9 rfl rfl (ev rfl rfl) rfl rfl rfl ?_)
            refine wl rfl (ocall rfl rfl Try.call11 rfl (wsmay ((hzB.at hS).mono (by omega)) (hy)) (args1 (ev rfl rfl)) ?_)
            rintro _ w17 ⟨_, _, rfl, ⟨rfl, rfl⟩, hN⟩
            refine ⟨_, rfl, ?_⟩
            replace hS := hS.news hN; clear hN
            refine wl rfl (onot (b := true) rfl rfl (ev (v := .bool true) rfl rfl) ?_)
            refine wl rfl (omove (v := .bool false) rfl rfl (ev (v := .bool false) rfl rfl) ?_)
            refine wlOn (e := 58) rfl rfl rfl rfl (oload (vs := [.bool bC, .slice qC nC kC, .bool bD, .slice qD nD kD]) aggR hS 8 rfl rfl (ev rfl rfl) rfl rfl rfl ?_)
            refine wlOn (e := 58) rfl rfl rfl rfl (ocall rfl rfl Try.call11 rfl (wsmay ((hzD.at hS).mono (by omega)) (hv)) (args1 (ev rfl rfl)) ?_)
            rintro _ w18 ⟨_, _, rfl, ⟨rfl, rfl⟩, hN⟩
            refine ⟨_, rfl, ?_⟩
            replace hS := hS.news hN; clear hN
            refine wlOn (e := 58) rfl rfl rfl rfl (onot (b := true) rfl rfl (ev (v := .bool true) rfl rfl) ?_)
            refine wl rfl (opick (b := false) (v := .bool false) rfl rfl (ev (v := .bool false) rfl rfl) (ev (v := .bool false) rfl rfl) ?_)
            refine wnil ?_
            refine thenN ?_
            refine wF (ev (v := .bool false) rfl rfl) ?_
            refine wskip ?_
            refine thenN ?_
            refine wseq ?_
            refine wseq ?_
            refine wreg ?_
            refine wl rfl (oload (vs := [.bool bC, .slice qC nC kC, .bool bD, .slice qD nD kD]) aggR hS 8 rfl rfl (ev rfl rfl) rfl rfl rfl ?_)
            obtain ⟨s8, hs8⟩ : ∃ z : Int, Hid ((u : Int).sign * (v : Int).sign = z) := ⟨_, rfl⟩
            refine wl rfl (ocall rfl rfl Try.call12 rfl (wssign ((hzC.at hS).mono (by omega)) ((hzD.at hS).mono (by omega)) (hv) hs8) (args1 (ev rfl rfl)) ?_)
            rintro _ w19 ⟨_, _, rfl, ⟨rfl, rfl⟩, hN⟩
            refine ⟨_, rfl, ?_⟩
            replace hS := hS.news hN; clear hN
            refine wl rfl (obin (u := .int .i64 s8) (v := .int .i64 0) (z := .bool true) rfl rfl (ev (v := .int .i64 s8) rfl rfl) (evc (v := .int .i64 0)) (bin_eql (rs_zero hs8 hu)) ?_)
            refine wnil ?_
            refine thenN ?_
            refine wT (ev (v := .bool true) rfl rfl) ?_
            refine wseq ?_
            refine wreg ?_
            refine wl rfl (omove (v := .int .i64 5) rfl rfl (ev (v := .int .i64 5) rfl rfl) ?_)
            refine wl rfl (obin (u := .int .i64 5) (v := .int .i64 5) (z := .bool true) rfl rfl (ev (v := .int .i64 5) rfl rfl) (evc (v := .int .i64 5)) (bin_eql (by decide)) ?_)
            refine wl rfl (omove (v := .bool true) rfl rfl (ev (v := .bool true) rfl rfl) ?_)
            refine wlOn (e := 78) rfl rfl rfl rfl (oload (vs := [.bool (ng 0), .slice p3 n3 c3, .bool (ng 0), .slice p4 n4 c4]) aggR hS 2 rfl rfl (ev rfl rfl) rfl rfl rfl ?_)
            refine wlOn (e := 78) rfl rfl rfl rfl (obuild (ps := #[]) (v := .agg #[.bool false, .slice none 0 0, .bool false, .slice none 0 0]) rfl rfl (parts0) (fun w => by simp [go_sem, Instr.build, Instr.fill]) ?_)
            refine wlOn (e := 78) rfl rfl rfl rfl (ocall rfl rfl Try.call13 rfl (wlsame5 (x := 0) (y := 0) (u := 0) (v := 0) (hS.slm 3 rfl) (hS.slm 4 rfl) (Sl.nil _) (Sl.nil _) (rfl) (rfl)) (args2 (ev rfl rfl) (ev rfl rfl)) ?_)
            rintro _ w20 ⟨_, _, rfl, ⟨rfl, rfl⟩, hN⟩
            refine ⟨_, rfl, ?_⟩
            replace hS := hS.news hN; clear hN
            refine wl rfl (opick (b := true) (v := .bool true) rfl rfl (ev (v := .bool true) rfl rfl) (ev (v := .bool true) rfl rfl) ?_)
            refine wl rfl (omove (v := .bool true) rfl rfl (ev (v := .bool true) rfl rfl) ?_)
            refine wlOn (e := 83) rfl rfl rfl rfl (ocall rfl rfl Try.call15 rfl (wllives5) (args0 ) ?_)
            rintro _ w21 ⟨_, _, rfl, ⟨rfl, rfl⟩, hN⟩
            refine ⟨_, rfl, ?_⟩
            replace hS := hS.news hN; clear hN
            refine wl rfl (opick (b := true) (v := .bool true) rfl rfl (ev (v := .bool true) rfl rfl) (ev (v := .bool true) rfl rfl) ?_)
            refine wl rfl (oassign (v := .bool true) rfl rfl (ev (v := .bool true) rfl rfl) ?_)
            refine wnil ?_
            refine thenN ?_
            refine wleave ?_
            refine thenR ?_
            refine wret1 Try.results3 (tellT (v := .bool true) rfl rfl) ?_
            exact ⟨_, _, rfl, isI, hS.new0⟩
        ·
          obtain ⟨z1, hz1⟩ : ∃ z : Int, Hid (RN y x = z) := ⟨_, rfl⟩
          have hk1 : Wd z1 1048576 := Wd.rn hzB.wd hz1
          obtain ⟨z2, hz2⟩ : ∃ z : Int, Hid (RD y x = z) := ⟨_, rfl⟩
          have hk2 : Wd z2 1048576 := Wd.rd hzA.wd hz2
          refine wl rfl (ocall rfl rfl Try.call9 rfl (wrinv ((hzA.at hS).mono (by omega)) ((hzB.at hS).mono (by omega)) (hy) (hx) hz1 hz2) (args1 (ev rfl rfl)) ?_)
          rintro _ w5 ⟨_, _, rfl, ⟨p1, n1, c1, p2, n2, c2, rfl, rfl⟩, hN⟩
          refine ⟨_, rfl, ?_⟩
          replace hS := hS.news hN; clear hN
          refine wl rfl (omove (v := .tuple #[.agg #[.bool (ng z1), .slice p1 n1 c1, .bool (ng z2), .slice p2 n2 c2], .int .i64 0]) rfl rfl (ev (v := .tuple #[.agg #[.bool (ng z1), .slice p1 n1 c1, .bool (ng z2), .slice p2 n2 c2], .int .i64 0]) rfl rfl) ?_)
          refine wl rfl (oextract (vs := [.agg #[.bool (ng z1), .slice p1 n1 c1, .bool (ng z2), .slice p2 n2 c2], .int .i64 0]) (v := .agg #[.bool (ng z1), .slice p1 n1 c1, .bool (ng z2), .slice p2 n2 c2]) rfl rfl (ev (v := .tuple #[.agg #[.bool (ng z1), .slice p1 n1 c1, .bool (ng z2), .slice p2 n2 c2], .int .i64 0]) rfl rfl) rfl ?_)
          refine wl rfl (oextract (vs := [.agg #[.bool (ng z1), .slice p1 n1 c1, .bool (ng z2), .slice p2 n2 c2], .int .i64 0]) (v := .int .i64 0) rfl rfl (ev (v := .tuple #[.agg #[.bool (ng z1), .slice p1 n1 c1, .bool (ng z2), .slice p2 n2 c2], .int .i64 0]) rfl rfl) rfl ?_)
          refine wl rfl (oalloc [.bool false, .slice none 0 0, .bool false, .slice none 0 0] hS rfl rfl Try.zeroValue27 rfl ?_)
          clear hS; intro g6 w7 hS
          refine wl rfl (ostore [.bool (ng z1), .slice p1 n1 c1, .bool (ng z2), .slice p2 n2 c2] [.bool (ng z1), .slice p1 n1 c1, .bool (ng z2), .slice p2 n2 c2] Try.sizeOf27 hS 0 rfl rfl (ev rfl rfl) (ev (v := .agg #[.bool (ng z1), .slice p1 n1 c1, .bool (ng z2), .slice p2 n2 c2]) rfl rfl) rfl rfl rfl rfl rfl rfl ?_)
          clear hS; intro w8 hS
          refine wl rfl (oassign (v := .int .i64 0) rfl rfl (ev (v := .int .i64 0) rfl rfl) ?_)
          refine wnil ?_
          refine thenN ?_
          refine wseq ?_
          refine wreg ?_
          refine wl rfl (oload (vs := [.bool bA, .slice qA nA kA, .bool bB, .slice qB nB kB]) aggR hS 4 rfl rfl (ev rfl rfl) rfl rfl rfl ?_)
          refine wl rfl (oload (vs := [.bool bC, .slice qC nC kC, .bool bD, .slice qD nD kD]) aggR hS 3 rfl rfl (ev rfl rfl) rfl rfl rfl ?_)
          obtain ⟨z3, hz3⟩ : ∃ z : Int, Hid (RN (x * v) (y * u) = z) := ⟨_, rfl⟩
          have hk3 : Wd z3 2097152 := Wd.rn (Wd.mul (m := 2097152) hzA.wd hzD.wd rfl (by omega)) hz3
          obtain ⟨z4, hz4⟩ : ∃ z : Int, Hid (RD (x * v) (y * u) = z) := ⟨_, rfl⟩
          have hk4 : Wd z4 2097152 := Wd.rd (Wd.mul (m := 2097152) hzB.wd hzC.wd rfl (by omega)) hz4
          refine wl rfl (ocall rfl rfl Try.call10 rfl (wrquo ((hzA.at hS).mono (by omega)) ((hzB.at hS).mono (by omega)) ((hzC.at hS).mono (by omega)) ((hzD.at hS).mono (by omega)) (hy) (hv) (hu) hz3 hz4) (args2 (ev rfl rfl) (ev rfl rfl)) ?_)
          rintro _ w9 ⟨_, _, rfl, ⟨p3, n3, c3, p4, n4, c4, rfl, rfl⟩, hN⟩
          refine ⟨_, rfl, ?_⟩
          replace hS := hS.news hN; clear hN
          refine wl rfl (omove (v := .tuple #[.agg #[.bool (ng z3), .slice p3 n3 c3, .bool (ng z4), .slice p4 n4 c4], .int .i64 0]) rfl rfl (ev (v := .tuple #[.agg #[.bool (ng z3), .slice p3 n3 c3, .bool (ng z4), .slice p4 n4 c4], .int .i64 0]) rfl rfl) ?_)
          refine wl rfl (oextract (vs := [.agg #[.bool (ng z3), .slice p3 n3 c3, .bool (ng z4), .slice p4 n4 c4], .int .i64 0]) (v := .agg #[.bool (ng z3), .slice p3 n3 c3, .bool (ng z4), .slice p4 n4 c4]) rfl rfl (ev (v := .tuple #[.agg #[.bool (ng z3), .slice p3 n3 c3, .bool (ng z4), .slice p4 n4 c4], .int .i64 0]) rfl rfl) rfl ?_)
          refine wl rfl (oextract (vs := [.agg #[.bool (ng z3), .slice p3 n3 c3, .bool (ng z4), .slice p4 n4 c4], .int .i64 0]) (v := .int .i64 0) rfl rfl (ev (v := .tuple #[.agg #[.bool (ng z3), .slice p3 n3 c3, .bool (ng z4), .slice p4 n4 c4], .int .i64 0]) rfl rfl) rfl ?_)
          refine wl rfl (oalloc [.bool false, .slice none 0 0, .bool false, .slice none 0 0] hS rfl rfl Try.zeroValue27 rfl ?_)
          clear hS; intro g10 w11 hS
          refine wl rfl (ostore [.bool (ng z3), .slice p3 n3 c3, .bool (ng z4), .slice p4 n4 c4] [.bool (ng z3), .slice p3 n3 c3, .bool (ng z4), .slice p4 n4 c4] Try.sizeOf27 hS 0 rfl rfl (ev rfl rfl) (ev (v := .agg #[.bool (ng z3), .slice p3 n3 c3, .bool (ng z4), .slice p4 n4 c4]) rfl rfl) rfl rfl rfl rfl rfl rfl ?_)
          clear hS; intro w12 hS
          refine wl rfl (oassign (v := .int .i64 0) rfl rfl (ev (v := .int .i64 0) rfl rfl) ?_)
          refine wnil ?_
          refine thenN ?_
          refine wseq ?_
          refine wseq ?_
          refine wreg ?_
          refine wl rfl (oload (vs := [.bool bA, .slice qA nA kA, .bool bB, .slice qB nB kB]) aggR hS 7 rfl rfl (ev rfl rfl) rfl rfl rfl ?_)
          refine wl rfl (ocall rfl rfl Try.call11 rfl (wsmay ((hzB.at hS).mono (by omega)) (hy)) (args1 (ev rfl rfl)) ?_)
          rintro _ w13 ⟨_, _, rfl, ⟨rfl, rfl⟩, hN⟩
          refine ⟨_, rfl, ?_⟩
          replace hS := hS.news hN; clear hN
          refine wl rfl (omove (v := .bool true) rfl rfl (ev (v := .bool true) rfl rfl) ?_)
          refine wlOn (e := 22) rfl rfl rfl rfl (oload (vs := [.bool bA, .slice qA nA kA, .bool bB, .slice qB nB kB]) aggR hS 7 rfl rfl (ev rfl rfl) rfl rfl rfl ?_)
          obtain ⟨s5, hs5⟩ : ∃ z : Int, Hid ((x : Int).sign * (y : Int).sign = z) := ⟨_, rfl⟩
          refine wlOn (e := 22) rfl rfl rfl rfl (ocall rfl rfl Try.call12 rfl (wssign ((hzA.at hS).mono (by omega)) ((hzB.at hS).mono (by omega)) (hy) hs5) (args1 (ev rfl rfl)) ?_)
          rintro _ w14 ⟨_, _, rfl, ⟨rfl, rfl⟩, hN⟩
          refine ⟨_, rfl, ?_⟩
          replace hS := hS.news hN; clear hN
          refine wlOn (e := 22) rfl rfl rfl rfl (obin (u := .int .i64 s5) (v := .int .i64 0) (z := .bool false) rfl rfl (ev (v := .int .i64 s5) rfl rfl) (evc (v := .int .i64 0)) (bin_eql (rs_ne hs5 hx hy)) ?_)
          refine wl rfl (opick (b := true) (v := .bool false) rfl rfl (ev (v := .bool true) rfl rfl) (ev (v := .bool false) rfl rfl) ?_)
          refine wnil ?_
          refine thenN ?_
          refine wF (ev (v := .bool false) rfl rfl) ?_
          refine wseq ?_
          refine wreg ?_
          refine wl rfl (oload (vs := [.bool bA, .slice qA nA kA, .bool bB, .slice qB nB kB]) aggR hS 7 rfl rfl (ev rfl rfl) rfl rfl rfl ?_)
          refine wl rfl (ocall rfl rfl Try.call11 rfl (wsmay ((hzB.at hS).mono (by omega)) (hy)) (args1 (ev rfl rfl)) ?_)
          rintro _ w15 ⟨_, _, rfl, ⟨rfl, rfl⟩, hN⟩
          refine ⟨_, rfl, ?_⟩
          replace hS := hS.news hN; clear hN
          refine wl rfl (onot (b := true) rfl rfl (ev (v := .bool true) rfl rfl) ?_)
          refine wnil ?_
          refine thenN ?_
          refine wF (ev (v := .bool false) rfl rfl) ?_
          refine wseq ?_
          obtain ⟨z6, hz6⟩ : ∃ z : Int, Hid (RN y x = z) := ⟨_, rfl⟩
          have hk6 : Wd z6 1048576 := Wd.rn hzB.wd hz6
          obtain ⟨z7, hz7⟩ : ∃ z : Int, Hid (RD y x = z) := ⟨_, rfl⟩
          have hk7 : Wd z7 1048576 := Wd.rd hzA.wd hz7
          refine wstage 9 [46, 47, 48, 49, 50, 51, 52, 53, 54] [[], [0], [1, 0], [2, 0, 1], [2, 0, 1], [2, 4, 0, 1], [2, 3, 5, 0, 1, 4], [2, 6, 0, 1, 3, 4, 5], [2, 7, 0, 1, 3, 4, 5, 6]] [[], [], [], [], [], [], [], [], []] [] [] (fun i9 => ([fun _ => Is (.int .i64 0), fun _ => Is (.bool false), fun _ => Is (.bool false), fun _ => Is (.agg #[.bool (ng z1), .slice p1 n1 c1, .bool (ng z2), .slice p2 n2 c2]), fun _ => Is (.agg #[.bool bA, .slice qA nA kA, .bool bB, .slice qB nB kB]), fun _ => Rrt z6 z7, fun _ => Is (.bool true), fun _ => Is (.bool false), fun _ => Is (.bool false)] : List (List Value → Tell)).getD i9 (fun _ _ _ => False)) (heldNil) (fun d _ _ _ _ h => (by cases d <;> exact h)) (by kernel_rfl) (by kernel_rfl) (by kernel_rfl) hS ?_ ?_
          ·
            refine stepsCons rfl ?_ ?_
            · intro Q f' w' ρ S ho hT hS hB
              exact .inl ⟨want_none rfl, omove (v := .int .i64 0) rfl rfl (ev (v := .int .i64 0) rfl (ho 6 rfl)) ⟨_, _, rfl, isI, New.same _⟩⟩
            refine stepsCons rfl ?_ ?_
            · intro Q f' w' ρ S ho hT hS hB
              obtain ⟨hv0, hr0⟩ := (hT 0 46 rfl rfl : (Is (.int .i64 0)) (f' 46) (ρ 0))
              obtain hS := hS.flat1 hr0
              exact .inl ⟨want_none rfl, obin (u := .int .i64 0) (v := .int .i64 0) (z := .bool false) rfl rfl (ev (v := .int .i64 0) rfl hv0) (evc (v := .int .i64 0)) (bin_neq (by decide)) ⟨_, _, rfl, isI, New.same _⟩⟩
            refine stepsCons rfl ?_ ?_
            · intro Q f' w' ρ S ho hT hS hB
              obtain ⟨hv1, hr1⟩ := (hT 1 47 rfl rfl : (Is (.bool false)) (f' 47) (ρ 1))
              obtain hS := hS.flat1 hr1
              exact .inl ⟨want_none rfl, omove (v := .bool false) rfl rfl (ev (v := .bool false) rfl hv1) ⟨_, _, rfl, isI, New.same _⟩⟩
            refine stepsCons rfl ?_ ?_
            · intro Q f' w' ρ S ho hT hS hB
              obtain ⟨hv2, hr2⟩ := (hT 2 48 rfl rfl : (Is (.bool false)) (f' 48) (ρ 2))
              obtain hS := hS.flat1 hr2
              exact .inl ⟨want_on (e := 48) rfl rfl rfl hv2, oload (vs := [.bool (ng z1), .slice p1 n1 c1, .bool (ng z2), .slice p2 n2 c2]) aggR hS 3 rfl rfl (ev rfl (ho 5 rfl)) rfl rfl rfl ⟨_, _, rfl, isI, New.same _⟩⟩
            refine stepsCons rfl ?_ ?_
            · intro Q f' w' ρ S ho hT hS hB
              obtain ⟨hv2, hr2⟩ := (hT 2 48 rfl rfl : (Is (.bool false)) (f' 48) (ρ 2))
              obtain hS := hS.flat1 hr2
              exact .inl ⟨want_on (e := 48) rfl rfl rfl hv2, oload (vs := [.bool bA, .slice qA nA kA, .bool bB, .slice qB nB kB]) aggR hS 7 rfl rfl (ev rfl (ho 2 rfl)) rfl rfl rfl ⟨_, _, rfl, isI, New.same _⟩⟩
            refine stepsCons rfl ?_ ?_
            · intro Q f' w' ρ S ho hT hS hB
              obtain ⟨hv2, hr2⟩ := (hT 2 48 rfl rfl : (Is (.bool false)) (f' 48) (ρ 2))
              obtain ⟨hv4, hr4⟩ := (hT 4 50 rfl rfl : (Is (.agg #[.bool bA, .slice qA nA kA, .bool bB, .slice qB nB kB])) (f' 50) (ρ 4))
              obtain hS := hS.flat2 hr2 hr4
              refine .inl ⟨want_on (e := 48) rfl rfl rfl hv2, ocall rfl rfl Try.call14 rfl (wsinv ((hzA.at hS).mono (by omega)) ((hzB.at hS).mono (by omega)) (hx) hz6 hz7) (args1 (ev rfl hv4)) ?_⟩
              rintro _ w9 ⟨_, _, rfl, hTT, hN⟩
              exact ⟨_, rfl, _, _, rfl, hTT, hN⟩
            refine stepsCons rfl ?_ ?_
            · intro Q f' w' ρ S ho hT hS hB
              obtain ⟨hv2, hr2⟩ := (hT 2 48 rfl rfl : (Is (.bool false)) (f' 48) (ρ 2))
              obtain ⟨hv3, hr3⟩ := (hT 3 49 rfl rfl : (Is (.agg #[.bool (ng z1), .slice p1 n1 c1, .bool (ng z2), .slice p2 n2 c2])) (f' 49) (ρ 3))
              obtain ⟨p6, n6, c6, p7, n7, c7, hv5, hr5⟩ := (hT 5 51 rfl rfl : (Rrt z6 z7) (f' 51) (ρ 5))
              obtain hS := hS.flat3 hr2 hr3 hr5
              refine .inl ⟨want_on (e := 48) rfl rfl rfl hv2, ocall rfl rfl Try.call13 rfl (wlsame5 (x := z1) (y := z2) (u := z6) (v := z7) (hS.slm 4 rfl) (hS.slm 5 rfl) (hS.slm 8 rfl) (hS.slm 9 rfl) ((hz1.out.symm).trans (hz6.out.symm).symm) ((hz2.out.symm).trans (hz7.out.symm).symm)) (args2 (ev rfl hv3) (ev rfl hv5)) ?_⟩
              rintro _ w9 ⟨_, _, rfl, hTT, hN⟩
              exact ⟨_, rfl, _, _, rfl, hTT, hN⟩
            refine stepsCons rfl ?_ ?_
            · intro Q f' w' ρ S ho hT hS hB
              obtain ⟨hv2, hr2⟩ := (hT 2 48 rfl rfl : (Is (.bool false)) (f' 48) (ρ 2))
              obtain ⟨hv6, hr6⟩ := (hT 6 52 rfl rfl : (Is (.bool true)) (f' 52) (ρ 6))
              obtain hS := hS.flat2 hr2 hr6
              exact .inl ⟨want_on (e := 48) rfl rfl rfl hv2, onot (b := true) rfl rfl (ev (v := .bool true) rfl hv6) ⟨_, _, rfl, isI, New.same _⟩⟩
            refine stepsCons rfl ?_ ?_
            · intro Q f' w' ρ S ho hT hS hB
              obtain ⟨hv2, hr2⟩ := (hT 2 48 rfl rfl : (Is (.bool false)) (f' 48) (ρ 2))
              obtain ⟨hv7, hr7⟩ := (hT 7 53 rfl rfl : (Is (.bool false)) (f' 53) (ρ 7))
              obtain hS := hS.flat2 hr2 hr7
              exact .inl ⟨want_none rfl, opick (b := false) (v := .bool false) rfl rfl (ev (v := .bool false) rfl hv2) (ev (v := .bool false) rfl hv7) ⟨_, _, rfl, isI, New.same _⟩⟩
            exact stepsNil
          ·
            intro vs ρ w16 f' hf hT hS
            obtain ⟨hv0, hr0⟩ := (hT 0 (by decide) : (Is (.int .i64 0)) (vs 0) (ρ 0))
            obtain ⟨hv1, hr1⟩ := (hT 1 (by decide) : (Is (.bool false)) (vs 1) (ρ 1))
            obtain ⟨hv2, hr2⟩ := (hT 2 (by decide) : (Is (.bool false)) (vs 2) (ρ 2))
            obtain ⟨hv3, hr3⟩ := (hT 3 (by decide) : (Is (.agg #[.bool (ng z1), .slice p1 n1 c1, .bool (ng z2), .slice p2 n2 c2])) (vs 3) (ρ 3))
            obtain ⟨hv4, hr4⟩ := (hT 4 (by decide) : (Is (.agg #[.bool bA, .slice qA nA kA, .bool bB, .slice qB nB kB])) (vs 4) (ρ 4))
            obtain ⟨p6, n6, c6, p7, n7, c7, hv5, hr5⟩ := (hT 5 (by decide) : (Rrt z6 z7) (vs 5) (ρ 5))
            obtain ⟨hv6, hr6⟩ := (hT 6 (by decide) : (Is (.bool true)) (vs 6) (ρ 6))
            obtain ⟨hv7, hr7⟩ := (hT 7 (by decide) : (Is (.bool false)) (vs 7) (ρ 7))
            obtain ⟨hv8, hr8⟩ := (hT 8 (by decide) : (Is (.bool false)) (vs 8) (ρ 8))
            simp only [pool, if_true, hr0, hr1, hr2, hr3, hr4, hr5, hr6, hr7, hr8, List.nil_append, List.cons_append, List.append_nil] at hS
            simp only [layf, hv0, hv1, hv2, hv3, hv4, hv5, hv6, hv7, hv8] at hf
            subst hf; clear hT hv0 hv1 hv2 hv3 hv4 hv5 hv6 hv7 hv8 hr0 hr1 hr2 hr3 hr4 hr5 hr6 hr7 hr8
            refine wdone rfl ?_
            refine thenN ?_
            refine wF (ev (v := .bool false) rfl rfl) ?_
            refine wskip ?_
            refine thenN ?_
            refine wseq ?_
            refine wseq ?_
            refine wreg ?_
            refine wl rfl (oload (vs := [.bool bA, .slice qA nA kA, .bool bB, .slice qB nB kB]) aggR hS 9 rfl rfl (ev rfl rfl) rfl rfl rfl ?_)
            refine wl rfl (ocall rfl rfl Try.call11 rfl (wsmay ((hzB.at hS).mono (by omega)) (hy)) (args1 (ev rfl rfl)) ?_)
            rintro _ w17 ⟨_, _, rfl, ⟨rfl, rfl⟩, hN⟩
            refine ⟨_, rfl, ?_⟩
            replace hS := hS.news hN; clear hN
            refine wl rfl (onot (b := true) rfl rfl (ev (v := .bool true) rfl rfl) ?_)
            refine wl rfl (omove (v := .bool false) rfl rfl (ev (v := .bool false) rfl rfl) ?_)
            refine wlOn (e := 58) rfl rfl rfl rfl (oload (vs := [.bool bC, .slice qC nC kC, .bool bD, .slice qD nD kD]) aggR hS 8 rfl rfl (ev rfl rfl) rfl rfl rfl ?_)
            refine wlOn (e := 58) rfl rfl rfl rfl (ocall rfl rfl Try.call11 rfl (wsmay ((hzD.at hS).mono (by omega)) (hv)) (args1 (ev rfl rfl)) ?_)
            rintro _ w18 ⟨_, _, rfl, ⟨rfl, rfl⟩, hN⟩
            refine ⟨_, rfl, ?_⟩
            replace hS := hS.news hN; clear hN
            refine wlOn (e := 58) rfl rfl rfl rfl (onot (b := true) rfl rfl (ev (v := .bool true) rfl rfl) ?_)
            refine wl rfl (opick (b := false) (v := .bool false) rfl rfl (ev (v := .bool false) rfl rfl) (ev (v := .bool false) rfl rfl) ?_)
            refine wnil ?_
            refine thenN ?_
            refine wF (ev (v := .bool false) rfl rfl) ?_
            refine wskip ?_
            refine thenN ?_
            refine wseq ?_
            refine wseq ?_
            refine wreg ?_
            refine wl rfl (oload (vs := [.bool bC, .slice qC nC kC, .bool bD, .slice qD nD kD]) aggR hS 8 rfl rfl (ev rfl rfl) rfl rfl rfl ?_)
            obtain ⟨s8, hs8⟩ : ∃ z : Int, Hid ((u : Int).sign * (v : Int).sign = z) := ⟨_, rfl⟩
            refine wl rfl (ocall rfl rfl Try.call12 rfl (wssign ((hzC.at hS).mono (by omega)) ((hzD.at hS).mono (by omega)) (hv) hs8) (args1 (ev rfl rfl)) ?_)
            rintro _ w19 ⟨_, _, rfl, ⟨rfl, rfl⟩, hN⟩
            refine ⟨_, rfl, ?_⟩
            replace hS := hS.news hN; clear hN
            refine wl rfl (obin (u := .int .i64 s8) (v := .int .i64 0) (z := .bool false) rfl rfl (ev (v := .int .i64 s8) rfl rfl) (evc (v := .int .i64 0)) (bin_eql (rs_ne hs8 hu hv)) ?_)
            refine wnil ?_
            refine thenN ?_
            refine wF (ev (v := .bool false) rfl rfl) ?_
            refine wskip ?_
            refine thenN ?_
            refine wseq ?_
            obtain ⟨z9, hz9⟩ : ∃ z : Int, Hid (RN (x * v) (y * u) = z) := ⟨_, rfl⟩
            have hk9 : Wd z9 2097152 := Wd.rn (Wd.mul (m := 2097152) hzA.wd hzD.wd rfl (by omega)) hz9
            obtain ⟨z10, hz10⟩ : ∃ z : Int, Hid (RD (x * v) (y * u) = z) := ⟨_, rfl⟩
            have hk10 : Wd z10 2097152 := Wd.rd (Wd.mul (m := 2097152) hzB.wd hzC.wd rfl (by omega)) hz10
            refine wstage 13 [86, 87, 88, 89, 90, 91, 92, 93, 94, 95, 96, 97, 4] [[], [0], [1, 0], [2, 0, 1], [2, 0, 1], [2, 0, 1], [2, 4, 5, 0, 1], [2, 3, 6, 0, 1, 4, 5], [2, 7, 0, 1, 3, 4, 5, 6], [8, 0, 1, 2, 3, 4, 5, 6, 7], [9, 0, 1, 2, 3, 4, 5, 6, 7, 8], [9, 10, 0, 1, 2, 3, 4, 5, 6, 7, 8], [11, 0, 1, 2, 3, 4, 5, 6, 7, 8, 9, 10]] [[], [], [], [], [], [], [], [], [], [], [], [], []] [] [] (fun i9 => ([fun _ => Is (.int .i64 0), fun _ => Is (.bool true), fun _ => Is (.bool true), fun _ => Is (.agg #[.bool (ng z3), .slice p3 n3 c3, .bool (ng z4), .slice p4 n4 c4]), fun _ => Is (.agg #[.bool bA, .slice qA nA kA, .bool bB, .slice qB nB kB]), fun _ => Is (.agg #[.bool bC, .slice qC nC kC, .bool bD, .slice qD nD kD]), fun _ => Rrt z9 z10, fun _ => Is (.bool true), fun _ => Is (.bool true), fun _ => Is (.bool true), fun _ => Is (.bool true), fun _ => Is (.bool true), fun _ => Is (.bool true)] : List (List Value → Tell)).getD i9 (fun _ _ _ => False)) (heldNil) (fun d _ _ _ _ h => (by cases d <;> exact h)) (by kernel_rfl) (by kernel_rfl) (by kernel_rfl) hS ?_ ?_
            ·
              refine stepsCons rfl ?_ ?_
              · intro Q f' w' ρ S ho hT hS hB
                exact .inl ⟨want_none rfl, omove (v := .int .i64 0) rfl rfl (ev (v := .int .i64 0) rfl (ho 8 rfl)) ⟨_, _, rfl, isI, New.same _⟩⟩
              refine stepsCons rfl ?_ ?_
              · intro Q f' w' ρ S ho hT hS hB
                obtain ⟨hv0, hr0⟩ := (hT 0 86 rfl rfl : (Is (.int .i64 0)) (f' 86) (ρ 0))
                obtain hS := hS.flat1 hr0
                exact .inl ⟨want_none rfl, obin (u := .int .i64 0) (v := .int .i64 0) (z := .bool true) rfl rfl (ev (v := .int .i64 0) rfl hv0) (evc (v := .int .i64 0)) (bin_eql (by decide)) ⟨_, _, rfl, isI, New.same _⟩⟩
              refine stepsCons rfl ?_ ?_
              · intro Q f' w' ρ S ho hT hS hB
                obtain ⟨hv1, hr1⟩ := (hT 1 87 rfl rfl : (Is (.bool true)) (f' 87) (ρ 1))
                obtain hS := hS.flat1 hr1
                exact .inl ⟨want_none rfl, omove (v := .bool true) rfl rfl (ev (v := .bool true) rfl hv1) ⟨_, _, rfl, isI, New.same _⟩⟩
              refine stepsCons rfl ?_ ?_
              · intro Q f' w' ρ S ho hT hS hB
                obtain ⟨hv2, hr2⟩ := (hT 2 88 rfl rfl : (Is (.bool true)) (f' 88) (ρ 2))
                obtain hS := hS.flat1 hr2
                exact .inl ⟨want_on (e := 88) rfl rfl rfl hv2, oload (vs := [.bool (ng z3), .slice p3 n3 c3, .bool (ng z4), .slice p4 n4 c4]) aggR hS 2 rfl rfl (ev rfl (ho 7 rfl)) rfl rfl rfl ⟨_, _, rfl, isI, New.same _⟩⟩
              refine stepsCons rfl ?_ ?_
              · intro Q f' w' ρ S ho hT hS hB
                obtain ⟨hv2, hr2⟩ := (hT 2 88 rfl rfl : (Is (.bool true)) (f' 88) (ρ 2))
                obtain hS := hS.flat1 hr2
                exact .inl ⟨want_on (e := 88) rfl rfl rfl hv2, oload (vs := [.bool bA, .slice qA nA kA, .bool bB, .slice qB nB kB]) aggR hS 9 rfl rfl (ev rfl (ho 2 rfl)) rfl rfl rfl ⟨_, _, rfl, isI, New.same _⟩⟩
              refine stepsCons rfl ?_ ?_
              · intro Q f' w' ρ S ho hT hS hB
                obtain ⟨hv2, hr2⟩ := (hT 2 88 rfl rfl : (Is (.bool true)) (f' 88) (ρ 2))
                obtain hS := hS.flat1 hr2
                exact .inl ⟨want_on (e := 88) rfl rfl rfl hv2, oload (vs := [.bool bC, .slice qC nC kC, .bool bD, .slice qD nD kD]) aggR hS 8 rfl rfl (ev rfl (ho 3 rfl)) rfl rfl rfl ⟨_, _, rfl, isI, New.same _⟩⟩
              refine stepsCons rfl ?_ ?_
              · intro Q f' w' ρ S ho hT hS hB
                obtain ⟨hv2, hr2⟩ := (hT 2 88 rfl rfl : (Is (.bool true)) (f' 88) (ρ 2))
                obtain ⟨hv4, hr4⟩ := (hT 4 90 rfl rfl : (Is (.agg #[.bool bA, .slice qA nA kA, .bool bB, .slice qB nB kB])) (f' 90) (ρ 4))
                obtain ⟨hv5, hr5⟩ := (hT 5 91 rfl rfl : (Is (.agg #[.bool bC, .slice qC nC kC, .bool bD, .slice qD nD kD])) (f' 91) (ρ 5))
                obtain hS := hS.flat3 hr2 hr4 hr5
                refine .inl ⟨want_on (e := 88) rfl rfl rfl hv2, ocall rfl rfl Try.call16 rfl (wsquo ((hzA.at hS).mono (by omega)) ((hzB.at hS).mono (by omega)) ((hzC.at hS).mono (by omega)) ((hzD.at hS).mono (by omega)) (hy) (hv) (hu) hz9 hz10) (args2 (ev rfl hv4) (ev rfl hv5)) ?_⟩
                rintro _ w9 ⟨_, _, rfl, hTT, hN⟩
                exact ⟨_, rfl, _, _, rfl, hTT, hN⟩
              refine stepsCons rfl ?_ ?_
              · intro Q f' w' ρ S ho hT hS hB
                obtain ⟨hv2, hr2⟩ := (hT 2 88 rfl rfl : (Is (.bool true)) (f' 88) (ρ 2))
                obtain ⟨hv3, hr3⟩ := (hT 3 89 rfl rfl : (Is (.agg #[.bool (ng z3), .slice p3 n3 c3, .bool (ng z4), .slice p4 n4 c4])) (f' 89) (ρ 3))
                obtain ⟨p9, n9, c9, p10, n10, c10, hv6, hr6⟩ := (hT 6 92 rfl rfl : (Rrt z9 z10) (f' 92) (ρ 6))
                obtain hS := hS.flat3 hr2 hr3 hr6
                refine .inl ⟨want_on (e := 88) rfl rfl rfl hv2, ocall rfl rfl Try.call13 rfl (wlsame5 (x := z3) (y := z4) (u := z9) (v := z10) (hS.slm 3 rfl) (hS.slm 4 rfl) (hS.slm 10 rfl) (hS.slm 11 rfl) ((hz3.out.symm).trans (hz9.out.symm).symm) ((hz4.out.symm).trans (hz10.out.symm).symm)) (args2 (ev rfl hv3) (ev rfl hv6)) ?_⟩
                rintro _ w9 ⟨_, _, rfl, hTT, hN⟩
                exact ⟨_, rfl, _, _, rfl, hTT, hN⟩
              refine stepsCons rfl ?_ ?_
              · intro Q f' w' ρ S ho hT hS hB
                obtain ⟨hv2, hr2⟩ := (hT 2 88 rfl rfl : (Is (.bool true)) (f' 88) (ρ 2))
                obtain ⟨hv7, hr7⟩ := (hT 7 93 rfl rfl : (Is (.bool true)) (f' 93) (ρ 7))
                obtain hS := hS.flat2 hr2 hr7
                exact .inl ⟨want_none rfl, opick (b := true) (v := .bool true) rfl rfl (ev (v := .bool true) rfl hv2) (ev (v := .bool true) rfl hv7) ⟨_, _, rfl, isI, New.same _⟩⟩
              refine stepsCons rfl ?_ ?_
              · intro Q f' w' ρ S ho hT hS hB
                obtain ⟨hv8, hr8⟩ := (hT 8 94 rfl rfl : (Is (.bool true)) (f' 94) (ρ 8))
                obtain hS := hS.flat1 hr8
                exact .inl ⟨want_none rfl, omove (v := .bool true) rfl rfl (ev (v := .bool true) rfl hv8) ⟨_, _, rfl, isI, New.same _⟩⟩
              refine stepsCons rfl ?_ ?_
              · intro Q f' w' ρ S ho hT hS hB
                obtain ⟨hv9, hr9⟩ := (hT 9 95 rfl rfl : (Is (.bool true)) (f' 95) (ρ 9))
                obtain hS := hS.flat1 hr9
                refine .inl ⟨want_on (e := 95) rfl rfl rfl hv9, ocall rfl rfl Try.call15 rfl (wllives5) (args0 ) ?_⟩
                rintro _ w9 ⟨_, _, rfl, hTT, hN⟩
                exact ⟨_, rfl, _, _, rfl, hTT, hN⟩
              refine stepsCons rfl ?_ ?_
              · intro Q f' w' ρ S ho hT hS hB
                obtain ⟨hv9, hr9⟩ := (hT 9 95 rfl rfl : (Is (.bool true)) (f' 95) (ρ 9))
                obtain ⟨hv10, hr10⟩ := (hT 10 96 rfl rfl : (Is (.bool true)) (f' 96) (ρ 10))
                obtain hS := hS.flat2 hr9 hr10
                exact .inl ⟨want_none rfl, opick (b := true) (v := .bool true) rfl rfl (ev (v := .bool true) rfl hv9) (ev (v := .bool true) rfl hv10) ⟨_, _, rfl, isI, New.same _⟩⟩
              refine stepsCons rfl ?_ ?_
              · intro Q f' w' ρ S ho hT hS hB
                obtain ⟨hv11, hr11⟩ := (hT 11 97 rfl rfl : (Is (.bool true)) (f' 97) (ρ 11))
                obtain hS := hS.flat1 hr11
                exact .inl ⟨want_none rfl, oassign (v := .bool true) rfl rfl (ev (v := .bool true) rfl hv11) ⟨_, _, rfl, isI, New.same _⟩⟩
              exact stepsNil
            ·
              intro vs ρ w20 f' hf hT hS
              obtain ⟨hv0, hr0⟩ := (hT 0 (by decide) : (Is (.int .i64 0)) (vs 0) (ρ 0))
              obtain ⟨hv1, hr1⟩ := (hT 1 (by decide) : (Is (.bool true)) (vs 1) (ρ 1))
              obtain ⟨hv2, hr2⟩ := (hT 2 (by decide) : (Is (.bool true)) (vs 2) (ρ 2))
              obtain ⟨hv3, hr3⟩ := (hT 3 (by decide) : (Is (.agg #[.bool (ng z3), .slice p3 n3 c3, .bool (ng z4), .slice p4 n4 c4])) (vs 3) (ρ 3))
              obtain ⟨hv4, hr4⟩ := (hT 4 (by decide) : (Is (.agg #[.bool bA, .slice qA nA kA, .bool bB, .slice qB nB kB])) (vs 4) (ρ 4))
              obtain ⟨hv5, hr5⟩ := (hT 5 (by decide) : (Is (.agg #[.bool bC, .slice qC nC kC, .bool bD, .slice qD nD kD])) (vs 5) (ρ 5))
              obtain ⟨p9, n9, c9, p10, n10, c10, hv6, hr6⟩ := (hT 6 (by decide) : (Rrt z9 z10) (vs 6) (ρ 6))
              obtain ⟨hv7, hr7⟩ := (hT 7 (by decide) : (Is (.bool true)) (vs 7) (ρ 7))
              obtain ⟨hv8, hr8⟩ := (hT 8 (by decide) : (Is (.bool true)) (vs 8) (ρ 8))
              obtain ⟨hv9, hr9⟩ := (hT 9 (by decide) : (Is (.bool true)) (vs 9) (ρ 9))
              obtain ⟨hv10, hr10⟩ := (hT 10 (by decide) : (Is (.bool true)) (vs 10) (ρ 10))
              obtain ⟨hv11, hr11⟩ := (hT 11 (by decide) : (Is (.bool true)) (vs 11) (ρ 11))
              obtain ⟨hv12, hr12⟩ := (hT 12 (by decide) : (Is (.bool true)) (vs 12) (ρ 12))
              simp only [pool, if_true, hr0, hr1, hr2, hr3, hr4, hr5, hr6, hr7, hr8, hr9, hr10, hr11, hr12, List.nil_append, List.cons_append, List.append_nil] at hS
              simp only [layf, hv0, hv1, hv2, hv3, hv4, hv5, hv6, hv7, hv8, hv9, hv10, hv11, hv12] at hf
              subst hf; clear hT hv0 hv1 hv2 hv3 hv4 hv5 hv6 hv7 hv8 hv9 hv10 hv11 hv12 hr0 hr1 hr2 hr3 hr4 hr5 hr6 hr7 hr8 hr9 hr10 hr11 hr12
              refine wdone rfl ?_
              refine thenN ?_
              refine wleave ?_
              refine wret1 Try.results3 (tellT (v := .bool true) rfl rfl) ?_
              exact ⟨_, _, rfl, isI, hS.new0⟩

theorem rquotients_law {bA bB bC bD : Bool} {qA qB qC qD : Option Addr} {nA kA nB kB nC kC nD kD : Nat} {la lb lc ld : List Nat} {w : World} (hsA : Sl w qA nA kA la) (hsB : Sl w qB nB kB lb) (hsC : Sl w qC nC kC lc) (hsD : Sl w qD nD kD ld) (hA : nA ≤ 1048576 ∧ nB ≤ 1048576) (hB : nC ≤ 1048576 ∧ nD ≤ 1048576) :
    Calls Try.prog 3 #[.agg #[.bool bA, .slice qA nA kA, .bool bB, .slice qB nB kB], .agg #[.bool bC, .slice qC nC kC, .bool bD, .slice qD nD kD]] w (RetB w true) :=
  (rquotients_w ⟨_, hsA, rfl, hA.1⟩ ⟨_, hsB, rfl, hA.2⟩ ⟨_, hsC, rfl, hB.1⟩ ⟨_, hsD, rfl, hB.2⟩).mono Ret.b

end Go.Proofs.Ytoinfkimlhhmpaa
