
/-
  The walk of similelaw05.RatPowers.
-/
import Derived.Test.YtoinfkimlhhmpaaRatPow2
set_option linter.unusedVariables false
set_option linter.unusedSimpArgs false
namespace Go.Proofs.Ytoinfkimlhhmpaa
open Go.RowKit

set_option maxRecDepth 100000 in
set_option maxHeartbeats 16000000 in
theorem rpowers_p {x y : Int} {K : Nat} {bA bB : Bool} {qA qB : Option Addr} {nA kA nB kB : Nat} {w : World} (hzA : Zr w bA qA nA kA x 1048576) (hzB : Zr w bB qB nB kB y 1048576) (hK : K ≤ 9223372036854775807) :
    Calls Try.prog 6 #[.agg #[.bool bA, .slice qA nA kA, .bool bB, .slice qB nB kB], .int .i64 (((K : Nat) : Int))] w (Ret (Is (.bool true)) w) := by
  have hS := Sep.init w
  refine went Try.func6 rfl (n := 95) rfl rfl ?_
  refine wseq ?_
  refine wreg ?_
  refine wl rfl (obox [.bool bA, .slice qA nA kA, .bool bB, .slice qB nB kB] hS rfl rfl (ev (v := .agg #[.bool bA, .slice qA nA kA, .bool bB, .slice qB nB kB]) rfl rfl) rfl ?_)
  clear hS; intro g1 w2 hS
  refine wl rfl (oassign (v := .bool false) rfl rfl (evc (v := .bool false)) ?_)
  refine wnil ?_
  refine thenN ?_
  refine wseq ?_
  refine wseq ?_
  refine wreg ?_
  refine wl rfl (oload (vs := [.bool bA, .slice qA nA kA, .bool bB, .slice qB nB kB]) aggR hS 0 rfl rfl (ev rfl rfl) rfl rfl rfl ?_)
  by_cases hy : y = 0
  ·
    refine wl rfl (ocall rfl rfl Try.call11 rfl (wsmay0 ((hzB.at hS).mono (by omega)) (hy)) (args1 (ev rfl rfl)) ?_)
    rintro _ w3 ⟨_, _, rfl, ⟨rfl, rfl⟩, hN⟩
    refine ⟨_, rfl, ?_⟩
    replace hS := hS.news hN; clear hN
    refine wnil ?_
    refine thenN ?_
    refine wF (ev (v := .bool false) rfl rfl) ?_
    refine wskip ?_
    refine thenN ?_
    refine wseq ?_
    refine wreg ?_
    refine wl rfl (oload (vs := [.bool bA, .slice qA nA kA, .bool bB, .slice qB nB kB]) aggR hS 0 rfl rfl (ev rfl rfl) rfl rfl rfl ?_)
    refine wl rfl (omove (v := .int .i64 (((K : Nat) : Int))) rfl rfl (ev (v := .int .i64 (((K : Nat) : Int))) rfl rfl) ?_)
    refine wl rfl (ocall rfl rfl Try.call40 rfl (wrpow0 ((hzA.at hS).mono (by omega)) ((hzB.at hS).mono (by omega)) (hy)) (args2 (ev rfl rfl) (ev rfl rfl)) ?_)
    rintro _ w4 ⟨_, _, rfl, ⟨rfl, rfl⟩, hN⟩
    refine ⟨_, rfl, ?_⟩
    replace hS := hS.news hN; clear hN
    refine wl rfl (omove (v := .tuple #[.agg #[.bool false, .slice none 0 0, .bool false, .slice none 0 0], .int .i64 6]) rfl rfl (ev (v := .tuple #[.agg #[.bool false, .slice none 0 0, .bool false, .slice none 0 0], .int .i64 6]) rfl rfl) ?_)
    refine wl rfl (oextract (vs := [.agg #[.bool false, .slice none 0 0, .bool false, .slice none 0 0], .int .i64 6]) (v := .agg #[.bool false, .slice none 0 0, .bool false, .slice none 0 0]) rfl rfl (ev (v := .tuple #[.agg #[.bool false, .slice none 0 0, .bool false, .slice none 0 0], .int .i64 6]) rfl rfl) rfl ?_)
    refine wl rfl (oextract (vs := [.agg #[.bool false, .slice none 0 0, .bool false, .slice none 0 0], .int .i64 6]) (v := .int .i64 6) rfl rfl (ev (v := .tuple #[.agg #[.bool false, .slice none 0 0, .bool false, .slice none 0 0], .int .i64 6]) rfl rfl) rfl ?_)
    refine wl rfl (oalloc [.bool false, .slice none 0 0, .bool false, .slice none 0 0] hS rfl rfl Try.zeroValue27 rfl ?_)
    clear hS; intro g5 w6 hS
    refine wl rfl (ostore [.bool false, .slice none 0 0, .bool false, .slice none 0 0] [.bool false, .slice none 0 0, .bool false, .slice none 0 0] Try.sizeOf27 hS 0 rfl rfl (ev rfl rfl) (ev (v := .agg #[.bool false, .slice none 0 0, .bool false, .slice none 0 0]) rfl rfl) rfl rfl rfl rfl rfl rfl ?_)
    clear hS; intro w7 hS
    refine wl rfl (oassign (v := .int .i64 6) rfl rfl (ev (v := .int .i64 6) rfl rfl) ?_)
    refine wnil ?_
    refine thenN ?_
    refine wseq ?_
    refine wblock ?_
    refine wseq ?_
    refine wreg ?_
    refine wl rfl (oload (vs := [.bool bA, .slice qA nA kA, .bool bB, .slice qB nB kB]) aggR hS 1 rfl rfl (ev rfl rfl) rfl rfl rfl ?_)
    refine wl rfl (ocall rfl rfl Try.call11 rfl (wsmay0 ((hzB.at hS).mono (by omega)) (hy)) (args1 (ev rfl rfl)) ?_)
    rintro _ w8 ⟨_, _, rfl, ⟨rfl, rfl⟩, hN⟩
    refine ⟨_, rfl, ?_⟩
    replace hS := hS.news hN; clear hN
    refine wl rfl (onot (b := false) rfl rfl (ev (v := .bool false) rfl rfl) ?_)
    refine wl rfl (oassign (v := .bool true) rfl rfl (ev (v := .bool true) rfl rfl) ?_)
    refine wnil ?_
    refine thenN ?_
    refine wT (ev (v := .bool true) rfl rfl) ?_
    refine wseq ?_
    refine wreg ?_
    refine wl rfl (omove (v := .int .i64 6) rfl rfl (ev (v := .int .i64 6) rfl rfl) ?_)
    refine wl rfl (obin (u := .int .i64 6) (v := .int .i64 6) (z := .bool true) rfl rfl (ev (v := .int .i64 6) rfl rfl) (evc (v := .int .i64 6)) (bin_eql (by decide)) ?_)
    refine wl rfl (omove (v := .bool true) rfl rfl (ev (v := .bool true) rfl rfl) ?_)
    refine wlOn (e := 41) rfl rfl rfl rfl (oload (vs := [.bool false, .slice none 0 0, .bool false, .slice none 0 0]) aggR hS 0 rfl rfl (ev rfl rfl) rfl rfl rfl ?_)
    refine wlOn (e := 41) rfl rfl rfl rfl (obuild (ps := #[]) (v := .agg #[.bool false, .slice none 0 0, .bool false, .slice none 0 0]) rfl rfl (parts0) (fun w => by simp [go_sem, Instr.build, Instr.fill]) ?_)
    refine wlOn (e := 41) rfl rfl rfl rfl (ocall rfl rfl Try.call13 rfl (wlsame5 (x := 0) (y := 0) (u := 0) (v := 0) (Sl.nil _) (Sl.nil _) (Sl.nil _) (Sl.nil _) (rfl) (rfl)) (args2 (ev rfl rfl) (ev rfl rfl)) ?_)
    rintro _ w9 ⟨_, _, rfl, ⟨rfl, rfl⟩, hN⟩
    refine ⟨_, rfl, ?_⟩
    replace hS := hS.news hN; clear hN
    refine wl rfl (opick (b := true) (v := .bool true) rfl rfl (ev (v := .bool true) rfl rfl) (ev (v := .bool true) rfl rfl) ?_)
    refine wl rfl (omove (v := .bool true) rfl rfl (ev (v := .bool true) rfl rfl) ?_)
    refine wlOn (e := 46) rfl rfl rfl rfl (ocall rfl rfl Try.call15 rfl (wllives5) (args0 ) ?_)
    rintro _ w10 ⟨_, _, rfl, ⟨rfl, rfl⟩, hN⟩
    refine ⟨_, rfl, ?_⟩
    replace hS := hS.news hN; clear hN
    refine wl rfl (opick (b := true) (v := .bool true) rfl rfl (ev (v := .bool true) rfl rfl) (ev (v := .bool true) rfl rfl) ?_)
    refine wl rfl (oassign (v := .bool true) rfl rfl (ev (v := .bool true) rfl rfl) ?_)
    refine wnil ?_
    refine thenN ?_
    refine wleave ?_
    refine blkR ?_
    refine thenR ?_
    refine wret1 Try.results6 (tellT (v := .bool true) rfl rfl) ?_
    exact ⟨_, _, rfl, isI, hS.new0⟩
  ·
    by_cases hx : x = 0
    ·
      refine wl rfl (ocall rfl rfl Try.call11 rfl (wsmay ((hzB.at hS).mono (by omega)) (hy)) (args1 (ev rfl rfl)) ?_)
      rintro _ w3 ⟨_, _, rfl, ⟨rfl, rfl⟩, hN⟩
      refine ⟨_, rfl, ?_⟩
      replace hS := hS.news hN; clear hN
      refine wnil ?_
      refine thenN ?_
      refine wT (ev (v := .bool true) rfl rfl) ?_
      refine wseq ?_
      refine wreg ?_
      refine wl rfl (oload (vs := [.bool bA, .slice qA nA kA, .bool bB, .slice qB nB kB]) aggR hS 0 rfl rfl (ev rfl rfl) rfl rfl rfl ?_)
      obtain ⟨z1, hz1⟩ : ∃ z : Int, Hid (RN x y = z) := ⟨_, rfl⟩
      have hk1 : Wd z1 1048576 := Wd.rn hzA.wd hz1
      obtain ⟨z2, hz2⟩ : ∃ z : Int, Hid (RD x y = z) := ⟨_, rfl⟩
      have hk2 : Wd z2 1048576 := Wd.rd hzB.wd hz2
      refine wl rfl (ocall rfl rfl Try.call37 rfl ((wsnorm ((hzA.at hS).mono (by omega)) ((hzB.at hS).mono (by omega)) (hy) hz1 hz2)) (args1 (ev rfl rfl)) ?_)
      rintro _ w4 ⟨_, _, rfl, ⟨p1, n1, c1, p2, n2, c2, rfl, rfl⟩, hN⟩
      refine ⟨_, rfl, ?_⟩
      replace hS := hS.news hN; clear hN
      refine wl rfl (oalloc [.bool false, .slice none 0 0, .bool false, .slice none 0 0] hS rfl rfl Try.zeroValue27 rfl ?_)
      clear hS; intro g5 w6 hS
      refine wl rfl (ostore [.bool (ng z1), .slice p1 n1 c1, .bool (ng z2), .slice p2 n2 c2] [.bool (ng z1), .slice p1 n1 c1, .bool (ng z2), .slice p2 n2 c2] Try.sizeOf27 hS 0 rfl rfl (ev rfl rfl) (ev (v := .agg #[.bool (ng z1), .slice p1 n1 c1, .bool (ng z2), .slice p2 n2 c2]) rfl rfl) rfl rfl rfl rfl rfl rfl ?_)
      clear hS; intro w7 hS
      refine wnil ?_
      refine thenN ?_
      refine wseq ?_
      refine wreg ?_
      refine wl rfl (ofieldAddr (g := g5) (off := 0) 0 rfl rfl (ev (v := .pointer (some ⟨g5, 0, none⟩)) rfl rfl) Try.runUnderlying27 rfl Try.sizeOf25 rfl ?_)
      refine wl rfl (ofieldAddr (g := g5) (off := 0) 1 rfl rfl (ev (v := .pointer (some ⟨g5, 0, none⟩)) rfl rfl) Try.runUnderlying25 rfl Try.sizeOf23 rfl ?_)
      refine wl rfl (oload1 (v := .slice p1 n1 c1) oneN hS 0 rfl rfl (ev rfl rfl) rfl rfl ?_)
      refine wl rfl (ocall rfl rfl Try.call39 rfl (wrlen (z := z1) (hS.slm 1 rfl) (hk1.mono (by omega))) (args1 (ev rfl rfl)) ?_)
      rintro _ w8 ⟨_, _, rfl, ⟨rfl, rfl⟩, hN⟩
      refine ⟨_, rfl, ?_⟩
      replace hS := hS.news hN; clear hN
      refine wl rfl (omove (v := .int .i64 (((K : Nat) : Int))) rfl rfl (ev (v := .int .i64 (((K : Nat) : Int))) rfl rfl) ?_)
      by_cases g1 : Lg (blen (RN x y).natAbs) K
      ·
        refine wl rfl (ocall rfl rfl Try.call38 rfl (wlong_p1 (B := blen z1.natAbs) (K := K) (by have := blen_wd hk1; omega) hK (by rw [← hz1.out]; exact g1)) (args2 (ev rfl rfl) (ev rfl rfl)) ?_)
        rintro _ w9 ⟨_, _, rfl, ⟨rfl, rfl⟩, hN⟩
        refine ⟨_, rfl, ?_⟩
        replace hS := hS.news hN; clear hN
        refine wl rfl (omove (v := .bool true) rfl rfl (ev (v := .bool true) rfl rfl) ?_)
        refine wlOff (e := 20) (d := 21) (b' := true) rfl rfl rfl rfl rfl rfl ?_
        refine wlOff (e := 20) (d := 22) (b' := true) rfl rfl rfl rfl rfl rfl ?_
        refine wlOff (e := 20) (d := 23) (b' := true) rfl rfl rfl rfl rfl rfl ?_
        refine wlOff (e := 20) (d := 24) (b' := true) rfl rfl rfl rfl rfl rfl ?_
        refine wlOff (e := 20) (d := 25) (b' := true) rfl rfl rfl rfl rfl rfl ?_
        refine wlOff (e := 20) (d := 26) (b' := true) rfl rfl rfl rfl rfl rfl ?_
        refine wl rfl (opick (b := true) (v := .bool true) rfl rfl (ev (v := .bool true) rfl rfl) (evc (v := .bool true)) ?_)
        refine wnil ?_
        refine thenN ?_
        refine wT (ev (v := .bool true) rfl rfl) ?_
        refine wseq ?_
        refine wreg ?_
        refine wl rfl (ocall rfl rfl Try.call15 rfl (wllives5) (args0 ) ?_)
        rintro _ w10 ⟨_, _, rfl, ⟨rfl, rfl⟩, hN⟩
        refine ⟨_, rfl, ?_⟩
        replace hS := hS.news hN; clear hN
        refine wl rfl (oassign (v := .bool true) rfl rfl (ev (v := .bool true) rfl rfl) ?_)
        refine wnil ?_
        refine thenN ?_
        refine wleave ?_
        refine thenR ?_
        refine wret1 Try.results6 (tellT (v := .bool true) rfl rfl) ?_
        exact ⟨_, _, rfl, isI, hS.new0⟩
      ·
        refine wl rfl (ocall rfl rfl Try.call38 rfl (wlong_p0 (B := blen z1.natAbs) (K := K) (by have := blen_wd hk1; omega) hK (by rw [← hz1.out]; exact g1)) (args2 (ev rfl rfl) (ev rfl rfl)) ?_)
        rintro _ w9 ⟨_, _, rfl, ⟨rfl, rfl⟩, hN⟩
        refine ⟨_, rfl, ?_⟩
        replace hS := hS.news hN; clear hN
        refine wl rfl (omove (v := .bool false) rfl rfl (ev (v := .bool false) rfl rfl) ?_)
        refine wlOn (e := 20) rfl rfl rfl rfl (ofieldAddr (g := g5) (off := 0) 2 rfl rfl (ev (v := .pointer (some ⟨g5, 0, none⟩)) rfl rfl) Try.runUnderlying27 rfl Try.sizeOf25 rfl ?_)
        refine wlOn (e := 20) rfl rfl rfl rfl (ofieldAddr (g := g5) (off := 2) 3 rfl rfl (ev (v := .pointer (some ⟨g5, 2, none⟩)) rfl rfl) Try.runUnderlying25 rfl Try.sizeOf23 rfl ?_)
        refine wlOn (e := 20) rfl rfl rfl rfl (oload1 (v := .slice p2 n2 c2) oneN hS 0 rfl rfl (ev rfl rfl) rfl rfl ?_)
        refine wlOn (e := 20) rfl rfl rfl rfl (ocall rfl rfl Try.call39 rfl (wrlen (z := z2) (hS.slm 2 rfl) (hk2.mono (by omega))) (args1 (ev rfl rfl)) ?_)
        rintro _ w10 ⟨_, _, rfl, ⟨rfl, rfl⟩, hN⟩
        refine ⟨_, rfl, ?_⟩
        replace hS := hS.news hN; clear hN
        refine wlOn (e := 20) rfl rfl rfl rfl (omove (v := .int .i64 (((K : Nat) : Int))) rfl rfl (ev (v := .int .i64 (((K : Nat) : Int))) rfl rfl) ?_)
        by_cases g2 : Lg (blen (RD x y).natAbs) K
        ·
          refine wlOn (e := 20) rfl rfl rfl rfl (ocall rfl rfl Try.call38 rfl (wlong_p1 (B := blen z2.natAbs) (K := K) (by have := blen_wd hk2; omega) hK (by rw [← hz2.out]; exact g2)) (args2 (ev rfl rfl) (ev rfl rfl)) ?_)
          rintro _ w11 ⟨_, _, rfl, ⟨rfl, rfl⟩, hN⟩
          refine ⟨_, rfl, ?_⟩
          replace hS := hS.news hN; clear hN
          refine wl rfl (opick (b := false) (v := .bool true) rfl rfl (ev (v := .bool false) rfl rfl) (ev (v := .bool true) rfl rfl) ?_)
          refine wnil ?_
          refine thenN ?_
          refine wT (ev (v := .bool true) rfl rfl) ?_
          refine wseq ?_
          refine wreg ?_
          refine wl rfl (ocall rfl rfl Try.call15 rfl (wllives5) (args0 ) ?_)
          rintro _ w12 ⟨_, _, rfl, ⟨rfl, rfl⟩, hN⟩
          refine ⟨_, rfl, ?_⟩
          replace hS := hS.news hN; clear hN
          refine wl rfl (oassign (v := .bool true) rfl rfl (ev (v := .bool true) rfl rfl) ?_)
          refine wnil ?_
          refine thenN ?_
          refine wleave ?_
          refine thenR ?_
          refine wret1 Try.results6 (tellT (v := .bool true) rfl rfl) ?_
          exact ⟨_, _, rfl, isI, hS.new0⟩
        ·
          refine wlOn (e := 20) rfl rfl rfl rfl (ocall rfl rfl Try.call38 rfl (wlong_p0 (B := blen z2.natAbs) (K := K) (by have := blen_wd hk2; omega) hK (by rw [← hz2.out]; exact g2)) (args2 (ev rfl rfl) (ev rfl rfl)) ?_)
          rintro _ w11 ⟨_, _, rfl, ⟨rfl, rfl⟩, hN⟩
          refine ⟨_, rfl, ?_⟩
          replace hS := hS.news hN; clear hN
          refine wl rfl (opick (b := false) (v := .bool false) rfl rfl (ev (v := .bool false) rfl rfl) (ev (v := .bool false) rfl rfl) ?_)
          refine wnil ?_
          refine thenN ?_
          refine wF (ev (v := .bool false) rfl rfl) ?_
          refine wskip ?_
          refine thenN ?_
          refine wseq ?_
          refine wreg ?_
          refine wl rfl (oload (vs := [.bool bA, .slice qA nA kA, .bool bB, .slice qB nB kB]) aggR hS 3 rfl rfl (ev rfl rfl) rfl rfl rfl ?_)
          refine wl rfl (omove (v := .int .i64 (((K : Nat) : Int))) rfl rfl (ev (v := .int .i64 (((K : Nat) : Int))) rfl rfl) ?_)
          have c1 := lg_split g1
          have c2 := lg_split g2
          by_cases o1 : PowOk (RN x y) K
          ·
            by_cases o2 : PowOk (RD x y) K
            ·
              refine wl rfl (ocall rfl rfl Try.call40 rfl (wrpow_p ((hzA.at hS).mono (by omega)) ((hzB.at hS).mono (by omega)) hy (hK) (o1) (o2)) (args2 (ev rfl rfl) (ev rfl rfl)) ?_)
              rintro _ w12 ⟨_, _, rfl, ⟨p3, n3, c3, p4, n4, c4, rfl, rfl⟩, hN⟩
              refine ⟨_, rfl, ?_⟩
              replace hS := hS.news hN; clear hN
              refine wl rfl (omove (v := .tuple #[.agg #[.bool (ng (RN x y ^ K)), .slice p3 n3 c3, .bool (ng (RD x y ^ K)), .slice p4 n4 c4], .int .i64 0]) rfl rfl (ev (v := .tuple #[.agg #[.bool (ng (RN x y ^ K)), .slice p3 n3 c3, .bool (ng (RD x y ^ K)), .slice p4 n4 c4], .int .i64 0]) rfl rfl) ?_)
              refine wl rfl (oextract (vs := [.agg #[.bool (ng (RN x y ^ K)), .slice p3 n3 c3, .bool (ng (RD x y ^ K)), .slice p4 n4 c4], .int .i64 0]) (v := .agg #[.bool (ng (RN x y ^ K)), .slice p3 n3 c3, .bool (ng (RD x y ^ K)), .slice p4 n4 c4]) rfl rfl (ev (v := .tuple #[.agg #[.bool (ng (RN x y ^ K)), .slice p3 n3 c3, .bool (ng (RD x y ^ K)), .slice p4 n4 c4], .int .i64 0]) rfl rfl) rfl ?_)
              refine wl rfl (oextract (vs := [.agg #[.bool (ng (RN x y ^ K)), .slice p3 n3 c3, .bool (ng (RD x y ^ K)), .slice p4 n4 c4], .int .i64 0]) (v := .int .i64 0) rfl rfl (ev (v := .tuple #[.agg #[.bool (ng (RN x y ^ K)), .slice p3 n3 c3, .bool (ng (RD x y ^ K)), .slice p4 n4 c4], .int .i64 0]) rfl rfl) rfl ?_)
              refine wl rfl (oalloc [.bool false, .slice none 0 0, .bool false, .slice none 0 0] hS rfl rfl Try.zeroValue27 rfl ?_)
              clear hS; intro g13 w14 hS
              refine wl rfl (ostore [.bool (ng (RN x y ^ K)), .slice p3 n3 c3, .bool (ng (RD x y ^ K)), .slice p4 n4 c4] [.bool (ng (RN x y ^ K)), .slice p3 n3 c3, .bool (ng (RD x y ^ K)), .slice p4 n4 c4] Try.sizeOf27 hS 0 rfl rfl (ev rfl rfl) (ev (v := .agg #[.bool (ng (RN x y ^ K)), .slice p3 n3 c3, .bool (ng (RD x y ^ K)), .slice p4 n4 c4]) rfl rfl) rfl rfl rfl rfl rfl rfl ?_)
              clear hS; intro w15 hS
              refine wl rfl (oassign (v := .int .i64 0) rfl rfl (ev (v := .int .i64 0) rfl rfl) ?_)
              refine wnil ?_
              refine thenN ?_
              refine wseq ?_
              refine wblock ?_
              refine wseq ?_
              refine wreg ?_
              refine wl rfl (oload (vs := [.bool bA, .slice qA nA kA, .bool bB, .slice qB nB kB]) aggR hS 6 rfl rfl (ev rfl rfl) rfl rfl rfl ?_)
              refine wl rfl (ocall rfl rfl Try.call11 rfl (wsmay ((hzB.at hS).mono (by omega)) (hy)) (args1 (ev rfl rfl)) ?_)
              rintro _ w16 ⟨_, _, rfl, ⟨rfl, rfl⟩, hN⟩
              refine ⟨_, rfl, ?_⟩
              replace hS := hS.news hN; clear hN
              refine wl rfl (onot (b := true) rfl rfl (ev (v := .bool true) rfl rfl) ?_)
              refine wl rfl (oassign (v := .bool false) rfl rfl (ev (v := .bool false) rfl rfl) ?_)
              refine wnil ?_
              refine thenN ?_
              refine wF (ev (v := .bool false) rfl rfl) ?_
              refine wseq ?_
              refine wreg ?_
              refine wl rfl (oload (vs := [.bool bA, .slice qA nA kA, .bool bB, .slice qB nB kB]) aggR hS 6 rfl rfl (ev rfl rfl) rfl rfl rfl ?_)
              obtain ⟨s5, hs5⟩ : ∃ z : Int, Hid ((x : Int).sign * (y : Int).sign = z) := ⟨_, rfl⟩
              refine wl rfl (ocall rfl rfl Try.call12 rfl (wssign ((hzA.at hS).mono (by omega)) ((hzB.at hS).mono (by omega)) (hy) hs5) (args1 (ev rfl rfl)) ?_)
              rintro _ w17 ⟨_, _, rfl, ⟨rfl, rfl⟩, hN⟩
              refine ⟨_, rfl, ?_⟩
              replace hS := hS.news hN; clear hN
              refine wl rfl (obin (u := .int .i64 s5) (v := .int .i64 0) (z := .bool true) rfl rfl (ev (v := .int .i64 s5) rfl rfl) (evc (v := .int .i64 0)) (bin_eql (rs_zero hs5 hx)) ?_)
              refine wl rfl (omove (v := .bool true) rfl rfl (ev (v := .bool true) rfl rfl) ?_)
              refine wlOn (e := 53) rfl rfl rfl rfl (omove (v := .int .i64 (((K : Nat) : Int))) rfl rfl (ev (v := .int .i64 (((K : Nat) : Int))) rfl rfl) ?_)
              refine wlOn (e := 53) rfl rfl rfl rfl (obin (u := .int .i64 (((K : Nat) : Int))) (v := .int .i64 0) (z := .bool false) rfl rfl (ev (v := .int .i64 (((K : Nat) : Int))) rfl rfl) (evc (v := .int .i64 0)) (bin_lss (decide_eq_false (by omega))) ?_)
              refine wl rfl (opick (b := true) (v := .bool false) rfl rfl (ev (v := .bool true) rfl rfl) (ev (v := .bool false) rfl rfl) ?_)
              refine wl rfl (oassign (v := .bool false) rfl rfl (ev (v := .bool false) rfl rfl) ?_)
              refine wnil ?_
              refine thenN ?_
              refine wF (ev (v := .bool false) rfl rfl) ?_
              refine wskip ?_
              refine blkN ?_
              refine thenN ?_
              refine wseq ?_
              refine wreg ?_
              refine wl rfl (oload (vs := [.bool bA, .slice qA nA kA, .bool bB, .slice qB nB kB]) aggR hS 6 rfl rfl (ev rfl rfl) rfl rfl rfl ?_)
              refine wl rfl (omove (v := .int .i64 (((K : Nat) : Int))) rfl rfl (ev (v := .int .i64 (((K : Nat) : Int))) rfl rfl) ?_)
              refine wl rfl (ocall rfl rfl Try.call41 rfl (wqrpow_p ((hzA.at hS).mono (by omega)) ((hzB.at hS).mono (by omega)) hy (hK) (o1) (o2)) (args2 (ev rfl rfl) (ev rfl rfl)) ?_)
              rintro _ w18 ⟨_, _, rfl, ⟨p6, n6, c6, p7, n7, c7, rfl, rfl⟩, hN⟩
              refine ⟨_, rfl, ?_⟩
              replace hS := hS.news hN; clear hN
              refine wl rfl (omove (v := .tuple #[.agg #[.bool (ng (RN x y ^ K)), .slice p6 n6 c6, .bool (ng (RD x y ^ K)), .slice p7 n7 c7], .bool true]) rfl rfl (ev (v := .tuple #[.agg #[.bool (ng (RN x y ^ K)), .slice p6 n6 c6, .bool (ng (RD x y ^ K)), .slice p7 n7 c7], .bool true]) rfl rfl) ?_)
              refine wl rfl (oextract (vs := [.agg #[.bool (ng (RN x y ^ K)), .slice p6 n6 c6, .bool (ng (RD x y ^ K)), .slice p7 n7 c7], .bool true]) (v := .agg #[.bool (ng (RN x y ^ K)), .slice p6 n6 c6, .bool (ng (RD x y ^ K)), .slice p7 n7 c7]) rfl rfl (ev (v := .tuple #[.agg #[.bool (ng (RN x y ^ K)), .slice p6 n6 c6, .bool (ng (RD x y ^ K)), .slice p7 n7 c7], .bool true]) rfl rfl) rfl ?_)
              refine wl rfl (oextract (vs := [.agg #[.bool (ng (RN x y ^ K)), .slice p6 n6 c6, .bool (ng (RD x y ^ K)), .slice p7 n7 c7], .bool true]) (v := .bool true) rfl rfl (ev (v := .tuple #[.agg #[.bool (ng (RN x y ^ K)), .slice p6 n6 c6, .bool (ng (RD x y ^ K)), .slice p7 n7 c7], .bool true]) rfl rfl) rfl ?_)
              refine wl rfl (oalloc [.bool false, .slice none 0 0, .bool false, .slice none 0 0] hS rfl rfl Try.zeroValue27 rfl ?_)
              clear hS; intro g19 w20 hS
              refine wl rfl (ostore [.bool (ng (RN x y ^ K)), .slice p6 n6 c6, .bool (ng (RD x y ^ K)), .slice p7 n7 c7] [.bool (ng (RN x y ^ K)), .slice p6 n6 c6, .bool (ng (RD x y ^ K)), .slice p7 n7 c7] Try.sizeOf27 hS 0 rfl rfl (ev rfl rfl) (ev (v := .agg #[.bool (ng (RN x y ^ K)), .slice p6 n6 c6, .bool (ng (RD x y ^ K)), .slice p7 n7 c7]) rfl rfl) rfl rfl rfl rfl rfl rfl ?_)
              clear hS; intro w21 hS
              refine wl rfl (oassign (v := .bool true) rfl rfl (ev (v := .bool true) rfl rfl) ?_)
              refine wnil ?_
              refine thenN ?_
              refine wseq ?_
              refine wseq ?_
              refine wreg ?_
              refine wl rfl (omove (v := .bool true) rfl rfl (ev (v := .bool true) rfl rfl) ?_)
              refine wl rfl (onot (b := true) rfl rfl (ev (v := .bool true) rfl rfl) ?_)
              refine wnil ?_
              refine thenN ?_
              refine wF (ev (v := .bool false) rfl rfl) ?_
              refine wskip ?_
              refine thenN ?_
              refine wseq ?_
              refine wreg ?_
              refine wl rfl (omove (v := .int .i64 0) rfl rfl (ev (v := .int .i64 0) rfl rfl) ?_)
              refine wl rfl (obin (u := .int .i64 0) (v := .int .i64 0) (z := .bool true) rfl rfl (ev (v := .int .i64 0) rfl rfl) (evc (v := .int .i64 0)) (bin_eql (by decide)) ?_)
              refine wl rfl (omove (v := .bool true) rfl rfl (ev (v := .bool true) rfl rfl) ?_)
              refine wlOn (e := 87) rfl rfl rfl rfl (oload (vs := [.bool (ng (RN x y ^ K)), .slice p3 n3 c3, .bool (ng (RD x y ^ K)), .slice p4 n4 c4]) aggR hS 3 rfl rfl (ev rfl rfl) rfl rfl rfl ?_)
              refine wlOn (e := 87) rfl rfl rfl rfl (oload (vs := [.bool (ng (RN x y ^ K)), .slice p6 n6 c6, .bool (ng (RD x y ^ K)), .slice p7 n7 c7]) aggR hS 0 rfl rfl (ev rfl rfl) rfl rfl rfl ?_)
              refine wlOn (e := 87) rfl rfl rfl rfl (ocall rfl rfl Try.call13 rfl (wlsame5 (x := RN x y ^ K) (y := RD x y ^ K) (u := RN x y ^ K) (v := RD x y ^ K) (hS.slm 4 rfl) (hS.slm 5 rfl) (hS.slm 1 rfl) (hS.slm 2 rfl) (rfl) (rfl)) (args2 (ev rfl rfl) (ev rfl rfl)) ?_)
              rintro _ w22 ⟨_, _, rfl, ⟨rfl, rfl⟩, hN⟩
              refine ⟨_, rfl, ?_⟩
              replace hS := hS.news hN; clear hN
              refine wl rfl (opick (b := true) (v := .bool true) rfl rfl (ev (v := .bool true) rfl rfl) (ev (v := .bool true) rfl rfl) ?_)
              refine wl rfl (omove (v := .bool true) rfl rfl (ev (v := .bool true) rfl rfl) ?_)
              refine wlOn (e := 92) rfl rfl rfl rfl (ocall rfl rfl Try.call15 rfl (wllives5) (args0 ) ?_)
              rintro _ w23 ⟨_, _, rfl, ⟨rfl, rfl⟩, hN⟩
              refine ⟨_, rfl, ?_⟩
              replace hS := hS.news hN; clear hN
              refine wl rfl (opick (b := true) (v := .bool true) rfl rfl (ev (v := .bool true) rfl rfl) (ev (v := .bool true) rfl rfl) ?_)
              refine wl rfl (oassign (v := .bool true) rfl rfl (ev (v := .bool true) rfl rfl) ?_)
              refine wnil ?_
              refine thenN ?_
              refine wleave ?_
              refine wret1 Try.results6 (tellT (v := .bool true) rfl rfl) ?_
              exact ⟨_, _, rfl, isI, hS.new0⟩
            ·
              refine wl rfl (ocall rfl rfl Try.call40 rfl (wrpow_pB ((hzA.at hS).mono (by omega)) ((hzB.at hS).mono (by omega)) hy (hK) (o1) (c2.resolve_left o2)) (args2 (ev rfl rfl) (ev rfl rfl)) ?_)
              rintro _ w12 ⟨_, _, rfl, ⟨p3, n3, c3, p4, n4, c4, rfl, rfl⟩, hN⟩
              refine ⟨_, rfl, ?_⟩
              replace hS := hS.news hN; clear hN
              refine wl rfl (omove (v := .tuple #[.agg #[.bool (ng 0), .slice p3 n3 c3, .bool (ng 0), .slice p4 n4 c4], .int .i64 4]) rfl rfl (ev (v := .tuple #[.agg #[.bool (ng 0), .slice p3 n3 c3, .bool (ng 0), .slice p4 n4 c4], .int .i64 4]) rfl rfl) ?_)
              refine wl rfl (oextract (vs := [.agg #[.bool (ng 0), .slice p3 n3 c3, .bool (ng 0), .slice p4 n4 c4], .int .i64 4]) (v := .agg #[.bool (ng 0), .slice p3 n3 c3, .bool (ng 0), .slice p4 n4 c4]) rfl rfl (ev (v := .tuple #[.agg #[.bool (ng 0), .slice p3 n3 c3, .bool (ng 0), .slice p4 n4 c4], .int .i64 4]) rfl rfl) rfl ?_)
              refine wl rfl (oextract (vs := [.agg #[.bool (ng 0), .slice p3 n3 c3, .bool (ng 0), .slice p4 n4 c4], .int .i64 4]) (v := .int .i64 4) rfl rfl (ev (v := .tuple #[.agg #[.bool (ng 0), .slice p3 n3 c3, .bool (ng 0), .slice p4 n4 c4], .int .i64 4]) rfl rfl) rfl ?_)
              refine wl rfl (oalloc [.bool false, .slice none 0 0, .bool false, .slice none 0 0] hS rfl rfl Try.zeroValue27 rfl ?_)
              clear hS; intro g13 w14 hS
              refine wl rfl (ostore [.bool (ng 0), .slice p3 n3 c3, .bool (ng 0), .slice p4 n4 c4] [.bool (ng 0), .slice p3 n3 c3, .bool (ng 0), .slice p4 n4 c4] Try.sizeOf27 hS 0 rfl rfl (ev rfl rfl) (ev (v := .agg #[.bool (ng 0), .slice p3 n3 c3, .bool (ng 0), .slice p4 n4 c4]) rfl rfl) rfl rfl rfl rfl rfl rfl ?_)
              clear hS; intro w15 hS
              refine wl rfl (oassign (v := .int .i64 4) rfl rfl (ev (v := .int .i64 4) rfl rfl) ?_)
              refine wnil ?_
              refine thenN ?_
              refine wseq ?_
              refine wblock ?_
              refine wseq ?_
              refine wreg ?_
              refine wl rfl (oload (vs := [.bool bA, .slice qA nA kA, .bool bB, .slice qB nB kB]) aggR hS 6 rfl rfl (ev rfl rfl) rfl rfl rfl ?_)
              refine wl rfl (ocall rfl rfl Try.call11 rfl (wsmay ((hzB.at hS).mono (by omega)) (hy)) (args1 (ev rfl rfl)) ?_)
              rintro _ w16 ⟨_, _, rfl, ⟨rfl, rfl⟩, hN⟩
              refine ⟨_, rfl, ?_⟩
              replace hS := hS.news hN; clear hN
              refine wl rfl (onot (b := true) rfl rfl (ev (v := .bool true) rfl rfl) ?_)
              refine wl rfl (oassign (v := .bool false) rfl rfl (ev (v := .bool false) rfl rfl) ?_)
              refine wnil ?_
              refine thenN ?_
              refine wF (ev (v := .bool false) rfl rfl) ?_
              refine wseq ?_
              refine wreg ?_
              refine wl rfl (oload (vs := [.bool bA, .slice qA nA kA, .bool bB, .slice qB nB kB]) aggR hS 6 rfl rfl (ev rfl rfl) rfl rfl rfl ?_)
              obtain ⟨s5, hs5⟩ : ∃ z : Int, Hid ((x : Int).sign * (y : Int).sign = z) := ⟨_, rfl⟩
              refine wl rfl (ocall rfl rfl Try.call12 rfl (wssign ((hzA.at hS).mono (by omega)) ((hzB.at hS).mono (by omega)) (hy) hs5) (args1 (ev rfl rfl)) ?_)
              rintro _ w17 ⟨_, _, rfl, ⟨rfl, rfl⟩, hN⟩
              refine ⟨_, rfl, ?_⟩
              replace hS := hS.news hN; clear hN
              refine wl rfl (obin (u := .int .i64 s5) (v := .int .i64 0) (z := .bool true) rfl rfl (ev (v := .int .i64 s5) rfl rfl) (evc (v := .int .i64 0)) (bin_eql (rs_zero hs5 hx)) ?_)
              refine wl rfl (omove (v := .bool true) rfl rfl (ev (v := .bool true) rfl rfl) ?_)
              refine wlOn (e := 53) rfl rfl rfl rfl (omove (v := .int .i64 (((K : Nat) : Int))) rfl rfl (ev (v := .int .i64 (((K : Nat) : Int))) rfl rfl) ?_)
              refine wlOn (e := 53) rfl rfl rfl rfl (obin (u := .int .i64 (((K : Nat) : Int))) (v := .int .i64 0) (z := .bool false) rfl rfl (ev (v := .int .i64 (((K : Nat) : Int))) rfl rfl) (evc (v := .int .i64 0)) (bin_lss (decide_eq_false (by omega))) ?_)
              refine wl rfl (opick (b := true) (v := .bool false) rfl rfl (ev (v := .bool true) rfl rfl) (ev (v := .bool false) rfl rfl) ?_)
              refine wl rfl (oassign (v := .bool false) rfl rfl (ev (v := .bool false) rfl rfl) ?_)
              refine wnil ?_
              refine thenN ?_
              refine wF (ev (v := .bool false) rfl rfl) ?_
              refine wskip ?_
              refine blkN ?_
              refine thenN ?_
              refine wseq ?_
              refine wreg ?_
              refine wl rfl (oload (vs := [.bool bA, .slice qA nA kA, .bool bB, .slice qB nB kB]) aggR hS 6 rfl rfl (ev rfl rfl) rfl rfl rfl ?_)
              refine wl rfl (omove (v := .int .i64 (((K : Nat) : Int))) rfl rfl (ev (v := .int .i64 (((K : Nat) : Int))) rfl rfl) ?_)
              refine wl rfl (ocall rfl rfl Try.call41 rfl (wqrpow_pB ((hzA.at hS).mono (by omega)) ((hzB.at hS).mono (by omega)) hy (hK) (o1) (c2.resolve_left o2)) (args2 (ev rfl rfl) (ev rfl rfl)) ?_)
              rintro _ w18 ⟨_, _, rfl, ⟨rfl, rfl⟩, hN⟩
              refine ⟨_, rfl, ?_⟩
              replace hS := hS.news hN; clear hN
              refine wl rfl (omove (v := .tuple #[.agg #[.bool false, .slice none 0 0, .bool false, .slice none 0 0], .bool false]) rfl rfl (ev (v := .tuple #[.agg #[.bool false, .slice none 0 0, .bool false, .slice none 0 0], .bool false]) rfl rfl) ?_)
              refine wl rfl (oextract (vs := [.agg #[.bool false, .slice none 0 0, .bool false, .slice none 0 0], .bool false]) (v := .agg #[.bool false, .slice none 0 0, .bool false, .slice none 0 0]) rfl rfl (ev (v := .tuple #[.agg #[.bool false, .slice none 0 0, .bool false, .slice none 0 0], .bool false]) rfl rfl) rfl ?_)
              refine wl rfl (oextract (vs := [.agg #[.bool false, .slice none 0 0, .bool false, .slice none 0 0], .bool false]) (v := .bool false) rfl rfl (ev (v := .tuple #[.agg #[.bool false, .slice none 0 0, .bool false, .slice none 0 0], .bool false]) rfl rfl) rfl ?_)
              refine wl rfl (oalloc [.bool false, .slice none 0 0, .bool false, .slice none 0 0] hS rfl rfl Try.zeroValue27 rfl ?_)
              clear hS; intro g19 w20 hS
              refine wl rfl (ostore [.bool false, .slice none 0 0, .bool false, .slice none 0 0] [.bool false, .slice none 0 0, .bool false, .slice none 0 0] Try.sizeOf27 hS 0 rfl rfl (ev rfl rfl) (ev (v := .agg #[.bool false, .slice none 0 0, .bool false, .slice none 0 0]) rfl rfl) rfl rfl rfl rfl rfl rfl ?_)
              clear hS; intro w21 hS
              refine wl rfl (oassign (v := .bool false) rfl rfl (ev (v := .bool false) rfl rfl) ?_)
              refine wnil ?_
              refine thenN ?_
              refine wseq ?_
              refine wseq ?_
              refine wreg ?_
              refine wl rfl (omove (v := .bool false) rfl rfl (ev (v := .bool false) rfl rfl) ?_)
              refine wl rfl (onot (b := false) rfl rfl (ev (v := .bool false) rfl rfl) ?_)
              refine wnil ?_
              refine thenN ?_
              refine wT (ev (v := .bool true) rfl rfl) ?_
              refine wseq ?_
              refine wreg ?_
              refine wl rfl (omove (v := .int .i64 4) rfl rfl (ev (v := .int .i64 4) rfl rfl) ?_)
              refine wl rfl (obin (u := .int .i64 4) (v := .int .i64 4) (z := .bool true) rfl rfl (ev (v := .int .i64 4) rfl rfl) (evc (v := .int .i64 4)) (bin_eql (by decide)) ?_)
              refine wl rfl (omove (v := .bool true) rfl rfl (ev (v := .bool true) rfl rfl) ?_)
              refine wlOn (e := 77) rfl rfl rfl rfl (oload (vs := [.bool (ng 0), .slice p3 n3 c3, .bool (ng 0), .slice p4 n4 c4]) aggR hS 1 rfl rfl (ev rfl rfl) rfl rfl rfl ?_)
              refine wlOn (e := 77) rfl rfl rfl rfl (obuild (ps := #[]) (v := .agg #[.bool false, .slice none 0 0, .bool false, .slice none 0 0]) rfl rfl (parts0) (fun w => by simp [go_sem, Instr.build, Instr.fill]) ?_)
              refine wlOn (e := 77) rfl rfl rfl rfl (ocall rfl rfl Try.call13 rfl (wlsame5 (x := 0) (y := 0) (u := 0) (v := 0) (hS.slm 2 rfl) (hS.slm 3 rfl) (Sl.nil _) (Sl.nil _) (rfl) (rfl)) (args2 (ev rfl rfl) (ev rfl rfl)) ?_)
              rintro _ w22 ⟨_, _, rfl, ⟨rfl, rfl⟩, hN⟩
              refine ⟨_, rfl, ?_⟩
              replace hS := hS.news hN; clear hN
              refine wl rfl (opick (b := true) (v := .bool true) rfl rfl (ev (v := .bool true) rfl rfl) (ev (v := .bool true) rfl rfl) ?_)
              refine wl rfl (omove (v := .bool true) rfl rfl (ev (v := .bool true) rfl rfl) ?_)
              refine wlOn (e := 82) rfl rfl rfl rfl (ocall rfl rfl Try.call15 rfl (wllives5) (args0 ) ?_)
              rintro _ w23 ⟨_, _, rfl, ⟨rfl, rfl⟩, hN⟩
              refine ⟨_, rfl, ?_⟩
              replace hS := hS.news hN; clear hN
              refine wl rfl (opick (b := true) (v := .bool true) rfl rfl (ev (v := .bool true) rfl rfl) (ev (v := .bool true) rfl rfl) ?_)
              refine wl rfl (oassign (v := .bool true) rfl rfl (ev (v := .bool true) rfl rfl) ?_)
              refine wnil ?_
              refine thenN ?_
              refine wleave ?_
              refine thenR ?_
              refine wret1 Try.results6 (tellT (v := .bool true) rfl rfl) ?_
              exact ⟨_, _, rfl, isI, hS.new0⟩
          ·
            refine wl rfl (ocall rfl rfl Try.call40 rfl (wrpow_pA ((hzA.at hS).mono (by omega)) ((hzB.at hS).mono (by omega)) hy (hK) (c1.resolve_left o1)) (args2 (ev rfl rfl) (ev rfl rfl)) ?_)
            rintro _ w12 ⟨_, _, rfl, ⟨p3, n3, c3, p4, n4, c4, rfl, rfl⟩, hN⟩
            refine ⟨_, rfl, ?_⟩
            replace hS := hS.news hN; clear hN
            refine wl rfl (omove (v := .tuple #[.agg #[.bool (ng 0), .slice p3 n3 c3, .bool (ng 0), .slice p4 n4 c4], .int .i64 4]) rfl rfl (ev (v := .tuple #[.agg #[.bool (ng 0), .slice p3 n3 c3, .bool (ng 0), .slice p4 n4 c4], .int .i64 4]) rfl rfl) ?_)
            refine wl rfl (oextract (vs := [.agg #[.bool (ng 0), .slice p3 n3 c3, .bool (ng 0), .slice p4 n4 c4], .int .i64 4]) (v := .agg #[.bool (ng 0), .slice p3 n3 c3, .bool (ng 0), .slice p4 n4 c4]) rfl rfl (ev (v := .tuple #[.agg #[.bool (ng 0), .slice p3 n3 c3, .bool (ng 0), .slice p4 n4 c4], .int .i64 4]) rfl rfl) rfl ?_)
            refine wl rfl (oextract (vs := [.agg #[.bool (ng 0), .slice p3 n3 c3, .bool (ng 0), .slice p4 n4 c4], .int .i64 4]) (v := .int .i64 4) rfl rfl (ev (v := .tuple #[.agg #[.bool (ng 0), .slice p3 n3 c3, .bool (ng 0), .slice p4 n4 c4], .int .i64 4]) rfl rfl) rfl ?_)
            refine wl rfl (oalloc [.bool false, .slice none 0 0, .bool false, .slice none 0 0] hS rfl rfl Try.zeroValue27 rfl ?_)
            clear hS; intro g13 w14 hS
            refine wl rfl (ostore [.bool (ng 0), .slice p3 n3 c3, .bool (ng 0), .slice p4 n4 c4] [.bool (ng 0), .slice p3 n3 c3, .bool (ng 0), .slice p4 n4 c4] Try.sizeOf27 hS 0 rfl rfl (ev rfl rfl) (ev (v := .agg #[.bool (ng 0), .slice p3 n3 c3, .bool (ng 0), .slice p4 n4 c4]) rfl rfl) rfl rfl rfl rfl rfl rfl ?_)
            clear hS; intro w15 hS
            refine wl rfl (oassign (v := .int .i64 4) rfl rfl (ev (v := .int .i64 4) rfl rfl) ?_)
            refine wnil ?_
            refine thenN ?_
            refine wseq ?_
            refine wblock ?_
            refine wseq ?_
            refine wreg ?_
            refine wl rfl (oload (vs := [.bool bA, .slice qA nA kA, .bool bB, .slice qB nB kB]) aggR hS 6 rfl rfl (ev rfl rfl) rfl rfl rfl ?_)
            refine wl rfl (ocall rfl rfl Try.call11 rfl (wsmay ((hzB.at hS).mono (by omega)) (hy)) (args1 (ev rfl rfl)) ?_)
            rintro _ w16 ⟨_, _, rfl, ⟨rfl, rfl⟩, hN⟩
            refine ⟨_, rfl, ?_⟩
            replace hS := hS.news hN; clear hN
            refine wl rfl (onot (b := true) rfl rfl (ev (v := .bool true) rfl rfl) ?_)
            refine wl rfl (oassign (v := .bool false) rfl rfl (ev (v := .bool false) rfl rfl) ?_)
            refine wnil ?_
            refine thenN ?_
            refine wF (ev (v := .bool false) rfl rfl) ?_
            refine wseq ?_
            refine wreg ?_
            refine wl rfl (oload (vs := [.bool bA, .slice qA nA kA, .bool bB, .slice qB nB kB]) aggR hS 6 rfl rfl (ev rfl rfl) rfl rfl rfl ?_)
            obtain ⟨s5, hs5⟩ : ∃ z : Int, Hid ((x : Int).sign * (y : Int).sign = z) := ⟨_, rfl⟩
            refine wl rfl (ocall rfl rfl Try.call12 rfl (wssign ((hzA.at hS).mono (by omega)) ((hzB.at hS).mono (by omega)) (hy) hs5) (args1 (ev rfl rfl)) ?_)
            rintro _ w17 ⟨_, _, rfl, ⟨rfl, rfl⟩, hN⟩
            refine ⟨_, rfl, ?_⟩
            replace hS := hS.news hN; clear hN
            refine wl rfl (obin (u := .int .i64 s5) (v := .int .i64 0) (z := .bool true) rfl rfl (ev (v := .int .i64 s5) rfl rfl) (evc (v := .int .i64 0)) (bin_eql (rs_zero hs5 hx)) ?_)
            refine wl rfl (omove (v := .bool true) rfl rfl (ev (v := .bool true) rfl rfl) ?_)
            refine wlOn (e := 53) rfl rfl rfl rfl (omove (v := .int .i64 (((K : Nat) : Int))) rfl rfl (ev (v := .int .i64 (((K : Nat) : Int))) rfl rfl) ?_)
            refine wlOn (e := 53) rfl rfl rfl rfl (obin (u := .int .i64 (((K : Nat) : Int))) (v := .int .i64 0) (z := .bool false) rfl rfl (ev (v := .int .i64 (((K : Nat) : Int))) rfl rfl) (evc (v := .int .i64 0)) (bin_lss (decide_eq_false (by omega))) ?_)
            refine wl rfl (opick (b := true) (v := .bool false) rfl rfl (ev (v := .bool true) rfl rfl) (ev (v := .bool false) rfl rfl) ?_)
            refine wl rfl (oassign (v := .bool false) rfl rfl (ev (v := .bool false) rfl rfl) ?_)
            refine wnil ?_
            refine thenN ?_
            refine wF (ev (v := .bool false) rfl rfl) ?_
            refine wskip ?_
            refine blkN ?_
            refine thenN ?_
            refine wseq ?_
            refine wreg ?_
            refine wl rfl (oload (vs := [.bool bA, .slice qA nA kA, .bool bB, .slice qB nB kB]) aggR hS 6 rfl rfl (ev rfl rfl) rfl rfl rfl ?_)
            refine wl rfl (omove (v := .int .i64 (((K : Nat) : Int))) rfl rfl (ev (v := .int .i64 (((K : Nat) : Int))) rfl rfl) ?_)
            refine wl rfl (ocall rfl rfl Try.call41 rfl (wqrpow_pA ((hzA.at hS).mono (by omega)) ((hzB.at hS).mono (by omega)) hy (hK) (c1.resolve_left o1) (c2)) (args2 (ev rfl rfl) (ev rfl rfl)) ?_)
            rintro _ w18 ⟨_, _, rfl, ⟨rfl, rfl⟩, hN⟩
            refine ⟨_, rfl, ?_⟩
            replace hS := hS.news hN; clear hN
            refine wl rfl (omove (v := .tuple #[.agg #[.bool false, .slice none 0 0, .bool false, .slice none 0 0], .bool false]) rfl rfl (ev (v := .tuple #[.agg #[.bool false, .slice none 0 0, .bool false, .slice none 0 0], .bool false]) rfl rfl) ?_)
            refine wl rfl (oextract (vs := [.agg #[.bool false, .slice none 0 0, .bool false, .slice none 0 0], .bool false]) (v := .agg #[.bool false, .slice none 0 0, .bool false, .slice none 0 0]) rfl rfl (ev (v := .tuple #[.agg #[.bool false, .slice none 0 0, .bool false, .slice none 0 0], .bool false]) rfl rfl) rfl ?_)
            refine wl rfl (oextract (vs := [.agg #[.bool false, .slice none 0 0, .bool false, .slice none 0 0], .bool false]) (v := .bool false) rfl rfl (ev (v := .tuple #[.agg #[.bool false, .slice none 0 0, .bool false, .slice none 0 0], .bool false]) rfl rfl) rfl ?_)
            refine wl rfl (oalloc [.bool false, .slice none 0 0, .bool false, .slice none 0 0] hS rfl rfl Try.zeroValue27 rfl ?_)
            clear hS; intro g19 w20 hS
            refine wl rfl (ostore [.bool false, .slice none 0 0, .bool false, .slice none 0 0] [.bool false, .slice none 0 0, .bool false, .slice none 0 0] Try.sizeOf27 hS 0 rfl rfl (ev rfl rfl) (ev (v := .agg #[.bool false, .slice none 0 0, .bool false, .slice none 0 0]) rfl rfl) rfl rfl rfl rfl rfl rfl ?_)
            clear hS; intro w21 hS
            refine wl rfl (oassign (v := .bool false) rfl rfl (ev (v := .bool false) rfl rfl) ?_)
            refine wnil ?_
            refine thenN ?_
            refine wseq ?_
            refine wseq ?_
            refine wreg ?_
            refine wl rfl (omove (v := .bool false) rfl rfl (ev (v := .bool false) rfl rfl) ?_)
            refine wl rfl (onot (b := false) rfl rfl (ev (v := .bool false) rfl rfl) ?_)
            refine wnil ?_
            refine thenN ?_
            refine wT (ev (v := .bool true) rfl rfl) ?_
            refine wseq ?_
            refine wreg ?_
            refine wl rfl (omove (v := .int .i64 4) rfl rfl (ev (v := .int .i64 4) rfl rfl) ?_)
            refine wl rfl (obin (u := .int .i64 4) (v := .int .i64 4) (z := .bool true) rfl rfl (ev (v := .int .i64 4) rfl rfl) (evc (v := .int .i64 4)) (bin_eql (by decide)) ?_)
            refine wl rfl (omove (v := .bool true) rfl rfl (ev (v := .bool true) rfl rfl) ?_)
            refine wlOn (e := 77) rfl rfl rfl rfl (oload (vs := [.bool (ng 0), .slice p3 n3 c3, .bool (ng 0), .slice p4 n4 c4]) aggR hS 1 rfl rfl (ev rfl rfl) rfl rfl rfl ?_)
            refine wlOn (e := 77) rfl rfl rfl rfl (obuild (ps := #[]) (v := .agg #[.bool false, .slice none 0 0, .bool false, .slice none 0 0]) rfl rfl (parts0) (fun w => by simp [go_sem, Instr.build, Instr.fill]) ?_)
            refine wlOn (e := 77) rfl rfl rfl rfl (ocall rfl rfl Try.call13 rfl (wlsame5 (x := 0) (y := 0) (u := 0) (v := 0) (hS.slm 2 rfl) (hS.slm 3 rfl) (Sl.nil _) (Sl.nil _) (rfl) (rfl)) (args2 (ev rfl rfl) (ev rfl rfl)) ?_)
            rintro _ w22 ⟨_, _, rfl, ⟨rfl, rfl⟩, hN⟩
            refine ⟨_, rfl, ?_⟩
            replace hS := hS.news hN; clear hN
            refine wl rfl (opick (b := true) (v := .bool true) rfl rfl (ev (v := .bool true) rfl rfl) (ev (v := .bool true) rfl rfl) ?_)
            refine wl rfl (omove (v := .bool true) rfl rfl (ev (v := .bool true) rfl rfl) ?_)
            refine wlOn (e := 82) rfl rfl rfl rfl (ocall rfl rfl Try.call15 rfl (wllives5) (args0 ) ?_)
            rintro _ w23 ⟨_, _, rfl, ⟨rfl, rfl⟩, hN⟩
            refine ⟨_, rfl, ?_⟩
            replace hS := hS.news hN; clear hN
            refine wl rfl (opick (b := true) (v := .bool true) rfl rfl (ev (v := .bool true) rfl rfl) (ev (v := .bool true) rfl rfl) ?_)
            refine wl rfl (oassign (v := .bool true) rfl rfl (ev (v := .bool true) rfl rfl) ?_)
            refine wnil ?_
            refine thenN ?_
            refine wleave ?_
            refine thenR ?_
            refine wret1 Try.results6 (tellT (v := .bool true) rfl rfl) ?_
            exact ⟨_, _, rfl, isI, hS.new0⟩
    ·
      refine wl rfl (ocall rfl rfl Try.call11 rfl (wsmay ((hzB.at hS).mono (by omega)) (hy)) (args1 (ev rfl rfl)) ?_)
      rintro _ w3 ⟨_, _, rfl, ⟨rfl, rfl⟩, hN⟩
      refine ⟨_, rfl, ?_⟩
      replace hS := hS.news hN; clear hN
      refine wnil ?_
      refine thenN ?_
      refine wT (ev (v := .bool true) rfl rfl) ?_
      refine wseq ?_
      refine wreg ?_
      refine wl rfl (oload (vs := [.bool bA, .slice qA nA kA, .bool bB, .slice qB nB kB]) aggR hS 0 rfl rfl (ev rfl rfl) rfl rfl rfl ?_)
      obtain ⟨z1, hz1⟩ : ∃ z : Int, Hid (RN x y = z) := ⟨_, rfl⟩
      have hk1 : Wd z1 1048576 := Wd.rn hzA.wd hz1
      obtain ⟨z2, hz2⟩ : ∃ z : Int, Hid (RD x y = z) := ⟨_, rfl⟩
      have hk2 : Wd z2 1048576 := Wd.rd hzB.wd hz2
      refine wl rfl (ocall rfl rfl Try.call37 rfl ((wsnorm ((hzA.at hS).mono (by omega)) ((hzB.at hS).mono (by omega)) (hy) hz1 hz2)) (args1 (ev rfl rfl)) ?_)
      rintro _ w4 ⟨_, _, rfl, ⟨p1, n1, c1, p2, n2, c2, rfl, rfl⟩, hN⟩
      refine ⟨_, rfl, ?_⟩
      replace hS := hS.news hN; clear hN
      refine wl rfl (oalloc [.bool false, .slice none 0 0, .bool false, .slice none 0 0] hS rfl rfl Try.zeroValue27 rfl ?_)
      clear hS; intro g5 w6 hS
      refine wl rfl (ostore [.bool (ng z1), .slice p1 n1 c1, .bool (ng z2), .slice p2 n2 c2] [.bool (ng z1), .slice p1 n1 c1, .bool (ng z2), .slice p2 n2 c2] Try.sizeOf27 hS 0 rfl rfl (ev rfl rfl) (ev (v := .agg #[.bool (ng z1), .slice p1 n1 c1, .bool (ng z2), .slice p2 n2 c2]) rfl rfl) rfl rfl rfl rfl rfl rfl ?_)
      clear hS; intro w7 hS
      refine wnil ?_
      refine thenN ?_
      refine wseq ?_
      refine wreg ?_
      refine wl rfl (ofieldAddr (g := g5) (off := 0) 0 rfl rfl (ev (v := .pointer (some ⟨g5, 0, none⟩)) rfl rfl) Try.runUnderlying27 rfl Try.sizeOf25 rfl ?_)
      refine wl rfl (ofieldAddr (g := g5) (off := 0) 1 rfl rfl (ev (v := .pointer (some ⟨g5, 0, none⟩)) rfl rfl) Try.runUnderlying25 rfl Try.sizeOf23 rfl ?_)
      refine wl rfl (oload1 (v := .slice p1 n1 c1) oneN hS 0 rfl rfl (ev rfl rfl) rfl rfl ?_)
      refine wl rfl (ocall rfl rfl Try.call39 rfl (wrlen (z := z1) (hS.slm 1 rfl) (hk1.mono (by omega))) (args1 (ev rfl rfl)) ?_)
      rintro _ w8 ⟨_, _, rfl, ⟨rfl, rfl⟩, hN⟩
      refine ⟨_, rfl, ?_⟩
      replace hS := hS.news hN; clear hN
      refine wl rfl (omove (v := .int .i64 (((K : Nat) : Int))) rfl rfl (ev (v := .int .i64 (((K : Nat) : Int))) rfl rfl) ?_)
      by_cases g1 : Lg (blen (RN x y).natAbs) K
      ·
        refine wl rfl (ocall rfl rfl Try.call38 rfl (wlong_p1 (B := blen z1.natAbs) (K := K) (by have := blen_wd hk1; omega) hK (by rw [← hz1.out]; exact g1)) (args2 (ev rfl rfl) (ev rfl rfl)) ?_)
        rintro _ w9 ⟨_, _, rfl, ⟨rfl, rfl⟩, hN⟩
        refine ⟨_, rfl, ?_⟩
        replace hS := hS.news hN; clear hN
        refine wl rfl (omove (v := .bool true) rfl rfl (ev (v := .bool true) rfl rfl) ?_)
        refine wlOff (e := 20) (d := 21) (b' := true) rfl rfl rfl rfl rfl rfl ?_
        refine wlOff (e := 20) (d := 22) (b' := true) rfl rfl rfl rfl rfl rfl ?_
        refine wlOff (e := 20) (d := 23) (b' := true) rfl rfl rfl rfl rfl rfl ?_
        refine wlOff (e := 20) (d := 24) (b' := true) rfl rfl rfl rfl rfl rfl ?_
        refine wlOff (e := 20) (d := 25) (b' := true) rfl rfl rfl rfl rfl rfl ?_
        refine wlOff (e := 20) (d := 26) (b' := true) rfl rfl rfl rfl rfl rfl ?_
        refine wl rfl (opick (b := true) (v := .bool true) rfl rfl (ev (v := .bool true) rfl rfl) (evc (v := .bool true)) ?_)
        refine wnil ?_
        refine thenN ?_
        refine wT (ev (v := .bool true) rfl rfl) ?_
        refine wseq ?_
        refine wreg ?_
        refine wl rfl (ocall rfl rfl Try.call15 rfl (wllives5) (args0 ) ?_)
        rintro _ w10 ⟨_, _, rfl, ⟨rfl, rfl⟩, hN⟩
        refine ⟨_, rfl, ?_⟩
        replace hS := hS.news hN; clear hN
        refine wl rfl (oassign (v := .bool true) rfl rfl (ev (v := .bool true) rfl rfl) ?_)
        refine wnil ?_
        refine thenN ?_
        refine wleave ?_
        refine thenR ?_
        refine wret1 Try.results6 (tellT (v := .bool true) rfl rfl) ?_
        exact ⟨_, _, rfl, isI, hS.new0⟩
      ·
        refine wl rfl (ocall rfl rfl Try.call38 rfl (wlong_p0 (B := blen z1.natAbs) (K := K) (by have := blen_wd hk1; omega) hK (by rw [← hz1.out]; exact g1)) (args2 (ev rfl rfl) (ev rfl rfl)) ?_)
        rintro _ w9 ⟨_, _, rfl, ⟨rfl, rfl⟩, hN⟩
        refine ⟨_, rfl, ?_⟩
        replace hS := hS.news hN; clear hN
        refine wl rfl (omove (v := .bool false) rfl rfl (ev (v := .bool false) rfl rfl) ?_)
        refine wlOn (e := 20) rfl rfl rfl rfl (ofieldAddr (g := g5) (off := 0) 2 rfl rfl (ev (v := .pointer (some ⟨g5, 0, none⟩)) rfl rfl) Try.runUnderlying27 rfl Try.sizeOf25 rfl ?_)
        refine wlOn (e := 20) rfl rfl rfl rfl (ofieldAddr (g := g5) (off := 2) 3 rfl rfl (ev (v := .pointer (some ⟨g5, 2, none⟩)) rfl rfl) Try.runUnderlying25 rfl Try.sizeOf23 rfl ?_)
        refine wlOn (e := 20) rfl rfl rfl rfl (oload1 (v := .slice p2 n2 c2) oneN hS 0 rfl rfl (ev rfl rfl) rfl rfl ?_)
        refine wlOn (e := 20) rfl rfl rfl rfl (ocall rfl rfl Try.call39 rfl (wrlen (z := z2) (hS.slm 2 rfl) (hk2.mono (by omega))) (args1 (ev rfl rfl)) ?_)
        rintro _ w10 ⟨_, _, rfl, ⟨rfl, rfl⟩, hN⟩
        refine ⟨_, rfl, ?_⟩
        replace hS := hS.news hN; clear hN
        refine wlOn (e := 20) rfl rfl rfl rfl (omove (v := .int .i64 (((K : Nat) : Int))) rfl rfl (ev (v := .int .i64 (((K : Nat) : Int))) rfl rfl) ?_)
        by_cases g2 : Lg (blen (RD x y).natAbs) K
        ·
          refine wlOn (e := 20) rfl rfl rfl rfl (ocall rfl rfl Try.call38 rfl (wlong_p1 (B := blen z2.natAbs) (K := K) (by have := blen_wd hk2; omega) hK (by rw [← hz2.out]; exact g2)) (args2 (ev rfl rfl) (ev rfl rfl)) ?_)
          rintro _ w11 ⟨_, _, rfl, ⟨rfl, rfl⟩, hN⟩
          refine ⟨_, rfl, ?_⟩
          replace hS := hS.news hN; clear hN
          refine wl rfl (opick (b := false) (v := .bool true) rfl rfl (ev (v := .bool false) rfl rfl) (ev (v := .bool true) rfl rfl) ?_)
          refine wnil ?_
          refine thenN ?_
          refine wT (ev (v := .bool true) rfl rfl) ?_
          refine wseq ?_
          refine wreg ?_
          refine wl rfl (ocall rfl rfl Try.call15 rfl (wllives5) (args0 ) ?_)
          rintro _ w12 ⟨_, _, rfl, ⟨rfl, rfl⟩, hN⟩
          refine ⟨_, rfl, ?_⟩
          replace hS := hS.news hN; clear hN
          refine wl rfl (oassign (v := .bool true) rfl rfl (ev (v := .bool true) rfl rfl) ?_)
          refine wnil ?_
          refine thenN ?_
          refine wleave ?_
          refine thenR ?_
          refine wret1 Try.results6 (tellT (v := .bool true) rfl rfl) ?_
          exact ⟨_, _, rfl, isI, hS.new0⟩
        ·
          refine wlOn (e := 20) rfl rfl rfl rfl (ocall rfl rfl Try.call38 rfl (wlong_p0 (B := blen z2.natAbs) (K := K) (by have := blen_wd hk2; omega) hK (by rw [← hz2.out]; exact g2)) (args2 (ev rfl rfl) (ev rfl rfl)) ?_)
          rintro _ w11 ⟨_, _, rfl, ⟨rfl, rfl⟩, hN⟩
          refine ⟨_, rfl, ?_⟩
          replace hS := hS.news hN; clear hN
          refine wl rfl (opick (b := false) (v := .bool false) rfl rfl (ev (v := .bool false) rfl rfl) (ev (v := .bool false) rfl rfl) ?_)
          refine wnil ?_
          refine thenN ?_
          refine wF (ev (v := .bool false) rfl rfl) ?_
          refine wskip ?_
          refine thenN ?_
          refine wseq ?_
          refine wreg ?_
          refine wl rfl (oload (vs := [.bool bA, .slice qA nA kA, .bool bB, .slice qB nB kB]) aggR hS 3 rfl rfl (ev rfl rfl) rfl rfl rfl ?_)
          refine wl rfl (omove (v := .int .i64 (((K : Nat) : Int))) rfl rfl (ev (v := .int .i64 (((K : Nat) : Int))) rfl rfl) ?_)
          have c1 := lg_split g1
          have c2 := lg_split g2
          by_cases o1 : PowOk (RN x y) K
          ·
            by_cases o2 : PowOk (RD x y) K
            ·
              refine wl rfl (ocall rfl rfl Try.call40 rfl (wrpow_p ((hzA.at hS).mono (by omega)) ((hzB.at hS).mono (by omega)) hy (hK) (o1) (o2)) (args2 (ev rfl rfl) (ev rfl rfl)) ?_)
              rintro _ w12 ⟨_, _, rfl, ⟨p3, n3, c3, p4, n4, c4, rfl, rfl⟩, hN⟩
              refine ⟨_, rfl, ?_⟩
              replace hS := hS.news hN; clear hN
              refine wl rfl (omove (v := .tuple #[.agg #[.bool (ng (RN x y ^ K)), .slice p3 n3 c3, .bool (ng (RD x y ^ K)), .slice p4 n4 c4], .int .i64 0]) rfl rfl (ev (v := .tuple #[.agg #[.bool (ng (RN x y ^ K)), .slice p3 n3 c3, .bool (ng (RD x y ^ K)), .slice p4 n4 c4], .int .i64 0]) rfl rfl) ?_)
              refine wl rfl (oextract (vs := [.agg #[.bool (ng (RN x y ^ K)), .slice p3 n3 c3, .bool (ng (RD x y ^ K)), .slice p4 n4 c4], .int .i64 0]) (v := .agg #[.bool (ng (RN x y ^ K)), .slice p3 n3 c3, .bool (ng (RD x y ^ K)), .slice p4 n4 c4]) rfl rfl (ev (v := .tuple #[.agg #[.bool (ng (RN x y ^ K)), .slice p3 n3 c3, .bool (ng (RD x y ^ K)), .slice p4 n4 c4], .int .i64 0]) rfl rfl) rfl ?_)
              refine wl rfl (oextract (vs := [.agg #[.bool (ng (RN x y ^ K)), .slice p3 n3 c3, .bool (ng (RD x y ^ K)), .slice p4 n4 c4], .int .i64 0]) (v := .int .i64 0) rfl rfl (ev (v := .tuple #[.agg #[.bool (ng (RN x y ^ K)), .slice p3 n3 c3, .bool (ng (RD x y ^ K)), .slice p4 n4 c4], .int .i64 0]) rfl rfl) rfl ?_)
              refine wl rfl (oalloc [.bool false, .slice none 0 0, .bool false, .slice none 0 0] hS rfl rfl Try.zeroValue27 rfl ?_)
              clear hS; intro g13 w14 hS
              refine wl rfl (ostore [.bool (ng (RN x y ^ K)), .slice p3 n3 c3, .bool (ng (RD x y ^ K)), .slice p4 n4 c4] [.bool (ng (RN x y ^ K)), .slice p3 n3 c3, .bool (ng (RD x y ^ K)), .slice p4 n4 c4] Try.sizeOf27 hS 0 rfl rfl (ev rfl rfl) (ev (v := .agg #[.bool (ng (RN x y ^ K)), .slice p3 n3 c3, .bool (ng (RD x y ^ K)), .slice p4 n4 c4]) rfl rfl) rfl rfl rfl rfl rfl rfl ?_)
              clear hS; intro w15 hS
              refine wl rfl (oassign (v := .int .i64 0) rfl rfl (ev (v := .int .i64 0) rfl rfl) ?_)
              refine wnil ?_
              refine thenN ?_
              refine wseq ?_
              refine wblock ?_
              refine wseq ?_
              refine wreg ?_
              refine wl rfl (oload (vs := [.bool bA, .slice qA nA kA, .bool bB, .slice qB nB kB]) aggR hS 6 rfl rfl (ev rfl rfl) rfl rfl rfl ?_)
              refine wl rfl (ocall rfl rfl Try.call11 rfl (wsmay ((hzB.at hS).mono (by omega)) (hy)) (args1 (ev rfl rfl)) ?_)
              rintro _ w16 ⟨_, _, rfl, ⟨rfl, rfl⟩, hN⟩
              refine ⟨_, rfl, ?_⟩
              replace hS := hS.news hN; clear hN
              refine wl rfl (onot (b := true) rfl rfl (ev (v := .bool true) rfl rfl) ?_)
              refine wl rfl (oassign (v := .bool false) rfl rfl (ev (v := .bool false) rfl rfl) ?_)
              refine wnil ?_
              refine thenN ?_
              refine wF (ev (v := .bool false) rfl rfl) ?_
              refine wseq ?_
              refine wreg ?_
              refine wl rfl (oload (vs := [.bool bA, .slice qA nA kA, .bool bB, .slice qB nB kB]) aggR hS 6 rfl rfl (ev rfl rfl) rfl rfl rfl ?_)
              obtain ⟨s5, hs5⟩ : ∃ z : Int, Hid ((x : Int).sign * (y : Int).sign = z) := ⟨_, rfl⟩
              refine wl rfl (ocall rfl rfl Try.call12 rfl (wssign ((hzA.at hS).mono (by omega)) ((hzB.at hS).mono (by omega)) (hy) hs5) (args1 (ev rfl rfl)) ?_)
              rintro _ w17 ⟨_, _, rfl, ⟨rfl, rfl⟩, hN⟩
              refine ⟨_, rfl, ?_⟩
              replace hS := hS.news hN; clear hN
              refine wl rfl (obin (u := .int .i64 s5) (v := .int .i64 0) (z := .bool false) rfl rfl (ev (v := .int .i64 s5) rfl rfl) (evc (v := .int .i64 0)) (bin_eql (rs_ne hs5 hx hy)) ?_)
              refine wl rfl (omove (v := .bool false) rfl rfl (ev (v := .bool false) rfl rfl) ?_)
              refine wlOff (e := 53) (d := 54) (b' := false) rfl rfl rfl rfl rfl rfl ?_
              refine wlOff (e := 53) (d := 55) (b' := false) rfl rfl rfl rfl rfl rfl ?_
              refine wl rfl (opick (b := false) (v := .bool false) rfl rfl (ev (v := .bool false) rfl rfl) (evc (v := .bool false)) ?_)
              refine wl rfl (oassign (v := .bool false) rfl rfl (ev (v := .bool false) rfl rfl) ?_)
              refine wnil ?_
              refine thenN ?_
              refine wF (ev (v := .bool false) rfl rfl) ?_
              refine wskip ?_
              refine blkN ?_
              refine thenN ?_
              refine wseq ?_
              refine wreg ?_
              refine wl rfl (oload (vs := [.bool bA, .slice qA nA kA, .bool bB, .slice qB nB kB]) aggR hS 6 rfl rfl (ev rfl rfl) rfl rfl rfl ?_)
              refine wl rfl (omove (v := .int .i64 (((K : Nat) : Int))) rfl rfl (ev (v := .int .i64 (((K : Nat) : Int))) rfl rfl) ?_)
              refine wl rfl (ocall rfl rfl Try.call41 rfl (wqrpow_p ((hzA.at hS).mono (by omega)) ((hzB.at hS).mono (by omega)) hy (hK) (o1) (o2)) (args2 (ev rfl rfl) (ev rfl rfl)) ?_)
              rintro _ w18 ⟨_, _, rfl, ⟨p6, n6, c6, p7, n7, c7, rfl, rfl⟩, hN⟩
              refine ⟨_, rfl, ?_⟩
              replace hS := hS.news hN; clear hN
              refine wl rfl (omove (v := .tuple #[.agg #[.bool (ng (RN x y ^ K)), .slice p6 n6 c6, .bool (ng (RD x y ^ K)), .slice p7 n7 c7], .bool true]) rfl rfl (ev (v := .tuple #[.agg #[.bool (ng (RN x y ^ K)), .slice p6 n6 c6, .bool (ng (RD x y ^ K)), .slice p7 n7 c7], .bool true]) rfl rfl) ?_)
              refine wl rfl (oextract (vs := [.agg #[.bool (ng (RN x y ^ K)), .slice p6 n6 c6, .bool (ng (RD x y ^ K)), .slice p7 n7 c7], .bool true]) (v := .agg #[.bool (ng (RN x y ^ K)), .slice p6 n6 c6, .bool (ng (RD x y ^ K)), .slice p7 n7 c7]) rfl rfl (ev (v := .tuple #[.agg #[.bool (ng (RN x y ^ K)), .slice p6 n6 c6, .bool (ng (RD x y ^ K)), .slice p7 n7 c7], .bool true]) rfl rfl) rfl ?_)
              refine wl rfl (oextract (vs := [.agg #[.bool (ng (RN x y ^ K)), .slice p6 n6 c6, .bool (ng (RD x y ^ K)), .slice p7 n7 c7], .bool true]) (v := .bool true) rfl rfl (ev (v := .tuple #[.agg #[.bool (ng (RN x y ^ K)), .slice p6 n6 c6, .bool (ng (RD x y ^ K)), .slice p7 n7 c7], .bool true]) rfl rfl) rfl ?_)
              refine wl rfl (oalloc [.bool false, .slice none 0 0, .bool false, .slice none 0 0] hS rfl rfl Try.zeroValue27 rfl ?_)
              clear hS; intro g19 w20 hS
              refine wl rfl (ostore [.bool (ng (RN x y ^ K)), .slice p6 n6 c6, .bool (ng (RD x y ^ K)), .slice p7 n7 c7] [.bool (ng (RN x y ^ K)), .slice p6 n6 c6, .bool (ng (RD x y ^ K)), .slice p7 n7 c7] Try.sizeOf27 hS 0 rfl rfl (ev rfl rfl) (ev (v := .agg #[.bool (ng (RN x y ^ K)), .slice p6 n6 c6, .bool (ng (RD x y ^ K)), .slice p7 n7 c7]) rfl rfl) rfl rfl rfl rfl rfl rfl ?_)
              clear hS; intro w21 hS
              refine wl rfl (oassign (v := .bool true) rfl rfl (ev (v := .bool true) rfl rfl) ?_)
              refine wnil ?_
              refine thenN ?_
              refine wseq ?_
              refine wseq ?_
              refine wreg ?_
              refine wl rfl (omove (v := .bool true) rfl rfl (ev (v := .bool true) rfl rfl) ?_)
              refine wl rfl (onot (b := true) rfl rfl (ev (v := .bool true) rfl rfl) ?_)
              refine wnil ?_
              refine thenN ?_
              refine wF (ev (v := .bool false) rfl rfl) ?_
              refine wskip ?_
              refine thenN ?_
              refine wseq ?_
              refine wreg ?_
              refine wl rfl (omove (v := .int .i64 0) rfl rfl (ev (v := .int .i64 0) rfl rfl) ?_)
              refine wl rfl (obin (u := .int .i64 0) (v := .int .i64 0) (z := .bool true) rfl rfl (ev (v := .int .i64 0) rfl rfl) (evc (v := .int .i64 0)) (bin_eql (by decide)) ?_)
              refine wl rfl (omove (v := .bool true) rfl rfl (ev (v := .bool true) rfl rfl) ?_)
              refine wlOn (e := 87) rfl rfl rfl rfl (oload (vs := [.bool (ng (RN x y ^ K)), .slice p3 n3 c3, .bool (ng (RD x y ^ K)), .slice p4 n4 c4]) aggR hS 3 rfl rfl (ev rfl rfl) rfl rfl rfl ?_)
              refine wlOn (e := 87) rfl rfl rfl rfl (oload (vs := [.bool (ng (RN x y ^ K)), .slice p6 n6 c6, .bool (ng (RD x y ^ K)), .slice p7 n7 c7]) aggR hS 0 rfl rfl (ev rfl rfl) rfl rfl rfl ?_)
              refine wlOn (e := 87) rfl rfl rfl rfl (ocall rfl rfl Try.call13 rfl (wlsame5 (x := RN x y ^ K) (y := RD x y ^ K) (u := RN x y ^ K) (v := RD x y ^ K) (hS.slm 4 rfl) (hS.slm 5 rfl) (hS.slm 1 rfl) (hS.slm 2 rfl) (rfl) (rfl)) (args2 (ev rfl rfl) (ev rfl rfl)) ?_)
              rintro _ w22 ⟨_, _, rfl, ⟨rfl, rfl⟩, hN⟩
              refine ⟨_, rfl, ?_⟩
              replace hS := hS.news hN; clear hN
              refine wl rfl (opick (b := true) (v := .bool true) rfl rfl (ev (v := .bool true) rfl rfl) (ev (v := .bool true) rfl rfl) ?_)
              refine wl rfl (omove (v := .bool true) rfl rfl (ev (v := .bool true) rfl rfl) ?_)
              refine wlOn (e := 92) rfl rfl rfl rfl (ocall rfl rfl Try.call15 rfl (wllives5) (args0 ) ?_)
              rintro _ w23 ⟨_, _, rfl, ⟨rfl, rfl⟩, hN⟩
              refine ⟨_, rfl, ?_⟩
              replace hS := hS.news hN; clear hN
              refine wl rfl (opick (b := true) (v := .bool true) rfl rfl (ev (v := .bool true) rfl rfl) (ev (v := .bool true) rfl rfl) ?_)
              refine wl rfl (oassign (v := .bool true) rfl rfl (ev (v := .bool true) rfl rfl) ?_)
              refine wnil ?_
              refine thenN ?_
              refine wleave ?_
              refine wret1 Try.results6 (tellT (v := .bool true) rfl rfl) ?_
              exact ⟨_, _, rfl, isI, hS.new0⟩
            ·
              refine wl rfl (ocall rfl rfl Try.call40 rfl (wrpow_pB ((hzA.at hS).mono (by omega)) ((hzB.at hS).mono (by omega)) hy (hK) (o1) (c2.resolve_left o2)) (args2 (ev rfl rfl) (ev rfl rfl)) ?_)
              rintro _ w12 ⟨_, _, rfl, ⟨p3, n3, c3, p4, n4, c4, rfl, rfl⟩, hN⟩
              refine ⟨_, rfl, ?_⟩
              replace hS := hS.news hN; clear hN
              refine wl rfl (omove (v := .tuple #[.agg #[.bool (ng 0), .slice p3 n3 c3, .bool (ng 0), .slice p4 n4 c4], .int .i64 4]) rfl rfl (ev (v := .tuple #[.agg #[.bool (ng 0), .slice p3 n3 c3, .bool (ng 0), .slice p4 n4 c4], .int .i64 4]) rfl rfl) ?_)
              refine wl rfl (oextract (vs := [.agg #[.bool (ng 0), .slice p3 n3 c3, .bool (ng 0), .slice p4 n4 c4], .int .i64 4]) (v := .agg #[.bool (ng 0), .slice p3 n3 c3, .bool (ng 0), .slice p4 n4 c4]) rfl rfl (ev (v := .tuple #[.agg #[.bool (ng 0), .slice p3 n3 c3, .bool (ng 0), .slice p4 n4 c4], .int .i64 4]) rfl rfl) rfl ?_)
              refine wl rfl (oextract (vs := [.agg #[.bool (ng 0), .slice p3 n3 c3, .bool (ng 0), .slice p4 n4 c4], .int .i64 4]) (v := .int .i64 4) rfl rfl (ev (v := .tuple #[.agg #[.bool (ng 0), .slice p3 n3 c3, .bool (ng 0), .slice p4 n4 c4], .int .i64 4]) rfl rfl) rfl ?_)
              refine wl rfl (oalloc [.bool false, .slice none 0 0, .bool false, .slice none 0 0] hS rfl rfl Try.zeroValue27 rfl ?_)
              clear hS; intro g13 w14 hS
              refine wl rfl (ostore [.bool (ng 0), .slice p3 n3 c3, .bool (ng 0), .slice p4 n4 c4] [.bool (ng 0), .slice p3 n3 c3, .bool (ng 0), .slice p4 n4 c4] Try.sizeOf27 hS 0 rfl rfl (ev rfl rfl) (ev (v := .agg #[.bool (ng 0), .slice p3 n3 c3, .bool (ng 0), .slice p4 n4 c4]) rfl rfl) rfl rfl rfl rfl rfl rfl ?_)
              clear hS; intro w15 hS
              refine wl rfl (oassign (v := .int .i64 4) rfl rfl (ev (v := .int .i64 4) rfl rfl) ?_)
              refine wnil ?_
              refine thenN ?_
              refine wseq ?_
              refine wblock ?_
              refine wseq ?_
              refine wreg ?_
              refine wl rfl (oload (vs := [.bool bA, .slice qA nA kA, .bool bB, .slice qB nB kB]) aggR hS 6 rfl rfl (ev rfl rfl) rfl rfl rfl ?_)
              refine wl rfl (ocall rfl rfl Try.call11 rfl (wsmay ((hzB.at hS).mono (by omega)) (hy)) (args1 (ev rfl rfl)) ?_)
              rintro _ w16 ⟨_, _, rfl, ⟨rfl, rfl⟩, hN⟩
              refine ⟨_, rfl, ?_⟩
              replace hS := hS.news hN; clear hN
              refine wl rfl (onot (b := true) rfl rfl (ev (v := .bool true) rfl rfl) ?_)
              refine wl rfl (oassign (v := .bool false) rfl rfl (ev (v := .bool false) rfl rfl) ?_)
              refine wnil ?_
              refine thenN ?_
              refine wF (ev (v := .bool false) rfl rfl) ?_
              refine wseq ?_
              refine wreg ?_
              refine wl rfl (oload (vs := [.bool bA, .slice qA nA kA, .bool bB, .slice qB nB kB]) aggR hS 6 rfl rfl (ev rfl rfl) rfl rfl rfl ?_)
              obtain ⟨s5, hs5⟩ : ∃ z : Int, Hid ((x : Int).sign * (y : Int).sign = z) := ⟨_, rfl⟩
              refine wl rfl (ocall rfl rfl Try.call12 rfl (wssign ((hzA.at hS).mono (by omega)) ((hzB.at hS).mono (by omega)) (hy) hs5) (args1 (ev rfl rfl)) ?_)
              rintro _ w17 ⟨_, _, rfl, ⟨rfl, rfl⟩, hN⟩
              refine ⟨_, rfl, ?_⟩
              replace hS := hS.news hN; clear hN
              refine wl rfl (obin (u := .int .i64 s5) (v := .int .i64 0) (z := .bool false) rfl rfl (ev (v := .int .i64 s5) rfl rfl) (evc (v := .int .i64 0)) (bin_eql (rs_ne hs5 hx hy)) ?_)
              refine wl rfl (omove (v := .bool false) rfl rfl (ev (v := .bool false) rfl rfl) ?_)
              refine wlOff (e := 53) (d := 54) (b' := false) rfl rfl rfl rfl rfl rfl ?_
              refine wlOff (e := 53) (d := 55) (b' := false) rfl rfl rfl rfl rfl rfl ?_
              refine wl rfl (opick (b := false) (v := .bool false) rfl rfl (ev (v := .bool false) rfl rfl) (evc (v := .bool false)) ?_)
              refine wl rfl (oassign (v := .bool false) rfl rfl (ev (v := .bool false) rfl rfl) ?_)
              refine wnil ?_
              refine thenN ?_
              refine wF (ev (v := .bool false) rfl rfl) ?_
              refine wskip ?_
              refine blkN ?_
              refine thenN ?_
              refine wseq ?_
              refine wreg ?_
              refine wl rfl (oload (vs := [.bool bA, .slice qA nA kA, .bool bB, .slice qB nB kB]) aggR hS 6 rfl rfl (ev rfl rfl) rfl rfl rfl ?_)
              refine wl rfl (omove (v := .int .i64 (((K : Nat) : Int))) rfl rfl (ev (v := .int .i64 (((K : Nat) : Int))) rfl rfl) ?_)
              refine wl rfl (ocall rfl rfl Try.call41 rfl (wqrpow_pB ((hzA.at hS).mono (by omega)) ((hzB.at hS).mono (by omega)) hy (hK) (o1) (c2.resolve_left o2)) (args2 (ev rfl rfl) (ev rfl rfl)) ?_)
              rintro _ w18 ⟨_, _, rfl, ⟨rfl, rfl⟩, hN⟩
              refine ⟨_, rfl, ?_⟩
              replace hS := hS.news hN; clear hN
              refine wl rfl (omove (v := .tuple #[.agg #[.bool false, .slice none 0 0, .bool false, .slice none 0 0], .bool false]) rfl rfl (ev (v := .tuple #[.agg #[.bool false, .slice none 0 0, .bool false, .slice none 0 0], .bool false]) rfl rfl) ?_)
              refine wl rfl (oextract (vs := [.agg #[.bool false, .slice none 0 0, .bool false, .slice none 0 0], .bool false]) (v := .agg #[.bool false, .slice none 0 0, .bool false, .slice none 0 0]) rfl rfl (ev (v := .tuple #[.agg #[.bool false, .slice none 0 0, .bool false, .slice none 0 0], .bool false]) rfl rfl) rfl ?_)
              refine wl rfl (oextract (vs := [.agg #[.bool false, .slice none 0 0, .bool false, .slice none 0 0], .bool false]) (v := .bool false) rfl rfl (ev (v := .tuple #[.agg #[.bool false, .slice none 0 0, .bool false, .slice none 0 0], .bool false]) rfl rfl) rfl ?_)
              refine wl rfl (oalloc [.bool false, .slice none 0 0, .bool false, .slice none 0 0] hS rfl rfl Try.zeroValue27 rfl ?_)
              clear hS; intro g19 w20 hS
              refine wl rfl (ostore [.bool false, .slice none 0 0, .bool false, .slice none 0 0] [.bool false, .slice none 0 0, .bool false, .slice none 0 0] Try.sizeOf27 hS 0 rfl rfl (ev rfl rfl) (ev (v := .agg #[.bool false, .slice none 0 0, .bool false, .slice none 0 0]) rfl rfl) rfl rfl rfl rfl rfl rfl ?_)
              clear hS; intro w21 hS
              refine wl rfl (oassign (v := .bool false) rfl rfl (ev (v := .bool false) rfl rfl) ?_)
              refine wnil ?_
              refine thenN ?_
              refine wseq ?_
              refine wseq ?_
              refine wreg ?_
              refine wl rfl (omove (v := .bool false) rfl rfl (ev (v := .bool false) rfl rfl) ?_)
              refine wl rfl (onot (b := false) rfl rfl (ev (v := .bool false) rfl rfl) ?_)
              refine wnil ?_
              refine thenN ?_
              refine wT (ev (v := .bool true) rfl rfl) ?_
              refine wseq ?_
              refine wreg ?_
              refine wl rfl (omove (v := .int .i64 4) rfl rfl (ev (v := .int .i64 4) rfl rfl) ?_)
              refine wl rfl (obin (u := .int .i64 4) (v := .int .i64 4) (z := .bool true) rfl rfl (ev (v := .int .i64 4) rfl rfl) (evc (v := .int .i64 4)) (bin_eql (by decide)) ?_)
              refine wl rfl (omove (v := .bool true) rfl rfl (ev (v := .bool true) rfl rfl) ?_)
              refine wlOn (e := 77) rfl rfl rfl rfl (oload (vs := [.bool (ng 0), .slice p3 n3 c3, .bool (ng 0), .slice p4 n4 c4]) aggR hS 1 rfl rfl (ev rfl rfl) rfl rfl rfl ?_)
              refine wlOn (e := 77) rfl rfl rfl rfl (obuild (ps := #[]) (v := .agg #[.bool false, .slice none 0 0, .bool false, .slice none 0 0]) rfl rfl (parts0) (fun w => by simp [go_sem, Instr.build, Instr.fill]) ?_)
              refine wlOn (e := 77) rfl rfl rfl rfl (ocall rfl rfl Try.call13 rfl (wlsame5 (x := 0) (y := 0) (u := 0) (v := 0) (hS.slm 2 rfl) (hS.slm 3 rfl) (Sl.nil _) (Sl.nil _) (rfl) (rfl)) (args2 (ev rfl rfl) (ev rfl rfl)) ?_)
              rintro _ w22 ⟨_, _, rfl, ⟨rfl, rfl⟩, hN⟩
              refine ⟨_, rfl, ?_⟩
              replace hS := hS.news hN; clear hN
              refine wl rfl (opick (b := true) (v := .bool true) rfl rfl (ev (v := .bool true) rfl rfl) (ev (v := .bool true) rfl rfl) ?_)
              refine wl rfl (omove (v := .bool true) rfl rfl (ev (v := .bool true) rfl rfl) ?_)
              refine wlOn (e := 82) rfl rfl rfl rfl (ocall rfl rfl Try.call15 rfl (wllives5) (args0 ) ?_)
              rintro _ w23 ⟨_, _, rfl, ⟨rfl, rfl⟩, hN⟩
              refine ⟨_, rfl, ?_⟩
              replace hS := hS.news hN; clear hN
              refine wl rfl (opick (b := true) (v := .bool true) rfl rfl (ev (v := .bool true) rfl rfl) (ev (v := .bool true) rfl rfl) ?_)
              refine wl rfl (oassign (v := .bool true) rfl rfl (ev (v := .bool true) rfl rfl) ?_)
              refine wnil ?_
              refine thenN ?_
              refine wleave ?_
              refine thenR ?_
              refine wret1 Try.results6 (tellT (v := .bool true) rfl rfl) ?_
              exact ⟨_, _, rfl, isI, hS.new0⟩
          ·
            refine wl rfl (ocall rfl rfl Try.call40 rfl (wrpow_pA ((hzA.at hS).mono (by omega)) ((hzB.at hS).mono (by omega)) hy (hK) (c1.resolve_left o1)) (args2 (ev rfl rfl) (ev rfl rfl)) ?_)
            rintro _ w12 ⟨_, _, rfl, ⟨p3, n3, c3, p4, n4, c4, rfl, rfl⟩, hN⟩
            refine ⟨_, rfl, ?_⟩
            replace hS := hS.news hN; clear hN
            refine wl rfl (omove (v := .tuple #[.agg #[.bool (ng 0), .slice p3 n3 c3, .bool (ng 0), .slice p4 n4 c4], .int .i64 4]) rfl rfl (ev (v := .tuple #[.agg #[.bool (ng 0), .slice p3 n3 c3, .bool (ng 0), .slice p4 n4 c4], .int .i64 4]) rfl rfl) ?_)
            refine wl rfl (oextract (vs := [.agg #[.bool (ng 0), .slice p3 n3 c3, .bool (ng 0), .slice p4 n4 c4], .int .i64 4]) (v := .agg #[.bool (ng 0), .slice p3 n3 c3, .bool (ng 0), .slice p4 n4 c4]) rfl rfl (ev (v := .tuple #[.agg #[.bool (ng 0), .slice p3 n3 c3, .bool (ng 0), .slice p4 n4 c4], .int .i64 4]) rfl rfl) rfl ?_)
            refine wl rfl (oextract (vs := [.agg #[.bool (ng 0), .slice p3 n3 c3, .bool (ng 0), .slice p4 n4 c4], .int .i64 4]) (v := .int .i64 4) rfl rfl (ev (v := .tuple #[.agg #[.bool (ng 0), .slice p3 n3 c3, .bool (ng 0), .slice p4 n4 c4], .int .i64 4]) rfl rfl) rfl ?_)
            refine wl rfl (oalloc [.bool false, .slice none 0 0, .bool false, .slice none 0 0] hS rfl rfl Try.zeroValue27 rfl ?_)
            clear hS; intro g13 w14 hS
            refine wl rfl (ostore [.bool (ng 0), .slice p3 n3 c3, .bool (ng 0), .slice p4 n4 c4] [.bool (ng 0), .slice p3 n3 c3, .bool (ng 0), .slice p4 n4 c4] Try.sizeOf27 hS 0 rfl rfl (ev rfl rfl) (ev (v := .agg #[.bool (ng 0), .slice p3 n3 c3, .bool (ng 0), .slice p4 n4 c4]) rfl rfl) rfl rfl rfl rfl rfl rfl ?_)
            clear hS; intro w15 hS
            refine wl rfl (oassign (v := .int .i64 4) rfl rfl (ev (v := .int .i64 4) rfl rfl) ?_)
            refine wnil ?_
            refine thenN ?_
            refine wseq ?_
            refine wblock ?_
            refine wseq ?_
            refine wreg ?_
            refine wl rfl (oload (vs := [.bool bA, .slice qA nA kA, .bool bB, .slice qB nB kB]) aggR hS 6 rfl rfl (ev rfl rfl) rfl rfl rfl ?_)
            refine wl rfl (ocall rfl rfl Try.call11 rfl (wsmay ((hzB.at hS).mono (by omega)) (hy)) (args1 (ev rfl rfl)) ?_)
            rintro _ w16 ⟨_, _, rfl, ⟨rfl, rfl⟩, hN⟩
            refine ⟨_, rfl, ?_⟩
            replace hS := hS.news hN; clear hN
            refine wl rfl (onot (b := true) rfl rfl (ev (v := .bool true) rfl rfl) ?_)
            refine wl rfl (oassign (v := .bool false) rfl rfl (ev (v := .bool false) rfl rfl) ?_)
            refine wnil ?_
            refine thenN ?_
            refine wF (ev (v := .bool false) rfl rfl) ?_
            refine wseq ?_
            refine wreg ?_
            refine wl rfl (oload (vs := [.bool bA, .slice qA nA kA, .bool bB, .slice qB nB kB]) aggR hS 6 rfl rfl (ev rfl rfl) rfl rfl rfl ?_)
            obtain ⟨s5, hs5⟩ : ∃ z : Int, Hid ((x : Int).sign * (y : Int).sign = z) := ⟨_, rfl⟩
            refine wl rfl (ocall rfl rfl Try.call12 rfl (wssign ((hzA.at hS).mono (by omega)) ((hzB.at hS).mono (by omega)) (hy) hs5) (args1 (ev rfl rfl)) ?_)
            rintro _ w17 ⟨_, _, rfl, ⟨rfl, rfl⟩, hN⟩
            refine ⟨_, rfl, ?_⟩
            replace hS := hS.news hN; clear hN
            refine wl rfl (obin (u := .int .i64 s5) (v := .int .i64 0) (z := .bool false) rfl rfl (ev (v := .int .i64 s5) rfl rfl) (evc (v := .int .i64 0)) (bin_eql (rs_ne hs5 hx hy)) ?_)
            refine wl rfl (omove (v := .bool false) rfl rfl (ev (v := .bool false) rfl rfl) ?_)
            refine wlOff (e := 53) (d := 54) (b' := false) rfl rfl rfl rfl rfl rfl ?_
            refine wlOff (e := 53) (d := 55) (b' := false) rfl rfl rfl rfl rfl rfl ?_
            refine wl rfl (opick (b := false) (v := .bool false) rfl rfl (ev (v := .bool false) rfl rfl) (evc (v := .bool false)) ?_)
            refine wl rfl (oassign (v := .bool false) rfl rfl (ev (v := .bool false) rfl rfl) ?_)
            refine wnil ?_
            refine thenN ?_
            refine wF (ev (v := .bool false) rfl rfl) ?_
            refine wskip ?_
            refine blkN ?_
            refine thenN ?_
            refine wseq ?_
            refine wreg ?_
            refine wl rfl (oload (vs := [.bool bA, .slice qA nA kA, .bool bB, .slice qB nB kB]) aggR hS 6 rfl rfl (ev rfl rfl) rfl rfl rfl ?_)
            refine wl rfl (omove (v := .int .i64 (((K : Nat) : Int))) rfl rfl (ev (v := .int .i64 (((K : Nat) : Int))) rfl rfl) ?_)
            refine wl rfl (ocall rfl rfl Try.call41 rfl (wqrpow_pA ((hzA.at hS).mono (by omega)) ((hzB.at hS).mono (by omega)) hy (hK) (c1.resolve_left o1) (c2)) (args2 (ev rfl rfl) (ev rfl rfl)) ?_)
            rintro _ w18 ⟨_, _, rfl, ⟨rfl, rfl⟩, hN⟩
            refine ⟨_, rfl, ?_⟩
            replace hS := hS.news hN; clear hN
            refine wl rfl (omove (v := .tuple #[.agg #[.bool false, .slice none 0 0, .bool false, .slice none 0 0], .bool false]) rfl rfl (ev (v := .tuple #[.agg #[.bool false, .slice none 0 0, .bool false, .slice none 0 0], .bool false]) rfl rfl) ?_)
            refine wl rfl (oextract (vs := [.agg #[.bool false, .slice none 0 0, .bool false, .slice none 0 0], .bool false]) (v := .agg #[.bool false, .slice none 0 0, .bool false, .slice none 0 0]) rfl rfl (ev (v := .tuple #[.agg #[.bool false, .slice none 0 0, .bool false, .slice none 0 0], .bool false]) rfl rfl) rfl ?_)
            refine wl rfl (oextract (vs := [.agg #[.bool false, .slice none 0 0, .bool false, .slice none 0 0], .bool false]) (v := .bool false) rfl rfl (ev (v := .tuple #[.agg #[.bool false, .slice none 0 0, .bool false, .slice none 0 0], .bool false]) rfl rfl) rfl ?_)
            refine wl rfl (oalloc [.bool false, .slice none 0 0, .bool false, .slice none 0 0] hS rfl rfl Try.zeroValue27 rfl ?_)
            clear hS; intro g19 w20 hS
            refine wl rfl (ostore [.bool false, .slice none 0 0, .bool false, .slice none 0 0] [.bool false, .slice none 0 0, .bool false, .slice none 0 0] Try.sizeOf27 hS 0 rfl rfl (ev rfl rfl) (ev (v := .agg #[.bool false, .slice none 0 0, .bool false, .slice none 0 0]) rfl rfl) rfl rfl rfl rfl rfl rfl ?_)
            clear hS; intro w21 hS
            refine wl rfl (oassign (v := .bool false) rfl rfl (ev (v := .bool false) rfl rfl) ?_)
            refine wnil ?_
            refine thenN ?_
            refine wseq ?_
            refine wseq ?_
            refine wreg ?_
            refine wl rfl (omove (v := .bool false) rfl rfl (ev (v := .bool false) rfl rfl) ?_)
            refine wl rfl (onot (b := false) rfl rfl (ev (v := .bool false) rfl rfl) ?_)
            refine wnil ?_
            refine thenN ?_
            refine wT (ev (v := .bool true) rfl rfl) ?_
            refine wseq ?_
            refine wreg ?_
            refine wl rfl (omove (v := .int .i64 4) rfl rfl (ev (v := .int .i64 4) rfl rfl) ?_)
            refine wl rfl (obin (u := .int .i64 4) (v := .int .i64 4) (z := .bool true) rfl rfl (ev (v := .int .i64 4) rfl rfl) (evc (v := .int .i64 4)) (bin_eql (by decide)) ?_)
            refine wl rfl (omove (v := .bool true) rfl rfl (ev (v := .bool true) rfl rfl) ?_)
            refine wlOn (e := 77) rfl rfl rfl rfl (oload (vs := [.bool (ng 0), .slice p3 n3 c3, .bool (ng 0), .slice p4 n4 c4]) aggR hS 1 rfl rfl (ev rfl rfl) rfl rfl rfl ?_)
            refine wlOn (e := 77) rfl rfl rfl rfl (obuild (ps := #[]) (v := .agg #[.bool false, .slice none 0 0, .bool false, .slice none 0 0]) rfl rfl (parts0) (fun w => by simp [go_sem, Instr.build, Instr.fill]) ?_)
            refine wlOn (e := 77) rfl rfl rfl rfl (ocall rfl rfl Try.call13 rfl (wlsame5 (x := 0) (y := 0) (u := 0) (v := 0) (hS.slm 2 rfl) (hS.slm 3 rfl) (Sl.nil _) (Sl.nil _) (rfl) (rfl)) (args2 (ev rfl rfl) (ev rfl rfl)) ?_)
            rintro _ w22 ⟨_, _, rfl, ⟨rfl, rfl⟩, hN⟩
            refine ⟨_, rfl, ?_⟩
            replace hS := hS.news hN; clear hN
            refine wl rfl (opick (b := true) (v := .bool true) rfl rfl (ev (v := .bool true) rfl rfl) (ev (v := .bool true) rfl rfl) ?_)
            refine wl rfl (omove (v := .bool true) rfl rfl (ev (v := .bool true) rfl rfl) ?_)
            refine wlOn (e := 82) rfl rfl rfl rfl (ocall rfl rfl Try.call15 rfl (wllives5) (args0 ) ?_)
            rintro _ w23 ⟨_, _, rfl, ⟨rfl, rfl⟩, hN⟩
            refine ⟨_, rfl, ?_⟩
            replace hS := hS.news hN; clear hN
            refine wl rfl (opick (b := true) (v := .bool true) rfl rfl (ev (v := .bool true) rfl rfl) (ev (v := .bool true) rfl rfl) ?_)
            refine wl rfl (oassign (v := .bool true) rfl rfl (ev (v := .bool true) rfl rfl) ?_)
            refine wnil ?_
            refine thenN ?_
            refine wleave ?_
            refine thenR ?_
            refine wret1 Try.results6 (tellT (v := .bool true) rfl rfl) ?_
            exact ⟨_, _, rfl, isI, hS.new0⟩

set_option maxRecDepth 100000 in
set_option maxHeartbeats 16000000 in
theorem rpowers_n {x y : Int} {K : Nat} {bA bB : Bool} {qA qB : Option Addr} {nA kA nB kB : Nat} {w : World} (hzA : Zr w bA qA nA kA x 1048576) (hzB : Zr w bB qB nB kB y 1048576) (hK : K ≤ 9223372036854775807) (hK0 : 0 < K) :
    Calls Try.prog 6 #[.agg #[.bool bA, .slice qA nA kA, .bool bB, .slice qB nB kB], .int .i64 ((-((K : Nat) : Int)))] w (Ret (Is (.bool true)) w) := by
  have hS := Sep.init w
  refine went Try.func6 rfl (n := 95) rfl rfl ?_
  refine wseq ?_
  refine wreg ?_
  refine wl rfl (obox [.bool bA, .slice qA nA kA, .bool bB, .slice qB nB kB] hS rfl rfl (ev (v := .agg #[.bool bA, .slice qA nA kA, .bool bB, .slice qB nB kB]) rfl rfl) rfl ?_)
  clear hS; intro g1 w2 hS
  refine wl rfl (oassign (v := .bool false) rfl rfl (evc (v := .bool false)) ?_)
  refine wnil ?_
  refine thenN ?_
  refine wseq ?_
  refine wseq ?_
  refine wreg ?_
  refine wl rfl (oload (vs := [.bool bA, .slice qA nA kA, .bool bB, .slice qB nB kB]) aggR hS 0 rfl rfl (ev rfl rfl) rfl rfl rfl ?_)
  by_cases hy : y = 0
  ·
    refine wl rfl (ocall rfl rfl Try.call11 rfl (wsmay0 ((hzB.at hS).mono (by omega)) (hy)) (args1 (ev rfl rfl)) ?_)
    rintro _ w3 ⟨_, _, rfl, ⟨rfl, rfl⟩, hN⟩
    refine ⟨_, rfl, ?_⟩
    replace hS := hS.news hN; clear hN
    refine wnil ?_
    refine thenN ?_
    refine wF (ev (v := .bool false) rfl rfl) ?_
    refine wskip ?_
    refine thenN ?_
    refine wseq ?_
    refine wreg ?_
    refine wl rfl (oload (vs := [.bool bA, .slice qA nA kA, .bool bB, .slice qB nB kB]) aggR hS 0 rfl rfl (ev rfl rfl) rfl rfl rfl ?_)
    refine wl rfl (omove (v := .int .i64 ((-((K : Nat) : Int)))) rfl rfl (ev (v := .int .i64 ((-((K : Nat) : Int)))) rfl rfl) ?_)
    refine wl rfl (ocall rfl rfl Try.call40 rfl (wrpow0 ((hzA.at hS).mono (by omega)) ((hzB.at hS).mono (by omega)) (hy)) (args2 (ev rfl rfl) (ev rfl rfl)) ?_)
    rintro _ w4 ⟨_, _, rfl, ⟨rfl, rfl⟩, hN⟩
    refine ⟨_, rfl, ?_⟩
    replace hS := hS.news hN; clear hN
    refine wl rfl (omove (v := .tuple #[.agg #[.bool false, .slice none 0 0, .bool false, .slice none 0 0], .int .i64 6]) rfl rfl (ev (v := .tuple #[.agg #[.bool false, .slice none 0 0, .bool false, .slice none 0 0], .int .i64 6]) rfl rfl) ?_)
    refine wl rfl (oextract (vs := [.agg #[.bool false, .slice none 0 0, .bool false, .slice none 0 0], .int .i64 6]) (v := .agg #[.bool false, .slice none 0 0, .bool false, .slice none 0 0]) rfl rfl (ev (v := .tuple #[.agg #[.bool false, .slice none 0 0, .bool false, .slice none 0 0], .int .i64 6]) rfl rfl) rfl ?_)
    refine wl rfl (oextract (vs := [.agg #[.bool false, .slice none 0 0, .bool false, .slice none 0 0], .int .i64 6]) (v := .int .i64 6) rfl rfl (ev (v := .tuple #[.agg #[.bool false, .slice none 0 0, .bool false, .slice none 0 0], .int .i64 6]) rfl rfl) rfl ?_)
    refine wl rfl (oalloc [.bool false, .slice none 0 0, .bool false, .slice none 0 0] hS rfl rfl Try.zeroValue27 rfl ?_)
    clear hS; intro g5 w6 hS
    refine wl rfl (ostore [.bool false, .slice none 0 0, .bool false, .slice none 0 0] [.bool false, .slice none 0 0, .bool false, .slice none 0 0] Try.sizeOf27 hS 0 rfl rfl (ev rfl rfl) (ev (v := .agg #[.bool false, .slice none 0 0, .bool false, .slice none 0 0]) rfl rfl) rfl rfl rfl rfl rfl rfl ?_)
    clear hS; intro w7 hS
    refine wl rfl (oassign (v := .int .i64 6) rfl rfl (ev (v := .int .i64 6) rfl rfl) ?_)
    refine wnil ?_
    refine thenN ?_
    refine wseq ?_
    refine wblock ?_
    refine wseq ?_
    refine wreg ?_
    refine wl rfl (oload (vs := [.bool bA, .slice qA nA kA, .bool bB, .slice qB nB kB]) aggR hS 1 rfl rfl (ev rfl rfl) rfl rfl rfl ?_)
    refine wl rfl (ocall rfl rfl Try.call11 rfl (wsmay0 ((hzB.at hS).mono (by omega)) (hy)) (args1 (ev rfl rfl)) ?_)
    rintro _ w8 ⟨_, _, rfl, ⟨rfl, rfl⟩, hN⟩
    refine ⟨_, rfl, ?_⟩
    replace hS := hS.news hN; clear hN
    refine wl rfl (onot (b := false) rfl rfl (ev (v := .bool false) rfl rfl) ?_)
    refine wl rfl (oassign (v := .bool true) rfl rfl (ev (v := .bool true) rfl rfl) ?_)
    refine wnil ?_
    refine thenN ?_
    refine wT (ev (v := .bool true) rfl rfl) ?_
    refine wseq ?_
    refine wreg ?_
    refine wl rfl (omove (v := .int .i64 6) rfl rfl (ev (v := .int .i64 6) rfl rfl) ?_)
    refine wl rfl (obin (u := .int .i64 6) (v := .int .i64 6) (z := .bool true) rfl rfl (ev (v := .int .i64 6) rfl rfl) (evc (v := .int .i64 6)) (bin_eql (by decide)) ?_)
    refine wl rfl (omove (v := .bool true) rfl rfl (ev (v := .bool true) rfl rfl) ?_)
    refine wlOn (e := 41) rfl rfl rfl rfl (oload (vs := [.bool false, .slice none 0 0, .bool false, .slice none 0 0]) aggR hS 0 rfl rfl (ev rfl rfl) rfl rfl rfl ?_)
    refine wlOn (e := 41) rfl rfl rfl rfl (obuild (ps := #[]) (v := .agg #[.bool false, .slice none 0 0, .bool false, .slice none 0 0]) rfl rfl (parts0) (fun w => by simp [go_sem, Instr.build, Instr.fill]) ?_)
    refine wlOn (e := 41) rfl rfl rfl rfl (ocall rfl rfl Try.call13 rfl (wlsame5 (x := 0) (y := 0) (u := 0) (v := 0) (Sl.nil _) (Sl.nil _) (Sl.nil _) (Sl.nil _) (rfl) (rfl)) (args2 (ev rfl rfl) (ev rfl rfl)) ?_)
    rintro _ w9 ⟨_, _, rfl, ⟨rfl, rfl⟩, hN⟩
    refine ⟨_, rfl, ?_⟩
    replace hS := hS.news hN; clear hN
    refine wl rfl (opick (b := true) (v := .bool true) rfl rfl (ev (v := .bool true) rfl rfl) (ev (v := .bool true) rfl rfl) ?_)
    refine wl rfl (omove (v := .bool true) rfl rfl (ev (v := .bool true) rfl rfl) ?_)
    refine wlOn (e := 46) rfl rfl rfl rfl (ocall rfl rfl Try.call15 rfl (wllives5) (args0 ) ?_)
    rintro _ w10 ⟨_, _, rfl, ⟨rfl, rfl⟩, hN⟩
    refine ⟨_, rfl, ?_⟩
    replace hS := hS.news hN; clear hN
    refine wl rfl (opick (b := true) (v := .bool true) rfl rfl (ev (v := .bool true) rfl rfl) (ev (v := .bool true) rfl rfl) ?_)
    refine wl rfl (oassign (v := .bool true) rfl rfl (ev (v := .bool true) rfl rfl) ?_)
    refine wnil ?_
    refine thenN ?_
    refine wleave ?_
    refine blkR ?_
    refine thenR ?_
    refine wret1 Try.results6 (tellT (v := .bool true) rfl rfl) ?_
    exact ⟨_, _, rfl, isI, hS.new0⟩
  ·
    by_cases hx : x = 0
    ·
      refine wl rfl (ocall rfl rfl Try.call11 rfl (wsmay ((hzB.at hS).mono (by omega)) (hy)) (args1 (ev rfl rfl)) ?_)
      rintro _ w3 ⟨_, _, rfl, ⟨rfl, rfl⟩, hN⟩
      refine ⟨_, rfl, ?_⟩
      replace hS := hS.news hN; clear hN
      refine wnil ?_
      refine thenN ?_
      refine wT (ev (v := .bool true) rfl rfl) ?_
      refine wseq ?_
      refine wreg ?_
      refine wl rfl (oload (vs := [.bool bA, .slice qA nA kA, .bool bB, .slice qB nB kB]) aggR hS 0 rfl rfl (ev rfl rfl) rfl rfl rfl ?_)
      obtain ⟨z1, hz1⟩ : ∃ z : Int, Hid (RN x y = z) := ⟨_, rfl⟩
      have hk1 : Wd z1 1048576 := Wd.rn hzA.wd hz1
      obtain ⟨z2, hz2⟩ : ∃ z : Int, Hid (RD x y = z) := ⟨_, rfl⟩
      have hk2 : Wd z2 1048576 := Wd.rd hzB.wd hz2
      refine wl rfl (ocall rfl rfl Try.call37 rfl ((wsnorm ((hzA.at hS).mono (by omega)) ((hzB.at hS).mono (by omega)) (hy) hz1 hz2)) (args1 (ev rfl rfl)) ?_)
      rintro _ w4 ⟨_, _, rfl, ⟨p1, n1, c1, p2, n2, c2, rfl, rfl⟩, hN⟩
      refine ⟨_, rfl, ?_⟩
      replace hS := hS.news hN; clear hN
      refine wl rfl (oalloc [.bool false, .slice none 0 0, .bool false, .slice none 0 0] hS rfl rfl Try.zeroValue27 rfl ?_)
      clear hS; intro g5 w6 hS
      refine wl rfl (ostore [.bool (ng z1), .slice p1 n1 c1, .bool (ng z2), .slice p2 n2 c2] [.bool (ng z1), .slice p1 n1 c1, .bool (ng z2), .slice p2 n2 c2] Try.sizeOf27 hS 0 rfl rfl (ev rfl rfl) (ev (v := .agg #[.bool (ng z1), .slice p1 n1 c1, .bool (ng z2), .slice p2 n2 c2]) rfl rfl) rfl rfl rfl rfl rfl rfl ?_)
      clear hS; intro w7 hS
      refine wnil ?_
      refine thenN ?_
      refine wseq ?_
      refine wreg ?_
      refine wl rfl (ofieldAddr (g := g5) (off := 0) 0 rfl rfl (ev (v := .pointer (some ⟨g5, 0, none⟩)) rfl rfl) Try.runUnderlying27 rfl Try.sizeOf25 rfl ?_)
      refine wl rfl (ofieldAddr (g := g5) (off := 0) 1 rfl rfl (ev (v := .pointer (some ⟨g5, 0, none⟩)) rfl rfl) Try.runUnderlying25 rfl Try.sizeOf23 rfl ?_)
      refine wl rfl (oload1 (v := .slice p1 n1 c1) oneN hS 0 rfl rfl (ev rfl rfl) rfl rfl ?_)
      refine wl rfl (ocall rfl rfl Try.call39 rfl (wrlen (z := z1) (hS.slm 1 rfl) (hk1.mono (by omega))) (args1 (ev rfl rfl)) ?_)
      rintro _ w8 ⟨_, _, rfl, ⟨rfl, rfl⟩, hN⟩
      refine ⟨_, rfl, ?_⟩
      replace hS := hS.news hN; clear hN
      refine wl rfl (omove (v := .int .i64 ((-((K : Nat) : Int)))) rfl rfl (ev (v := .int .i64 ((-((K : Nat) : Int)))) rfl rfl) ?_)
      by_cases g1 : Lg (blen (RN x y).natAbs) K
      ·
        refine wl rfl (ocall rfl rfl Try.call38 rfl (wlong_n1 (B := blen z1.natAbs) (K := K) (by have := blen_wd hk1; omega) hK hK0 (by rw [← hz1.out]; exact g1)) (args2 (ev rfl rfl) (ev rfl rfl)) ?_)
        rintro _ w9 ⟨_, _, rfl, ⟨rfl, rfl⟩, hN⟩
        refine ⟨_, rfl, ?_⟩
        replace hS := hS.news hN; clear hN
        refine wl rfl (omove (v := .bool true) rfl rfl (ev (v := .bool true) rfl rfl) ?_)
        refine wlOff (e := 20) (d := 21) (b' := true) rfl rfl rfl rfl rfl rfl ?_
        refine wlOff (e := 20) (d := 22) (b' := true) rfl rfl rfl rfl rfl rfl ?_
        refine wlOff (e := 20) (d := 23) (b' := true) rfl rfl rfl rfl rfl rfl ?_
        refine wlOff (e := 20) (d := 24) (b' := true) rfl rfl rfl rfl rfl rfl ?_
        refine wlOff (e := 20) (d := 25) (b' := true) rfl rfl rfl rfl rfl rfl ?_
        refine wlOff (e := 20) (d := 26) (b' := true) rfl rfl rfl rfl rfl rfl ?_
        refine wl rfl (opick (b := true) (v := .bool true) rfl rfl (ev (v := .bool true) rfl rfl) (evc (v := .bool true)) ?_)
        refine wnil ?_
        refine thenN ?_
        refine wT (ev (v := .bool true) rfl rfl) ?_
        refine wseq ?_
        refine wreg ?_
        refine wl rfl (ocall rfl rfl Try.call15 rfl (wllives5) (args0 ) ?_)
        rintro _ w10 ⟨_, _, rfl, ⟨rfl, rfl⟩, hN⟩
        refine ⟨_, rfl, ?_⟩
        replace hS := hS.news hN; clear hN
        refine wl rfl (oassign (v := .bool true) rfl rfl (ev (v := .bool true) rfl rfl) ?_)
        refine wnil ?_
        refine thenN ?_
        refine wleave ?_
        refine thenR ?_
        refine wret1 Try.results6 (tellT (v := .bool true) rfl rfl) ?_
        exact ⟨_, _, rfl, isI, hS.new0⟩
      ·
        refine wl rfl (ocall rfl rfl Try.call38 rfl (wlong_n0 (B := blen z1.natAbs) (K := K) (by have := blen_wd hk1; omega) hK hK0 (by rw [← hz1.out]; exact g1)) (args2 (ev rfl rfl) (ev rfl rfl)) ?_)
        rintro _ w9 ⟨_, _, rfl, ⟨rfl, rfl⟩, hN⟩
        refine ⟨_, rfl, ?_⟩
        replace hS := hS.news hN; clear hN
        refine wl rfl (omove (v := .bool false) rfl rfl (ev (v := .bool false) rfl rfl) ?_)
        refine wlOn (e := 20) rfl rfl rfl rfl (ofieldAddr (g := g5) (off := 0) 2 rfl rfl (ev (v := .pointer (some ⟨g5, 0, none⟩)) rfl rfl) Try.runUnderlying27 rfl Try.sizeOf25 rfl ?_)
        refine wlOn (e := 20) rfl rfl rfl rfl (ofieldAddr (g := g5) (off := 2) 3 rfl rfl (ev (v := .pointer (some ⟨g5, 2, none⟩)) rfl rfl) Try.runUnderlying25 rfl Try.sizeOf23 rfl ?_)
        refine wlOn (e := 20) rfl rfl rfl rfl (oload1 (v := .slice p2 n2 c2) oneN hS 0 rfl rfl (ev rfl rfl) rfl rfl ?_)
        refine wlOn (e := 20) rfl rfl rfl rfl (ocall rfl rfl Try.call39 rfl (wrlen (z := z2) (hS.slm 2 rfl) (hk2.mono (by omega))) (args1 (ev rfl rfl)) ?_)
        rintro _ w10 ⟨_, _, rfl, ⟨rfl, rfl⟩, hN⟩
        refine ⟨_, rfl, ?_⟩
        replace hS := hS.news hN; clear hN
        refine wlOn (e := 20) rfl rfl rfl rfl (omove (v := .int .i64 ((-((K : Nat) : Int)))) rfl rfl (ev (v := .int .i64 ((-((K : Nat) : Int)))) rfl rfl) ?_)
        by_cases g2 : Lg (blen (RD x y).natAbs) K
        ·
          refine wlOn (e := 20) rfl rfl rfl rfl (ocall rfl rfl Try.call38 rfl (wlong_n1 (B := blen z2.natAbs) (K := K) (by have := blen_wd hk2; omega) hK hK0 (by rw [← hz2.out]; exact g2)) (args2 (ev rfl rfl) (ev rfl rfl)) ?_)
          rintro _ w11 ⟨_, _, rfl, ⟨rfl, rfl⟩, hN⟩
          refine ⟨_, rfl, ?_⟩
          replace hS := hS.news hN; clear hN
          refine wl rfl (opick (b := false) (v := .bool true) rfl rfl (ev (v := .bool false) rfl rfl) (ev (v := .bool true) rfl rfl) ?_)
          refine wnil ?_
          refine thenN ?_
          refine wT (ev (v := .bool true) rfl rfl) ?_
          refine wseq ?_
          refine wreg ?_
          refine wl rfl (ocall rfl rfl Try.call15 rfl (wllives5) (args0 ) ?_)
          rintro _ w12 ⟨_, _, rfl, ⟨rfl, rfl⟩, hN⟩
          refine ⟨_, rfl, ?_⟩
          replace hS := hS.news hN; clear hN
          refine wl rfl (oassign (v := .bool true) rfl rfl (ev (v := .bool true) rfl rfl) ?_)
          refine wnil ?_
          refine thenN ?_
          refine wleave ?_
          refine thenR ?_
          refine wret1 Try.results6 (tellT (v := .bool true) rfl rfl) ?_
          exact ⟨_, _, rfl, isI, hS.new0⟩
        ·
          refine wlOn (e := 20) rfl rfl rfl rfl (ocall rfl rfl Try.call38 rfl (wlong_n0 (B := blen z2.natAbs) (K := K) (by have := blen_wd hk2; omega) hK hK0 (by rw [← hz2.out]; exact g2)) (args2 (ev rfl rfl) (ev rfl rfl)) ?_)
          rintro _ w11 ⟨_, _, rfl, ⟨rfl, rfl⟩, hN⟩
          refine ⟨_, rfl, ?_⟩
          replace hS := hS.news hN; clear hN
          refine wl rfl (opick (b := false) (v := .bool false) rfl rfl (ev (v := .bool false) rfl rfl) (ev (v := .bool false) rfl rfl) ?_)
          refine wnil ?_
          refine thenN ?_
          refine wF (ev (v := .bool false) rfl rfl) ?_
          refine wskip ?_
          refine thenN ?_
          refine wseq ?_
          refine wreg ?_
          refine wl rfl (oload (vs := [.bool bA, .slice qA nA kA, .bool bB, .slice qB nB kB]) aggR hS 3 rfl rfl (ev rfl rfl) rfl rfl rfl ?_)
          refine wl rfl (omove (v := .int .i64 ((-((K : Nat) : Int)))) rfl rfl (ev (v := .int .i64 ((-((K : Nat) : Int)))) rfl rfl) ?_)
          refine wl rfl (ocall rfl rfl Try.call40 rfl (wrpow_nz ((hzA.at hS).mono (by omega)) ((hzB.at hS).mono (by omega)) hy (hK) (hK0) (hx)) (args2 (ev rfl rfl) (ev rfl rfl)) ?_)
          rintro _ w12 ⟨_, _, rfl, ⟨p3, n3, c3, p4, n4, c4, rfl, rfl⟩, hN⟩
          refine ⟨_, rfl, ?_⟩
          replace hS := hS.news hN; clear hN
          refine wl rfl (omove (v := .tuple #[.agg #[.bool (ng 0), .slice p3 n3 c3, .bool (ng 0), .slice p4 n4 c4], .int .i64 5]) rfl rfl (ev (v := .tuple #[.agg #[.bool (ng 0), .slice p3 n3 c3, .bool (ng 0), .slice p4 n4 c4], .int .i64 5]) rfl rfl) ?_)
          refine wl rfl (oextract (vs := [.agg #[.bool (ng 0), .slice p3 n3 c3, .bool (ng 0), .slice p4 n4 c4], .int .i64 5]) (v := .agg #[.bool (ng 0), .slice p3 n3 c3, .bool (ng 0), .slice p4 n4 c4]) rfl rfl (ev (v := .tuple #[.agg #[.bool (ng 0), .slice p3 n3 c3, .bool (ng 0), .slice p4 n4 c4], .int .i64 5]) rfl rfl) rfl ?_)
          refine wl rfl (oextract (vs := [.agg #[.bool (ng 0), .slice p3 n3 c3, .bool (ng 0), .slice p4 n4 c4], .int .i64 5]) (v := .int .i64 5) rfl rfl (ev (v := .tuple #[.agg #[.bool (ng 0), .slice p3 n3 c3, .bool (ng 0), .slice p4 n4 c4], .int .i64 5]) rfl rfl) rfl ?_)
          refine wl rfl (oalloc [.bool false, .slice none 0 0, .bool false, .slice none 0 0] hS rfl rfl Try.zeroValue27 rfl ?_)
          clear hS; intro g13 w14 hS
          refine wl rfl (ostore [.bool (ng 0), .slice p3 n3 c3, .bool (ng 0), .slice p4 n4 c4] [.bool (ng 0), .slice p3 n3 c3, .bool (ng 0), .slice p4 n4 c4] Try.sizeOf27 hS 0 rfl rfl (ev rfl rfl) (ev (v := .agg #[.bool (ng 0), .slice p3 n3 c3, .bool (ng 0), .slice p4 n4 c4]) rfl rfl) rfl rfl rfl rfl rfl rfl ?_)
          clear hS; intro w15 hS
          refine wl rfl (oassign (v := .int .i64 5) rfl rfl (ev (v := .int .i64 5) rfl rfl) ?_)
          refine wnil ?_
          refine thenN ?_
          refine wseq ?_
          refine wblock ?_
          refine wseq ?_
          refine wreg ?_
          refine wl rfl (oload (vs := [.bool bA, .slice qA nA kA, .bool bB, .slice qB nB kB]) aggR hS 6 rfl rfl (ev rfl rfl) rfl rfl rfl ?_)
          refine wl rfl (ocall rfl rfl Try.call11 rfl (wsmay ((hzB.at hS).mono (by omega)) (hy)) (args1 (ev rfl rfl)) ?_)
          rintro _ w16 ⟨_, _, rfl, ⟨rfl, rfl⟩, hN⟩
          refine ⟨_, rfl, ?_⟩
          replace hS := hS.news hN; clear hN
          refine wl rfl (onot (b := true) rfl rfl (ev (v := .bool true) rfl rfl) ?_)
          refine wl rfl (oassign (v := .bool false) rfl rfl (ev (v := .bool false) rfl rfl) ?_)
          refine wnil ?_
          refine thenN ?_
          refine wF (ev (v := .bool false) rfl rfl) ?_
          refine wseq ?_
          refine wreg ?_
          refine wl rfl (oload (vs := [.bool bA, .slice qA nA kA, .bool bB, .slice qB nB kB]) aggR hS 6 rfl rfl (ev rfl rfl) rfl rfl rfl ?_)
          obtain ⟨s5, hs5⟩ : ∃ z : Int, Hid ((x : Int).sign * (y : Int).sign = z) := ⟨_, rfl⟩
          refine wl rfl (ocall rfl rfl Try.call12 rfl (wssign ((hzA.at hS).mono (by omega)) ((hzB.at hS).mono (by omega)) (hy) hs5) (args1 (ev rfl rfl)) ?_)
          rintro _ w17 ⟨_, _, rfl, ⟨rfl, rfl⟩, hN⟩
          refine ⟨_, rfl, ?_⟩
          replace hS := hS.news hN; clear hN
          refine wl rfl (obin (u := .int .i64 s5) (v := .int .i64 0) (z := .bool true) rfl rfl (ev (v := .int .i64 s5) rfl rfl) (evc (v := .int .i64 0)) (bin_eql (rs_zero hs5 hx)) ?_)
          refine wl rfl (omove (v := .bool true) rfl rfl (ev (v := .bool true) rfl rfl) ?_)
          refine wlOn (e := 53) rfl rfl rfl rfl (omove (v := .int .i64 ((-((K : Nat) : Int)))) rfl rfl (ev (v := .int .i64 ((-((K : Nat) : Int)))) rfl rfl) ?_)
          refine wlOn (e := 53) rfl rfl rfl rfl (obin (u := .int .i64 ((-((K : Nat) : Int)))) (v := .int .i64 0) (z := .bool true) rfl rfl (ev (v := .int .i64 ((-((K : Nat) : Int)))) rfl rfl) (evc (v := .int .i64 0)) (bin_lss (decide_eq_true (by omega))) ?_)
          refine wl rfl (opick (b := true) (v := .bool true) rfl rfl (ev (v := .bool true) rfl rfl) (ev (v := .bool true) rfl rfl) ?_)
          refine wl rfl (oassign (v := .bool true) rfl rfl (ev (v := .bool true) rfl rfl) ?_)
          refine wnil ?_
          refine thenN ?_
          refine wT (ev (v := .bool true) rfl rfl) ?_
          refine wseq ?_
          refine wreg ?_
          refine wl rfl (omove (v := .int .i64 5) rfl rfl (ev (v := .int .i64 5) rfl rfl) ?_)
          refine wl rfl (obin (u := .int .i64 5) (v := .int .i64 5) (z := .bool true) rfl rfl (ev (v := .int .i64 5) rfl rfl) (evc (v := .int .i64 5)) (bin_eql (by decide)) ?_)
          refine wl rfl (omove (v := .bool true) rfl rfl (ev (v := .bool true) rfl rfl) ?_)
          refine wlOn (e := 59) rfl rfl rfl rfl (oload (vs := [.bool (ng 0), .slice p3 n3 c3, .bool (ng 0), .slice p4 n4 c4]) aggR hS 0 rfl rfl (ev rfl rfl) rfl rfl rfl ?_)
          refine wlOn (e := 59) rfl rfl rfl rfl (obuild (ps := #[]) (v := .agg #[.bool false, .slice none 0 0, .bool false, .slice none 0 0]) rfl rfl (parts0) (fun w => by simp [go_sem, Instr.build, Instr.fill]) ?_)
          refine wlOn (e := 59) rfl rfl rfl rfl (ocall rfl rfl Try.call13 rfl (wlsame5 (x := 0) (y := 0) (u := 0) (v := 0) (hS.slm 1 rfl) (hS.slm 2 rfl) (Sl.nil _) (Sl.nil _) (rfl) (rfl)) (args2 (ev rfl rfl) (ev rfl rfl)) ?_)
          rintro _ w18 ⟨_, _, rfl, ⟨rfl, rfl⟩, hN⟩
          refine ⟨_, rfl, ?_⟩
          replace hS := hS.news hN; clear hN
          refine wl rfl (opick (b := true) (v := .bool true) rfl rfl (ev (v := .bool true) rfl rfl) (ev (v := .bool true) rfl rfl) ?_)
          refine wl rfl (omove (v := .bool true) rfl rfl (ev (v := .bool true) rfl rfl) ?_)
          refine wlOn (e := 64) rfl rfl rfl rfl (ocall rfl rfl Try.call15 rfl (wllives5) (args0 ) ?_)
          rintro _ w19 ⟨_, _, rfl, ⟨rfl, rfl⟩, hN⟩
          refine ⟨_, rfl, ?_⟩
          replace hS := hS.news hN; clear hN
          refine wl rfl (opick (b := true) (v := .bool true) rfl rfl (ev (v := .bool true) rfl rfl) (ev (v := .bool true) rfl rfl) ?_)
          refine wl rfl (oassign (v := .bool true) rfl rfl (ev (v := .bool true) rfl rfl) ?_)
          refine wnil ?_
          refine thenN ?_
          refine wleave ?_
          refine blkR ?_
          refine thenR ?_
          refine wret1 Try.results6 (tellT (v := .bool true) rfl rfl) ?_
          exact ⟨_, _, rfl, isI, hS.new0⟩
    ·
      refine wl rfl (ocall rfl rfl Try.call11 rfl (wsmay ((hzB.at hS).mono (by omega)) (hy)) (args1 (ev rfl rfl)) ?_)
      rintro _ w3 ⟨_, _, rfl, ⟨rfl, rfl⟩, hN⟩
      refine ⟨_, rfl, ?_⟩
      replace hS := hS.news hN; clear hN
      refine wnil ?_
      refine thenN ?_
      refine wT (ev (v := .bool true) rfl rfl) ?_
      refine wseq ?_
      refine wreg ?_
      refine wl rfl (oload (vs := [.bool bA, .slice qA nA kA, .bool bB, .slice qB nB kB]) aggR hS 0 rfl rfl (ev rfl rfl) rfl rfl rfl ?_)
      obtain ⟨z1, hz1⟩ : ∃ z : Int, Hid (RN x y = z) := ⟨_, rfl⟩
      have hk1 : Wd z1 1048576 := Wd.rn hzA.wd hz1
      obtain ⟨z2, hz2⟩ : ∃ z : Int, Hid (RD x y = z) := ⟨_, rfl⟩
      have hk2 : Wd z2 1048576 := Wd.rd hzB.wd hz2
      refine wl rfl (ocall rfl rfl Try.call37 rfl ((wsnorm ((hzA.at hS).mono (by omega)) ((hzB.at hS).mono (by omega)) (hy) hz1 hz2)) (args1 (ev rfl rfl)) ?_)
      rintro _ w4 ⟨_, _, rfl, ⟨p1, n1, c1, p2, n2, c2, rfl, rfl⟩, hN⟩
      refine ⟨_, rfl, ?_⟩
      replace hS := hS.news hN; clear hN
      refine wl rfl (oalloc [.bool false, .slice none 0 0, .bool false, .slice none 0 0] hS rfl rfl Try.zeroValue27 rfl ?_)
      clear hS; intro g5 w6 hS
      refine wl rfl (ostore [.bool (ng z1), .slice p1 n1 c1, .bool (ng z2), .slice p2 n2 c2] [.bool (ng z1), .slice p1 n1 c1, .bool (ng z2), .slice p2 n2 c2] Try.sizeOf27 hS 0 rfl rfl (ev rfl rfl) (ev (v := .agg #[.bool (ng z1), .slice p1 n1 c1, .bool (ng z2), .slice p2 n2 c2]) rfl rfl) rfl rfl rfl rfl rfl rfl ?_)
      clear hS; intro w7 hS
      refine wnil ?_
      refine thenN ?_
      refine wseq ?_
      refine wreg ?_
      refine wl rfl (ofieldAddr (g := g5) (off := 0) 0 rfl rfl (ev (v := .pointer (some ⟨g5, 0, none⟩)) rfl rfl) Try.runUnderlying27 rfl Try.sizeOf25 rfl ?_)
      refine wl rfl (ofieldAddr (g := g5) (off := 0) 1 rfl rfl (ev (v := .pointer (some ⟨g5, 0, none⟩)) rfl rfl) Try.runUnderlying25 rfl Try.sizeOf23 rfl ?_)
      refine wl rfl (oload1 (v := .slice p1 n1 c1) oneN hS 0 rfl rfl (ev rfl rfl) rfl rfl ?_)
      refine wl rfl (ocall rfl rfl Try.call39 rfl (wrlen (z := z1) (hS.slm 1 rfl) (hk1.mono (by omega))) (args1 (ev rfl rfl)) ?_)
      rintro _ w8 ⟨_, _, rfl, ⟨rfl, rfl⟩, hN⟩
      refine ⟨_, rfl, ?_⟩
      replace hS := hS.news hN; clear hN
      refine wl rfl (omove (v := .int .i64 ((-((K : Nat) : Int)))) rfl rfl (ev (v := .int .i64 ((-((K : Nat) : Int)))) rfl rfl) ?_)
      by_cases g1 : Lg (blen (RN x y).natAbs) K
      ·
        refine wl rfl (ocall rfl rfl Try.call38 rfl (wlong_n1 (B := blen z1.natAbs) (K := K) (by have := blen_wd hk1; omega) hK hK0 (by rw [← hz1.out]; exact g1)) (args2 (ev rfl rfl) (ev rfl rfl)) ?_)
        rintro _ w9 ⟨_, _, rfl, ⟨rfl, rfl⟩, hN⟩
        refine ⟨_, rfl, ?_⟩
        replace hS := hS.news hN; clear hN
        refine wl rfl (omove (v := .bool true) rfl rfl (ev (v := .bool true) rfl rfl) ?_)
        refine wlOff (e := 20) (d := 21) (b' := true) rfl rfl rfl rfl rfl rfl ?_
        refine wlOff (e := 20) (d := 22) (b' := true) rfl rfl rfl rfl rfl rfl ?_
        refine wlOff (e := 20) (d := 23) (b' := true) rfl rfl rfl rfl rfl rfl ?_
        refine wlOff (e := 20) (d := 24) (b' := true) rfl rfl rfl rfl rfl rfl ?_
        refine wlOff (e := 20) (d := 25) (b' := true) rfl rfl rfl rfl rfl rfl ?_
        refine wlOff (e := 20) (d := 26) (b' := true) rfl rfl rfl rfl rfl rfl ?_
        refine wl rfl (opick (b := true) (v := .bool true) rfl rfl (ev (v := .bool true) rfl rfl) (evc (v := .bool true)) ?_)
        refine wnil ?_
        refine thenN ?_
        refine wT (ev (v := .bool true) rfl rfl) ?_
        refine wseq ?_
        refine wreg ?_
        refine wl rfl (ocall rfl rfl Try.call15 rfl (wllives5) (args0 ) ?_)
        rintro _ w10 ⟨_, _, rfl, ⟨rfl, rfl⟩, hN⟩
        refine ⟨_, rfl, ?_⟩
        replace hS := hS.news hN; clear hN
        refine wl rfl (oassign (v := .bool true) rfl rfl (ev (v := .bool true) rfl rfl) ?_)
        refine wnil ?_
        refine thenN ?_
        refine wleave ?_
        refine thenR ?_
        refine wret1 Try.results6 (tellT (v := .bool true) rfl rfl) ?_
        exact ⟨_, _, rfl, isI, hS.new0⟩
      ·
        refine wl rfl (ocall rfl rfl Try.call38 rfl (wlong_n0 (B := blen z1.natAbs) (K := K) (by have := blen_wd hk1; omega) hK hK0 (by rw [← hz1.out]; exact g1)) (args2 (ev rfl rfl) (ev rfl rfl)) ?_)
        rintro _ w9 ⟨_, _, rfl, ⟨rfl, rfl⟩, hN⟩
        refine ⟨_, rfl, ?_⟩
        replace hS := hS.news hN; clear hN
        refine wl rfl (omove (v := .bool false) rfl rfl (ev (v := .bool false) rfl rfl) ?_)
        refine wlOn (e := 20) rfl rfl rfl rfl (ofieldAddr (g := g5) (off := 0) 2 rfl rfl (ev (v := .pointer (some ⟨g5, 0, none⟩)) rfl rfl) Try.runUnderlying27 rfl Try.sizeOf25 rfl ?_)
        refine wlOn (e := 20) rfl rfl rfl rfl (ofieldAddr (g := g5) (off := 2) 3 rfl rfl (ev (v := .pointer (some ⟨g5, 2, none⟩)) rfl rfl) Try.runUnderlying25 rfl Try.sizeOf23 rfl ?_)
        refine wlOn (e := 20) rfl rfl rfl rfl (oload1 (v := .slice p2 n2 c2) oneN hS 0 rfl rfl (ev rfl rfl) rfl rfl ?_)
        refine wlOn (e := 20) rfl rfl rfl rfl (ocall rfl rfl Try.call39 rfl (wrlen (z := z2) (hS.slm 2 rfl) (hk2.mono (by omega))) (args1 (ev rfl rfl)) ?_)
        rintro _ w10 ⟨_, _, rfl, ⟨rfl, rfl⟩, hN⟩
        refine ⟨_, rfl, ?_⟩
        replace hS := hS.news hN; clear hN
        refine wlOn (e := 20) rfl rfl rfl rfl (omove (v := .int .i64 ((-((K : Nat) : Int)))) rfl rfl (ev (v := .int .i64 ((-((K : Nat) : Int)))) rfl rfl) ?_)
        by_cases g2 : Lg (blen (RD x y).natAbs) K
        ·
          refine wlOn (e := 20) rfl rfl rfl rfl (ocall rfl rfl Try.call38 rfl (wlong_n1 (B := blen z2.natAbs) (K := K) (by have := blen_wd hk2; omega) hK hK0 (by rw [← hz2.out]; exact g2)) (args2 (ev rfl rfl) (ev rfl rfl)) ?_)
          rintro _ w11 ⟨_, _, rfl, ⟨rfl, rfl⟩, hN⟩
          refine ⟨_, rfl, ?_⟩
          replace hS := hS.news hN; clear hN
          refine wl rfl (opick (b := false) (v := .bool true) rfl rfl (ev (v := .bool false) rfl rfl) (ev (v := .bool true) rfl rfl) ?_)
          refine wnil ?_
          refine thenN ?_
          refine wT (ev (v := .bool true) rfl rfl) ?_
          refine wseq ?_
          refine wreg ?_
          refine wl rfl (ocall rfl rfl Try.call15 rfl (wllives5) (args0 ) ?_)
          rintro _ w12 ⟨_, _, rfl, ⟨rfl, rfl⟩, hN⟩
          refine ⟨_, rfl, ?_⟩
          replace hS := hS.news hN; clear hN
          refine wl rfl (oassign (v := .bool true) rfl rfl (ev (v := .bool true) rfl rfl) ?_)
          refine wnil ?_
          refine thenN ?_
          refine wleave ?_
          refine thenR ?_
          refine wret1 Try.results6 (tellT (v := .bool true) rfl rfl) ?_
          exact ⟨_, _, rfl, isI, hS.new0⟩
        ·
          refine wlOn (e := 20) rfl rfl rfl rfl (ocall rfl rfl Try.call38 rfl (wlong_n0 (B := blen z2.natAbs) (K := K) (by have := blen_wd hk2; omega) hK hK0 (by rw [← hz2.out]; exact g2)) (args2 (ev rfl rfl) (ev rfl rfl)) ?_)
          rintro _ w11 ⟨_, _, rfl, ⟨rfl, rfl⟩, hN⟩
          refine ⟨_, rfl, ?_⟩
          replace hS := hS.news hN; clear hN
          refine wl rfl (opick (b := false) (v := .bool false) rfl rfl (ev (v := .bool false) rfl rfl) (ev (v := .bool false) rfl rfl) ?_)
          refine wnil ?_
          refine thenN ?_
          refine wF (ev (v := .bool false) rfl rfl) ?_
          refine wskip ?_
          refine thenN ?_
          refine wseq ?_
          refine wreg ?_
          refine wl rfl (oload (vs := [.bool bA, .slice qA nA kA, .bool bB, .slice qB nB kB]) aggR hS 3 rfl rfl (ev rfl rfl) rfl rfl rfl ?_)
          refine wl rfl (omove (v := .int .i64 ((-((K : Nat) : Int)))) rfl rfl (ev (v := .int .i64 ((-((K : Nat) : Int)))) rfl rfl) ?_)
          have c1 := lg_split g1
          have c2 := lg_split g2
          by_cases o2 : PowOk (RD x y) K
          ·
            by_cases o1 : PowOk (RN x y) K
            ·
              refine wl rfl (ocall rfl rfl Try.call40 rfl (wrpow_n ((hzA.at hS).mono (by omega)) ((hzB.at hS).mono (by omega)) hy (hK) (hK0) (hx) (ok1 hy hx o2) (ok2 hy hx o1)) (args2 (ev rfl rfl) (ev rfl rfl)) ?_)
              rintro _ w12 ⟨_, _, rfl, ⟨p3, n3, c3, p4, n4, c4, rfl, rfl⟩, hN⟩
              refine ⟨_, rfl, ?_⟩
              replace hS := hS.news hN; clear hN
              refine wl rfl (omove (v := .tuple #[.agg #[.bool (ng (RN (RD x y) (RN x y) ^ K)), .slice p3 n3 c3, .bool (ng (RD (RD x y) (RN x y) ^ K)), .slice p4 n4 c4], .int .i64 0]) rfl rfl (ev (v := .tuple #[.agg #[.bool (ng (RN (RD x y) (RN x y) ^ K)), .slice p3 n3 c3, .bool (ng (RD (RD x y) (RN x y) ^ K)), .slice p4 n4 c4], .int .i64 0]) rfl rfl) ?_)
              refine wl rfl (oextract (vs := [.agg #[.bool (ng (RN (RD x y) (RN x y) ^ K)), .slice p3 n3 c3, .bool (ng (RD (RD x y) (RN x y) ^ K)), .slice p4 n4 c4], .int .i64 0]) (v := .agg #[.bool (ng (RN (RD x y) (RN x y) ^ K)), .slice p3 n3 c3, .bool (ng (RD (RD x y) (RN x y) ^ K)), .slice p4 n4 c4]) rfl rfl (ev (v := .tuple #[.agg #[.bool (ng (RN (RD x y) (RN x y) ^ K)), .slice p3 n3 c3, .bool (ng (RD (RD x y) (RN x y) ^ K)), .slice p4 n4 c4], .int .i64 0]) rfl rfl) rfl ?_)
              refine wl rfl (oextract (vs := [.agg #[.bool (ng (RN (RD x y) (RN x y) ^ K)), .slice p3 n3 c3, .bool (ng (RD (RD x y) (RN x y) ^ K)), .slice p4 n4 c4], .int .i64 0]) (v := .int .i64 0) rfl rfl (ev (v := .tuple #[.agg #[.bool (ng (RN (RD x y) (RN x y) ^ K)), .slice p3 n3 c3, .bool (ng (RD (RD x y) (RN x y) ^ K)), .slice p4 n4 c4], .int .i64 0]) rfl rfl) rfl ?_)
              refine wl rfl (oalloc [.bool false, .slice none 0 0, .bool false, .slice none 0 0] hS rfl rfl Try.zeroValue27 rfl ?_)
              clear hS; intro g13 w14 hS
              refine wl rfl (ostore [.bool (ng (RN (RD x y) (RN x y) ^ K)), .slice p3 n3 c3, .bool (ng (RD (RD x y) (RN x y) ^ K)), .slice p4 n4 c4] [.bool (ng (RN (RD x y) (RN x y) ^ K)), .slice p3 n3 c3, .bool (ng (RD (RD x y) (RN x y) ^ K)), .slice p4 n4 c4] Try.sizeOf27 hS 0 rfl rfl (ev rfl rfl) (ev (v := .agg #[.bool (ng (RN (RD x y) (RN x y) ^ K)), .slice p3 n3 c3, .bool (ng (RD (RD x y) (RN x y) ^ K)), .slice p4 n4 c4]) rfl rfl) rfl rfl rfl rfl rfl rfl ?_)
              clear hS; intro w15 hS
              refine wl rfl (oassign (v := .int .i64 0) rfl rfl (ev (v := .int .i64 0) rfl rfl) ?_)
              refine wnil ?_
              refine thenN ?_
              refine wseq ?_
              refine wblock ?_
              refine wseq ?_
              refine wreg ?_
              refine wl rfl (oload (vs := [.bool bA, .slice qA nA kA, .bool bB, .slice qB nB kB]) aggR hS 6 rfl rfl (ev rfl rfl) rfl rfl rfl ?_)
              refine wl rfl (ocall rfl rfl Try.call11 rfl (wsmay ((hzB.at hS).mono (by omega)) (hy)) (args1 (ev rfl rfl)) ?_)
              rintro _ w16 ⟨_, _, rfl, ⟨rfl, rfl⟩, hN⟩
              refine ⟨_, rfl, ?_⟩
              replace hS := hS.news hN; clear hN
              refine wl rfl (onot (b := true) rfl rfl (ev (v := .bool true) rfl rfl) ?_)
              refine wl rfl (oassign (v := .bool false) rfl rfl (ev (v := .bool false) rfl rfl) ?_)
              refine wnil ?_
              refine thenN ?_
              refine wF (ev (v := .bool false) rfl rfl) ?_
              refine wseq ?_
              refine wreg ?_
              refine wl rfl (oload (vs := [.bool bA, .slice qA nA kA, .bool bB, .slice qB nB kB]) aggR hS 6 rfl rfl (ev rfl rfl) rfl rfl rfl ?_)
              obtain ⟨s5, hs5⟩ : ∃ z : Int, Hid ((x : Int).sign * (y : Int).sign = z) := ⟨_, rfl⟩
              refine wl rfl (ocall rfl rfl Try.call12 rfl (wssign ((hzA.at hS).mono (by omega)) ((hzB.at hS).mono (by omega)) (hy) hs5) (args1 (ev rfl rfl)) ?_)
              rintro _ w17 ⟨_, _, rfl, ⟨rfl, rfl⟩, hN⟩
              refine ⟨_, rfl, ?_⟩
              replace hS := hS.news hN; clear hN
              refine wl rfl (obin (u := .int .i64 s5) (v := .int .i64 0) (z := .bool false) rfl rfl (ev (v := .int .i64 s5) rfl rfl) (evc (v := .int .i64 0)) (bin_eql (rs_ne hs5 hx hy)) ?_)
              refine wl rfl (omove (v := .bool false) rfl rfl (ev (v := .bool false) rfl rfl) ?_)
              refine wlOff (e := 53) (d := 54) (b' := false) rfl rfl rfl rfl rfl rfl ?_
              refine wlOff (e := 53) (d := 55) (b' := false) rfl rfl rfl rfl rfl rfl ?_
              refine wl rfl (opick (b := false) (v := .bool false) rfl rfl (ev (v := .bool false) rfl rfl) (evc (v := .bool false)) ?_)
              refine wl rfl (oassign (v := .bool false) rfl rfl (ev (v := .bool false) rfl rfl) ?_)
              refine wnil ?_
              refine thenN ?_
              refine wF (ev (v := .bool false) rfl rfl) ?_
              refine wskip ?_
              refine blkN ?_
              refine thenN ?_
              refine wseq ?_
              refine wreg ?_
              refine wl rfl (oload (vs := [.bool bA, .slice qA nA kA, .bool bB, .slice qB nB kB]) aggR hS 6 rfl rfl (ev rfl rfl) rfl rfl rfl ?_)
              refine wl rfl (omove (v := .int .i64 ((-((K : Nat) : Int)))) rfl rfl (ev (v := .int .i64 ((-((K : Nat) : Int)))) rfl rfl) ?_)
              refine wl rfl (ocall rfl rfl Try.call41 rfl (wqrpow_n ((hzA.at hS).mono (by omega)) ((hzB.at hS).mono (by omega)) hy (hK) (hK0) (hx) (ok1 hy hx o2) (ok2 hy hx o1)) (args2 (ev rfl rfl) (ev rfl rfl)) ?_)
              rintro _ w18 ⟨_, _, rfl, ⟨p6, n6, c6, p7, n7, c7, rfl, rfl⟩, hN⟩
              refine ⟨_, rfl, ?_⟩
              replace hS := hS.news hN; clear hN
              refine wl rfl (omove (v := .tuple #[.agg #[.bool (ng (RN (RD x y) (RN x y) ^ K)), .slice p6 n6 c6, .bool (ng (RD (RD x y) (RN x y) ^ K)), .slice p7 n7 c7], .bool true]) rfl rfl (ev (v := .tuple #[.agg #[.bool (ng (RN (RD x y) (RN x y) ^ K)), .slice p6 n6 c6, .bool (ng (RD (RD x y) (RN x y) ^ K)), .slice p7 n7 c7], .bool true]) rfl rfl) ?_)
              refine wl rfl (oextract (vs := [.agg #[.bool (ng (RN (RD x y) (RN x y) ^ K)), .slice p6 n6 c6, .bool (ng (RD (RD x y) (RN x y) ^ K)), .slice p7 n7 c7], .bool true]) (v := .agg #[.bool (ng (RN (RD x y) (RN x y) ^ K)), .slice p6 n6 c6, .bool (ng (RD (RD x y) (RN x y) ^ K)), .slice p7 n7 c7]) rfl rfl (ev (v := .tuple #[.agg #[.bool (ng (RN (RD x y) (RN x y) ^ K)), .slice p6 n6 c6, .bool (ng (RD (RD x y) (RN x y) ^ K)), .slice p7 n7 c7], .bool true]) rfl rfl) rfl ?_)
              refine wl rfl (oextract (vs := [.agg #[.bool (ng (RN (RD x y) (RN x y) ^ K)), .slice p6 n6 c6, .bool (ng (RD (RD x y) (RN x y) ^ K)), .slice p7 n7 c7], .bool true]) (v := .bool true) rfl rfl (ev (v := .tuple #[.agg #[.bool (ng (RN (RD x y) (RN x y) ^ K)), .slice p6 n6 c6, .bool (ng (RD (RD x y) (RN x y) ^ K)), .slice p7 n7 c7], .bool true]) rfl rfl) rfl ?_)
              refine wl rfl (oalloc [.bool false, .slice none 0 0, .bool false, .slice none 0 0] hS rfl rfl Try.zeroValue27 rfl ?_)
              clear hS; intro g19 w20 hS
              refine wl rfl (ostore [.bool (ng (RN (RD x y) (RN x y) ^ K)), .slice p6 n6 c6, .bool (ng (RD (RD x y) (RN x y) ^ K)), .slice p7 n7 c7] [.bool (ng (RN (RD x y) (RN x y) ^ K)), .slice p6 n6 c6, .bool (ng (RD (RD x y) (RN x y) ^ K)), .slice p7 n7 c7] Try.sizeOf27 hS 0 rfl rfl (ev rfl rfl) (ev (v := .agg #[.bool (ng (RN (RD x y) (RN x y) ^ K)), .slice p6 n6 c6, .bool (ng (RD (RD x y) (RN x y) ^ K)), .slice p7 n7 c7]) rfl rfl) rfl rfl rfl rfl rfl rfl ?_)
              clear hS; intro w21 hS
              refine wl rfl (oassign (v := .bool true) rfl rfl (ev (v := .bool true) rfl rfl) ?_)
              refine wnil ?_
              refine thenN ?_
              refine wseq ?_
              refine wseq ?_
              refine wreg ?_
              refine wl rfl (omove (v := .bool true) rfl rfl (ev (v := .bool true) rfl rfl) ?_)
              refine wl rfl (onot (b := true) rfl rfl (ev (v := .bool true) rfl rfl) ?_)
              refine wnil ?_
              refine thenN ?_
              refine wF (ev (v := .bool false) rfl rfl) ?_
              refine wskip ?_
              refine thenN ?_
              refine wseq ?_
              refine wreg ?_
              refine wl rfl (omove (v := .int .i64 0) rfl rfl (ev (v := .int .i64 0) rfl rfl) ?_)
              refine wl rfl (obin (u := .int .i64 0) (v := .int .i64 0) (z := .bool true) rfl rfl (ev (v := .int .i64 0) rfl rfl) (evc (v := .int .i64 0)) (bin_eql (by decide)) ?_)
              refine wl rfl (omove (v := .bool true) rfl rfl (ev (v := .bool true) rfl rfl) ?_)
              refine wlOn (e := 87) rfl rfl rfl rfl (oload (vs := [.bool (ng (RN (RD x y) (RN x y) ^ K)), .slice p3 n3 c3, .bool (ng (RD (RD x y) (RN x y) ^ K)), .slice p4 n4 c4]) aggR hS 3 rfl rfl (ev rfl rfl) rfl rfl rfl ?_)
              refine wlOn (e := 87) rfl rfl rfl rfl (oload (vs := [.bool (ng (RN (RD x y) (RN x y) ^ K)), .slice p6 n6 c6, .bool (ng (RD (RD x y) (RN x y) ^ K)), .slice p7 n7 c7]) aggR hS 0 rfl rfl (ev rfl rfl) rfl rfl rfl ?_)
              refine wlOn (e := 87) rfl rfl rfl rfl (ocall rfl rfl Try.call13 rfl (wlsame5 (x := RN (RD x y) (RN x y) ^ K) (y := RD (RD x y) (RN x y) ^ K) (u := RN (RD x y) (RN x y) ^ K) (v := RD (RD x y) (RN x y) ^ K) (hS.slm 4 rfl) (hS.slm 5 rfl) (hS.slm 1 rfl) (hS.slm 2 rfl) (rfl) (rfl)) (args2 (ev rfl rfl) (ev rfl rfl)) ?_)
              rintro _ w22 ⟨_, _, rfl, ⟨rfl, rfl⟩, hN⟩
              refine ⟨_, rfl, ?_⟩
              replace hS := hS.news hN; clear hN
              refine wl rfl (opick (b := true) (v := .bool true) rfl rfl (ev (v := .bool true) rfl rfl) (ev (v := .bool true) rfl rfl) ?_)
              refine wl rfl (omove (v := .bool true) rfl rfl (ev (v := .bool true) rfl rfl) ?_)
              refine wlOn (e := 92) rfl rfl rfl rfl (ocall rfl rfl Try.call15 rfl (wllives5) (args0 ) ?_)
              rintro _ w23 ⟨_, _, rfl, ⟨rfl, rfl⟩, hN⟩
              refine ⟨_, rfl, ?_⟩
              replace hS := hS.news hN; clear hN
              refine wl rfl (opick (b := true) (v := .bool true) rfl rfl (ev (v := .bool true) rfl rfl) (ev (v := .bool true) rfl rfl) ?_)
              refine wl rfl (oassign (v := .bool true) rfl rfl (ev (v := .bool true) rfl rfl) ?_)
              refine wnil ?_
              refine thenN ?_
              refine wleave ?_
              refine wret1 Try.results6 (tellT (v := .bool true) rfl rfl) ?_
              exact ⟨_, _, rfl, isI, hS.new0⟩
            ·
              refine wl rfl (ocall rfl rfl Try.call40 rfl (wrpow_nB ((hzA.at hS).mono (by omega)) ((hzB.at hS).mono (by omega)) hy (hK) (hK0) (hx) (ok1 hy hx o2) (big2 hy hx (c1.resolve_left o1))) (args2 (ev rfl rfl) (ev rfl rfl)) ?_)
              rintro _ w12 ⟨_, _, rfl, ⟨p3, n3, c3, p4, n4, c4, rfl, rfl⟩, hN⟩
              refine ⟨_, rfl, ?_⟩
              replace hS := hS.news hN; clear hN
              refine wl rfl (omove (v := .tuple #[.agg #[.bool (ng 0), .slice p3 n3 c3, .bool (ng 0), .slice p4 n4 c4], .int .i64 4]) rfl rfl (ev (v := .tuple #[.agg #[.bool (ng 0), .slice p3 n3 c3, .bool (ng 0), .slice p4 n4 c4], .int .i64 4]) rfl rfl) ?_)
              refine wl rfl (oextract (vs := [.agg #[.bool (ng 0), .slice p3 n3 c3, .bool (ng 0), .slice p4 n4 c4], .int .i64 4]) (v := .agg #[.bool (ng 0), .slice p3 n3 c3, .bool (ng 0), .slice p4 n4 c4]) rfl rfl (ev (v := .tuple #[.agg #[.bool (ng 0), .slice p3 n3 c3, .bool (ng 0), .slice p4 n4 c4], .int .i64 4]) rfl rfl) rfl ?_)
              refine wl rfl (oextract (vs := [.agg #[.bool (ng 0), .slice p3 n3 c3, .bool (ng 0), .slice p4 n4 c4], .int .i64 4]) (v := .int .i64 4) rfl rfl (ev (v := .tuple #[.agg #[.bool (ng 0), .slice p3 n3 c3, .bool (ng 0), .slice p4 n4 c4], .int .i64 4]) rfl rfl) rfl ?_)
              refine wl rfl (oalloc [.bool false, .slice none 0 0, .bool false, .slice none 0 0] hS rfl rfl Try.zeroValue27 rfl ?_)
              clear hS; intro g13 w14 hS
              refine wl rfl (ostore [.bool (ng 0), .slice p3 n3 c3, .bool (ng 0), .slice p4 n4 c4] [.bool (ng 0), .slice p3 n3 c3, .bool (ng 0), .slice p4 n4 c4] Try.sizeOf27 hS 0 rfl rfl (ev rfl rfl) (ev (v := .agg #[.bool (ng 0), .slice p3 n3 c3, .bool (ng 0), .slice p4 n4 c4]) rfl rfl) rfl rfl rfl rfl rfl rfl ?_)
              clear hS; intro w15 hS
              refine wl rfl (oassign (v := .int .i64 4) rfl rfl (ev (v := .int .i64 4) rfl rfl) ?_)
              refine wnil ?_
              refine thenN ?_
              refine wseq ?_
              refine wblock ?_
              refine wseq ?_
              refine wreg ?_
              refine wl rfl (oload (vs := [.bool bA, .slice qA nA kA, .bool bB, .slice qB nB kB]) aggR hS 6 rfl rfl (ev rfl rfl) rfl rfl rfl ?_)
              refine wl rfl (ocall rfl rfl Try.call11 rfl (wsmay ((hzB.at hS).mono (by omega)) (hy)) (args1 (ev rfl rfl)) ?_)
              rintro _ w16 ⟨_, _, rfl, ⟨rfl, rfl⟩, hN⟩
              refine ⟨_, rfl, ?_⟩
              replace hS := hS.news hN; clear hN
              refine wl rfl (onot (b := true) rfl rfl (ev (v := .bool true) rfl rfl) ?_)
              refine wl rfl (oassign (v := .bool false) rfl rfl (ev (v := .bool false) rfl rfl) ?_)
              refine wnil ?_
              refine thenN ?_
              refine wF (ev (v := .bool false) rfl rfl) ?_
              refine wseq ?_
              refine wreg ?_
              refine wl rfl (oload (vs := [.bool bA, .slice qA nA kA, .bool bB, .slice qB nB kB]) aggR hS 6 rfl rfl (ev rfl rfl) rfl rfl rfl ?_)
              obtain ⟨s5, hs5⟩ : ∃ z : Int, Hid ((x : Int).sign * (y : Int).sign = z) := ⟨_, rfl⟩
              refine wl rfl (ocall rfl rfl Try.call12 rfl (wssign ((hzA.at hS).mono (by omega)) ((hzB.at hS).mono (by omega)) (hy) hs5) (args1 (ev rfl rfl)) ?_)
              rintro _ w17 ⟨_, _, rfl, ⟨rfl, rfl⟩, hN⟩
              refine ⟨_, rfl, ?_⟩
              replace hS := hS.news hN; clear hN
              refine wl rfl (obin (u := .int .i64 s5) (v := .int .i64 0) (z := .bool false) rfl rfl (ev (v := .int .i64 s5) rfl rfl) (evc (v := .int .i64 0)) (bin_eql (rs_ne hs5 hx hy)) ?_)
              refine wl rfl (omove (v := .bool false) rfl rfl (ev (v := .bool false) rfl rfl) ?_)
              refine wlOff (e := 53) (d := 54) (b' := false) rfl rfl rfl rfl rfl rfl ?_
              refine wlOff (e := 53) (d := 55) (b' := false) rfl rfl rfl rfl rfl rfl ?_
              refine wl rfl (opick (b := false) (v := .bool false) rfl rfl (ev (v := .bool false) rfl rfl) (evc (v := .bool false)) ?_)
              refine wl rfl (oassign (v := .bool false) rfl rfl (ev (v := .bool false) rfl rfl) ?_)
              refine wnil ?_
              refine thenN ?_
              refine wF (ev (v := .bool false) rfl rfl) ?_
              refine wskip ?_
              refine blkN ?_
              refine thenN ?_
              refine wseq ?_
              refine wreg ?_
              refine wl rfl (oload (vs := [.bool bA, .slice qA nA kA, .bool bB, .slice qB nB kB]) aggR hS 6 rfl rfl (ev rfl rfl) rfl rfl rfl ?_)
              refine wl rfl (omove (v := .int .i64 ((-((K : Nat) : Int)))) rfl rfl (ev (v := .int .i64 ((-((K : Nat) : Int)))) rfl rfl) ?_)
              refine wl rfl (ocall rfl rfl Try.call41 rfl (wqrpow_nB ((hzA.at hS).mono (by omega)) ((hzB.at hS).mono (by omega)) hy (hK) (hK0) (hx) (ok1 hy hx o2) (big2 hy hx (c1.resolve_left o1))) (args2 (ev rfl rfl) (ev rfl rfl)) ?_)
              rintro _ w18 ⟨_, _, rfl, ⟨rfl, rfl⟩, hN⟩
              refine ⟨_, rfl, ?_⟩
              replace hS := hS.news hN; clear hN
              refine wl rfl (omove (v := .tuple #[.agg #[.bool false, .slice none 0 0, .bool false, .slice none 0 0], .bool false]) rfl rfl (ev (v := .tuple #[.agg #[.bool false, .slice none 0 0, .bool false, .slice none 0 0], .bool false]) rfl rfl) ?_)
              refine wl rfl (oextract (vs := [.agg #[.bool false, .slice none 0 0, .bool false, .slice none 0 0], .bool false]) (v := .agg #[.bool false, .slice none 0 0, .bool false, .slice none 0 0]) rfl rfl (ev (v := .tuple #[.agg #[.bool false, .slice none 0 0, .bool false, .slice none 0 0], .bool false]) rfl rfl) rfl ?_)
              refine wl rfl (oextract (vs := [.agg #[.bool false, .slice none 0 0, .bool false, .slice none 0 0], .bool false]) (v := .bool false) rfl rfl (ev (v := .tuple #[.agg #[.bool false, .slice none 0 0, .bool false, .slice none 0 0], .bool false]) rfl rfl) rfl ?_)
              refine wl rfl (oalloc [.bool false, .slice none 0 0, .bool false, .slice none 0 0] hS rfl rfl Try.zeroValue27 rfl ?_)
              clear hS; intro g19 w20 hS
              refine wl rfl (ostore [.bool false, .slice none 0 0, .bool false, .slice none 0 0] [.bool false, .slice none 0 0, .bool false, .slice none 0 0] Try.sizeOf27 hS 0 rfl rfl (ev rfl rfl) (ev (v := .agg #[.bool false, .slice none 0 0, .bool false, .slice none 0 0]) rfl rfl) rfl rfl rfl rfl rfl rfl ?_)
              clear hS; intro w21 hS
              refine wl rfl (oassign (v := .bool false) rfl rfl (ev (v := .bool false) rfl rfl) ?_)
              refine wnil ?_
              refine thenN ?_
              refine wseq ?_
              refine wseq ?_
              refine wreg ?_
              refine wl rfl (omove (v := .bool false) rfl rfl (ev (v := .bool false) rfl rfl) ?_)
              refine wl rfl (onot (b := false) rfl rfl (ev (v := .bool false) rfl rfl) ?_)
              refine wnil ?_
              refine thenN ?_
              refine wT (ev (v := .bool true) rfl rfl) ?_
              refine wseq ?_
              refine wreg ?_
              refine wl rfl (omove (v := .int .i64 4) rfl rfl (ev (v := .int .i64 4) rfl rfl) ?_)
              refine wl rfl (obin (u := .int .i64 4) (v := .int .i64 4) (z := .bool true) rfl rfl (ev (v := .int .i64 4) rfl rfl) (evc (v := .int .i64 4)) (bin_eql (by decide)) ?_)
              refine wl rfl (omove (v := .bool true) rfl rfl (ev (v := .bool true) rfl rfl) ?_)
              refine wlOn (e := 77) rfl rfl rfl rfl (oload (vs := [.bool (ng 0), .slice p3 n3 c3, .bool (ng 0), .slice p4 n4 c4]) aggR hS 1 rfl rfl (ev rfl rfl) rfl rfl rfl ?_)
              refine wlOn (e := 77) rfl rfl rfl rfl (obuild (ps := #[]) (v := .agg #[.bool false, .slice none 0 0, .bool false, .slice none 0 0]) rfl rfl (parts0) (fun w => by simp [go_sem, Instr.build, Instr.fill]) ?_)
              refine wlOn (e := 77) rfl rfl rfl rfl (ocall rfl rfl Try.call13 rfl (wlsame5 (x := 0) (y := 0) (u := 0) (v := 0) (hS.slm 2 rfl) (hS.slm 3 rfl) (Sl.nil _) (Sl.nil _) (rfl) (rfl)) (args2 (ev rfl rfl) (ev rfl rfl)) ?_)
              rintro _ w22 ⟨_, _, rfl, ⟨rfl, rfl⟩, hN⟩
              refine ⟨_, rfl, ?_⟩
              replace hS := hS.news hN; clear hN
              refine wl rfl (opick (b := true) (v := .bool true) rfl rfl (ev (v := .bool true) rfl rfl) (ev (v := .bool true) rfl rfl) ?_)
              refine wl rfl (omove (v := .bool true) rfl rfl (ev (v := .bool true) rfl rfl) ?_)
              refine wlOn (e := 82) rfl rfl rfl rfl (ocall rfl rfl Try.call15 rfl (wllives5) (args0 ) ?_)
              rintro _ w23 ⟨_, _, rfl, ⟨rfl, rfl⟩, hN⟩
              refine ⟨_, rfl, ?_⟩
              replace hS := hS.news hN; clear hN
              refine wl rfl (opick (b := true) (v := .bool true) rfl rfl (ev (v := .bool true) rfl rfl) (ev (v := .bool true) rfl rfl) ?_)
              refine wl rfl (oassign (v := .bool true) rfl rfl (ev (v := .bool true) rfl rfl) ?_)
              refine wnil ?_
              refine thenN ?_
              refine wleave ?_
              refine thenR ?_
              refine wret1 Try.results6 (tellT (v := .bool true) rfl rfl) ?_
              exact ⟨_, _, rfl, isI, hS.new0⟩
          ·
            refine wl rfl (ocall rfl rfl Try.call40 rfl (wrpow_nA ((hzA.at hS).mono (by omega)) ((hzB.at hS).mono (by omega)) hy (hK) (hK0) (hx) (big1 hy hx (c2.resolve_left o2))) (args2 (ev rfl rfl) (ev rfl rfl)) ?_)
            rintro _ w12 ⟨_, _, rfl, ⟨p3, n3, c3, p4, n4, c4, rfl, rfl⟩, hN⟩
            refine ⟨_, rfl, ?_⟩
            replace hS := hS.news hN; clear hN
            refine wl rfl (omove (v := .tuple #[.agg #[.bool (ng 0), .slice p3 n3 c3, .bool (ng 0), .slice p4 n4 c4], .int .i64 4]) rfl rfl (ev (v := .tuple #[.agg #[.bool (ng 0), .slice p3 n3 c3, .bool (ng 0), .slice p4 n4 c4], .int .i64 4]) rfl rfl) ?_)
            refine wl rfl (oextract (vs := [.agg #[.bool (ng 0), .slice p3 n3 c3, .bool (ng 0), .slice p4 n4 c4], .int .i64 4]) (v := .agg #[.bool (ng 0), .slice p3 n3 c3, .bool (ng 0), .slice p4 n4 c4]) rfl rfl (ev (v := .tuple #[.agg #[.bool (ng 0), .slice p3 n3 c3, .bool (ng 0), .slice p4 n4 c4], .int .i64 4]) rfl rfl) rfl ?_)
            refine wl rfl (oextract (vs := [.agg #[.bool (ng 0), .slice p3 n3 c3, .bool (ng 0), .slice p4 n4 c4], .int .i64 4]) (v := .int .i64 4) rfl rfl (ev (v := .tuple #[.agg #[.bool (ng 0), .slice p3 n3 c3, .bool (ng 0), .slice p4 n4 c4], .int .i64 4]) rfl rfl) rfl ?_)
            refine wl rfl (oalloc [.bool false, .slice none 0 0, .bool false, .slice none 0 0] hS rfl rfl Try.zeroValue27 rfl ?_)
            clear hS; intro g13 w14 hS
            refine wl rfl (ostore [.bool (ng 0), .slice p3 n3 c3, .bool (ng 0), .slice p4 n4 c4] [.bool (ng 0), .slice p3 n3 c3, .bool (ng 0), .slice p4 n4 c4] Try.sizeOf27 hS 0 rfl rfl (ev rfl rfl) (ev (v := .agg #[.bool (ng 0), .slice p3 n3 c3, .bool (ng 0), .slice p4 n4 c4]) rfl rfl) rfl rfl rfl rfl rfl rfl ?_)
            clear hS; intro w15 hS
            refine wl rfl (oassign (v := .int .i64 4) rfl rfl (ev (v := .int .i64 4) rfl rfl) ?_)
            refine wnil ?_
            refine thenN ?_
            refine wseq ?_
            refine wblock ?_
            refine wseq ?_
            refine wreg ?_
            refine wl rfl (oload (vs := [.bool bA, .slice qA nA kA, .bool bB, .slice qB nB kB]) aggR hS 6 rfl rfl (ev rfl rfl) rfl rfl rfl ?_)
            refine wl rfl (ocall rfl rfl Try.call11 rfl (wsmay ((hzB.at hS).mono (by omega)) (hy)) (args1 (ev rfl rfl)) ?_)
            rintro _ w16 ⟨_, _, rfl, ⟨rfl, rfl⟩, hN⟩
            refine ⟨_, rfl, ?_⟩
            replace hS := hS.news hN; clear hN
            refine wl rfl (onot (b := true) rfl rfl (ev (v := .bool true) rfl rfl) ?_)
            refine wl rfl (oassign (v := .bool false) rfl rfl (ev (v := .bool false) rfl rfl) ?_)
            refine wnil ?_
            refine thenN ?_
            refine wF (ev (v := .bool false) rfl rfl) ?_
            refine wseq ?_
            refine wreg ?_
            refine wl rfl (oload (vs := [.bool bA, .slice qA nA kA, .bool bB, .slice qB nB kB]) aggR hS 6 rfl rfl (ev rfl rfl) rfl rfl rfl ?_)
            obtain ⟨s5, hs5⟩ : ∃ z : Int, Hid ((x : Int).sign * (y : Int).sign = z) := ⟨_, rfl⟩
            refine wl rfl (ocall rfl rfl Try.call12 rfl (wssign ((hzA.at hS).mono (by omega)) ((hzB.at hS).mono (by omega)) (hy) hs5) (args1 (ev rfl rfl)) ?_)
            rintro _ w17 ⟨_, _, rfl, ⟨rfl, rfl⟩, hN⟩
            refine ⟨_, rfl, ?_⟩
            replace hS := hS.news hN; clear hN
            refine wl rfl (obin (u := .int .i64 s5) (v := .int .i64 0) (z := .bool false) rfl rfl (ev (v := .int .i64 s5) rfl rfl) (evc (v := .int .i64 0)) (bin_eql (rs_ne hs5 hx hy)) ?_)
            refine wl rfl (omove (v := .bool false) rfl rfl (ev (v := .bool false) rfl rfl) ?_)
            refine wlOff (e := 53) (d := 54) (b' := false) rfl rfl rfl rfl rfl rfl ?_
            refine wlOff (e := 53) (d := 55) (b' := false) rfl rfl rfl rfl rfl rfl ?_
            refine wl rfl (opick (b := false) (v := .bool false) rfl rfl (ev (v := .bool false) rfl rfl) (evc (v := .bool false)) ?_)
            refine wl rfl (oassign (v := .bool false) rfl rfl (ev (v := .bool false) rfl rfl) ?_)
            refine wnil ?_
            refine thenN ?_
            refine wF (ev (v := .bool false) rfl rfl) ?_
            refine wskip ?_
            refine blkN ?_
            refine thenN ?_
            refine wseq ?_
            refine wreg ?_
            refine wl rfl (oload (vs := [.bool bA, .slice qA nA kA, .bool bB, .slice qB nB kB]) aggR hS 6 rfl rfl (ev rfl rfl) rfl rfl rfl ?_)
            refine wl rfl (omove (v := .int .i64 ((-((K : Nat) : Int)))) rfl rfl (ev (v := .int .i64 ((-((K : Nat) : Int)))) rfl rfl) ?_)
            refine wl rfl (ocall rfl rfl Try.call41 rfl (wqrpow_nA ((hzA.at hS).mono (by omega)) ((hzB.at hS).mono (by omega)) hy (hK) (hK0) (hx) (big1 hy hx (c2.resolve_left o2)) (c1.imp (ok2 hy hx) (big2 hy hx))) (args2 (ev rfl rfl) (ev rfl rfl)) ?_)
            rintro _ w18 ⟨_, _, rfl, ⟨rfl, rfl⟩, hN⟩
            refine ⟨_, rfl, ?_⟩
            replace hS := hS.news hN; clear hN
            refine wl rfl (omove (v := .tuple #[.agg #[.bool false, .slice none 0 0, .bool false, .slice none 0 0], .bool false]) rfl rfl (ev (v := .tuple #[.agg #[.bool false, .slice none 0 0, .bool false, .slice none 0 0], .bool false]) rfl rfl) ?_)
            refine wl rfl (oextract (vs := [.agg #[.bool false, .slice none 0 0, .bool false, .slice none 0 0], .bool false]) (v := .agg #[.bool false, .slice none 0 0, .bool false, .slice none 0 0]) rfl rfl (ev (v := .tuple #[.agg #[.bool false, .slice none 0 0, .bool false, .slice none 0 0], .bool false]) rfl rfl) rfl ?_)
            refine wl rfl (oextract (vs := [.agg #[.bool false, .slice none 0 0, .bool false, .slice none 0 0], .bool false]) (v := .bool false) rfl rfl (ev (v := .tuple #[.agg #[.bool false, .slice none 0 0, .bool false, .slice none 0 0], .bool false]) rfl rfl) rfl ?_)
            refine wl rfl (oalloc [.bool false, .slice none 0 0, .bool false, .slice none 0 0] hS rfl rfl Try.zeroValue27 rfl ?_)
            clear hS; intro g19 w20 hS
            refine wl rfl (ostore [.bool false, .slice none 0 0, .bool false, .slice none 0 0] [.bool false, .slice none 0 0, .bool false, .slice none 0 0] Try.sizeOf27 hS 0 rfl rfl (ev rfl rfl) (ev (v := .agg #[.bool false, .slice none 0 0, .bool false, .slice none 0 0]) rfl rfl) rfl rfl rfl rfl rfl rfl ?_)
            clear hS; intro w21 hS
            refine wl rfl (oassign (v := .bool false) rfl rfl (ev (v := .bool false) rfl rfl) ?_)
            refine wnil ?_
            refine thenN ?_
            refine wseq ?_
            refine wseq ?_
            refine wreg ?_
            refine wl rfl (omove (v := .bool false) rfl rfl (ev (v := .bool false) rfl rfl) ?_)
            refine wl rfl (onot (b := false) rfl rfl (ev (v := .bool false) rfl rfl) ?_)
            refine wnil ?_
            refine thenN ?_
            refine wT (ev (v := .bool true) rfl rfl) ?_
            refine wseq ?_
            refine wreg ?_
            refine wl rfl (omove (v := .int .i64 4) rfl rfl (ev (v := .int .i64 4) rfl rfl) ?_)
            refine wl rfl (obin (u := .int .i64 4) (v := .int .i64 4) (z := .bool true) rfl rfl (ev (v := .int .i64 4) rfl rfl) (evc (v := .int .i64 4)) (bin_eql (by decide)) ?_)
            refine wl rfl (omove (v := .bool true) rfl rfl (ev (v := .bool true) rfl rfl) ?_)
            refine wlOn (e := 77) rfl rfl rfl rfl (oload (vs := [.bool (ng 0), .slice p3 n3 c3, .bool (ng 0), .slice p4 n4 c4]) aggR hS 1 rfl rfl (ev rfl rfl) rfl rfl rfl ?_)
            refine wlOn (e := 77) rfl rfl rfl rfl (obuild (ps := #[]) (v := .agg #[.bool false, .slice none 0 0, .bool false, .slice none 0 0]) rfl rfl (parts0) (fun w => by simp [go_sem, Instr.build, Instr.fill]) ?_)
            refine wlOn (e := 77) rfl rfl rfl rfl (ocall rfl rfl Try.call13 rfl (wlsame5 (x := 0) (y := 0) (u := 0) (v := 0) (hS.slm 2 rfl) (hS.slm 3 rfl) (Sl.nil _) (Sl.nil _) (rfl) (rfl)) (args2 (ev rfl rfl) (ev rfl rfl)) ?_)
            rintro _ w22 ⟨_, _, rfl, ⟨rfl, rfl⟩, hN⟩
            refine ⟨_, rfl, ?_⟩
            replace hS := hS.news hN; clear hN
            refine wl rfl (opick (b := true) (v := .bool true) rfl rfl (ev (v := .bool true) rfl rfl) (ev (v := .bool true) rfl rfl) ?_)
            refine wl rfl (omove (v := .bool true) rfl rfl (ev (v := .bool true) rfl rfl) ?_)
            refine wlOn (e := 82) rfl rfl rfl rfl (ocall rfl rfl Try.call15 rfl (wllives5) (args0 ) ?_)
            rintro _ w23 ⟨_, _, rfl, ⟨rfl, rfl⟩, hN⟩
            refine ⟨_, rfl, ?_⟩
            replace hS := hS.news hN; clear hN
            refine wl rfl (opick (b := true) (v := .bool true) rfl rfl (ev (v := .bool true) rfl rfl) (ev (v := .bool true) rfl rfl) ?_)
            refine wl rfl (oassign (v := .bool true) rfl rfl (ev (v := .bool true) rfl rfl) ?_)
            refine wnil ?_
            refine thenN ?_
            refine wleave ?_
            refine thenR ?_
            refine wret1 Try.results6 (tellT (v := .bool true) rfl rfl) ?_
            exact ⟨_, _, rfl, isI, hS.new0⟩

set_option maxRecDepth 100000 in
set_option maxHeartbeats 16000000 in
theorem rpowers_m {x y : Int} {bA bB : Bool} {qA qB : Option Addr} {nA kA nB kB : Nat} {w : World} (hzA : Zr w bA qA nA kA x 1048576) (hzB : Zr w bB qB nB kB y 1048576) :
    Calls Try.prog 6 #[.agg #[.bool bA, .slice qA nA kA, .bool bB, .slice qB nB kB], .int .i64 (-9223372036854775808)] w (Ret (Is (.bool true)) w) := by
  have hS := Sep.init w
  refine went Try.func6 rfl (n := 95) rfl rfl ?_
  refine wseq ?_
  refine wreg ?_
  refine wl rfl (obox [.bool bA, .slice qA nA kA, .bool bB, .slice qB nB kB] hS rfl rfl (ev (v := .agg #[.bool bA, .slice qA nA kA, .bool bB, .slice qB nB kB]) rfl rfl) rfl ?_)
  clear hS; intro g1 w2 hS
  refine wl rfl (oassign (v := .bool false) rfl rfl (evc (v := .bool false)) ?_)
  refine wnil ?_
  refine thenN ?_
  refine wseq ?_
  refine wseq ?_
  refine wreg ?_
  refine wl rfl (oload (vs := [.bool bA, .slice qA nA kA, .bool bB, .slice qB nB kB]) aggR hS 0 rfl rfl (ev rfl rfl) rfl rfl rfl ?_)
  by_cases hy : y = 0
  ·
    refine wl rfl (ocall rfl rfl Try.call11 rfl (wsmay0 ((hzB.at hS).mono (by omega)) (hy)) (args1 (ev rfl rfl)) ?_)
    rintro _ w3 ⟨_, _, rfl, ⟨rfl, rfl⟩, hN⟩
    refine ⟨_, rfl, ?_⟩
    replace hS := hS.news hN; clear hN
    refine wnil ?_
    refine thenN ?_
    refine wF (ev (v := .bool false) rfl rfl) ?_
    refine wskip ?_
    refine thenN ?_
    refine wseq ?_
    refine wreg ?_
    refine wl rfl (oload (vs := [.bool bA, .slice qA nA kA, .bool bB, .slice qB nB kB]) aggR hS 0 rfl rfl (ev rfl rfl) rfl rfl rfl ?_)
    refine wl rfl (omove (v := .int .i64 (-9223372036854775808)) rfl rfl (ev (v := .int .i64 (-9223372036854775808)) rfl rfl) ?_)
    refine wl rfl (ocall rfl rfl Try.call40 rfl (wrpow0 ((hzA.at hS).mono (by omega)) ((hzB.at hS).mono (by omega)) (hy)) (args2 (ev rfl rfl) (ev rfl rfl)) ?_)
    rintro _ w4 ⟨_, _, rfl, ⟨rfl, rfl⟩, hN⟩
    refine ⟨_, rfl, ?_⟩
    replace hS := hS.news hN; clear hN
    refine wl rfl (omove (v := .tuple #[.agg #[.bool false, .slice none 0 0, .bool false, .slice none 0 0], .int .i64 6]) rfl rfl (ev (v := .tuple #[.agg #[.bool false, .slice none 0 0, .bool false, .slice none 0 0], .int .i64 6]) rfl rfl) ?_)
    refine wl rfl (oextract (vs := [.agg #[.bool false, .slice none 0 0, .bool false, .slice none 0 0], .int .i64 6]) (v := .agg #[.bool false, .slice none 0 0, .bool false, .slice none 0 0]) rfl rfl (ev (v := .tuple #[.agg #[.bool false, .slice none 0 0, .bool false, .slice none 0 0], .int .i64 6]) rfl rfl) rfl ?_)
    refine wl rfl (oextract (vs := [.agg #[.bool false, .slice none 0 0, .bool false, .slice none 0 0], .int .i64 6]) (v := .int .i64 6) rfl rfl (ev (v := .tuple #[.agg #[.bool false, .slice none 0 0, .bool false, .slice none 0 0], .int .i64 6]) rfl rfl) rfl ?_)
    refine wl rfl (oalloc [.bool false, .slice none 0 0, .bool false, .slice none 0 0] hS rfl rfl Try.zeroValue27 rfl ?_)
    clear hS; intro g5 w6 hS
    refine wl rfl (ostore [.bool false, .slice none 0 0, .bool false, .slice none 0 0] [.bool false, .slice none 0 0, .bool false, .slice none 0 0] Try.sizeOf27 hS 0 rfl rfl (ev rfl rfl) (ev (v := .agg #[.bool false, .slice none 0 0, .bool false, .slice none 0 0]) rfl rfl) rfl rfl rfl rfl rfl rfl ?_)
    clear hS; intro w7 hS
    refine wl rfl (oassign (v := .int .i64 6) rfl rfl (ev (v := .int .i64 6) rfl rfl) ?_)
    refine wnil ?_
    refine thenN ?_
    refine wseq ?_
    refine wblock ?_
    refine wseq ?_
    refine wreg ?_
    refine wl rfl (oload (vs := [.bool bA, .slice qA nA kA, .bool bB, .slice qB nB kB]) aggR hS 1 rfl rfl (ev rfl rfl) rfl rfl rfl ?_)
    refine wl rfl (ocall rfl rfl Try.call11 rfl (wsmay0 ((hzB.at hS).mono (by omega)) (hy)) (args1 (ev rfl rfl)) ?_)
    rintro _ w8 ⟨_, _, rfl, ⟨rfl, rfl⟩, hN⟩
    refine ⟨_, rfl, ?_⟩
    replace hS := hS.news hN; clear hN
    refine wl rfl (onot (b := false) rfl rfl (ev (v := .bool false) rfl rfl) ?_)
    refine wl rfl (oassign (v := .bool true) rfl rfl (ev (v := .bool true) rfl rfl) ?_)
    refine wnil ?_
    refine thenN ?_
    refine wT (ev (v := .bool true) rfl rfl) ?_
    refine wseq ?_
    refine wreg ?_
    refine wl rfl (omove (v := .int .i64 6) rfl rfl (ev (v := .int .i64 6) rfl rfl) ?_)
    refine wl rfl (obin (u := .int .i64 6) (v := .int .i64 6) (z := .bool true) rfl rfl (ev (v := .int .i64 6) rfl rfl) (evc (v := .int .i64 6)) (bin_eql (by decide)) ?_)
    refine wl rfl (omove (v := .bool true) rfl rfl (ev (v := .bool true) rfl rfl) ?_)
    refine wlOn (e := 41) rfl rfl rfl rfl (oload (vs := [.bool false, .slice none 0 0, .bool false, .slice none 0 0]) aggR hS 0 rfl rfl (ev rfl rfl) rfl rfl rfl ?_)
    refine wlOn (e := 41) rfl rfl rfl rfl (obuild (ps := #[]) (v := .agg #[.bool false, .slice none 0 0, .bool false, .slice none 0 0]) rfl rfl (parts0) (fun w => by simp [go_sem, Instr.build, Instr.fill]) ?_)
    refine wlOn (e := 41) rfl rfl rfl rfl (ocall rfl rfl Try.call13 rfl (wlsame5 (x := 0) (y := 0) (u := 0) (v := 0) (Sl.nil _) (Sl.nil _) (Sl.nil _) (Sl.nil _) (rfl) (rfl)) (args2 (ev rfl rfl) (ev rfl rfl)) ?_)
    rintro _ w9 ⟨_, _, rfl, ⟨rfl, rfl⟩, hN⟩
    refine ⟨_, rfl, ?_⟩
    replace hS := hS.news hN; clear hN
    refine wl rfl (opick (b := true) (v := .bool true) rfl rfl (ev (v := .bool true) rfl rfl) (ev (v := .bool true) rfl rfl) ?_)
    refine wl rfl (omove (v := .bool true) rfl rfl (ev (v := .bool true) rfl rfl) ?_)
    refine wlOn (e := 46) rfl rfl rfl rfl (ocall rfl rfl Try.call15 rfl (wllives5) (args0 ) ?_)
    rintro _ w10 ⟨_, _, rfl, ⟨rfl, rfl⟩, hN⟩
    refine ⟨_, rfl, ?_⟩
    replace hS := hS.news hN; clear hN
    refine wl rfl (opick (b := true) (v := .bool true) rfl rfl (ev (v := .bool true) rfl rfl) (ev (v := .bool true) rfl rfl) ?_)
    refine wl rfl (oassign (v := .bool true) rfl rfl (ev (v := .bool true) rfl rfl) ?_)
    refine wnil ?_
    refine thenN ?_
    refine wleave ?_
    refine blkR ?_
    refine thenR ?_
    refine wret1 Try.results6 (tellT (v := .bool true) rfl rfl) ?_
    exact ⟨_, _, rfl, isI, hS.new0⟩
  ·
    by_cases hx : x = 0
    ·
      refine wl rfl (ocall rfl rfl Try.call11 rfl (wsmay ((hzB.at hS).mono (by omega)) (hy)) (args1 (ev rfl rfl)) ?_)
      rintro _ w3 ⟨_, _, rfl, ⟨rfl, rfl⟩, hN⟩
      refine ⟨_, rfl, ?_⟩
      replace hS := hS.news hN; clear hN
      refine wnil ?_
      refine thenN ?_
      refine wT (ev (v := .bool true) rfl rfl) ?_
      refine wseq ?_
      refine wreg ?_
      refine wl rfl (oload (vs := [.bool bA, .slice qA nA kA, .bool bB, .slice qB nB kB]) aggR hS 0 rfl rfl (ev rfl rfl) rfl rfl rfl ?_)
      obtain ⟨z1, hz1⟩ : ∃ z : Int, Hid (RN x y = z) := ⟨_, rfl⟩
      have hk1 : Wd z1 1048576 := Wd.rn hzA.wd hz1
      obtain ⟨z2, hz2⟩ : ∃ z : Int, Hid (RD x y = z) := ⟨_, rfl⟩
      have hk2 : Wd z2 1048576 := Wd.rd hzB.wd hz2
      refine wl rfl (ocall rfl rfl Try.call37 rfl ((wsnorm ((hzA.at hS).mono (by omega)) ((hzB.at hS).mono (by omega)) (hy) hz1 hz2)) (args1 (ev rfl rfl)) ?_)
      rintro _ w4 ⟨_, _, rfl, ⟨p1, n1, c1, p2, n2, c2, rfl, rfl⟩, hN⟩
      refine ⟨_, rfl, ?_⟩
      replace hS := hS.news hN; clear hN
      refine wl rfl (oalloc [.bool false, .slice none 0 0, .bool false, .slice none 0 0] hS rfl rfl Try.zeroValue27 rfl ?_)
      clear hS; intro g5 w6 hS
      refine wl rfl (ostore [.bool (ng z1), .slice p1 n1 c1, .bool (ng z2), .slice p2 n2 c2] [.bool (ng z1), .slice p1 n1 c1, .bool (ng z2), .slice p2 n2 c2] Try.sizeOf27 hS 0 rfl rfl (ev rfl rfl) (ev (v := .agg #[.bool (ng z1), .slice p1 n1 c1, .bool (ng z2), .slice p2 n2 c2]) rfl rfl) rfl rfl rfl rfl rfl rfl ?_)
      clear hS; intro w7 hS
      refine wnil ?_
      refine thenN ?_
      refine wseq ?_
      refine wreg ?_
      refine wl rfl (ofieldAddr (g := g5) (off := 0) 0 rfl rfl (ev (v := .pointer (some ⟨g5, 0, none⟩)) rfl rfl) Try.runUnderlying27 rfl Try.sizeOf25 rfl ?_)
      refine wl rfl (ofieldAddr (g := g5) (off := 0) 1 rfl rfl (ev (v := .pointer (some ⟨g5, 0, none⟩)) rfl rfl) Try.runUnderlying25 rfl Try.sizeOf23 rfl ?_)
      refine wl rfl (oload1 (v := .slice p1 n1 c1) oneN hS 0 rfl rfl (ev rfl rfl) rfl rfl ?_)
      refine wl rfl (ocall rfl rfl Try.call39 rfl (wrlen (z := z1) (hS.slm 1 rfl) (hk1.mono (by omega))) (args1 (ev rfl rfl)) ?_)
      rintro _ w8 ⟨_, _, rfl, ⟨rfl, rfl⟩, hN⟩
      refine ⟨_, rfl, ?_⟩
      replace hS := hS.news hN; clear hN
      refine wl rfl (omove (v := .int .i64 (-9223372036854775808)) rfl rfl (ev (v := .int .i64 (-9223372036854775808)) rfl rfl) ?_)
      refine wl rfl (ocall rfl rfl Try.call38 rfl (wlong_m) (args2 (ev rfl rfl) (ev rfl rfl)) ?_)
      rintro _ w9 ⟨_, _, rfl, ⟨rfl, rfl⟩, hN⟩
      refine ⟨_, rfl, ?_⟩
      replace hS := hS.news hN; clear hN
      refine wl rfl (omove (v := .bool false) rfl rfl (ev (v := .bool false) rfl rfl) ?_)
      refine wlOn (e := 20) rfl rfl rfl rfl (ofieldAddr (g := g5) (off := 0) 2 rfl rfl (ev (v := .pointer (some ⟨g5, 0, none⟩)) rfl rfl) Try.runUnderlying27 rfl Try.sizeOf25 rfl ?_)
      refine wlOn (e := 20) rfl rfl rfl rfl (ofieldAddr (g := g5) (off := 2) 3 rfl rfl (ev (v := .pointer (some ⟨g5, 2, none⟩)) rfl rfl) Try.runUnderlying25 rfl Try.sizeOf23 rfl ?_)
      refine wlOn (e := 20) rfl rfl rfl rfl (oload1 (v := .slice p2 n2 c2) oneN hS 0 rfl rfl (ev rfl rfl) rfl rfl ?_)
      refine wlOn (e := 20) rfl rfl rfl rfl (ocall rfl rfl Try.call39 rfl (wrlen (z := z2) (hS.slm 2 rfl) (hk2.mono (by omega))) (args1 (ev rfl rfl)) ?_)
      rintro _ w10 ⟨_, _, rfl, ⟨rfl, rfl⟩, hN⟩
      refine ⟨_, rfl, ?_⟩
      replace hS := hS.news hN; clear hN
      refine wlOn (e := 20) rfl rfl rfl rfl (omove (v := .int .i64 (-9223372036854775808)) rfl rfl (ev (v := .int .i64 (-9223372036854775808)) rfl rfl) ?_)
      refine wlOn (e := 20) rfl rfl rfl rfl (ocall rfl rfl Try.call38 rfl (wlong_m) (args2 (ev rfl rfl) (ev rfl rfl)) ?_)
      rintro _ w11 ⟨_, _, rfl, ⟨rfl, rfl⟩, hN⟩
      refine ⟨_, rfl, ?_⟩
      replace hS := hS.news hN; clear hN
      refine wl rfl (opick (b := false) (v := .bool false) rfl rfl (ev (v := .bool false) rfl rfl) (ev (v := .bool false) rfl rfl) ?_)
      refine wnil ?_
      refine thenN ?_
      refine wF (ev (v := .bool false) rfl rfl) ?_
      refine wskip ?_
      refine thenN ?_
      refine wseq ?_
      refine wreg ?_
      refine wl rfl (oload (vs := [.bool bA, .slice qA nA kA, .bool bB, .slice qB nB kB]) aggR hS 3 rfl rfl (ev rfl rfl) rfl rfl rfl ?_)
      refine wl rfl (omove (v := .int .i64 (-9223372036854775808)) rfl rfl (ev (v := .int .i64 (-9223372036854775808)) rfl rfl) ?_)
      refine wl rfl (ocall rfl rfl Try.call40 rfl (wrpow_mz ((hzA.at hS).mono (by omega)) ((hzB.at hS).mono (by omega)) hy (hx)) (args2 (ev rfl rfl) (ev rfl rfl)) ?_)
      rintro _ w12 ⟨_, _, rfl, ⟨p3, n3, c3, p4, n4, c4, rfl, rfl⟩, hN⟩
      refine ⟨_, rfl, ?_⟩
      replace hS := hS.news hN; clear hN
      refine wl rfl (omove (v := .tuple #[.agg #[.bool (ng 0), .slice p3 n3 c3, .bool (ng 0), .slice p4 n4 c4], .int .i64 5]) rfl rfl (ev (v := .tuple #[.agg #[.bool (ng 0), .slice p3 n3 c3, .bool (ng 0), .slice p4 n4 c4], .int .i64 5]) rfl rfl) ?_)
      refine wl rfl (oextract (vs := [.agg #[.bool (ng 0), .slice p3 n3 c3, .bool (ng 0), .slice p4 n4 c4], .int .i64 5]) (v := .agg #[.bool (ng 0), .slice p3 n3 c3, .bool (ng 0), .slice p4 n4 c4]) rfl rfl (ev (v := .tuple #[.agg #[.bool (ng 0), .slice p3 n3 c3, .bool (ng 0), .slice p4 n4 c4], .int .i64 5]) rfl rfl) rfl ?_)
      refine wl rfl (oextract (vs := [.agg #[.bool (ng 0), .slice p3 n3 c3, .bool (ng 0), .slice p4 n4 c4], .int .i64 5]) (v := .int .i64 5) rfl rfl (ev (v := .tuple #[.agg #[.bool (ng 0), .slice p3 n3 c3, .bool (ng 0), .slice p4 n4 c4], .int .i64 5]) rfl rfl) rfl ?_)
      refine wl rfl (oalloc [.bool false, .slice none 0 0, .bool false, .slice none 0 0] hS rfl rfl Try.zeroValue27 rfl ?_)
      clear hS; intro g13 w14 hS
      refine wl rfl (ostore [.bool (ng 0), .slice p3 n3 c3, .bool (ng 0), .slice p4 n4 c4] [.bool (ng 0), .slice p3 n3 c3, .bool (ng 0), .slice p4 n4 c4] Try.sizeOf27 hS 0 rfl rfl (ev rfl rfl) (ev (v := .agg #[.bool (ng 0), .slice p3 n3 c3, .bool (ng 0), .slice p4 n4 c4]) rfl rfl) rfl rfl rfl rfl rfl rfl ?_)
      clear hS; intro w15 hS
      refine wl rfl (oassign (v := .int .i64 5) rfl rfl (ev (v := .int .i64 5) rfl rfl) ?_)
      refine wnil ?_
      refine thenN ?_
      refine wseq ?_
      refine wblock ?_
      refine wseq ?_
      refine wreg ?_
      refine wl rfl (oload (vs := [.bool bA, .slice qA nA kA, .bool bB, .slice qB nB kB]) aggR hS 6 rfl rfl (ev rfl rfl) rfl rfl rfl ?_)
      refine wl rfl (ocall rfl rfl Try.call11 rfl (wsmay ((hzB.at hS).mono (by omega)) (hy)) (args1 (ev rfl rfl)) ?_)
      rintro _ w16 ⟨_, _, rfl, ⟨rfl, rfl⟩, hN⟩
      refine ⟨_, rfl, ?_⟩
      replace hS := hS.news hN; clear hN
      refine wl rfl (onot (b := true) rfl rfl (ev (v := .bool true) rfl rfl) ?_)
      refine wl rfl (oassign (v := .bool false) rfl rfl (ev (v := .bool false) rfl rfl) ?_)
      refine wnil ?_
      refine thenN ?_
      refine wF (ev (v := .bool false) rfl rfl) ?_
      refine wseq ?_
      refine wreg ?_
      refine wl rfl (oload (vs := [.bool bA, .slice qA nA kA, .bool bB, .slice qB nB kB]) aggR hS 6 rfl rfl (ev rfl rfl) rfl rfl rfl ?_)
      obtain ⟨s5, hs5⟩ : ∃ z : Int, Hid ((x : Int).sign * (y : Int).sign = z) := ⟨_, rfl⟩
      refine wl rfl (ocall rfl rfl Try.call12 rfl (wssign ((hzA.at hS).mono (by omega)) ((hzB.at hS).mono (by omega)) (hy) hs5) (args1 (ev rfl rfl)) ?_)
      rintro _ w17 ⟨_, _, rfl, ⟨rfl, rfl⟩, hN⟩
      refine ⟨_, rfl, ?_⟩
      replace hS := hS.news hN; clear hN
      refine wl rfl (obin (u := .int .i64 s5) (v := .int .i64 0) (z := .bool true) rfl rfl (ev (v := .int .i64 s5) rfl rfl) (evc (v := .int .i64 0)) (bin_eql (rs_zero hs5 hx)) ?_)
      refine wl rfl (omove (v := .bool true) rfl rfl (ev (v := .bool true) rfl rfl) ?_)
      refine wlOn (e := 53) rfl rfl rfl rfl (omove (v := .int .i64 (-9223372036854775808)) rfl rfl (ev (v := .int .i64 (-9223372036854775808)) rfl rfl) ?_)
      refine wlOn (e := 53) rfl rfl rfl rfl (obin (u := .int .i64 (-9223372036854775808)) (v := .int .i64 0) (z := .bool true) rfl rfl (ev (v := .int .i64 (-9223372036854775808)) rfl rfl) (evc (v := .int .i64 0)) (bin_lss (by decide)) ?_)
      refine wl rfl (opick (b := true) (v := .bool true) rfl rfl (ev (v := .bool true) rfl rfl) (ev (v := .bool true) rfl rfl) ?_)
      refine wl rfl (oassign (v := .bool true) rfl rfl (ev (v := .bool true) rfl rfl) ?_)
      refine wnil ?_
      refine thenN ?_
      refine wT (ev (v := .bool true) rfl rfl) ?_
      refine wseq ?_
      refine wreg ?_
      refine wl rfl (omove (v := .int .i64 5) rfl rfl (ev (v := .int .i64 5) rfl rfl) ?_)
      refine wl rfl (obin (u := .int .i64 5) (v := .int .i64 5) (z := .bool true) rfl rfl (ev (v := .int .i64 5) rfl rfl) (evc (v := .int .i64 5)) (bin_eql (by decide)) ?_)
      refine wl rfl (omove (v := .bool true) rfl rfl (ev (v := .bool true) rfl rfl) ?_)
      refine wlOn (e := 59) rfl rfl rfl rfl (oload (vs := [.bool (ng 0), .slice p3 n3 c3, .bool (ng 0), .slice p4 n4 c4]) aggR hS 0 rfl rfl (ev rfl rfl) rfl rfl rfl ?_)
      refine wlOn (e := 59) rfl rfl rfl rfl (obuild (ps := #[]) (v := .agg #[.bool false, .slice none 0 0, .bool false, .slice none 0 0]) rfl rfl (parts0) (fun w => by simp [go_sem, Instr.build, Instr.fill]) ?_)
      refine wlOn (e := 59) rfl rfl rfl rfl (ocall rfl rfl Try.call13 rfl (wlsame5 (x := 0) (y := 0) (u := 0) (v := 0) (hS.slm 1 rfl) (hS.slm 2 rfl) (Sl.nil _) (Sl.nil _) (rfl) (rfl)) (args2 (ev rfl rfl) (ev rfl rfl)) ?_)
      rintro _ w18 ⟨_, _, rfl, ⟨rfl, rfl⟩, hN⟩
      refine ⟨_, rfl, ?_⟩
      replace hS := hS.news hN; clear hN
      refine wl rfl (opick (b := true) (v := .bool true) rfl rfl (ev (v := .bool true) rfl rfl) (ev (v := .bool true) rfl rfl) ?_)
      refine wl rfl (omove (v := .bool true) rfl rfl (ev (v := .bool true) rfl rfl) ?_)
      refine wlOn (e := 64) rfl rfl rfl rfl (ocall rfl rfl Try.call15 rfl (wllives5) (args0 ) ?_)
      rintro _ w19 ⟨_, _, rfl, ⟨rfl, rfl⟩, hN⟩
      refine ⟨_, rfl, ?_⟩
      replace hS := hS.news hN; clear hN
      refine wl rfl (opick (b := true) (v := .bool true) rfl rfl (ev (v := .bool true) rfl rfl) (ev (v := .bool true) rfl rfl) ?_)
      refine wl rfl (oassign (v := .bool true) rfl rfl (ev (v := .bool true) rfl rfl) ?_)
      refine wnil ?_
      refine thenN ?_
      refine wleave ?_
      refine blkR ?_
      refine thenR ?_
      refine wret1 Try.results6 (tellT (v := .bool true) rfl rfl) ?_
      exact ⟨_, _, rfl, isI, hS.new0⟩
    ·
      refine wl rfl (ocall rfl rfl Try.call11 rfl (wsmay ((hzB.at hS).mono (by omega)) (hy)) (args1 (ev rfl rfl)) ?_)
      rintro _ w3 ⟨_, _, rfl, ⟨rfl, rfl⟩, hN⟩
      refine ⟨_, rfl, ?_⟩
      replace hS := hS.news hN; clear hN
      refine wnil ?_
      refine thenN ?_
      refine wT (ev (v := .bool true) rfl rfl) ?_
      refine wseq ?_
      refine wreg ?_
      refine wl rfl (oload (vs := [.bool bA, .slice qA nA kA, .bool bB, .slice qB nB kB]) aggR hS 0 rfl rfl (ev rfl rfl) rfl rfl rfl ?_)
      obtain ⟨z1, hz1⟩ : ∃ z : Int, Hid (RN x y = z) := ⟨_, rfl⟩
      have hk1 : Wd z1 1048576 := Wd.rn hzA.wd hz1
      obtain ⟨z2, hz2⟩ : ∃ z : Int, Hid (RD x y = z) := ⟨_, rfl⟩
      have hk2 : Wd z2 1048576 := Wd.rd hzB.wd hz2
      refine wl rfl (ocall rfl rfl Try.call37 rfl ((wsnorm ((hzA.at hS).mono (by omega)) ((hzB.at hS).mono (by omega)) (hy) hz1 hz2)) (args1 (ev rfl rfl)) ?_)
      rintro _ w4 ⟨_, _, rfl, ⟨p1, n1, c1, p2, n2, c2, rfl, rfl⟩, hN⟩
      refine ⟨_, rfl, ?_⟩
      replace hS := hS.news hN; clear hN
      refine wl rfl (oalloc [.bool false, .slice none 0 0, .bool false, .slice none 0 0] hS rfl rfl Try.zeroValue27 rfl ?_)
      clear hS; intro g5 w6 hS
      refine wl rfl (ostore [.bool (ng z1), .slice p1 n1 c1, .bool (ng z2), .slice p2 n2 c2] [.bool (ng z1), .slice p1 n1 c1, .bool (ng z2), .slice p2 n2 c2] Try.sizeOf27 hS 0 rfl rfl (ev rfl rfl) (ev (v := .agg #[.bool (ng z1), .slice p1 n1 c1, .bool (ng z2), .slice p2 n2 c2]) rfl rfl) rfl rfl rfl rfl rfl rfl ?_)
      clear hS; intro w7 hS
      refine wnil ?_
      refine thenN ?_
      refine wseq ?_
      refine wreg ?_
      refine wl rfl (ofieldAddr (g := g5) (off := 0) 0 rfl rfl (ev (v := .pointer (some ⟨g5, 0, none⟩)) rfl rfl) Try.runUnderlying27 rfl Try.sizeOf25 rfl ?_)
      refine wl rfl (ofieldAddr (g := g5) (off := 0) 1 rfl rfl (ev (v := .pointer (some ⟨g5, 0, none⟩)) rfl rfl) Try.runUnderlying25 rfl Try.sizeOf23 rfl ?_)
      refine wl rfl (oload1 (v := .slice p1 n1 c1) oneN hS 0 rfl rfl (ev rfl rfl) rfl rfl ?_)
      refine wl rfl (ocall rfl rfl Try.call39 rfl (wrlen (z := z1) (hS.slm 1 rfl) (hk1.mono (by omega))) (args1 (ev rfl rfl)) ?_)
      rintro _ w8 ⟨_, _, rfl, ⟨rfl, rfl⟩, hN⟩
      refine ⟨_, rfl, ?_⟩
      replace hS := hS.news hN; clear hN
      refine wl rfl (omove (v := .int .i64 (-9223372036854775808)) rfl rfl (ev (v := .int .i64 (-9223372036854775808)) rfl rfl) ?_)
      refine wl rfl (ocall rfl rfl Try.call38 rfl (wlong_m) (args2 (ev rfl rfl) (ev rfl rfl)) ?_)
      rintro _ w9 ⟨_, _, rfl, ⟨rfl, rfl⟩, hN⟩
      refine ⟨_, rfl, ?_⟩
      replace hS := hS.news hN; clear hN
      refine wl rfl (omove (v := .bool false) rfl rfl (ev (v := .bool false) rfl rfl) ?_)
      refine wlOn (e := 20) rfl rfl rfl rfl (ofieldAddr (g := g5) (off := 0) 2 rfl rfl (ev (v := .pointer (some ⟨g5, 0, none⟩)) rfl rfl) Try.runUnderlying27 rfl Try.sizeOf25 rfl ?_)
      refine wlOn (e := 20) rfl rfl rfl rfl (ofieldAddr (g := g5) (off := 2) 3 rfl rfl (ev (v := .pointer (some ⟨g5, 2, none⟩)) rfl rfl) Try.runUnderlying25 rfl Try.sizeOf23 rfl ?_)
      refine wlOn (e := 20) rfl rfl rfl rfl (oload1 (v := .slice p2 n2 c2) oneN hS 0 rfl rfl (ev rfl rfl) rfl rfl ?_)
      refine wlOn (e := 20) rfl rfl rfl rfl (ocall rfl rfl Try.call39 rfl (wrlen (z := z2) (hS.slm 2 rfl) (hk2.mono (by omega))) (args1 (ev rfl rfl)) ?_)
      rintro _ w10 ⟨_, _, rfl, ⟨rfl, rfl⟩, hN⟩
      refine ⟨_, rfl, ?_⟩
      replace hS := hS.news hN; clear hN
      refine wlOn (e := 20) rfl rfl rfl rfl (omove (v := .int .i64 (-9223372036854775808)) rfl rfl (ev (v := .int .i64 (-9223372036854775808)) rfl rfl) ?_)
      refine wlOn (e := 20) rfl rfl rfl rfl (ocall rfl rfl Try.call38 rfl (wlong_m) (args2 (ev rfl rfl) (ev rfl rfl)) ?_)
      rintro _ w11 ⟨_, _, rfl, ⟨rfl, rfl⟩, hN⟩
      refine ⟨_, rfl, ?_⟩
      replace hS := hS.news hN; clear hN
      refine wl rfl (opick (b := false) (v := .bool false) rfl rfl (ev (v := .bool false) rfl rfl) (ev (v := .bool false) rfl rfl) ?_)
      refine wnil ?_
      refine thenN ?_
      refine wF (ev (v := .bool false) rfl rfl) ?_
      refine wskip ?_
      refine thenN ?_
      refine wseq ?_
      refine wreg ?_
      refine wl rfl (oload (vs := [.bool bA, .slice qA nA kA, .bool bB, .slice qB nB kB]) aggR hS 3 rfl rfl (ev rfl rfl) rfl rfl rfl ?_)
      refine wl rfl (omove (v := .int .i64 (-9223372036854775808)) rfl rfl (ev (v := .int .i64 (-9223372036854775808)) rfl rfl) ?_)
      by_cases o1 : blen (RN (RD x y) (RN x y)).natAbs = 1
      ·
        by_cases o2 : blen (RD (RD x y) (RN x y)).natAbs = 1
        ·
          refine wl rfl (ocall rfl rfl Try.call40 rfl (wrpow_m ((hzA.at hS).mono (by omega)) ((hzB.at hS).mono (by omega)) hy (hx) (o1) (o2)) (args2 (ev rfl rfl) (ev rfl rfl)) ?_)
          rintro _ w12 ⟨_, _, rfl, ⟨p3, n3, c3, p4, n4, c4, rfl, rfl⟩, hN⟩
          refine ⟨_, rfl, ?_⟩
          replace hS := hS.news hN; clear hN
          refine wl rfl (omove (v := .tuple #[.agg #[.bool (ng 1), .slice p3 n3 c3, .bool (ng 1), .slice p4 n4 c4], .int .i64 0]) rfl rfl (ev (v := .tuple #[.agg #[.bool (ng 1), .slice p3 n3 c3, .bool (ng 1), .slice p4 n4 c4], .int .i64 0]) rfl rfl) ?_)
          refine wl rfl (oextract (vs := [.agg #[.bool (ng 1), .slice p3 n3 c3, .bool (ng 1), .slice p4 n4 c4], .int .i64 0]) (v := .agg #[.bool (ng 1), .slice p3 n3 c3, .bool (ng 1), .slice p4 n4 c4]) rfl rfl (ev (v := .tuple #[.agg #[.bool (ng 1), .slice p3 n3 c3, .bool (ng 1), .slice p4 n4 c4], .int .i64 0]) rfl rfl) rfl ?_)
          refine wl rfl (oextract (vs := [.agg #[.bool (ng 1), .slice p3 n3 c3, .bool (ng 1), .slice p4 n4 c4], .int .i64 0]) (v := .int .i64 0) rfl rfl (ev (v := .tuple #[.agg #[.bool (ng 1), .slice p3 n3 c3, .bool (ng 1), .slice p4 n4 c4], .int .i64 0]) rfl rfl) rfl ?_)
          refine wl rfl (oalloc [.bool false, .slice none 0 0, .bool false, .slice none 0 0] hS rfl rfl Try.zeroValue27 rfl ?_)
          clear hS; intro g13 w14 hS
          refine wl rfl (ostore [.bool (ng 1), .slice p3 n3 c3, .bool (ng 1), .slice p4 n4 c4] [.bool (ng 1), .slice p3 n3 c3, .bool (ng 1), .slice p4 n4 c4] Try.sizeOf27 hS 0 rfl rfl (ev rfl rfl) (ev (v := .agg #[.bool (ng 1), .slice p3 n3 c3, .bool (ng 1), .slice p4 n4 c4]) rfl rfl) rfl rfl rfl rfl rfl rfl ?_)
          clear hS; intro w15 hS
          refine wl rfl (oassign (v := .int .i64 0) rfl rfl (ev (v := .int .i64 0) rfl rfl) ?_)
          refine wnil ?_
          refine thenN ?_
          refine wseq ?_
          refine wblock ?_
          refine wseq ?_
          refine wreg ?_
          refine wl rfl (oload (vs := [.bool bA, .slice qA nA kA, .bool bB, .slice qB nB kB]) aggR hS 6 rfl rfl (ev rfl rfl) rfl rfl rfl ?_)
          refine wl rfl (ocall rfl rfl Try.call11 rfl (wsmay ((hzB.at hS).mono (by omega)) (hy)) (args1 (ev rfl rfl)) ?_)
          rintro _ w16 ⟨_, _, rfl, ⟨rfl, rfl⟩, hN⟩
          refine ⟨_, rfl, ?_⟩
          replace hS := hS.news hN; clear hN
          refine wl rfl (onot (b := true) rfl rfl (ev (v := .bool true) rfl rfl) ?_)
          refine wl rfl (oassign (v := .bool false) rfl rfl (ev (v := .bool false) rfl rfl) ?_)
          refine wnil ?_
          refine thenN ?_
          refine wF (ev (v := .bool false) rfl rfl) ?_
          refine wseq ?_
          refine wreg ?_
          refine wl rfl (oload (vs := [.bool bA, .slice qA nA kA, .bool bB, .slice qB nB kB]) aggR hS 6 rfl rfl (ev rfl rfl) rfl rfl rfl ?_)
          obtain ⟨s5, hs5⟩ : ∃ z : Int, Hid ((x : Int).sign * (y : Int).sign = z) := ⟨_, rfl⟩
          refine wl rfl (ocall rfl rfl Try.call12 rfl (wssign ((hzA.at hS).mono (by omega)) ((hzB.at hS).mono (by omega)) (hy) hs5) (args1 (ev rfl rfl)) ?_)
          rintro _ w17 ⟨_, _, rfl, ⟨rfl, rfl⟩, hN⟩
          refine ⟨_, rfl, ?_⟩
          replace hS := hS.news hN; clear hN
          refine wl rfl (obin (u := .int .i64 s5) (v := .int .i64 0) (z := .bool false) rfl rfl (ev (v := .int .i64 s5) rfl rfl) (evc (v := .int .i64 0)) (bin_eql (rs_ne hs5 hx hy)) ?_)
          refine wl rfl (omove (v := .bool false) rfl rfl (ev (v := .bool false) rfl rfl) ?_)
          refine wlOff (e := 53) (d := 54) (b' := false) rfl rfl rfl rfl rfl rfl ?_
          refine wlOff (e := 53) (d := 55) (b' := false) rfl rfl rfl rfl rfl rfl ?_
          refine wl rfl (opick (b := false) (v := .bool false) rfl rfl (ev (v := .bool false) rfl rfl) (evc (v := .bool false)) ?_)
          refine wl rfl (oassign (v := .bool false) rfl rfl (ev (v := .bool false) rfl rfl) ?_)
          refine wnil ?_
          refine thenN ?_
          refine wF (ev (v := .bool false) rfl rfl) ?_
          refine wskip ?_
          refine blkN ?_
          refine thenN ?_
          refine wseq ?_
          refine wreg ?_
          refine wl rfl (oload (vs := [.bool bA, .slice qA nA kA, .bool bB, .slice qB nB kB]) aggR hS 6 rfl rfl (ev rfl rfl) rfl rfl rfl ?_)
          refine wl rfl (omove (v := .int .i64 (-9223372036854775808)) rfl rfl (ev (v := .int .i64 (-9223372036854775808)) rfl rfl) ?_)
          refine wl rfl (ocall rfl rfl Try.call41 rfl (wqrpow_m ((hzA.at hS).mono (by omega)) ((hzB.at hS).mono (by omega)) hy (hx) (o1) (o2)) (args2 (ev rfl rfl) (ev rfl rfl)) ?_)
          rintro _ w18 ⟨_, _, rfl, ⟨p6, n6, c6, p7, n7, c7, rfl, rfl⟩, hN⟩
          refine ⟨_, rfl, ?_⟩
          replace hS := hS.news hN; clear hN
          refine wl rfl (omove (v := .tuple #[.agg #[.bool (ng 1), .slice p6 n6 c6, .bool (ng 1), .slice p7 n7 c7], .bool true]) rfl rfl (ev (v := .tuple #[.agg #[.bool (ng 1), .slice p6 n6 c6, .bool (ng 1), .slice p7 n7 c7], .bool true]) rfl rfl) ?_)
          refine wl rfl (oextract (vs := [.agg #[.bool (ng 1), .slice p6 n6 c6, .bool (ng 1), .slice p7 n7 c7], .bool true]) (v := .agg #[.bool (ng 1), .slice p6 n6 c6, .bool (ng 1), .slice p7 n7 c7]) rfl rfl (ev (v := .tuple #[.agg #[.bool (ng 1), .slice p6 n6 c6, .bool (ng 1), .slice p7 n7 c7], .bool true]) rfl rfl) rfl ?_)
          refine wl rfl (oextract (vs := [.agg #[.bool (ng 1), .slice p6 n6 c6, .bool (ng 1), .slice p7 n7 c7], .bool true]) (v := .bool true) rfl rfl (ev (v := .tuple #[.agg #[.bool (ng 1), .slice p6 n6 c6, .bool (ng 1), .slice p7 n7 c7], .bool true]) rfl rfl) rfl ?_)
          refine wl rfl (oalloc [.bool false, .slice none 0 0, .bool false, .slice none 0 0] hS rfl rfl Try.zeroValue27 rfl ?_)
          clear hS; intro g19 w20 hS
          refine wl rfl (ostore [.bool (ng 1), .slice p6 n6 c6, .bool (ng 1), .slice p7 n7 c7] [.bool (ng 1), .slice p6 n6 c6, .bool (ng 1), .slice p7 n7 c7] Try.sizeOf27 hS 0 rfl rfl (ev rfl rfl) (ev (v := .agg #[.bool (ng 1), .slice p6 n6 c6, .bool (ng 1), .slice p7 n7 c7]) rfl rfl) rfl rfl rfl rfl rfl rfl ?_)
          clear hS; intro w21 hS
          refine wl rfl (oassign (v := .bool true) rfl rfl (ev (v := .bool true) rfl rfl) ?_)
          refine wnil ?_
          refine thenN ?_
          refine wseq ?_
          refine wseq ?_
          refine wreg ?_
          refine wl rfl (omove (v := .bool true) rfl rfl (ev (v := .bool true) rfl rfl) ?_)
          refine wl rfl (onot (b := true) rfl rfl (ev (v := .bool true) rfl rfl) ?_)
          refine wnil ?_
          refine thenN ?_
          refine wF (ev (v := .bool false) rfl rfl) ?_
          refine wskip ?_
          refine thenN ?_
          refine wseq ?_
          refine wreg ?_
          refine wl rfl (omove (v := .int .i64 0) rfl rfl (ev (v := .int .i64 0) rfl rfl) ?_)
          refine wl rfl (obin (u := .int .i64 0) (v := .int .i64 0) (z := .bool true) rfl rfl (ev (v := .int .i64 0) rfl rfl) (evc (v := .int .i64 0)) (bin_eql (by decide)) ?_)
          refine wl rfl (omove (v := .bool true) rfl rfl (ev (v := .bool true) rfl rfl) ?_)
          refine wlOn (e := 87) rfl rfl rfl rfl (oload (vs := [.bool (ng 1), .slice p3 n3 c3, .bool (ng 1), .slice p4 n4 c4]) aggR hS 3 rfl rfl (ev rfl rfl) rfl rfl rfl ?_)
          refine wlOn (e := 87) rfl rfl rfl rfl (oload (vs := [.bool (ng 1), .slice p6 n6 c6, .bool (ng 1), .slice p7 n7 c7]) aggR hS 0 rfl rfl (ev rfl rfl) rfl rfl rfl ?_)
          refine wlOn (e := 87) rfl rfl rfl rfl (ocall rfl rfl Try.call13 rfl (wlsame5 (x := 1) (y := 1) (u := 1) (v := 1) (hS.slm 4 rfl) (hS.slm 5 rfl) (hS.slm 1 rfl) (hS.slm 2 rfl) (rfl) (rfl)) (args2 (ev rfl rfl) (ev rfl rfl)) ?_)
          rintro _ w22 ⟨_, _, rfl, ⟨rfl, rfl⟩, hN⟩
          refine ⟨_, rfl, ?_⟩
          replace hS := hS.news hN; clear hN
          refine wl rfl (opick (b := true) (v := .bool true) rfl rfl (ev (v := .bool true) rfl rfl) (ev (v := .bool true) rfl rfl) ?_)
          refine wl rfl (omove (v := .bool true) rfl rfl (ev (v := .bool true) rfl rfl) ?_)
          refine wlOn (e := 92) rfl rfl rfl rfl (ocall rfl rfl Try.call15 rfl (wllives5) (args0 ) ?_)
          rintro _ w23 ⟨_, _, rfl, ⟨rfl, rfl⟩, hN⟩
          refine ⟨_, rfl, ?_⟩
          replace hS := hS.news hN; clear hN
          refine wl rfl (opick (b := true) (v := .bool true) rfl rfl (ev (v := .bool true) rfl rfl) (ev (v := .bool true) rfl rfl) ?_)
          refine wl rfl (oassign (v := .bool true) rfl rfl (ev (v := .bool true) rfl rfl) ?_)
          refine wnil ?_
          refine thenN ?_
          refine wleave ?_
          refine wret1 Try.results6 (tellT (v := .bool true) rfl rfl) ?_
          exact ⟨_, _, rfl, isI, hS.new0⟩
        ·
          refine wl rfl (ocall rfl rfl Try.call40 rfl (wrpow_mB ((hzA.at hS).mono (by omega)) ((hzB.at hS).mono (by omega)) hy (hx) (o1) (o2)) (args2 (ev rfl rfl) (ev rfl rfl)) ?_)
          rintro _ w12 ⟨_, _, rfl, ⟨p3, n3, c3, p4, n4, c4, rfl, rfl⟩, hN⟩
          refine ⟨_, rfl, ?_⟩
          replace hS := hS.news hN; clear hN
          refine wl rfl (omove (v := .tuple #[.agg #[.bool (ng 0), .slice p3 n3 c3, .bool (ng 0), .slice p4 n4 c4], .int .i64 4]) rfl rfl (ev (v := .tuple #[.agg #[.bool (ng 0), .slice p3 n3 c3, .bool (ng 0), .slice p4 n4 c4], .int .i64 4]) rfl rfl) ?_)
          refine wl rfl (oextract (vs := [.agg #[.bool (ng 0), .slice p3 n3 c3, .bool (ng 0), .slice p4 n4 c4], .int .i64 4]) (v := .agg #[.bool (ng 0), .slice p3 n3 c3, .bool (ng 0), .slice p4 n4 c4]) rfl rfl (ev (v := .tuple #[.agg #[.bool (ng 0), .slice p3 n3 c3, .bool (ng 0), .slice p4 n4 c4], .int .i64 4]) rfl rfl) rfl ?_)
          refine wl rfl (oextract (vs := [.agg #[.bool (ng 0), .slice p3 n3 c3, .bool (ng 0), .slice p4 n4 c4], .int .i64 4]) (v := .int .i64 4) rfl rfl (ev (v := .tuple #[.agg #[.bool (ng 0), .slice p3 n3 c3, .bool (ng 0), .slice p4 n4 c4], .int .i64 4]) rfl rfl) rfl ?_)
          refine wl rfl (oalloc [.bool false, .slice none 0 0, .bool false, .slice none 0 0] hS rfl rfl Try.zeroValue27 rfl ?_)
          clear hS; intro g13 w14 hS
          refine wl rfl (ostore [.bool (ng 0), .slice p3 n3 c3, .bool (ng 0), .slice p4 n4 c4] [.bool (ng 0), .slice p3 n3 c3, .bool (ng 0), .slice p4 n4 c4] Try.sizeOf27 hS 0 rfl rfl (ev rfl rfl) (ev (v := .agg #[.bool (ng 0), .slice p3 n3 c3, .bool (ng 0), .slice p4 n4 c4]) rfl rfl) rfl rfl rfl rfl rfl rfl ?_)
          clear hS; intro w15 hS
          refine wl rfl (oassign (v := .int .i64 4) rfl rfl (ev (v := .int .i64 4) rfl rfl) ?_)
          refine wnil ?_
          refine thenN ?_
          refine wseq ?_
          refine wblock ?_
          refine wseq ?_
          refine wreg ?_
          refine wl rfl (oload (vs := [.bool bA, .slice qA nA kA, .bool bB, .slice qB nB kB]) aggR hS 6 rfl rfl (ev rfl rfl) rfl rfl rfl ?_)
          refine wl rfl (ocall rfl rfl Try.call11 rfl (wsmay ((hzB.at hS).mono (by omega)) (hy)) (args1 (ev rfl rfl)) ?_)
          rintro _ w16 ⟨_, _, rfl, ⟨rfl, rfl⟩, hN⟩
          refine ⟨_, rfl, ?_⟩
          replace hS := hS.news hN; clear hN
          refine wl rfl (onot (b := true) rfl rfl (ev (v := .bool true) rfl rfl) ?_)
          refine wl rfl (oassign (v := .bool false) rfl rfl (ev (v := .bool false) rfl rfl) ?_)
          refine wnil ?_
          refine thenN ?_
          refine wF (ev (v := .bool false) rfl rfl) ?_
          refine wseq ?_
          refine wreg ?_
          refine wl rfl (oload (vs := [.bool bA, .slice qA nA kA, .bool bB, .slice qB nB kB]) aggR hS 6 rfl rfl (ev rfl rfl) rfl rfl rfl ?_)
          obtain ⟨s5, hs5⟩ : ∃ z : Int, Hid ((x : Int).sign * (y : Int).sign = z) := ⟨_, rfl⟩
          refine wl rfl (ocall rfl rfl Try.call12 rfl (wssign ((hzA.at hS).mono (by omega)) ((hzB.at hS).mono (by omega)) (hy) hs5) (args1 (ev rfl rfl)) ?_)
          rintro _ w17 ⟨_, _, rfl, ⟨rfl, rfl⟩, hN⟩
          refine ⟨_, rfl, ?_⟩
          replace hS := hS.news hN; clear hN
          refine wl rfl (obin (u := .int .i64 s5) (v := .int .i64 0) (z := .bool false) rfl rfl (ev (v := .int .i64 s5) rfl rfl) (evc (v := .int .i64 0)) (bin_eql (rs_ne hs5 hx hy)) ?_)
          refine wl rfl (omove (v := .bool false) rfl rfl (ev (v := .bool false) rfl rfl) ?_)
          refine wlOff (e := 53) (d := 54) (b' := false) rfl rfl rfl rfl rfl rfl ?_
          refine wlOff (e := 53) (d := 55) (b' := false) rfl rfl rfl rfl rfl rfl ?_
          refine wl rfl (opick (b := false) (v := .bool false) rfl rfl (ev (v := .bool false) rfl rfl) (evc (v := .bool false)) ?_)
          refine wl rfl (oassign (v := .bool false) rfl rfl (ev (v := .bool false) rfl rfl) ?_)
          refine wnil ?_
          refine thenN ?_
          refine wF (ev (v := .bool false) rfl rfl) ?_
          refine wskip ?_
          refine blkN ?_
          refine thenN ?_
          refine wseq ?_
          refine wreg ?_
          refine wl rfl (oload (vs := [.bool bA, .slice qA nA kA, .bool bB, .slice qB nB kB]) aggR hS 6 rfl rfl (ev rfl rfl) rfl rfl rfl ?_)
          refine wl rfl (omove (v := .int .i64 (-9223372036854775808)) rfl rfl (ev (v := .int .i64 (-9223372036854775808)) rfl rfl) ?_)
          refine wl rfl (ocall rfl rfl Try.call41 rfl (wqrpow_mB ((hzA.at hS).mono (by omega)) ((hzB.at hS).mono (by omega)) hy (hx) (o1) (o2)) (args2 (ev rfl rfl) (ev rfl rfl)) ?_)
          rintro _ w18 ⟨_, _, rfl, ⟨rfl, rfl⟩, hN⟩
          refine ⟨_, rfl, ?_⟩
          replace hS := hS.news hN; clear hN
          refine wl rfl (omove (v := .tuple #[.agg #[.bool false, .slice none 0 0, .bool false, .slice none 0 0], .bool false]) rfl rfl (ev (v := .tuple #[.agg #[.bool false, .slice none 0 0, .bool false, .slice none 0 0], .bool false]) rfl rfl) ?_)
          refine wl rfl (oextract (vs := [.agg #[.bool false, .slice none 0 0, .bool false, .slice none 0 0], .bool false]) (v := .agg #[.bool false, .slice none 0 0, .bool false, .slice none 0 0]) rfl rfl (ev (v := .tuple #[.agg #[.bool false, .slice none 0 0, .bool false, .slice none 0 0], .bool false]) rfl rfl) rfl ?_)
          refine wl rfl (oextract (vs := [.agg #[.bool false, .slice none 0 0, .bool false, .slice none 0 0], .bool false]) (v := .bool false) rfl rfl (ev (v := .tuple #[.agg #[.bool false, .slice none 0 0, .bool false, .slice none 0 0], .bool false]) rfl rfl) rfl ?_)
          refine wl rfl (oalloc [.bool false, .slice none 0 0, .bool false, .slice none 0 0] hS rfl rfl Try.zeroValue27 rfl ?_)
          clear hS; intro g19 w20 hS
          refine wl rfl (ostore [.bool false, .slice none 0 0, .bool false, .slice none 0 0] [.bool false, .slice none 0 0, .bool false, .slice none 0 0] Try.sizeOf27 hS 0 rfl rfl (ev rfl rfl) (ev (v := .agg #[.bool false, .slice none 0 0, .bool false, .slice none 0 0]) rfl rfl) rfl rfl rfl rfl rfl rfl ?_)
          clear hS; intro w21 hS
          refine wl rfl (oassign (v := .bool false) rfl rfl (ev (v := .bool false) rfl rfl) ?_)
          refine wnil ?_
          refine thenN ?_
          refine wseq ?_
          refine wseq ?_
          refine wreg ?_
          refine wl rfl (omove (v := .bool false) rfl rfl (ev (v := .bool false) rfl rfl) ?_)
          refine wl rfl (onot (b := false) rfl rfl (ev (v := .bool false) rfl rfl) ?_)
          refine wnil ?_
          refine thenN ?_
          refine wT (ev (v := .bool true) rfl rfl) ?_
          refine wseq ?_
          refine wreg ?_
          refine wl rfl (omove (v := .int .i64 4) rfl rfl (ev (v := .int .i64 4) rfl rfl) ?_)
          refine wl rfl (obin (u := .int .i64 4) (v := .int .i64 4) (z := .bool true) rfl rfl (ev (v := .int .i64 4) rfl rfl) (evc (v := .int .i64 4)) (bin_eql (by decide)) ?_)
          refine wl rfl (omove (v := .bool true) rfl rfl (ev (v := .bool true) rfl rfl) ?_)
          refine wlOn (e := 77) rfl rfl rfl rfl (oload (vs := [.bool (ng 0), .slice p3 n3 c3, .bool (ng 0), .slice p4 n4 c4]) aggR hS 1 rfl rfl (ev rfl rfl) rfl rfl rfl ?_)
          refine wlOn (e := 77) rfl rfl rfl rfl (obuild (ps := #[]) (v := .agg #[.bool false, .slice none 0 0, .bool false, .slice none 0 0]) rfl rfl (parts0) (fun w => by simp [go_sem, Instr.build, Instr.fill]) ?_)
          refine wlOn (e := 77) rfl rfl rfl rfl (ocall rfl rfl Try.call13 rfl (wlsame5 (x := 0) (y := 0) (u := 0) (v := 0) (hS.slm 2 rfl) (hS.slm 3 rfl) (Sl.nil _) (Sl.nil _) (rfl) (rfl)) (args2 (ev rfl rfl) (ev rfl rfl)) ?_)
          rintro _ w22 ⟨_, _, rfl, ⟨rfl, rfl⟩, hN⟩
          refine ⟨_, rfl, ?_⟩
          replace hS := hS.news hN; clear hN
          refine wl rfl (opick (b := true) (v := .bool true) rfl rfl (ev (v := .bool true) rfl rfl) (ev (v := .bool true) rfl rfl) ?_)
          refine wl rfl (omove (v := .bool true) rfl rfl (ev (v := .bool true) rfl rfl) ?_)
          refine wlOn (e := 82) rfl rfl rfl rfl (ocall rfl rfl Try.call15 rfl (wllives5) (args0 ) ?_)
          rintro _ w23 ⟨_, _, rfl, ⟨rfl, rfl⟩, hN⟩
          refine ⟨_, rfl, ?_⟩
          replace hS := hS.news hN; clear hN
          refine wl rfl (opick (b := true) (v := .bool true) rfl rfl (ev (v := .bool true) rfl rfl) (ev (v := .bool true) rfl rfl) ?_)
          refine wl rfl (oassign (v := .bool true) rfl rfl (ev (v := .bool true) rfl rfl) ?_)
          refine wnil ?_
          refine thenN ?_
          refine wleave ?_
          refine thenR ?_
          refine wret1 Try.results6 (tellT (v := .bool true) rfl rfl) ?_
          exact ⟨_, _, rfl, isI, hS.new0⟩
      ·
        refine wl rfl (ocall rfl rfl Try.call40 rfl (wrpow_mA ((hzA.at hS).mono (by omega)) ((hzB.at hS).mono (by omega)) hy (hx) (o1)) (args2 (ev rfl rfl) (ev rfl rfl)) ?_)
        rintro _ w12 ⟨_, _, rfl, ⟨p3, n3, c3, p4, n4, c4, rfl, rfl⟩, hN⟩
        refine ⟨_, rfl, ?_⟩
        replace hS := hS.news hN; clear hN
        refine wl rfl (omove (v := .tuple #[.agg #[.bool (ng 0), .slice p3 n3 c3, .bool (ng 0), .slice p4 n4 c4], .int .i64 4]) rfl rfl (ev (v := .tuple #[.agg #[.bool (ng 0), .slice p3 n3 c3, .bool (ng 0), .slice p4 n4 c4], .int .i64 4]) rfl rfl) ?_)
        refine wl rfl (oextract (vs := [.agg #[.bool (ng 0), .slice p3 n3 c3, .bool (ng 0), .slice p4 n4 c4], .int .i64 4]) (v := .agg #[.bool (ng 0), .slice p3 n3 c3, .bool (ng 0), .slice p4 n4 c4]) rfl rfl (ev (v := .tuple #[.agg #[.bool (ng 0), .slice p3 n3 c3, .bool (ng 0), .slice p4 n4 c4], .int .i64 4]) rfl rfl) rfl ?_)
        refine wl rfl (oextract (vs := [.agg #[.bool (ng 0), .slice p3 n3 c3, .bool (ng 0), .slice p4 n4 c4], .int .i64 4]) (v := .int .i64 4) rfl rfl (ev (v := .tuple #[.agg #[.bool (ng 0), .slice p3 n3 c3, .bool (ng 0), .slice p4 n4 c4], .int .i64 4]) rfl rfl) rfl ?_)
        refine wl rfl (oalloc [.bool false, .slice none 0 0, .bool false, .slice none 0 0] hS rfl rfl Try.zeroValue27 rfl ?_)
        clear hS; intro g13 w14 hS
        refine wl rfl (ostore [.bool (ng 0), .slice p3 n3 c3, .bool (ng 0), .slice p4 n4 c4] [.bool (ng 0), .slice p3 n3 c3, .bool (ng 0), .slice p4 n4 c4] Try.sizeOf27 hS 0 rfl rfl (ev rfl rfl) (ev (v := .agg #[.bool (ng 0), .slice p3 n3 c3, .bool (ng 0), .slice p4 n4 c4]) rfl rfl) rfl rfl rfl rfl rfl rfl ?_)
        clear hS; intro w15 hS
        refine wl rfl (oassign (v := .int .i64 4) rfl rfl (ev (v := .int .i64 4) rfl rfl) ?_)
        refine wnil ?_
        refine thenN ?_
        refine wseq ?_
        refine wblock ?_
        refine wseq ?_
        refine wreg ?_
        refine wl rfl (oload (vs := [.bool bA, .slice qA nA kA, .bool bB, .slice qB nB kB]) aggR hS 6 rfl rfl (ev rfl rfl) rfl rfl rfl ?_)
        refine wl rfl (ocall rfl rfl Try.call11 rfl (wsmay ((hzB.at hS).mono (by omega)) (hy)) (args1 (ev rfl rfl)) ?_)
        rintro _ w16 ⟨_, _, rfl, ⟨rfl, rfl⟩, hN⟩
        refine ⟨_, rfl, ?_⟩
        replace hS := hS.news hN; clear hN
        refine wl rfl (onot (b := true) rfl rfl (ev (v := .bool true) rfl rfl) ?_)
        refine wl rfl (oassign (v := .bool false) rfl rfl (ev (v := .bool false) rfl rfl) ?_)
        refine wnil ?_
        refine thenN ?_
        refine wF (ev (v := .bool false) rfl rfl) ?_
        refine wseq ?_
        refine wreg ?_
        refine wl rfl (oload (vs := [.bool bA, .slice qA nA kA, .bool bB, .slice qB nB kB]) aggR hS 6 rfl rfl (ev rfl rfl) rfl rfl rfl ?_)
        obtain ⟨s5, hs5⟩ : ∃ z : Int, Hid ((x : Int).sign * (y : Int).sign = z) := ⟨_, rfl⟩
        refine wl rfl (ocall rfl rfl Try.call12 rfl (wssign ((hzA.at hS).mono (by omega)) ((hzB.at hS).mono (by omega)) (hy) hs5) (args1 (ev rfl rfl)) ?_)
        rintro _ w17 ⟨_, _, rfl, ⟨rfl, rfl⟩, hN⟩
        refine ⟨_, rfl, ?_⟩
        replace hS := hS.news hN; clear hN
        refine wl rfl (obin (u := .int .i64 s5) (v := .int .i64 0) (z := .bool false) rfl rfl (ev (v := .int .i64 s5) rfl rfl) (evc (v := .int .i64 0)) (bin_eql (rs_ne hs5 hx hy)) ?_)
        refine wl rfl (omove (v := .bool false) rfl rfl (ev (v := .bool false) rfl rfl) ?_)
        refine wlOff (e := 53) (d := 54) (b' := false) rfl rfl rfl rfl rfl rfl ?_
        refine wlOff (e := 53) (d := 55) (b' := false) rfl rfl rfl rfl rfl rfl ?_
        refine wl rfl (opick (b := false) (v := .bool false) rfl rfl (ev (v := .bool false) rfl rfl) (evc (v := .bool false)) ?_)
        refine wl rfl (oassign (v := .bool false) rfl rfl (ev (v := .bool false) rfl rfl) ?_)
        refine wnil ?_
        refine thenN ?_
        refine wF (ev (v := .bool false) rfl rfl) ?_
        refine wskip ?_
        refine blkN ?_
        refine thenN ?_
        refine wseq ?_
        refine wreg ?_
        refine wl rfl (oload (vs := [.bool bA, .slice qA nA kA, .bool bB, .slice qB nB kB]) aggR hS 6 rfl rfl (ev rfl rfl) rfl rfl rfl ?_)
        refine wl rfl (omove (v := .int .i64 (-9223372036854775808)) rfl rfl (ev (v := .int .i64 (-9223372036854775808)) rfl rfl) ?_)
        refine wl rfl (ocall rfl rfl Try.call41 rfl (wqrpow_mA ((hzA.at hS).mono (by omega)) ((hzB.at hS).mono (by omega)) hy (hx) (o1)) (args2 (ev rfl rfl) (ev rfl rfl)) ?_)
        rintro _ w18 ⟨_, _, rfl, ⟨rfl, rfl⟩, hN⟩
        refine ⟨_, rfl, ?_⟩
        replace hS := hS.news hN; clear hN
        refine wl rfl (omove (v := .tuple #[.agg #[.bool false, .slice none 0 0, .bool false, .slice none 0 0], .bool false]) rfl rfl (ev (v := .tuple #[.agg #[.bool false, .slice none 0 0, .bool false, .slice none 0 0], .bool false]) rfl rfl) ?_)
        refine wl rfl (oextract (vs := [.agg #[.bool false, .slice none 0 0, .bool false, .slice none 0 0], .bool false]) (v := .agg #[.bool false, .slice none 0 0, .bool false, .slice none 0 0]) rfl rfl (ev (v := .tuple #[.agg #[.bool false, .slice none 0 0, .bool false, .slice none 0 0], .bool false]) rfl rfl) rfl ?_)
        refine wl rfl (oextract (vs := [.agg #[.bool false, .slice none 0 0, .bool false, .slice none 0 0], .bool false]) (v := .bool false) rfl rfl (ev (v := .tuple #[.agg #[.bool false, .slice none 0 0, .bool false, .slice none 0 0], .bool false]) rfl rfl) rfl ?_)
        refine wl rfl (oalloc [.bool false, .slice none 0 0, .bool false, .slice none 0 0] hS rfl rfl Try.zeroValue27 rfl ?_)
        clear hS; intro g19 w20 hS
        refine wl rfl (ostore [.bool false, .slice none 0 0, .bool false, .slice none 0 0] [.bool false, .slice none 0 0, .bool false, .slice none 0 0] Try.sizeOf27 hS 0 rfl rfl (ev rfl rfl) (ev (v := .agg #[.bool false, .slice none 0 0, .bool false, .slice none 0 0]) rfl rfl) rfl rfl rfl rfl rfl rfl ?_)
        clear hS; intro w21 hS
        refine wl rfl (oassign (v := .bool false) rfl rfl (ev (v := .bool false) rfl rfl) ?_)
        refine wnil ?_
        refine thenN ?_
        refine wseq ?_
        refine wseq ?_
        refine wreg ?_
        refine wl rfl (omove (v := .bool false) rfl rfl (ev (v := .bool false) rfl rfl) ?_)
        refine wl rfl (onot (b := false) rfl rfl (ev (v := .bool false) rfl rfl) ?_)
        refine wnil ?_
        refine thenN ?_
        refine wT (ev (v := .bool true) rfl rfl) ?_
        refine wseq ?_
        refine wreg ?_
        refine wl rfl (omove (v := .int .i64 4) rfl rfl (ev (v := .int .i64 4) rfl rfl) ?_)
        refine wl rfl (obin (u := .int .i64 4) (v := .int .i64 4) (z := .bool true) rfl rfl (ev (v := .int .i64 4) rfl rfl) (evc (v := .int .i64 4)) (bin_eql (by decide)) ?_)
        refine wl rfl (omove (v := .bool true) rfl rfl (ev (v := .bool true) rfl rfl) ?_)
        refine wlOn (e := 77) rfl rfl rfl rfl (oload (vs := [.bool (ng 0), .slice p3 n3 c3, .bool (ng 0), .slice p4 n4 c4]) aggR hS 1 rfl rfl (ev rfl rfl) rfl rfl rfl ?_)
        refine wlOn (e := 77) rfl rfl rfl rfl (obuild (ps := #[]) (v := .agg #[.bool false, .slice none 0 0, .bool false, .slice none 0 0]) rfl rfl (parts0) (fun w => by simp [go_sem, Instr.build, Instr.fill]) ?_)
        refine wlOn (e := 77) rfl rfl rfl rfl (ocall rfl rfl Try.call13 rfl (wlsame5 (x := 0) (y := 0) (u := 0) (v := 0) (hS.slm 2 rfl) (hS.slm 3 rfl) (Sl.nil _) (Sl.nil _) (rfl) (rfl)) (args2 (ev rfl rfl) (ev rfl rfl)) ?_)
        rintro _ w22 ⟨_, _, rfl, ⟨rfl, rfl⟩, hN⟩
        refine ⟨_, rfl, ?_⟩
        replace hS := hS.news hN; clear hN
        refine wl rfl (opick (b := true) (v := .bool true) rfl rfl (ev (v := .bool true) rfl rfl) (ev (v := .bool true) rfl rfl) ?_)
        refine wl rfl (omove (v := .bool true) rfl rfl (ev (v := .bool true) rfl rfl) ?_)
        refine wlOn (e := 82) rfl rfl rfl rfl (ocall rfl rfl Try.call15 rfl (wllives5) (args0 ) ?_)
        rintro _ w23 ⟨_, _, rfl, ⟨rfl, rfl⟩, hN⟩
        refine ⟨_, rfl, ?_⟩
        replace hS := hS.news hN; clear hN
        refine wl rfl (opick (b := true) (v := .bool true) rfl rfl (ev (v := .bool true) rfl rfl) (ev (v := .bool true) rfl rfl) ?_)
        refine wl rfl (oassign (v := .bool true) rfl rfl (ev (v := .bool true) rfl rfl) ?_)
        refine wnil ?_
        refine thenN ?_
        refine wleave ?_
        refine thenR ?_
        refine wret1 Try.results6 (tellT (v := .bool true) rfl rfl) ?_
        exact ⟨_, _, rfl, isI, hS.new0⟩

theorem rpowers_law {bA bB : Bool} {qA qB : Option Addr} {nA kA nB kB : Nat} {la lb : List Nat} {s : Int} {w : World} (hsA : Sl w qA nA kA la) (hsB : Sl w qB nB kB lb) (hA : nA ≤ 1048576 ∧ nB ≤ 1048576) (hs : -9223372036854775808 ≤ s ∧ s ≤ 9223372036854775807) :
    Calls Try.prog 6 #[.agg #[.bool bA, .slice qA nA kA, .bool bB, .slice qB nB kB], .int .i64 s] w (RetB w true) := by
  have h1 : Zr w bA qA nA kA (zv bA (val la)) 1048576 := ⟨_, hsA, rfl, hA.1⟩
  have h2 : Zr w bB qB nB kB (zv bB (val lb)) 1048576 := ⟨_, hsB, rfl, hA.2⟩
  rcases Int.lt_or_le s 0 with h0 | h0
  · by_cases hm : s = -9223372036854775808
    · subst hm; exact (rpowers_m h1 h2).mono Ret.b
    · obtain ⟨K, rfl⟩ : ∃ K : Nat, s = -(K : Int) := ⟨s.natAbs, by omega⟩
      exact (rpowers_n h1 h2 (by omega) (by omega)).mono Ret.b
  · obtain ⟨K, rfl⟩ : ∃ K : Nat, s = (K : Int) := ⟨s.toNat, by omega⟩
    exact (rpowers_p h1 h2 (by omega)).mono Ret.b

end Go.Proofs.Ytoinfkimlhhmpaa
