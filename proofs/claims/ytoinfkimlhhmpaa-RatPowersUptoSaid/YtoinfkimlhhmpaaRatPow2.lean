
/-
  rat.Pow and the document's Pow.
-/
import Derived.Test.YtoinfkimlhhmpaaRatPow
set_option linter.unusedVariables false
set_option linter.unusedSimpArgs false
namespace Go.Proofs.Ytoinfkimlhhmpaa
open Go.RowKit

def RBt (x y : Int) (E : Bool) : Tell := fun v r => ∃ p n c q m d, v = .tuple #[.agg #[.bool (ng x), .slice p n c, .bool (ng y), .slice q m d], .bool E] ∧ r = [.rowm p n c (lim x.natAbs), .rowm q m d (lim y.natAbs)]
theorem calls_app2 {P : Program} {F : FuncId} {a b : Value} {w : World} {R : Ending → World → Prop} (h : Calls P F #[a, b] w R) : Calls P F (#[a] ++ #[b]) w R := by simpa using h
theorem low_inv {x y : Int} (hd : 0 < y) (hx : x ≠ 0) (hg : Int.gcd x y = 1) : (RN y x).natAbs = y.natAbs ∧ (RD y x).natAbs = x.natAbs := by
  have h1 := R_cross y x
  have h2 : Int.gcd (RN y x) (RD y x) = 1 := R_gcd hx
  have h3 := RD_pos (x := y) hx
  have e : RN y x * x = y * RD y x := h1
  have d1 : RD y x ∣ x := int_cop (b := RN y x) ⟨y, by rw [e, Int.mul_comm]⟩ (by rw [Int.gcd_comm]; exact h2)
  have d2 : x ∣ RD y x := int_cop (b := y) ⟨RN y x, by rw [← e, Int.mul_comm]⟩ hg
  have e2 : (RD y x).natAbs = x.natAbs := Nat.dvd_antisymm (Int.natAbs_dvd_natAbs.2 d1) (Int.natAbs_dvd_natAbs.2 d2)
  refine ⟨?_, e2⟩
  have e3 : (RN y x).natAbs * x.natAbs = y.natAbs * (RD y x).natAbs := by rw [← Int.natAbs_mul, ← Int.natAbs_mul, e]
  rw [e2] at e3
  exact Nat.eq_of_mul_eq_mul_right (by omega) e3
theorem inv1 {x y : Int} (hy : y ≠ 0) (hx : x ≠ 0) : (RN (RD x y) (RN x y)).natAbs = (RD x y).natAbs := (low_inv (RD_pos hy) (fun e => hx ((RN_zero hy).1 e)) (R_gcd hy)).1
theorem inv2 {x y : Int} (hy : y ≠ 0) (hx : x ≠ 0) : (RD (RD x y) (RN x y)).natAbs = (RN x y).natAbs := (low_inv (RD_pos hy) (fun e => hx ((RN_zero hy).1 e)) (R_gcd hy)).2
theorem ok1 {x y : Int} {K : Nat} (hy : y ≠ 0) (hx : x ≠ 0) (h : PowOk (RD x y) K) : PowOk (RN (RD x y) (RN x y)) K := by unfold PowOk at *; rw [inv1 hy hx]; exact h
theorem ok2 {x y : Int} {K : Nat} (hy : y ≠ 0) (hx : x ≠ 0) (h : PowOk (RN x y) K) : PowOk (RD (RD x y) (RN x y)) K := by unfold PowOk at *; rw [inv2 hy hx]; exact h
theorem big1 {x y : Int} {K : Nat} (hy : y ≠ 0) (hx : x ≠ 0) (h : PowBig (RD x y) K) : PowBig (RN (RD x y) (RN x y)) K := by unfold PowBig at *; rw [inv1 hy hx]; exact h
theorem big2 {x y : Int} {K : Nat} (hy : y ≠ 0) (hx : x ≠ 0) (h : PowBig (RN x y) K) : PowBig (RD (RD x y) (RN x y)) K := by unfold PowBig at *; rw [inv2 hy hx]; exact h

set_option maxRecDepth 100000 in
set_option maxHeartbeats 16000000 in
theorem wrpow_p {x y : Int} {K : Nat} {bA bB : Bool} {qA qB : Option Addr} {nA kA nB kB : Nat} {w : World} (hzA : Zr w bA qA nA kA x 16777216) (hzB : Zr w bB qB nB kB y 16777216) (hy : y ≠ 0) (hK : K ≤ 9223372036854775807) (h1 : PowOk (RN x y) K) (h2 : PowOk (RD x y) K) :
    Calls Try.prog 40 #[.agg #[.bool bA, .slice qA nA kA, .bool bB, .slice qB nB kB], .int .i64 (((K : Nat) : Int))] w (Ret (RRt (RN x y ^ K) (RD x y ^ K) 0) w) := by
  have hS := Sep.init w
  refine went Try.func40 rfl (n := 12) rfl rfl ?_
  refine wseq ?_
  refine wreg ?_
  refine wl rfl (obox [.bool bA, .slice qA nA kA, .bool bB, .slice qB nB kB] hS rfl rfl (ev (v := .agg #[.bool bA, .slice qA nA kA, .bool bB, .slice qB nB kB]) rfl rfl) rfl ?_)
  clear hS; intro g1 w2 hS
  refine wl rfl (obox [.int .i64 (((K : Nat) : Int))] hS rfl rfl (ev (v := .int .i64 (((K : Nat) : Int))) rfl rfl) rfl ?_)
  clear hS; intro g3 w4 hS
  refine wl rfl (oalloc [.bool false, .slice none 0 0, .bool false, .slice none 0 0] hS rfl rfl Try.zeroValue27 rfl ?_)
  clear hS; intro g5 w6 hS
  refine wl rfl (oassign (v := .int .i64 0) rfl rfl (evc (v := .int .i64 0)) ?_)
  refine wnil ?_
  refine thenN ?_
  refine wseq ?_
  refine wreg ?_
  refine wl rfl (omakeFunc (cs := #[.pointer (some ⟨g3, 0, none⟩)]) rfl rfl (args1 (ev rfl rfl)) ?_)
  refine wl rfl (oload (vs := [.bool bA, .slice qA nA kA, .bool bB, .slice qB nB kB]) aggR hS 2 rfl rfl (ev rfl rfl) rfl rfl rfl ?_)
  refine wl rfl (obslice (ps := #[(0, .agg #[.bool bA, .slice qA nA kA, .bool bB, .slice qB nB kB])]) (z := .agg #[.bool false, .slice none 0 0, .bool false, .slice none 0 0]) [.bool bA, .slice qA nA kA, .bool bB, .slice qB nB kB] hS rfl rfl Try.runUnderlying38 Try.sizeOf27 Try.zeroValue27 (parts1 (ev (v := .agg #[.bool bA, .slice qA nA kA, .bool bB, .slice qB nB kB]) rfl rfl)) rfl (by decide) fill4_1 ?_)
  clear hS; intro g7 w8 hS
  refine wl rfl (ocall rfl rfl Try.call53 rfl (wmadeP (kv := .int .i64 (((K : Nat) : Int))) (z := RN x y ^ K) (t := RD x y ^ K) (E := 0) (hS.pick [0, 2, 1] (by decide) rfl) hzA hzB hy (fun gL gm cL pX pY nX cX nY cY w1 hS1 => calls_app2 (wpow1_p hS1 (hzA.wd.rn rfl) (hzB.wd.rd rfl) (Int.ne_of_gt (RD_pos hy)) hK h1 h2))) (args2 (ev rfl rfl) (ev rfl rfl)) ?_)
  rintro _ w9 ⟨_, _, kc, rfl, ⟨pr1, nr1, cr1, pr2, nr2, cr2, rfl, rfl⟩, hN⟩
  refine ⟨_, rfl, ?_⟩
  clear hS; have hS := hN; clear hN
  refine wl rfl (oextract (vs := [.agg #[.bool (ng (RN x y ^ K)), .slice pr1 nr1 cr1, .bool (ng (RD x y ^ K)), .slice pr2 nr2 cr2], .int .i64 0]) (v := .agg #[.bool (ng (RN x y ^ K)), .slice pr1 nr1 cr1, .bool (ng (RD x y ^ K)), .slice pr2 nr2 cr2]) rfl rfl (ev (v := .tuple #[.agg #[.bool (ng (RN x y ^ K)), .slice pr1 nr1 cr1, .bool (ng (RD x y ^ K)), .slice pr2 nr2 cr2], .int .i64 0]) rfl rfl) rfl ?_)
  refine wl rfl (oextract (vs := [.agg #[.bool (ng (RN x y ^ K)), .slice pr1 nr1 cr1, .bool (ng (RD x y ^ K)), .slice pr2 nr2 cr2], .int .i64 0]) (v := .int .i64 0) rfl rfl (ev (v := .tuple #[.agg #[.bool (ng (RN x y ^ K)), .slice pr1 nr1 cr1, .bool (ng (RD x y ^ K)), .slice pr2 nr2 cr2], .int .i64 0]) rfl rfl) rfl ?_)
  refine wl rfl (ostore [.bool (ng (RN x y ^ K)), .slice pr1 nr1 cr1, .bool (ng (RD x y ^ K)), .slice pr2 nr2 cr2] [.bool (ng (RN x y ^ K)), .slice pr1 nr1 cr1, .bool (ng (RD x y ^ K)), .slice pr2 nr2 cr2] Try.sizeOf27 hS 3 rfl rfl (ev rfl rfl) (ev (v := .agg #[.bool (ng (RN x y ^ K)), .slice pr1 nr1 cr1, .bool (ng (RD x y ^ K)), .slice pr2 nr2 cr2]) rfl rfl) rfl rfl rfl rfl rfl rfl ?_)
  clear hS; intro w10 hS
  refine wl rfl (oassign (v := .int .i64 0) rfl rfl (ev (v := .int .i64 0) rfl rfl) ?_)
  refine wnil ?_
  refine thenN ?_
  refine wleave ?_
  refine wret2 Try.results40 (tellC (cs := [.bool (ng (RN x y ^ K)), .slice pr1 nr1 cr1, .bool (ng (RD x y ^ K)), .slice pr2 nr2 cr2]) aggR hS 3 rfl rfl rfl rfl) (tellT (v := .int .i64 0) rfl rfl) ?_
  exact ⟨_, _, rfl, ⟨_, _, _, _, _, _, rfl, rfl⟩, hS.newM [0, 1] (by decide) rfl rfl⟩

set_option maxRecDepth 100000 in
set_option maxHeartbeats 16000000 in
theorem wrpow_pA {x y : Int} {K : Nat} {bA bB : Bool} {qA qB : Option Addr} {nA kA nB kB : Nat} {w : World} (hzA : Zr w bA qA nA kA x 16777216) (hzB : Zr w bB qB nB kB y 16777216) (hy : y ≠ 0) (hK : K ≤ 9223372036854775807) (h1 : PowBig (RN x y) K) :
    Calls Try.prog 40 #[.agg #[.bool bA, .slice qA nA kA, .bool bB, .slice qB nB kB], .int .i64 (((K : Nat) : Int))] w (Ret (RRt 0 0 4) w) := by
  have hS := Sep.init w
  refine went Try.func40 rfl (n := 12) rfl rfl ?_
  refine wseq ?_
  refine wreg ?_
  refine wl rfl (obox [.bool bA, .slice qA nA kA, .bool bB, .slice qB nB kB] hS rfl rfl (ev (v := .agg #[.bool bA, .slice qA nA kA, .bool bB, .slice qB nB kB]) rfl rfl) rfl ?_)
  clear hS; intro g1 w2 hS
  refine wl rfl (obox [.int .i64 (((K : Nat) : Int))] hS rfl rfl (ev (v := .int .i64 (((K : Nat) : Int))) rfl rfl) rfl ?_)
  clear hS; intro g3 w4 hS
  refine wl rfl (oalloc [.bool false, .slice none 0 0, .bool false, .slice none 0 0] hS rfl rfl Try.zeroValue27 rfl ?_)
  clear hS; intro g5 w6 hS
  refine wl rfl (oassign (v := .int .i64 0) rfl rfl (evc (v := .int .i64 0)) ?_)
  refine wnil ?_
  refine thenN ?_
  refine wseq ?_
  refine wreg ?_
  refine wl rfl (omakeFunc (cs := #[.pointer (some ⟨g3, 0, none⟩)]) rfl rfl (args1 (ev rfl rfl)) ?_)
  refine wl rfl (oload (vs := [.bool bA, .slice qA nA kA, .bool bB, .slice qB nB kB]) aggR hS 2 rfl rfl (ev rfl rfl) rfl rfl rfl ?_)
  refine wl rfl (obslice (ps := #[(0, .agg #[.bool bA, .slice qA nA kA, .bool bB, .slice qB nB kB])]) (z := .agg #[.bool false, .slice none 0 0, .bool false, .slice none 0 0]) [.bool bA, .slice qA nA kA, .bool bB, .slice qB nB kB] hS rfl rfl Try.runUnderlying38 Try.sizeOf27 Try.zeroValue27 (parts1 (ev (v := .agg #[.bool bA, .slice qA nA kA, .bool bB, .slice qB nB kB]) rfl rfl)) rfl (by decide) fill4_1 ?_)
  clear hS; intro g7 w8 hS
  refine wl rfl (ocall rfl rfl Try.call53 rfl (wmadeP (kv := .int .i64 (((K : Nat) : Int))) (z := 0) (t := 0) (E := 4) (hS.pick [0, 2, 1] (by decide) rfl) hzA hzB hy (fun gL gm cL pX pY nX cX nY cY w1 hS1 => calls_app2 (wpow1_pA hS1 (hzA.wd.rn rfl) (hzB.wd.rd rfl) (Int.ne_of_gt (RD_pos hy)) hK h1))) (args2 (ev rfl rfl) (ev rfl rfl)) ?_)
  rintro _ w9 ⟨_, _, kc, rfl, ⟨pr1, nr1, cr1, pr2, nr2, cr2, rfl, rfl⟩, hN⟩
  refine ⟨_, rfl, ?_⟩
  clear hS; have hS := hN; clear hN
  refine wl rfl (oextract (vs := [.agg #[.bool (ng 0), .slice pr1 nr1 cr1, .bool (ng 0), .slice pr2 nr2 cr2], .int .i64 4]) (v := .agg #[.bool (ng 0), .slice pr1 nr1 cr1, .bool (ng 0), .slice pr2 nr2 cr2]) rfl rfl (ev (v := .tuple #[.agg #[.bool (ng 0), .slice pr1 nr1 cr1, .bool (ng 0), .slice pr2 nr2 cr2], .int .i64 4]) rfl rfl) rfl ?_)
  refine wl rfl (oextract (vs := [.agg #[.bool (ng 0), .slice pr1 nr1 cr1, .bool (ng 0), .slice pr2 nr2 cr2], .int .i64 4]) (v := .int .i64 4) rfl rfl (ev (v := .tuple #[.agg #[.bool (ng 0), .slice pr1 nr1 cr1, .bool (ng 0), .slice pr2 nr2 cr2], .int .i64 4]) rfl rfl) rfl ?_)
  refine wl rfl (ostore [.bool (ng 0), .slice pr1 nr1 cr1, .bool (ng 0), .slice pr2 nr2 cr2] [.bool (ng 0), .slice pr1 nr1 cr1, .bool (ng 0), .slice pr2 nr2 cr2] Try.sizeOf27 hS 3 rfl rfl (ev rfl rfl) (ev (v := .agg #[.bool (ng 0), .slice pr1 nr1 cr1, .bool (ng 0), .slice pr2 nr2 cr2]) rfl rfl) rfl rfl rfl rfl rfl rfl ?_)
  clear hS; intro w10 hS
  refine wl rfl (oassign (v := .int .i64 4) rfl rfl (ev (v := .int .i64 4) rfl rfl) ?_)
  refine wnil ?_
  refine thenN ?_
  refine wleave ?_
  refine wret2 Try.results40 (tellC (cs := [.bool (ng 0), .slice pr1 nr1 cr1, .bool (ng 0), .slice pr2 nr2 cr2]) aggR hS 3 rfl rfl rfl rfl) (tellT (v := .int .i64 4) rfl rfl) ?_
  exact ⟨_, _, rfl, ⟨_, _, _, _, _, _, rfl, rfl⟩, hS.newM [0, 1] (by decide) rfl rfl⟩

set_option maxRecDepth 100000 in
set_option maxHeartbeats 16000000 in
theorem wrpow_pB {x y : Int} {K : Nat} {bA bB : Bool} {qA qB : Option Addr} {nA kA nB kB : Nat} {w : World} (hzA : Zr w bA qA nA kA x 16777216) (hzB : Zr w bB qB nB kB y 16777216) (hy : y ≠ 0) (hK : K ≤ 9223372036854775807) (h1 : PowOk (RN x y) K) (h2 : PowBig (RD x y) K) :
    Calls Try.prog 40 #[.agg #[.bool bA, .slice qA nA kA, .bool bB, .slice qB nB kB], .int .i64 (((K : Nat) : Int))] w (Ret (RRt 0 0 4) w) := by
  have hS := Sep.init w
  refine went Try.func40 rfl (n := 12) rfl rfl ?_
  refine wseq ?_
  refine wreg ?_
  refine wl rfl (obox [.bool bA, .slice qA nA kA, .bool bB, .slice qB nB kB] hS rfl rfl (ev (v := .agg #[.bool bA, .slice qA nA kA, .bool bB, .slice qB nB kB]) rfl rfl) rfl ?_)
  clear hS; intro g1 w2 hS
  refine wl rfl (obox [.int .i64 (((K : Nat) : Int))] hS rfl rfl (ev (v := .int .i64 (((K : Nat) : Int))) rfl rfl) rfl ?_)
  clear hS; intro g3 w4 hS
  refine wl rfl (oalloc [.bool false, .slice none 0 0, .bool false, .slice none 0 0] hS rfl rfl Try.zeroValue27 rfl ?_)
  clear hS; intro g5 w6 hS
  refine wl rfl (oassign (v := .int .i64 0) rfl rfl (evc (v := .int .i64 0)) ?_)
  refine wnil ?_
  refine thenN ?_
  refine wseq ?_
  refine wreg ?_
  refine wl rfl (omakeFunc (cs := #[.pointer (some ⟨g3, 0, none⟩)]) rfl rfl (args1 (ev rfl rfl)) ?_)
  refine wl rfl (oload (vs := [.bool bA, .slice qA nA kA, .bool bB, .slice qB nB kB]) aggR hS 2 rfl rfl (ev rfl rfl) rfl rfl rfl ?_)
  refine wl rfl (obslice (ps := #[(0, .agg #[.bool bA, .slice qA nA kA, .bool bB, .slice qB nB kB])]) (z := .agg #[.bool false, .slice none 0 0, .bool false, .slice none 0 0]) [.bool bA, .slice qA nA kA, .bool bB, .slice qB nB kB] hS rfl rfl Try.runUnderlying38 Try.sizeOf27 Try.zeroValue27 (parts1 (ev (v := .agg #[.bool bA, .slice qA nA kA, .bool bB, .slice qB nB kB]) rfl rfl)) rfl (by decide) fill4_1 ?_)
  clear hS; intro g7 w8 hS
  refine wl rfl (ocall rfl rfl Try.call53 rfl (wmadeP (kv := .int .i64 (((K : Nat) : Int))) (z := 0) (t := 0) (E := 4) (hS.pick [0, 2, 1] (by decide) rfl) hzA hzB hy (fun gL gm cL pX pY nX cX nY cY w1 hS1 => calls_app2 (wpow1_pB hS1 (hzA.wd.rn rfl) (hzB.wd.rd rfl) (Int.ne_of_gt (RD_pos hy)) hK h1 h2))) (args2 (ev rfl rfl) (ev rfl rfl)) ?_)
  rintro _ w9 ⟨_, _, kc, rfl, ⟨pr1, nr1, cr1, pr2, nr2, cr2, rfl, rfl⟩, hN⟩
  refine ⟨_, rfl, ?_⟩
  clear hS; have hS := hN; clear hN
  refine wl rfl (oextract (vs := [.agg #[.bool (ng 0), .slice pr1 nr1 cr1, .bool (ng 0), .slice pr2 nr2 cr2], .int .i64 4]) (v := .agg #[.bool (ng 0), .slice pr1 nr1 cr1, .bool (ng 0), .slice pr2 nr2 cr2]) rfl rfl (ev (v := .tuple #[.agg #[.bool (ng 0), .slice pr1 nr1 cr1, .bool (ng 0), .slice pr2 nr2 cr2], .int .i64 4]) rfl rfl) rfl ?_)
  refine wl rfl (oextract (vs := [.agg #[.bool (ng 0), .slice pr1 nr1 cr1, .bool (ng 0), .slice pr2 nr2 cr2], .int .i64 4]) (v := .int .i64 4) rfl rfl (ev (v := .tuple #[.agg #[.bool (ng 0), .slice pr1 nr1 cr1, .bool (ng 0), .slice pr2 nr2 cr2], .int .i64 4]) rfl rfl) rfl ?_)
  refine wl rfl (ostore [.bool (ng 0), .slice pr1 nr1 cr1, .bool (ng 0), .slice pr2 nr2 cr2] [.bool (ng 0), .slice pr1 nr1 cr1, .bool (ng 0), .slice pr2 nr2 cr2] Try.sizeOf27 hS 3 rfl rfl (ev rfl rfl) (ev (v := .agg #[.bool (ng 0), .slice pr1 nr1 cr1, .bool (ng 0), .slice pr2 nr2 cr2]) rfl rfl) rfl rfl rfl rfl rfl rfl ?_)
  clear hS; intro w10 hS
  refine wl rfl (oassign (v := .int .i64 4) rfl rfl (ev (v := .int .i64 4) rfl rfl) ?_)
  refine wnil ?_
  refine thenN ?_
  refine wleave ?_
  refine wret2 Try.results40 (tellC (cs := [.bool (ng 0), .slice pr1 nr1 cr1, .bool (ng 0), .slice pr2 nr2 cr2]) aggR hS 3 rfl rfl rfl rfl) (tellT (v := .int .i64 4) rfl rfl) ?_
  exact ⟨_, _, rfl, ⟨_, _, _, _, _, _, rfl, rfl⟩, hS.newM [0, 1] (by decide) rfl rfl⟩

set_option maxRecDepth 100000 in
set_option maxHeartbeats 16000000 in
theorem wrpow_n {x y : Int} {K : Nat} {bA bB : Bool} {qA qB : Option Addr} {nA kA nB kB : Nat} {w : World} (hzA : Zr w bA qA nA kA x 16777216) (hzB : Zr w bB qB nB kB y 16777216) (hy : y ≠ 0) (hK : K ≤ 9223372036854775807) (hK0 : 0 < K) (hx : x ≠ 0) (h1 : PowOk (RN (RD x y) (RN x y)) K) (h2 : PowOk (RD (RD x y) (RN x y)) K) :
    Calls Try.prog 40 #[.agg #[.bool bA, .slice qA nA kA, .bool bB, .slice qB nB kB], .int .i64 ((-((K : Nat) : Int)))] w (Ret (RRt (RN (RD x y) (RN x y) ^ K) (RD (RD x y) (RN x y) ^ K) 0) w) := by
  have hS := Sep.init w
  refine went Try.func40 rfl (n := 12) rfl rfl ?_
  refine wseq ?_
  refine wreg ?_
  refine wl rfl (obox [.bool bA, .slice qA nA kA, .bool bB, .slice qB nB kB] hS rfl rfl (ev (v := .agg #[.bool bA, .slice qA nA kA, .bool bB, .slice qB nB kB]) rfl rfl) rfl ?_)
  clear hS; intro g1 w2 hS
  refine wl rfl (obox [.int .i64 ((-((K : Nat) : Int)))] hS rfl rfl (ev (v := .int .i64 ((-((K : Nat) : Int)))) rfl rfl) rfl ?_)
  clear hS; intro g3 w4 hS
  refine wl rfl (oalloc [.bool false, .slice none 0 0, .bool false, .slice none 0 0] hS rfl rfl Try.zeroValue27 rfl ?_)
  clear hS; intro g5 w6 hS
  refine wl rfl (oassign (v := .int .i64 0) rfl rfl (evc (v := .int .i64 0)) ?_)
  refine wnil ?_
  refine thenN ?_
  refine wseq ?_
  refine wreg ?_
  refine wl rfl (omakeFunc (cs := #[.pointer (some ⟨g3, 0, none⟩)]) rfl rfl (args1 (ev rfl rfl)) ?_)
  refine wl rfl (oload (vs := [.bool bA, .slice qA nA kA, .bool bB, .slice qB nB kB]) aggR hS 2 rfl rfl (ev rfl rfl) rfl rfl rfl ?_)
  refine wl rfl (obslice (ps := #[(0, .agg #[.bool bA, .slice qA nA kA, .bool bB, .slice qB nB kB])]) (z := .agg #[.bool false, .slice none 0 0, .bool false, .slice none 0 0]) [.bool bA, .slice qA nA kA, .bool bB, .slice qB nB kB] hS rfl rfl Try.runUnderlying38 Try.sizeOf27 Try.zeroValue27 (parts1 (ev (v := .agg #[.bool bA, .slice qA nA kA, .bool bB, .slice qB nB kB]) rfl rfl)) rfl (by decide) fill4_1 ?_)
  clear hS; intro g7 w8 hS
  refine wl rfl (ocall rfl rfl Try.call53 rfl (wmadeP (kv := .int .i64 ((-((K : Nat) : Int)))) (z := RN (RD x y) (RN x y) ^ K) (t := RD (RD x y) (RN x y) ^ K) (E := 0) (hS.pick [0, 2, 1] (by decide) rfl) hzA hzB hy (fun gL gm cL pX pY nX cX nY cY w1 hS1 => calls_app2 (wpow1_n hS1 (hzA.wd.rn rfl) (hzB.wd.rd rfl) (Int.ne_of_gt (RD_pos hy)) hK hK0 (fun e => hx ((RN_zero hy).1 e)) h1 h2))) (args2 (ev rfl rfl) (ev rfl rfl)) ?_)
  rintro _ w9 ⟨_, _, kc, rfl, ⟨pr1, nr1, cr1, pr2, nr2, cr2, rfl, rfl⟩, hN⟩
  refine ⟨_, rfl, ?_⟩
  clear hS; have hS := hN; clear hN
  refine wl rfl (oextract (vs := [.agg #[.bool (ng (RN (RD x y) (RN x y) ^ K)), .slice pr1 nr1 cr1, .bool (ng (RD (RD x y) (RN x y) ^ K)), .slice pr2 nr2 cr2], .int .i64 0]) (v := .agg #[.bool (ng (RN (RD x y) (RN x y) ^ K)), .slice pr1 nr1 cr1, .bool (ng (RD (RD x y) (RN x y) ^ K)), .slice pr2 nr2 cr2]) rfl rfl (ev (v := .tuple #[.agg #[.bool (ng (RN (RD x y) (RN x y) ^ K)), .slice pr1 nr1 cr1, .bool (ng (RD (RD x y) (RN x y) ^ K)), .slice pr2 nr2 cr2], .int .i64 0]) rfl rfl) rfl ?_)
  refine wl rfl (oextract (vs := [.agg #[.bool (ng (RN (RD x y) (RN x y) ^ K)), .slice pr1 nr1 cr1, .bool (ng (RD (RD x y) (RN x y) ^ K)), .slice pr2 nr2 cr2], .int .i64 0]) (v := .int .i64 0) rfl rfl (ev (v := .tuple #[.agg #[.bool (ng (RN (RD x y) (RN x y) ^ K)), .slice pr1 nr1 cr1, .bool (ng (RD (RD x y) (RN x y) ^ K)), .slice pr2 nr2 cr2], .int .i64 0]) rfl rfl) rfl ?_)
  refine wl rfl (ostore [.bool (ng (RN (RD x y) (RN x y) ^ K)), .slice pr1 nr1 cr1, .bool (ng (RD (RD x y) (RN x y) ^ K)), .slice pr2 nr2 cr2] [.bool (ng (RN (RD x y) (RN x y) ^ K)), .slice pr1 nr1 cr1, .bool (ng (RD (RD x y) (RN x y) ^ K)), .slice pr2 nr2 cr2] Try.sizeOf27 hS 3 rfl rfl (ev rfl rfl) (ev (v := .agg #[.bool (ng (RN (RD x y) (RN x y) ^ K)), .slice pr1 nr1 cr1, .bool (ng (RD (RD x y) (RN x y) ^ K)), .slice pr2 nr2 cr2]) rfl rfl) rfl rfl rfl rfl rfl rfl ?_)
  clear hS; intro w10 hS
  refine wl rfl (oassign (v := .int .i64 0) rfl rfl (ev (v := .int .i64 0) rfl rfl) ?_)
  refine wnil ?_
  refine thenN ?_
  refine wleave ?_
  refine wret2 Try.results40 (tellC (cs := [.bool (ng (RN (RD x y) (RN x y) ^ K)), .slice pr1 nr1 cr1, .bool (ng (RD (RD x y) (RN x y) ^ K)), .slice pr2 nr2 cr2]) aggR hS 3 rfl rfl rfl rfl) (tellT (v := .int .i64 0) rfl rfl) ?_
  exact ⟨_, _, rfl, ⟨_, _, _, _, _, _, rfl, rfl⟩, hS.newM [0, 1] (by decide) rfl rfl⟩

set_option maxRecDepth 100000 in
set_option maxHeartbeats 16000000 in
theorem wrpow_nA {x y : Int} {K : Nat} {bA bB : Bool} {qA qB : Option Addr} {nA kA nB kB : Nat} {w : World} (hzA : Zr w bA qA nA kA x 16777216) (hzB : Zr w bB qB nB kB y 16777216) (hy : y ≠ 0) (hK : K ≤ 9223372036854775807) (hK0 : 0 < K) (hx : x ≠ 0) (h1 : PowBig (RN (RD x y) (RN x y)) K) :
    Calls Try.prog 40 #[.agg #[.bool bA, .slice qA nA kA, .bool bB, .slice qB nB kB], .int .i64 ((-((K : Nat) : Int)))] w (Ret (RRt 0 0 4) w) := by
  have hS := Sep.init w
  refine went Try.func40 rfl (n := 12) rfl rfl ?_
  refine wseq ?_
  refine wreg ?_
  refine wl rfl (obox [.bool bA, .slice qA nA kA, .bool bB, .slice qB nB kB] hS rfl rfl (ev (v := .agg #[.bool bA, .slice qA nA kA, .bool bB, .slice qB nB kB]) rfl rfl) rfl ?_)
  clear hS; intro g1 w2 hS
  refine wl rfl (obox [.int .i64 ((-((K : Nat) : Int)))] hS rfl rfl (ev (v := .int .i64 ((-((K : Nat) : Int)))) rfl rfl) rfl ?_)
  clear hS; intro g3 w4 hS
  refine wl rfl (oalloc [.bool false, .slice none 0 0, .bool false, .slice none 0 0] hS rfl rfl Try.zeroValue27 rfl ?_)
  clear hS; intro g5 w6 hS
  refine wl rfl (oassign (v := .int .i64 0) rfl rfl (evc (v := .int .i64 0)) ?_)
  refine wnil ?_
  refine thenN ?_
  refine wseq ?_
  refine wreg ?_
  refine wl rfl (omakeFunc (cs := #[.pointer (some ⟨g3, 0, none⟩)]) rfl rfl (args1 (ev rfl rfl)) ?_)
  refine wl rfl (oload (vs := [.bool bA, .slice qA nA kA, .bool bB, .slice qB nB kB]) aggR hS 2 rfl rfl (ev rfl rfl) rfl rfl rfl ?_)
  refine wl rfl (obslice (ps := #[(0, .agg #[.bool bA, .slice qA nA kA, .bool bB, .slice qB nB kB])]) (z := .agg #[.bool false, .slice none 0 0, .bool false, .slice none 0 0]) [.bool bA, .slice qA nA kA, .bool bB, .slice qB nB kB] hS rfl rfl Try.runUnderlying38 Try.sizeOf27 Try.zeroValue27 (parts1 (ev (v := .agg #[.bool bA, .slice qA nA kA, .bool bB, .slice qB nB kB]) rfl rfl)) rfl (by decide) fill4_1 ?_)
  clear hS; intro g7 w8 hS
  refine wl rfl (ocall rfl rfl Try.call53 rfl (wmadeP (kv := .int .i64 ((-((K : Nat) : Int)))) (z := 0) (t := 0) (E := 4) (hS.pick [0, 2, 1] (by decide) rfl) hzA hzB hy (fun gL gm cL pX pY nX cX nY cY w1 hS1 => calls_app2 (wpow1_nA hS1 (hzA.wd.rn rfl) (hzB.wd.rd rfl) (Int.ne_of_gt (RD_pos hy)) hK hK0 (fun e => hx ((RN_zero hy).1 e)) h1))) (args2 (ev rfl rfl) (ev rfl rfl)) ?_)
  rintro _ w9 ⟨_, _, kc, rfl, ⟨pr1, nr1, cr1, pr2, nr2, cr2, rfl, rfl⟩, hN⟩
  refine ⟨_, rfl, ?_⟩
  clear hS; have hS := hN; clear hN
  refine wl rfl (oextract (vs := [.agg #[.bool (ng 0), .slice pr1 nr1 cr1, .bool (ng 0), .slice pr2 nr2 cr2], .int .i64 4]) (v := .agg #[.bool (ng 0), .slice pr1 nr1 cr1, .bool (ng 0), .slice pr2 nr2 cr2]) rfl rfl (ev (v := .tuple #[.agg #[.bool (ng 0), .slice pr1 nr1 cr1, .bool (ng 0), .slice pr2 nr2 cr2], .int .i64 4]) rfl rfl) rfl ?_)
  refine wl rfl (oextract (vs := [.agg #[.bool (ng 0), .slice pr1 nr1 cr1, .bool (ng 0), .slice pr2 nr2 cr2], .int .i64 4]) (v := .int .i64 4) rfl rfl (ev (v := .tuple #[.agg #[.bool (ng 0), .slice pr1 nr1 cr1, .bool (ng 0), .slice pr2 nr2 cr2], .int .i64 4]) rfl rfl) rfl ?_)
  refine wl rfl (ostore [.bool (ng 0), .slice pr1 nr1 cr1, .bool (ng 0), .slice pr2 nr2 cr2] [.bool (ng 0), .slice pr1 nr1 cr1, .bool (ng 0), .slice pr2 nr2 cr2] Try.sizeOf27 hS 3 rfl rfl (ev rfl rfl) (ev (v := .agg #[.bool (ng 0), .slice pr1 nr1 cr1, .bool (ng 0), .slice pr2 nr2 cr2]) rfl rfl) rfl rfl rfl rfl rfl rfl ?_)
  clear hS; intro w10 hS
  refine wl rfl (oassign (v := .int .i64 4) rfl rfl (ev (v := .int .i64 4) rfl rfl) ?_)
  refine wnil ?_
  refine thenN ?_
  refine wleave ?_
  refine wret2 Try.results40 (tellC (cs := [.bool (ng 0), .slice pr1 nr1 cr1, .bool (ng 0), .slice pr2 nr2 cr2]) aggR hS 3 rfl rfl rfl rfl) (tellT (v := .int .i64 4) rfl rfl) ?_
  exact ⟨_, _, rfl, ⟨_, _, _, _, _, _, rfl, rfl⟩, hS.newM [0, 1] (by decide) rfl rfl⟩

set_option maxRecDepth 100000 in
set_option maxHeartbeats 16000000 in
theorem wrpow_nB {x y : Int} {K : Nat} {bA bB : Bool} {qA qB : Option Addr} {nA kA nB kB : Nat} {w : World} (hzA : Zr w bA qA nA kA x 16777216) (hzB : Zr w bB qB nB kB y 16777216) (hy : y ≠ 0) (hK : K ≤ 9223372036854775807) (hK0 : 0 < K) (hx : x ≠ 0) (h1 : PowOk (RN (RD x y) (RN x y)) K) (h2 : PowBig (RD (RD x y) (RN x y)) K) :
    Calls Try.prog 40 #[.agg #[.bool bA, .slice qA nA kA, .bool bB, .slice qB nB kB], .int .i64 ((-((K : Nat) : Int)))] w (Ret (RRt 0 0 4) w) := by
  have hS := Sep.init w
  refine went Try.func40 rfl (n := 12) rfl rfl ?_
  refine wseq ?_
  refine wreg ?_
  refine wl rfl (obox [.bool bA, .slice qA nA kA, .bool bB, .slice qB nB kB] hS rfl rfl (ev (v := .agg #[.bool bA, .slice qA nA kA, .bool bB, .slice qB nB kB]) rfl rfl) rfl ?_)
  clear hS; intro g1 w2 hS
  refine wl rfl (obox [.int .i64 ((-((K : Nat) : Int)))] hS rfl rfl (ev (v := .int .i64 ((-((K : Nat) : Int)))) rfl rfl) rfl ?_)
  clear hS; intro g3 w4 hS
  refine wl rfl (oalloc [.bool false, .slice none 0 0, .bool false, .slice none 0 0] hS rfl rfl Try.zeroValue27 rfl ?_)
  clear hS; intro g5 w6 hS
  refine wl rfl (oassign (v := .int .i64 0) rfl rfl (evc (v := .int .i64 0)) ?_)
  refine wnil ?_
  refine thenN ?_
  refine wseq ?_
  refine wreg ?_
  refine wl rfl (omakeFunc (cs := #[.pointer (some ⟨g3, 0, none⟩)]) rfl rfl (args1 (ev rfl rfl)) ?_)
  refine wl rfl (oload (vs := [.bool bA, .slice qA nA kA, .bool bB, .slice qB nB kB]) aggR hS 2 rfl rfl (ev rfl rfl) rfl rfl rfl ?_)
  refine wl rfl (obslice (ps := #[(0, .agg #[.bool bA, .slice qA nA kA, .bool bB, .slice qB nB kB])]) (z := .agg #[.bool false, .slice none 0 0, .bool false, .slice none 0 0]) [.bool bA, .slice qA nA kA, .bool bB, .slice qB nB kB] hS rfl rfl Try.runUnderlying38 Try.sizeOf27 Try.zeroValue27 (parts1 (ev (v := .agg #[.bool bA, .slice qA nA kA, .bool bB, .slice qB nB kB]) rfl rfl)) rfl (by decide) fill4_1 ?_)
  clear hS; intro g7 w8 hS
  refine wl rfl (ocall rfl rfl Try.call53 rfl (wmadeP (kv := .int .i64 ((-((K : Nat) : Int)))) (z := 0) (t := 0) (E := 4) (hS.pick [0, 2, 1] (by decide) rfl) hzA hzB hy (fun gL gm cL pX pY nX cX nY cY w1 hS1 => calls_app2 (wpow1_nB hS1 (hzA.wd.rn rfl) (hzB.wd.rd rfl) (Int.ne_of_gt (RD_pos hy)) hK hK0 (fun e => hx ((RN_zero hy).1 e)) h1 h2))) (args2 (ev rfl rfl) (ev rfl rfl)) ?_)
  rintro _ w9 ⟨_, _, kc, rfl, ⟨pr1, nr1, cr1, pr2, nr2, cr2, rfl, rfl⟩, hN⟩
  refine ⟨_, rfl, ?_⟩
  clear hS; have hS := hN; clear hN
  refine wl rfl (oextract (vs := [.agg #[.bool (ng 0), .slice pr1 nr1 cr1, .bool (ng 0), .slice pr2 nr2 cr2], .int .i64 4]) (v := .agg #[.bool (ng 0), .slice pr1 nr1 cr1, .bool (ng 0), .slice pr2 nr2 cr2]) rfl rfl (ev (v := .tuple #[.agg #[.bool (ng 0), .slice pr1 nr1 cr1, .bool (ng 0), .slice pr2 nr2 cr2], .int .i64 4]) rfl rfl) rfl ?_)
  refine wl rfl (oextract (vs := [.agg #[.bool (ng 0), .slice pr1 nr1 cr1, .bool (ng 0), .slice pr2 nr2 cr2], .int .i64 4]) (v := .int .i64 4) rfl rfl (ev (v := .tuple #[.agg #[.bool (ng 0), .slice pr1 nr1 cr1, .bool (ng 0), .slice pr2 nr2 cr2], .int .i64 4]) rfl rfl) rfl ?_)
  refine wl rfl (ostore [.bool (ng 0), .slice pr1 nr1 cr1, .bool (ng 0), .slice pr2 nr2 cr2] [.bool (ng 0), .slice pr1 nr1 cr1, .bool (ng 0), .slice pr2 nr2 cr2] Try.sizeOf27 hS 3 rfl rfl (ev rfl rfl) (ev (v := .agg #[.bool (ng 0), .slice pr1 nr1 cr1, .bool (ng 0), .slice pr2 nr2 cr2]) rfl rfl) rfl rfl rfl rfl rfl rfl ?_)
  clear hS; intro w10 hS
  refine wl rfl (oassign (v := .int .i64 4) rfl rfl (ev (v := .int .i64 4) rfl rfl) ?_)
  refine wnil ?_
  refine thenN ?_
  refine wleave ?_
  refine wret2 Try.results40 (tellC (cs := [.bool (ng 0), .slice pr1 nr1 cr1, .bool (ng 0), .slice pr2 nr2 cr2]) aggR hS 3 rfl rfl rfl rfl) (tellT (v := .int .i64 4) rfl rfl) ?_
  exact ⟨_, _, rfl, ⟨_, _, _, _, _, _, rfl, rfl⟩, hS.newM [0, 1] (by decide) rfl rfl⟩

set_option maxRecDepth 100000 in
set_option maxHeartbeats 16000000 in
theorem wrpow_nz {x y : Int} {K : Nat} {bA bB : Bool} {qA qB : Option Addr} {nA kA nB kB : Nat} {w : World} (hzA : Zr w bA qA nA kA x 16777216) (hzB : Zr w bB qB nB kB y 16777216) (hy : y ≠ 0) (hK : K ≤ 9223372036854775807) (hK0 : 0 < K) (hx : x = 0) :
    Calls Try.prog 40 #[.agg #[.bool bA, .slice qA nA kA, .bool bB, .slice qB nB kB], .int .i64 ((-((K : Nat) : Int)))] w (Ret (RRt 0 0 5) w) := by
  have hS := Sep.init w
  refine went Try.func40 rfl (n := 12) rfl rfl ?_
  refine wseq ?_
  refine wreg ?_
  refine wl rfl (obox [.bool bA, .slice qA nA kA, .bool bB, .slice qB nB kB] hS rfl rfl (ev (v := .agg #[.bool bA, .slice qA nA kA, .bool bB, .slice qB nB kB]) rfl rfl) rfl ?_)
  clear hS; intro g1 w2 hS
  refine wl rfl (obox [.int .i64 ((-((K : Nat) : Int)))] hS rfl rfl (ev (v := .int .i64 ((-((K : Nat) : Int)))) rfl rfl) rfl ?_)
  clear hS; intro g3 w4 hS
  refine wl rfl (oalloc [.bool false, .slice none 0 0, .bool false, .slice none 0 0] hS rfl rfl Try.zeroValue27 rfl ?_)
  clear hS; intro g5 w6 hS
  refine wl rfl (oassign (v := .int .i64 0) rfl rfl (evc (v := .int .i64 0)) ?_)
  refine wnil ?_
  refine thenN ?_
  refine wseq ?_
  refine wreg ?_
  refine wl rfl (omakeFunc (cs := #[.pointer (some ⟨g3, 0, none⟩)]) rfl rfl (args1 (ev rfl rfl)) ?_)
  refine wl rfl (oload (vs := [.bool bA, .slice qA nA kA, .bool bB, .slice qB nB kB]) aggR hS 2 rfl rfl (ev rfl rfl) rfl rfl rfl ?_)
  refine wl rfl (obslice (ps := #[(0, .agg #[.bool bA, .slice qA nA kA, .bool bB, .slice qB nB kB])]) (z := .agg #[.bool false, .slice none 0 0, .bool false, .slice none 0 0]) [.bool bA, .slice qA nA kA, .bool bB, .slice qB nB kB] hS rfl rfl Try.runUnderlying38 Try.sizeOf27 Try.zeroValue27 (parts1 (ev (v := .agg #[.bool bA, .slice qA nA kA, .bool bB, .slice qB nB kB]) rfl rfl)) rfl (by decide) fill4_1 ?_)
  clear hS; intro g7 w8 hS
  refine wl rfl (ocall rfl rfl Try.call53 rfl (wmadeP (kv := .int .i64 ((-((K : Nat) : Int)))) (z := 0) (t := 0) (E := 5) (hS.pick [0, 2, 1] (by decide) rfl) hzA hzB hy (fun gL gm cL pX pY nX cX nY cY w1 hS1 => calls_app2 (wpow1_nz hS1 (hzA.wd.rn rfl) (hzB.wd.rd rfl) (Int.ne_of_gt (RD_pos hy)) hK hK0 ((RN_zero hy).2 hx)))) (args2 (ev rfl rfl) (ev rfl rfl)) ?_)
  rintro _ w9 ⟨_, _, kc, rfl, ⟨pr1, nr1, cr1, pr2, nr2, cr2, rfl, rfl⟩, hN⟩
  refine ⟨_, rfl, ?_⟩
  clear hS; have hS := hN; clear hN
  refine wl rfl (oextract (vs := [.agg #[.bool (ng 0), .slice pr1 nr1 cr1, .bool (ng 0), .slice pr2 nr2 cr2], .int .i64 5]) (v := .agg #[.bool (ng 0), .slice pr1 nr1 cr1, .bool (ng 0), .slice pr2 nr2 cr2]) rfl rfl (ev (v := .tuple #[.agg #[.bool (ng 0), .slice pr1 nr1 cr1, .bool (ng 0), .slice pr2 nr2 cr2], .int .i64 5]) rfl rfl) rfl ?_)
  refine wl rfl (oextract (vs := [.agg #[.bool (ng 0), .slice pr1 nr1 cr1, .bool (ng 0), .slice pr2 nr2 cr2], .int .i64 5]) (v := .int .i64 5) rfl rfl (ev (v := .tuple #[.agg #[.bool (ng 0), .slice pr1 nr1 cr1, .bool (ng 0), .slice pr2 nr2 cr2], .int .i64 5]) rfl rfl) rfl ?_)
  refine wl rfl (ostore [.bool (ng 0), .slice pr1 nr1 cr1, .bool (ng 0), .slice pr2 nr2 cr2] [.bool (ng 0), .slice pr1 nr1 cr1, .bool (ng 0), .slice pr2 nr2 cr2] Try.sizeOf27 hS 3 rfl rfl (ev rfl rfl) (ev (v := .agg #[.bool (ng 0), .slice pr1 nr1 cr1, .bool (ng 0), .slice pr2 nr2 cr2]) rfl rfl) rfl rfl rfl rfl rfl rfl ?_)
  clear hS; intro w10 hS
  refine wl rfl (oassign (v := .int .i64 5) rfl rfl (ev (v := .int .i64 5) rfl rfl) ?_)
  refine wnil ?_
  refine thenN ?_
  refine wleave ?_
  refine wret2 Try.results40 (tellC (cs := [.bool (ng 0), .slice pr1 nr1 cr1, .bool (ng 0), .slice pr2 nr2 cr2]) aggR hS 3 rfl rfl rfl rfl) (tellT (v := .int .i64 5) rfl rfl) ?_
  exact ⟨_, _, rfl, ⟨_, _, _, _, _, _, rfl, rfl⟩, hS.newM [0, 1] (by decide) rfl rfl⟩

set_option maxRecDepth 100000 in
set_option maxHeartbeats 16000000 in
theorem wrpow_m {x y : Int}  {bA bB : Bool} {qA qB : Option Addr} {nA kA nB kB : Nat} {w : World} (hzA : Zr w bA qA nA kA x 16777216) (hzB : Zr w bB qB nB kB y 16777216) (hy : y ≠ 0) (hx : x ≠ 0) (h1 : blen (RN (RD x y) (RN x y)).natAbs = 1) (h2 : blen (RD (RD x y) (RN x y)).natAbs = 1) :
    Calls Try.prog 40 #[.agg #[.bool bA, .slice qA nA kA, .bool bB, .slice qB nB kB], .int .i64 (-9223372036854775808)] w (Ret (RRt 1 1 0) w) := by
  have hS := Sep.init w
  refine went Try.func40 rfl (n := 12) rfl rfl ?_
  refine wseq ?_
  refine wreg ?_
  refine wl rfl (obox [.bool bA, .slice qA nA kA, .bool bB, .slice qB nB kB] hS rfl rfl (ev (v := .agg #[.bool bA, .slice qA nA kA, .bool bB, .slice qB nB kB]) rfl rfl) rfl ?_)
  clear hS; intro g1 w2 hS
  refine wl rfl (obox [.int .i64 (-9223372036854775808)] hS rfl rfl (ev (v := .int .i64 (-9223372036854775808)) rfl rfl) rfl ?_)
  clear hS; intro g3 w4 hS
  refine wl rfl (oalloc [.bool false, .slice none 0 0, .bool false, .slice none 0 0] hS rfl rfl Try.zeroValue27 rfl ?_)
  clear hS; intro g5 w6 hS
  refine wl rfl (oassign (v := .int .i64 0) rfl rfl (evc (v := .int .i64 0)) ?_)
  refine wnil ?_
  refine thenN ?_
  refine wseq ?_
  refine wreg ?_
  refine wl rfl (omakeFunc (cs := #[.pointer (some ⟨g3, 0, none⟩)]) rfl rfl (args1 (ev rfl rfl)) ?_)
  refine wl rfl (oload (vs := [.bool bA, .slice qA nA kA, .bool bB, .slice qB nB kB]) aggR hS 2 rfl rfl (ev rfl rfl) rfl rfl rfl ?_)
  refine wl rfl (obslice (ps := #[(0, .agg #[.bool bA, .slice qA nA kA, .bool bB, .slice qB nB kB])]) (z := .agg #[.bool false, .slice none 0 0, .bool false, .slice none 0 0]) [.bool bA, .slice qA nA kA, .bool bB, .slice qB nB kB] hS rfl rfl Try.runUnderlying38 Try.sizeOf27 Try.zeroValue27 (parts1 (ev (v := .agg #[.bool bA, .slice qA nA kA, .bool bB, .slice qB nB kB]) rfl rfl)) rfl (by decide) fill4_1 ?_)
  clear hS; intro g7 w8 hS
  refine wl rfl (ocall rfl rfl Try.call53 rfl (wmadeP (kv := .int .i64 (-9223372036854775808)) (z := 1) (t := 1) (E := 0) (hS.pick [0, 2, 1] (by decide) rfl) hzA hzB hy (fun gL gm cL pX pY nX cX nY cY w1 hS1 => calls_app2 (wpow1_m hS1 (hzA.wd.rn rfl) (hzB.wd.rd rfl) (Int.ne_of_gt (RD_pos hy)) (fun e => hx ((RN_zero hy).1 e)) h1 h2))) (args2 (ev rfl rfl) (ev rfl rfl)) ?_)
  rintro _ w9 ⟨_, _, kc, rfl, ⟨pr1, nr1, cr1, pr2, nr2, cr2, rfl, rfl⟩, hN⟩
  refine ⟨_, rfl, ?_⟩
  clear hS; have hS := hN; clear hN
  refine wl rfl (oextract (vs := [.agg #[.bool (ng 1), .slice pr1 nr1 cr1, .bool (ng 1), .slice pr2 nr2 cr2], .int .i64 0]) (v := .agg #[.bool (ng 1), .slice pr1 nr1 cr1, .bool (ng 1), .slice pr2 nr2 cr2]) rfl rfl (ev (v := .tuple #[.agg #[.bool (ng 1), .slice pr1 nr1 cr1, .bool (ng 1), .slice pr2 nr2 cr2], .int .i64 0]) rfl rfl) rfl ?_)
  refine wl rfl (oextract (vs := [.agg #[.bool (ng 1), .slice pr1 nr1 cr1, .bool (ng 1), .slice pr2 nr2 cr2], .int .i64 0]) (v := .int .i64 0) rfl rfl (ev (v := .tuple #[.agg #[.bool (ng 1), .slice pr1 nr1 cr1, .bool (ng 1), .slice pr2 nr2 cr2], .int .i64 0]) rfl rfl) rfl ?_)
  refine wl rfl (ostore [.bool (ng 1), .slice pr1 nr1 cr1, .bool (ng 1), .slice pr2 nr2 cr2] [.bool (ng 1), .slice pr1 nr1 cr1, .bool (ng 1), .slice pr2 nr2 cr2] Try.sizeOf27 hS 3 rfl rfl (ev rfl rfl) (ev (v := .agg #[.bool (ng 1), .slice pr1 nr1 cr1, .bool (ng 1), .slice pr2 nr2 cr2]) rfl rfl) rfl rfl rfl rfl rfl rfl ?_)
  clear hS; intro w10 hS
  refine wl rfl (oassign (v := .int .i64 0) rfl rfl (ev (v := .int .i64 0) rfl rfl) ?_)
  refine wnil ?_
  refine thenN ?_
  refine wleave ?_
  refine wret2 Try.results40 (tellC (cs := [.bool (ng 1), .slice pr1 nr1 cr1, .bool (ng 1), .slice pr2 nr2 cr2]) aggR hS 3 rfl rfl rfl rfl) (tellT (v := .int .i64 0) rfl rfl) ?_
  exact ⟨_, _, rfl, ⟨_, _, _, _, _, _, rfl, rfl⟩, hS.newM [0, 1] (by decide) rfl rfl⟩

set_option maxRecDepth 100000 in
set_option maxHeartbeats 16000000 in
theorem wrpow_mA {x y : Int}  {bA bB : Bool} {qA qB : Option Addr} {nA kA nB kB : Nat} {w : World} (hzA : Zr w bA qA nA kA x 16777216) (hzB : Zr w bB qB nB kB y 16777216) (hy : y ≠ 0) (hx : x ≠ 0) (h1 : blen (RN (RD x y) (RN x y)).natAbs ≠ 1) :
    Calls Try.prog 40 #[.agg #[.bool bA, .slice qA nA kA, .bool bB, .slice qB nB kB], .int .i64 (-9223372036854775808)] w (Ret (RRt 0 0 4) w) := by
  have hS := Sep.init w
  refine went Try.func40 rfl (n := 12) rfl rfl ?_
  refine wseq ?_
  refine wreg ?_
  refine wl rfl (obox [.bool bA, .slice qA nA kA, .bool bB, .slice qB nB kB] hS rfl rfl (ev (v := .agg #[.bool bA, .slice qA nA kA, .bool bB, .slice qB nB kB]) rfl rfl) rfl ?_)
  clear hS; intro g1 w2 hS
  refine wl rfl (obox [.int .i64 (-9223372036854775808)] hS rfl rfl (ev (v := .int .i64 (-9223372036854775808)) rfl rfl) rfl ?_)
  clear hS; intro g3 w4 hS
  refine wl rfl (oalloc [.bool false, .slice none 0 0, .bool false, .slice none 0 0] hS rfl rfl Try.zeroValue27 rfl ?_)
  clear hS; intro g5 w6 hS
  refine wl rfl (oassign (v := .int .i64 0) rfl rfl (evc (v := .int .i64 0)) ?_)
  refine wnil ?_
  refine thenN ?_
  refine wseq ?_
  refine wreg ?_
  refine wl rfl (omakeFunc (cs := #[.pointer (some ⟨g3, 0, none⟩)]) rfl rfl (args1 (ev rfl rfl)) ?_)
  refine wl rfl (oload (vs := [.bool bA, .slice qA nA kA, .bool bB, .slice qB nB kB]) aggR hS 2 rfl rfl (ev rfl rfl) rfl rfl rfl ?_)
  refine wl rfl (obslice (ps := #[(0, .agg #[.bool bA, .slice qA nA kA, .bool bB, .slice qB nB kB])]) (z := .agg #[.bool false, .slice none 0 0, .bool false, .slice none 0 0]) [.bool bA, .slice qA nA kA, .bool bB, .slice qB nB kB] hS rfl rfl Try.runUnderlying38 Try.sizeOf27 Try.zeroValue27 (parts1 (ev (v := .agg #[.bool bA, .slice qA nA kA, .bool bB, .slice qB nB kB]) rfl rfl)) rfl (by decide) fill4_1 ?_)
  clear hS; intro g7 w8 hS
  refine wl rfl (ocall rfl rfl Try.call53 rfl (wmadeP (kv := .int .i64 (-9223372036854775808)) (z := 0) (t := 0) (E := 4) (hS.pick [0, 2, 1] (by decide) rfl) hzA hzB hy (fun gL gm cL pX pY nX cX nY cY w1 hS1 => calls_app2 (wpow1_mA hS1 (hzA.wd.rn rfl) (hzB.wd.rd rfl) (Int.ne_of_gt (RD_pos hy)) (fun e => hx ((RN_zero hy).1 e)) h1))) (args2 (ev rfl rfl) (ev rfl rfl)) ?_)
  rintro _ w9 ⟨_, _, kc, rfl, ⟨pr1, nr1, cr1, pr2, nr2, cr2, rfl, rfl⟩, hN⟩
  refine ⟨_, rfl, ?_⟩
  clear hS; have hS := hN; clear hN
  refine wl rfl (oextract (vs := [.agg #[.bool (ng 0), .slice pr1 nr1 cr1, .bool (ng 0), .slice pr2 nr2 cr2], .int .i64 4]) (v := .agg #[.bool (ng 0), .slice pr1 nr1 cr1, .bool (ng 0), .slice pr2 nr2 cr2]) rfl rfl (ev (v := .tuple #[.agg #[.bool (ng 0), .slice pr1 nr1 cr1, .bool (ng 0), .slice pr2 nr2 cr2], .int .i64 4]) rfl rfl) rfl ?_)
  refine wl rfl (oextract (vs := [.agg #[.bool (ng 0), .slice pr1 nr1 cr1, .bool (ng 0), .slice pr2 nr2 cr2], .int .i64 4]) (v := .int .i64 4) rfl rfl (ev (v := .tuple #[.agg #[.bool (ng 0), .slice pr1 nr1 cr1, .bool (ng 0), .slice pr2 nr2 cr2], .int .i64 4]) rfl rfl) rfl ?_)
  refine wl rfl (ostore [.bool (ng 0), .slice pr1 nr1 cr1, .bool (ng 0), .slice pr2 nr2 cr2] [.bool (ng 0), .slice pr1 nr1 cr1, .bool (ng 0), .slice pr2 nr2 cr2] Try.sizeOf27 hS 3 rfl rfl (ev rfl rfl) (ev (v := .agg #[.bool (ng 0), .slice pr1 nr1 cr1, .bool (ng 0), .slice pr2 nr2 cr2]) rfl rfl) rfl rfl rfl rfl rfl rfl ?_)
  clear hS; intro w10 hS
  refine wl rfl (oassign (v := .int .i64 4) rfl rfl (ev (v := .int .i64 4) rfl rfl) ?_)
  refine wnil ?_
  refine thenN ?_
  refine wleave ?_
  refine wret2 Try.results40 (tellC (cs := [.bool (ng 0), .slice pr1 nr1 cr1, .bool (ng 0), .slice pr2 nr2 cr2]) aggR hS 3 rfl rfl rfl rfl) (tellT (v := .int .i64 4) rfl rfl) ?_
  exact ⟨_, _, rfl, ⟨_, _, _, _, _, _, rfl, rfl⟩, hS.newM [0, 1] (by decide) rfl rfl⟩

set_option maxRecDepth 100000 in
set_option maxHeartbeats 16000000 in
theorem wrpow_mB {x y : Int}  {bA bB : Bool} {qA qB : Option Addr} {nA kA nB kB : Nat} {w : World} (hzA : Zr w bA qA nA kA x 16777216) (hzB : Zr w bB qB nB kB y 16777216) (hy : y ≠ 0) (hx : x ≠ 0) (h1 : blen (RN (RD x y) (RN x y)).natAbs = 1) (h2 : blen (RD (RD x y) (RN x y)).natAbs ≠ 1) :
    Calls Try.prog 40 #[.agg #[.bool bA, .slice qA nA kA, .bool bB, .slice qB nB kB], .int .i64 (-9223372036854775808)] w (Ret (RRt 0 0 4) w) := by
  have hS := Sep.init w
  refine went Try.func40 rfl (n := 12) rfl rfl ?_
  refine wseq ?_
  refine wreg ?_
  refine wl rfl (obox [.bool bA, .slice qA nA kA, .bool bB, .slice qB nB kB] hS rfl rfl (ev (v := .agg #[.bool bA, .slice qA nA kA, .bool bB, .slice qB nB kB]) rfl rfl) rfl ?_)
  clear hS; intro g1 w2 hS
  refine wl rfl (obox [.int .i64 (-9223372036854775808)] hS rfl rfl (ev (v := .int .i64 (-9223372036854775808)) rfl rfl) rfl ?_)
  clear hS; intro g3 w4 hS
  refine wl rfl (oalloc [.bool false, .slice none 0 0, .bool false, .slice none 0 0] hS rfl rfl Try.zeroValue27 rfl ?_)
  clear hS; intro g5 w6 hS
  refine wl rfl (oassign (v := .int .i64 0) rfl rfl (evc (v := .int .i64 0)) ?_)
  refine wnil ?_
  refine thenN ?_
  refine wseq ?_
  refine wreg ?_
  refine wl rfl (omakeFunc (cs := #[.pointer (some ⟨g3, 0, none⟩)]) rfl rfl (args1 (ev rfl rfl)) ?_)
  refine wl rfl (oload (vs := [.bool bA, .slice qA nA kA, .bool bB, .slice qB nB kB]) aggR hS 2 rfl rfl (ev rfl rfl) rfl rfl rfl ?_)
  refine wl rfl (obslice (ps := #[(0, .agg #[.bool bA, .slice qA nA kA, .bool bB, .slice qB nB kB])]) (z := .agg #[.bool false, .slice none 0 0, .bool false, .slice none 0 0]) [.bool bA, .slice qA nA kA, .bool bB, .slice qB nB kB] hS rfl rfl Try.runUnderlying38 Try.sizeOf27 Try.zeroValue27 (parts1 (ev (v := .agg #[.bool bA, .slice qA nA kA, .bool bB, .slice qB nB kB]) rfl rfl)) rfl (by decide) fill4_1 ?_)
  clear hS; intro g7 w8 hS
  refine wl rfl (ocall rfl rfl Try.call53 rfl (wmadeP (kv := .int .i64 (-9223372036854775808)) (z := 0) (t := 0) (E := 4) (hS.pick [0, 2, 1] (by decide) rfl) hzA hzB hy (fun gL gm cL pX pY nX cX nY cY w1 hS1 => calls_app2 (wpow1_mB hS1 (hzA.wd.rn rfl) (hzB.wd.rd rfl) (Int.ne_of_gt (RD_pos hy)) (fun e => hx ((RN_zero hy).1 e)) h1 h2))) (args2 (ev rfl rfl) (ev rfl rfl)) ?_)
  rintro _ w9 ⟨_, _, kc, rfl, ⟨pr1, nr1, cr1, pr2, nr2, cr2, rfl, rfl⟩, hN⟩
  refine ⟨_, rfl, ?_⟩
  clear hS; have hS := hN; clear hN
  refine wl rfl (oextract (vs := [.agg #[.bool (ng 0), .slice pr1 nr1 cr1, .bool (ng 0), .slice pr2 nr2 cr2], .int .i64 4]) (v := .agg #[.bool (ng 0), .slice pr1 nr1 cr1, .bool (ng 0), .slice pr2 nr2 cr2]) rfl rfl (ev (v := .tuple #[.agg #[.bool (ng 0), .slice pr1 nr1 cr1, .bool (ng 0), .slice pr2 nr2 cr2], .int .i64 4]) rfl rfl) rfl ?_)
  refine wl rfl (oextract (vs := [.agg #[.bool (ng 0), .slice pr1 nr1 cr1, .bool (ng 0), .slice pr2 nr2 cr2], .int .i64 4]) (v := .int .i64 4) rfl rfl (ev (v := .tuple #[.agg #[.bool (ng 0), .slice pr1 nr1 cr1, .bool (ng 0), .slice pr2 nr2 cr2], .int .i64 4]) rfl rfl) rfl ?_)
  refine wl rfl (ostore [.bool (ng 0), .slice pr1 nr1 cr1, .bool (ng 0), .slice pr2 nr2 cr2] [.bool (ng 0), .slice pr1 nr1 cr1, .bool (ng 0), .slice pr2 nr2 cr2] Try.sizeOf27 hS 3 rfl rfl (ev rfl rfl) (ev (v := .agg #[.bool (ng 0), .slice pr1 nr1 cr1, .bool (ng 0), .slice pr2 nr2 cr2]) rfl rfl) rfl rfl rfl rfl rfl rfl ?_)
  clear hS; intro w10 hS
  refine wl rfl (oassign (v := .int .i64 4) rfl rfl (ev (v := .int .i64 4) rfl rfl) ?_)
  refine wnil ?_
  refine thenN ?_
  refine wleave ?_
  refine wret2 Try.results40 (tellC (cs := [.bool (ng 0), .slice pr1 nr1 cr1, .bool (ng 0), .slice pr2 nr2 cr2]) aggR hS 3 rfl rfl rfl rfl) (tellT (v := .int .i64 4) rfl rfl) ?_
  exact ⟨_, _, rfl, ⟨_, _, _, _, _, _, rfl, rfl⟩, hS.newM [0, 1] (by decide) rfl rfl⟩

set_option maxRecDepth 100000 in
set_option maxHeartbeats 16000000 in
theorem wrpow_mz {x y : Int}  {bA bB : Bool} {qA qB : Option Addr} {nA kA nB kB : Nat} {w : World} (hzA : Zr w bA qA nA kA x 16777216) (hzB : Zr w bB qB nB kB y 16777216) (hy : y ≠ 0) (hx : x = 0) :
    Calls Try.prog 40 #[.agg #[.bool bA, .slice qA nA kA, .bool bB, .slice qB nB kB], .int .i64 (-9223372036854775808)] w (Ret (RRt 0 0 5) w) := by
  have hS := Sep.init w
  refine went Try.func40 rfl (n := 12) rfl rfl ?_
  refine wseq ?_
  refine wreg ?_
  refine wl rfl (obox [.bool bA, .slice qA nA kA, .bool bB, .slice qB nB kB] hS rfl rfl (ev (v := .agg #[.bool bA, .slice qA nA kA, .bool bB, .slice qB nB kB]) rfl rfl) rfl ?_)
  clear hS; intro g1 w2 hS
  refine wl rfl (obox [.int .i64 (-9223372036854775808)] hS rfl rfl (ev (v := .int .i64 (-9223372036854775808)) rfl rfl) rfl ?_)
  clear hS; intro g3 w4 hS
  refine wl rfl (oalloc [.bool false, .slice none 0 0, .bool false, .slice none 0 0] hS rfl rfl Try.zeroValue27 rfl ?_)
  clear hS; intro g5 w6 hS
  refine wl rfl (oassign (v := .int .i64 0) rfl rfl (evc (v := .int .i64 0)) ?_)
  refine wnil ?_
  refine thenN ?_
  refine wseq ?_
  refine wreg ?_
  refine wl rfl (omakeFunc (cs := #[.pointer (some ⟨g3, 0, none⟩)]) rfl rfl (args1 (ev rfl rfl)) ?_)
  refine wl rfl (oload (vs := [.bool bA, .slice qA nA kA, .bool bB, .slice qB nB kB]) aggR hS 2 rfl rfl (ev rfl rfl) rfl rfl rfl ?_)
  refine wl rfl (obslice (ps := #[(0, .agg #[.bool bA, .slice qA nA kA, .bool bB, .slice qB nB kB])]) (z := .agg #[.bool false, .slice none 0 0, .bool false, .slice none 0 0]) [.bool bA, .slice qA nA kA, .bool bB, .slice qB nB kB] hS rfl rfl Try.runUnderlying38 Try.sizeOf27 Try.zeroValue27 (parts1 (ev (v := .agg #[.bool bA, .slice qA nA kA, .bool bB, .slice qB nB kB]) rfl rfl)) rfl (by decide) fill4_1 ?_)
  clear hS; intro g7 w8 hS
  refine wl rfl (ocall rfl rfl Try.call53 rfl (wmadeP (kv := .int .i64 (-9223372036854775808)) (z := 0) (t := 0) (E := 5) (hS.pick [0, 2, 1] (by decide) rfl) hzA hzB hy (fun gL gm cL pX pY nX cX nY cY w1 hS1 => calls_app2 (wpow1_mz hS1 (hzA.wd.rn rfl) (hzB.wd.rd rfl) (Int.ne_of_gt (RD_pos hy)) ((RN_zero hy).2 hx)))) (args2 (ev rfl rfl) (ev rfl rfl)) ?_)
  rintro _ w9 ⟨_, _, kc, rfl, ⟨pr1, nr1, cr1, pr2, nr2, cr2, rfl, rfl⟩, hN⟩
  refine ⟨_, rfl, ?_⟩
  clear hS; have hS := hN; clear hN
  refine wl rfl (oextract (vs := [.agg #[.bool (ng 0), .slice pr1 nr1 cr1, .bool (ng 0), .slice pr2 nr2 cr2], .int .i64 5]) (v := .agg #[.bool (ng 0), .slice pr1 nr1 cr1, .bool (ng 0), .slice pr2 nr2 cr2]) rfl rfl (ev (v := .tuple #[.agg #[.bool (ng 0), .slice pr1 nr1 cr1, .bool (ng 0), .slice pr2 nr2 cr2], .int .i64 5]) rfl rfl) rfl ?_)
  refine wl rfl (oextract (vs := [.agg #[.bool (ng 0), .slice pr1 nr1 cr1, .bool (ng 0), .slice pr2 nr2 cr2], .int .i64 5]) (v := .int .i64 5) rfl rfl (ev (v := .tuple #[.agg #[.bool (ng 0), .slice pr1 nr1 cr1, .bool (ng 0), .slice pr2 nr2 cr2], .int .i64 5]) rfl rfl) rfl ?_)
  refine wl rfl (ostore [.bool (ng 0), .slice pr1 nr1 cr1, .bool (ng 0), .slice pr2 nr2 cr2] [.bool (ng 0), .slice pr1 nr1 cr1, .bool (ng 0), .slice pr2 nr2 cr2] Try.sizeOf27 hS 3 rfl rfl (ev rfl rfl) (ev (v := .agg #[.bool (ng 0), .slice pr1 nr1 cr1, .bool (ng 0), .slice pr2 nr2 cr2]) rfl rfl) rfl rfl rfl rfl rfl rfl ?_)
  clear hS; intro w10 hS
  refine wl rfl (oassign (v := .int .i64 5) rfl rfl (ev (v := .int .i64 5) rfl rfl) ?_)
  refine wnil ?_
  refine thenN ?_
  refine wleave ?_
  refine wret2 Try.results40 (tellC (cs := [.bool (ng 0), .slice pr1 nr1 cr1, .bool (ng 0), .slice pr2 nr2 cr2]) aggR hS 3 rfl rfl rfl rfl) (tellT (v := .int .i64 5) rfl rfl) ?_
  exact ⟨_, _, rfl, ⟨_, _, _, _, _, _, rfl, rfl⟩, hS.newM [0, 1] (by decide) rfl rfl⟩

set_option maxRecDepth 100000 in
set_option maxHeartbeats 16000000 in
theorem wrpow0 {x y : Int} {bA bB : Bool} {qA qB : Option Addr} {nA kA nB kB : Nat} {w : World} (hzA : Zr w bA qA nA kA x 16777216) (hzB : Zr w bB qB nB kB y 16777216) {kv : Int} (h0 : y = 0) :
    Calls Try.prog 40 #[.agg #[.bool bA, .slice qA nA kA, .bool bB, .slice qB nB kB], .int .i64 kv] w (Ret (Is (.tuple #[.agg #[.bool false, .slice none 0 0, .bool false, .slice none 0 0], .int .i64 6])) w) := by
  have hS := Sep.init w
  refine went Try.func40 rfl (n := 12) rfl rfl ?_
  refine wseq ?_
  refine wreg ?_
  refine wl rfl (obox [.bool bA, .slice qA nA kA, .bool bB, .slice qB nB kB] hS rfl rfl (ev (v := .agg #[.bool bA, .slice qA nA kA, .bool bB, .slice qB nB kB]) rfl rfl) rfl ?_)
  clear hS; intro g1 w2 hS
  refine wl rfl (obox [.int .i64 kv] hS rfl rfl (ev (v := .int .i64 kv) rfl rfl) rfl ?_)
  clear hS; intro g3 w4 hS
  refine wl rfl (oalloc [.bool false, .slice none 0 0, .bool false, .slice none 0 0] hS rfl rfl Try.zeroValue27 rfl ?_)
  clear hS; intro g5 w6 hS
  refine wl rfl (oassign (v := .int .i64 0) rfl rfl (evc (v := .int .i64 0)) ?_)
  refine wnil ?_
  refine thenN ?_
  refine wseq ?_
  refine wreg ?_
  refine wl rfl (omakeFunc (cs := #[.pointer (some ⟨g3, 0, none⟩)]) rfl rfl (args1 (ev rfl rfl)) ?_)
  refine wl rfl (oload (vs := [.bool bA, .slice qA nA kA, .bool bB, .slice qB nB kB]) aggR hS 2 rfl rfl (ev rfl rfl) rfl rfl rfl ?_)
  refine wl rfl (obslice (ps := #[(0, .agg #[.bool bA, .slice qA nA kA, .bool bB, .slice qB nB kB])]) (z := .agg #[.bool false, .slice none 0 0, .bool false, .slice none 0 0]) [.bool bA, .slice qA nA kA, .bool bB, .slice qB nB kB] hS rfl rfl Try.runUnderlying38 Try.sizeOf27 Try.zeroValue27 (parts1 (ev (v := .agg #[.bool bA, .slice qA nA kA, .bool bB, .slice qB nB kB]) rfl rfl)) rfl (by decide) fill4_1 ?_)
  clear hS; intro g7 w8 hS
  refine wl rfl (ocall rfl rfl Try.call53 rfl (wmadeR0 ((Rs.one (hS.blkAt 0 rfl) (hzA.at hS) (hzB.at hS)).mono (by omega)) ⟨_, List.mem_cons_self, h0⟩) (args2 (ev rfl rfl) (ev rfl rfl)) ?_)
  rintro _ w9 ⟨_, _, rfl, ⟨rfl, rfl⟩, hN⟩
  refine ⟨_, rfl, ?_⟩
  replace hS := hS.news hN; clear hN
  refine wl rfl (oextract (vs := [.agg #[.bool false, .slice none 0 0, .bool false, .slice none 0 0], .int .i64 6]) (v := .agg #[.bool false, .slice none 0 0, .bool false, .slice none 0 0]) rfl rfl (ev (v := .tuple #[.agg #[.bool false, .slice none 0 0, .bool false, .slice none 0 0], .int .i64 6]) rfl rfl) rfl ?_)
  refine wl rfl (oextract (vs := [.agg #[.bool false, .slice none 0 0, .bool false, .slice none 0 0], .int .i64 6]) (v := .int .i64 6) rfl rfl (ev (v := .tuple #[.agg #[.bool false, .slice none 0 0, .bool false, .slice none 0 0], .int .i64 6]) rfl rfl) rfl ?_)
  refine wl rfl (ostore [.bool false, .slice none 0 0, .bool false, .slice none 0 0] [.bool false, .slice none 0 0, .bool false, .slice none 0 0] Try.sizeOf27 hS 1 rfl rfl (ev rfl rfl) (ev (v := .agg #[.bool false, .slice none 0 0, .bool false, .slice none 0 0]) rfl rfl) rfl rfl rfl rfl rfl rfl ?_)
  clear hS; intro w10 hS
  refine wl rfl (oassign (v := .int .i64 6) rfl rfl (ev (v := .int .i64 6) rfl rfl) ?_)
  refine wnil ?_
  refine thenN ?_
  refine wleave ?_
  refine wret2 Try.results40 (tellC (cs := [.bool false, .slice none 0 0, .bool false, .slice none 0 0]) aggR hS 1 rfl rfl rfl rfl) (tellT (v := .int .i64 6) rfl rfl) ?_
  exact ⟨_, _, rfl, isI, hS.new0⟩

set_option maxRecDepth 100000 in
set_option maxHeartbeats 16000000 in
theorem wsone {x y : Int} {qA qB : Option Addr} {nA kA nB kB : Nat} {w : World} (hsA : Sl w qA nA kA (lim x.natAbs)) (hsB : Sl w qB nB kB (lim y.natAbs)) (hkA : Wd x 67108864) (hkB : Wd y 67108864) (h1 : blen x.natAbs = 1) (h2 : blen y.natAbs = 1) :
    Calls Try.prog 87 #[.agg #[.bool (ng x), .slice qA nA kA, .bool (ng y), .slice qB nB kB]] w (Ret (RBt 1 1 true) w) := by
  have hS := Sep.init w
  refine went Try.func87 rfl (n := 18) rfl rfl ?_
  refine wseq ?_
  refine wreg ?_
  refine wl rfl (obox [.bool (ng x), .slice qA nA kA, .bool (ng y), .slice qB nB kB] hS rfl rfl (ev (v := .agg #[.bool (ng x), .slice qA nA kA, .bool (ng y), .slice qB nB kB]) rfl rfl) rfl ?_)
  clear hS; intro g1 w2 hS
  refine wl rfl (oalloc [.bool false, .slice none 0 0, .bool false, .slice none 0 0] hS rfl rfl Try.zeroValue27 rfl ?_)
  clear hS; intro g3 w4 hS
  refine wl rfl (oassign (v := .bool false) rfl rfl (evc (v := .bool false)) ?_)
  refine wnil ?_
  refine thenN ?_
  refine wseq ?_
  refine wseq ?_
  refine wreg ?_
  refine wl rfl (ofieldAddr (g := g1) (off := 0) 0 rfl rfl (ev (v := .pointer (some ⟨g1, 0, none⟩)) rfl rfl) Try.runUnderlying27 rfl Try.sizeOf25 rfl ?_)
  refine wl rfl (ofieldAddr (g := g1) (off := 0) 1 rfl rfl (ev (v := .pointer (some ⟨g1, 0, none⟩)) rfl rfl) Try.runUnderlying25 rfl Try.sizeOf23 rfl ?_)
  refine wl rfl (oload1 (v := .slice qA nA kA) oneN hS 1 rfl rfl (ev rfl rfl) rfl rfl ?_)
  refine wl rfl (ocall rfl rfl Try.call39 rfl (wrlen (z := x) (hsA.below hS.below (Nat.le_refl _)) hkA) (args1 (ev rfl rfl)) ?_)
  rintro _ w5 ⟨_, _, rfl, ⟨rfl, rfl⟩, hN⟩
  refine ⟨_, rfl, ?_⟩
  replace hS := hS.news hN; clear hN
  refine wl rfl (obin (u := .int .i64 (((blen x.natAbs : Nat) : Int))) (v := .int .i64 1) (z := .bool true) rfl rfl (ev (v := .int .i64 (((blen x.natAbs : Nat) : Int))) rfl rfl) (evc (v := .int .i64 1)) (bin_eql (eqT (by omega))) ?_)
  refine wl rfl (omove (v := .bool true) rfl rfl (ev (v := .bool true) rfl rfl) ?_)
  refine wlOn (e := 9) rfl rfl rfl rfl (ofieldAddr (g := g1) (off := 0) 2 rfl rfl (ev (v := .pointer (some ⟨g1, 0, none⟩)) rfl rfl) Try.runUnderlying27 rfl Try.sizeOf25 rfl ?_)
  refine wlOn (e := 9) rfl rfl rfl rfl (ofieldAddr (g := g1) (off := 2) 3 rfl rfl (ev (v := .pointer (some ⟨g1, 2, none⟩)) rfl rfl) Try.runUnderlying25 rfl Try.sizeOf23 rfl ?_)
  refine wlOn (e := 9) rfl rfl rfl rfl (oload1 (v := .slice qB nB kB) oneN hS 1 rfl rfl (ev rfl rfl) rfl rfl ?_)
  refine wlOn (e := 9) rfl rfl rfl rfl (ocall rfl rfl Try.call39 rfl (wrlen (z := y) (hsB.below hS.below (Nat.le_refl _)) hkB) (args1 (ev rfl rfl)) ?_)
  rintro _ w6 ⟨_, _, rfl, ⟨rfl, rfl⟩, hN⟩
  refine ⟨_, rfl, ?_⟩
  replace hS := hS.news hN; clear hN
  refine wlOn (e := 9) rfl rfl rfl rfl (obin (u := .int .i64 (((blen y.natAbs : Nat) : Int))) (v := .int .i64 1) (z := .bool true) rfl rfl (ev (v := .int .i64 (((blen y.natAbs : Nat) : Int))) rfl rfl) (evc (v := .int .i64 1)) (bin_eql (eqT (by omega))) ?_)
  refine wl rfl (opick (b := true) (v := .bool true) rfl rfl (ev (v := .bool true) rfl rfl) (ev (v := .bool true) rfl rfl) ?_)
  refine wnil ?_
  refine thenN ?_
  refine wT (ev (v := .bool true) rfl rfl) ?_
  refine wseq ?_
  refine wreg ?_
  have hk1 : Wd 1 2 := Wd.i64 (by omega) (by omega)
  have hk2 : Wd 1 2 := Wd.i64 (by omega) (by omega)
  refine wl rfl (ocall rfl rfl Try.call48 rfl (wsof (x := 1) (by omega) (by omega)) (args1 evc) ?_)
  rintro _ w7 ⟨_, _, rfl, ⟨p1, n1, c1, p2, n2, c2, rfl, rfl⟩, hN⟩
  refine ⟨_, rfl, ?_⟩
  replace hS := hS.news hN; clear hN
  refine wl rfl (ostore [.bool (ng 1), .slice p1 n1 c1, .bool (ng 1), .slice p2 n2 c2] [.bool (ng 1), .slice p1 n1 c1, .bool (ng 1), .slice p2 n2 c2] Try.sizeOf27 hS 2 rfl rfl (ev rfl rfl) (ev (v := .agg #[.bool (ng 1), .slice p1 n1 c1, .bool (ng 1), .slice p2 n2 c2]) rfl rfl) rfl rfl rfl rfl rfl rfl ?_)
  clear hS; intro w8 hS
  refine wl rfl (oassign (v := .bool true) rfl rfl (evc (v := .bool true)) ?_)
  refine wnil ?_
  refine thenN ?_
  refine wleave ?_
  refine thenR ?_
  refine wret2 Try.results87 (tellC (cs := [.bool (ng 1), .slice p1 n1 c1, .bool (ng 1), .slice p2 n2 c2]) aggR hS 2 rfl rfl rfl rfl) (tellT (v := .bool true) rfl rfl) ?_
  exact ⟨_, _, rfl, ⟨_, _, _, _, _, _, rfl, rfl⟩, hS.newM [0, 1] (by decide) rfl rfl⟩

set_option maxRecDepth 100000 in
set_option maxHeartbeats 16000000 in
theorem wsoneA {x y : Int} {qA qB : Option Addr} {nA kA nB kB : Nat} {w : World} (hsA : Sl w qA nA kA (lim x.natAbs)) (hsB : Sl w qB nB kB (lim y.natAbs)) (hkA : Wd x 67108864) (hkB : Wd y 67108864) (h1 : blen x.natAbs ≠ 1) :
    Calls Try.prog 87 #[.agg #[.bool (ng x), .slice qA nA kA, .bool (ng y), .slice qB nB kB]] w (Ret (Is (.tuple #[.agg #[.bool false, .slice none 0 0, .bool false, .slice none 0 0], .bool false])) w) := by
  have hS := Sep.init w
  refine went Try.func87 rfl (n := 18) rfl rfl ?_
  refine wseq ?_
  refine wreg ?_
  refine wl rfl (obox [.bool (ng x), .slice qA nA kA, .bool (ng y), .slice qB nB kB] hS rfl rfl (ev (v := .agg #[.bool (ng x), .slice qA nA kA, .bool (ng y), .slice qB nB kB]) rfl rfl) rfl ?_)
  clear hS; intro g1 w2 hS
  refine wl rfl (oalloc [.bool false, .slice none 0 0, .bool false, .slice none 0 0] hS rfl rfl Try.zeroValue27 rfl ?_)
  clear hS; intro g3 w4 hS
  refine wl rfl (oassign (v := .bool false) rfl rfl (evc (v := .bool false)) ?_)
  refine wnil ?_
  refine thenN ?_
  refine wseq ?_
  refine wseq ?_
  refine wreg ?_
  refine wl rfl (ofieldAddr (g := g1) (off := 0) 0 rfl rfl (ev (v := .pointer (some ⟨g1, 0, none⟩)) rfl rfl) Try.runUnderlying27 rfl Try.sizeOf25 rfl ?_)
  refine wl rfl (ofieldAddr (g := g1) (off := 0) 1 rfl rfl (ev (v := .pointer (some ⟨g1, 0, none⟩)) rfl rfl) Try.runUnderlying25 rfl Try.sizeOf23 rfl ?_)
  refine wl rfl (oload1 (v := .slice qA nA kA) oneN hS 1 rfl rfl (ev rfl rfl) rfl rfl ?_)
  refine wl rfl (ocall rfl rfl Try.call39 rfl (wrlen (z := x) (hsA.below hS.below (Nat.le_refl _)) hkA) (args1 (ev rfl rfl)) ?_)
  rintro _ w5 ⟨_, _, rfl, ⟨rfl, rfl⟩, hN⟩
  refine ⟨_, rfl, ?_⟩
  replace hS := hS.news hN; clear hN
  refine wl rfl (obin (u := .int .i64 (((blen x.natAbs : Nat) : Int))) (v := .int .i64 1) (z := .bool false) rfl rfl (ev (v := .int .i64 (((blen x.natAbs : Nat) : Int))) rfl rfl) (evc (v := .int .i64 1)) (bin_eql (eqF (by omega))) ?_)
  refine wl rfl (omove (v := .bool false) rfl rfl (ev (v := .bool false) rfl rfl) ?_)
  refine wlOff (e := 9) (d := 10) (b' := false) rfl rfl rfl rfl rfl rfl ?_
  refine wlOff (e := 9) (d := 11) (b' := false) rfl rfl rfl rfl rfl rfl ?_
  refine wlOff (e := 9) (d := 12) (b' := false) rfl rfl rfl rfl rfl rfl ?_
  refine wlOff (e := 9) (d := 13) (b' := false) rfl rfl rfl rfl rfl rfl ?_
  refine wlOff (e := 9) (d := 14) (b' := false) rfl rfl rfl rfl rfl rfl ?_
  refine wl rfl (opick (b := false) (v := .bool false) rfl rfl (ev (v := .bool false) rfl rfl) (evc (v := .bool false)) ?_)
  refine wnil ?_
  refine thenN ?_
  refine wF (ev (v := .bool false) rfl rfl) ?_
  refine wskip ?_
  refine thenN ?_
  refine wseq ?_
  refine wreg ?_
  refine wl rfl (obuild (ps := #[]) (v := .agg #[.bool false, .slice none 0 0, .bool false, .slice none 0 0]) rfl rfl (parts0) (fun w => by simp [go_sem, Instr.build, Instr.fill]) ?_)
  refine wl rfl (ostore [.bool false, .slice none 0 0, .bool false, .slice none 0 0] [.bool false, .slice none 0 0, .bool false, .slice none 0 0] Try.sizeOf27 hS 0 rfl rfl (ev rfl rfl) (ev (v := .agg #[.bool false, .slice none 0 0, .bool false, .slice none 0 0]) rfl rfl) rfl rfl rfl rfl rfl rfl ?_)
  clear hS; intro w6 hS
  refine wl rfl (oassign (v := .bool false) rfl rfl (evc (v := .bool false)) ?_)
  refine wnil ?_
  refine thenN ?_
  refine wleave ?_
  refine wret2 Try.results87 (tellC (cs := [.bool false, .slice none 0 0, .bool false, .slice none 0 0]) aggR hS 0 rfl rfl rfl rfl) (tellT (v := .bool false) rfl rfl) ?_
  exact ⟨_, _, rfl, isI, hS.new0⟩

set_option maxRecDepth 100000 in
set_option maxHeartbeats 16000000 in
theorem wsoneB {x y : Int} {qA qB : Option Addr} {nA kA nB kB : Nat} {w : World} (hsA : Sl w qA nA kA (lim x.natAbs)) (hsB : Sl w qB nB kB (lim y.natAbs)) (hkA : Wd x 67108864) (hkB : Wd y 67108864) (h1 : blen x.natAbs = 1) (h2 : blen y.natAbs ≠ 1) :
    Calls Try.prog 87 #[.agg #[.bool (ng x), .slice qA nA kA, .bool (ng y), .slice qB nB kB]] w (Ret (Is (.tuple #[.agg #[.bool false, .slice none 0 0, .bool false, .slice none 0 0], .bool false])) w) := by
  have hS := Sep.init w
  refine went Try.func87 rfl (n := 18) rfl rfl ?_
  refine wseq ?_
  refine wreg ?_
  refine wl rfl (obox [.bool (ng x), .slice qA nA kA, .bool (ng y), .slice qB nB kB] hS rfl rfl (ev (v := .agg #[.bool (ng x), .slice qA nA kA, .bool (ng y), .slice qB nB kB]) rfl rfl) rfl ?_)
  clear hS; intro g1 w2 hS
  refine wl rfl (oalloc [.bool false, .slice none 0 0, .bool false, .slice none 0 0] hS rfl rfl Try.zeroValue27 rfl ?_)
  clear hS; intro g3 w4 hS
  refine wl rfl (oassign (v := .bool false) rfl rfl (evc (v := .bool false)) ?_)
  refine wnil ?_
  refine thenN ?_
  refine wseq ?_
  refine wseq ?_
  refine wreg ?_
  refine wl rfl (ofieldAddr (g := g1) (off := 0) 0 rfl rfl (ev (v := .pointer (some ⟨g1, 0, none⟩)) rfl rfl) Try.runUnderlying27 rfl Try.sizeOf25 rfl ?_)
  refine wl rfl (ofieldAddr (g := g1) (off := 0) 1 rfl rfl (ev (v := .pointer (some ⟨g1, 0, none⟩)) rfl rfl) Try.runUnderlying25 rfl Try.sizeOf23 rfl ?_)
  refine wl rfl (oload1 (v := .slice qA nA kA) oneN hS 1 rfl rfl (ev rfl rfl) rfl rfl ?_)
  refine wl rfl (ocall rfl rfl Try.call39 rfl (wrlen (z := x) (hsA.below hS.below (Nat.le_refl _)) hkA) (args1 (ev rfl rfl)) ?_)
  rintro _ w5 ⟨_, _, rfl, ⟨rfl, rfl⟩, hN⟩
  refine ⟨_, rfl, ?_⟩
  replace hS := hS.news hN; clear hN
  refine wl rfl (obin (u := .int .i64 (((blen x.natAbs : Nat) : Int))) (v := .int .i64 1) (z := .bool true) rfl rfl (ev (v := .int .i64 (((blen x.natAbs : Nat) : Int))) rfl rfl) (evc (v := .int .i64 1)) (bin_eql (eqT (by omega))) ?_)
  refine wl rfl (omove (v := .bool true) rfl rfl (ev (v := .bool true) rfl rfl) ?_)
  refine wlOn (e := 9) rfl rfl rfl rfl (ofieldAddr (g := g1) (off := 0) 2 rfl rfl (ev (v := .pointer (some ⟨g1, 0, none⟩)) rfl rfl) Try.runUnderlying27 rfl Try.sizeOf25 rfl ?_)
  refine wlOn (e := 9) rfl rfl rfl rfl (ofieldAddr (g := g1) (off := 2) 3 rfl rfl (ev (v := .pointer (some ⟨g1, 2, none⟩)) rfl rfl) Try.runUnderlying25 rfl Try.sizeOf23 rfl ?_)
  refine wlOn (e := 9) rfl rfl rfl rfl (oload1 (v := .slice qB nB kB) oneN hS 1 rfl rfl (ev rfl rfl) rfl rfl ?_)
  refine wlOn (e := 9) rfl rfl rfl rfl (ocall rfl rfl Try.call39 rfl (wrlen (z := y) (hsB.below hS.below (Nat.le_refl _)) hkB) (args1 (ev rfl rfl)) ?_)
  rintro _ w6 ⟨_, _, rfl, ⟨rfl, rfl⟩, hN⟩
  refine ⟨_, rfl, ?_⟩
  replace hS := hS.news hN; clear hN
  refine wlOn (e := 9) rfl rfl rfl rfl (obin (u := .int .i64 (((blen y.natAbs : Nat) : Int))) (v := .int .i64 1) (z := .bool false) rfl rfl (ev (v := .int .i64 (((blen y.natAbs : Nat) : Int))) rfl rfl) (evc (v := .int .i64 1)) (bin_eql (eqF (by omega))) ?_)
  refine wl rfl (opick (b := true) (v := .bool false) rfl rfl (ev (v := .bool true) rfl rfl) (ev (v := .bool false) rfl rfl) ?_)
  refine wnil ?_
  refine thenN ?_
  refine wF (ev (v := .bool false) rfl rfl) ?_
  refine wskip ?_
  refine thenN ?_
  refine wseq ?_
  refine wreg ?_
  refine wl rfl (obuild (ps := #[]) (v := .agg #[.bool false, .slice none 0 0, .bool false, .slice none 0 0]) rfl rfl (parts0) (fun w => by simp [go_sem, Instr.build, Instr.fill]) ?_)
  refine wl rfl (ostore [.bool false, .slice none 0 0, .bool false, .slice none 0 0] [.bool false, .slice none 0 0, .bool false, .slice none 0 0] Try.sizeOf27 hS 0 rfl rfl (ev rfl rfl) (ev (v := .agg #[.bool false, .slice none 0 0, .bool false, .slice none 0 0]) rfl rfl) rfl rfl rfl rfl rfl rfl ?_)
  clear hS; intro w7 hS
  refine wl rfl (oassign (v := .bool false) rfl rfl (evc (v := .bool false)) ?_)
  refine wnil ?_
  refine thenN ?_
  refine wleave ?_
  refine wret2 Try.results87 (tellC (cs := [.bool false, .slice none 0 0, .bool false, .slice none 0 0]) aggR hS 0 rfl rfl rfl rfl) (tellT (v := .bool false) rfl rfl) ?_
  exact ⟨_, _, rfl, isI, hS.new0⟩

set_option maxRecDepth 100000 in
set_option maxHeartbeats 16000000 in
theorem wqrpow_p {x y : Int} {K : Nat} {bA bB : Bool} {qA qB : Option Addr} {nA kA nB kB : Nat} {w : World} (hzA : Zr w bA qA nA kA x 16777216) (hzB : Zr w bB qB nB kB y 16777216) (hy : y ≠ 0) (hK : K ≤ 9223372036854775807) (h1 : PowOk (RN x y) K) (h2 : PowOk (RD x y) K) :
    Calls Try.prog 41 #[.agg #[.bool bA, .slice qA nA kA, .bool bB, .slice qB nB kB], .int .i64 (((K : Nat) : Int))] w (Ret (RBt (RN x y ^ K) (RD x y ^ K) true) w) := by
  have hS := Sep.init w
  refine went Try.func41 rfl (n := 50) rfl rfl ?_
  refine wseq ?_
  refine wreg ?_
  refine wl rfl (obox [.bool bA, .slice qA nA kA, .bool bB, .slice qB nB kB] hS rfl rfl (ev (v := .agg #[.bool bA, .slice qA nA kA, .bool bB, .slice qB nB kB]) rfl rfl) rfl ?_)
  clear hS; intro g1 w2 hS
  refine wl rfl (oalloc [.bool false, .slice none 0 0, .bool false, .slice none 0 0] hS rfl rfl Try.zeroValue27 rfl ?_)
  clear hS; intro g3 w4 hS
  refine wl rfl (oassign (v := .bool false) rfl rfl (evc (v := .bool false)) ?_)
  refine wnil ?_
  refine thenN ?_
  refine wseq ?_
  refine wreg ?_
  refine wl rfl (oload (vs := [.bool bA, .slice qA nA kA, .bool bB, .slice qB nB kB]) aggR hS 1 rfl rfl (ev rfl rfl) rfl rfl rfl ?_)
  obtain ⟨z1, hz1⟩ : ∃ z : Int, Hid (RN x y = z) := ⟨_, rfl⟩
  have hk1 : Wd z1 16777216 := Wd.rn hzA.wd hz1
  obtain ⟨z2, hz2⟩ : ∃ z : Int, Hid (RD x y = z) := ⟨_, rfl⟩
  have hk2 : Wd z2 16777216 := Wd.rd hzB.wd hz2
  refine wl rfl (ocall rfl rfl Try.call37 rfl ((wsnorm ((hzA.at hS).mono (by omega)) ((hzB.at hS).mono (by omega)) (hy) hz1 hz2)) (args1 (ev rfl rfl)) ?_)
  rintro _ w5 ⟨_, _, rfl, ⟨p1, n1, c1, p2, n2, c2, rfl, rfl⟩, hN⟩
  refine ⟨_, rfl, ?_⟩
  replace hS := hS.news hN; clear hN
  refine wl rfl (ostore [.bool (ng z1), .slice p1 n1 c1, .bool (ng z2), .slice p2 n2 c2] [.bool (ng z1), .slice p1 n1 c1, .bool (ng z2), .slice p2 n2 c2] Try.sizeOf27 hS 3 rfl rfl (ev rfl rfl) (ev (v := .agg #[.bool (ng z1), .slice p1 n1 c1, .bool (ng z2), .slice p2 n2 c2]) rfl rfl) rfl rfl rfl rfl rfl rfl ?_)
  clear hS; intro w6 hS
  refine wnil ?_
  refine thenN ?_
  refine wseq ?_
  refine wseq ?_
  refine wreg ?_
  refine wl rfl (omove (v := .int .i64 (((K : Nat) : Int))) rfl rfl (ev (v := .int .i64 (((K : Nat) : Int))) rfl rfl) ?_)
  refine wl rfl (obin (u := .int .i64 (((K : Nat) : Int))) (v := .int .i64 0) (z := .bool false) rfl rfl (ev (v := .int .i64 (((K : Nat) : Int))) rfl rfl) (evc (v := .int .i64 0)) (bin_lss (decide_eq_false (by omega))) ?_)
  refine wnil ?_
  refine thenN ?_
  refine wF (ev (v := .bool false) rfl rfl) ?_
  refine wskip ?_
  refine thenN ?_
  refine wseq ?_
  refine wreg ?_
  refine wl rfl (ofieldAddr (g := g1) (off := 0) 0 rfl rfl (ev (v := .pointer (some ⟨g1, 0, none⟩)) rfl rfl) Try.runUnderlying27 rfl Try.sizeOf25 rfl ?_)
  refine wl rfl (oload (vs := [.bool (ng z1), .slice p1 n1 c1]) aggZ hS 3 rfl rfl (ev rfl rfl) rfl rfl rfl ?_)
  refine wl rfl (omove (v := .int .i64 (((K : Nat) : Int))) rfl rfl (ev (v := .int .i64 (((K : Nat) : Int))) rfl rfl) ?_)
  obtain ⟨z3, hz3⟩ : ∃ z : Int, Hid (z1 ^ K = z) := ⟨_, rfl⟩
  have hk3 : Wd z3 16778468 := wd_pow hk1 ((by rw [← hz1.out]; exact h1)) hz3
  refine wl rfl (ocall rfl rfl Try.call88 rfl (wqpow (((hS.slm 0 rfl).zr hk1).mono (by omega)) (hK) ((by rw [← hz1.out]; exact h1)) hz3) (args2 (ev rfl rfl) (ev rfl rfl)) ?_)
  rintro _ w7 ⟨_, _, rfl, ⟨p3, n3, c3, rfl, rfl⟩, hN⟩
  refine ⟨_, rfl, ?_⟩
  replace hS := hS.news hN; clear hN
  refine wl rfl (omove (v := .tuple #[.agg #[.bool (ng z3), .slice p3 n3 c3], .bool true]) rfl rfl (ev (v := .tuple #[.agg #[.bool (ng z3), .slice p3 n3 c3], .bool true]) rfl rfl) ?_)
  refine wl rfl (oextract (vs := [.agg #[.bool (ng z3), .slice p3 n3 c3], .bool true]) (v := .agg #[.bool (ng z3), .slice p3 n3 c3]) rfl rfl (ev (v := .tuple #[.agg #[.bool (ng z3), .slice p3 n3 c3], .bool true]) rfl rfl) rfl ?_)
  refine wl rfl (oextract (vs := [.agg #[.bool (ng z3), .slice p3 n3 c3], .bool true]) (v := .bool true) rfl rfl (ev (v := .tuple #[.agg #[.bool (ng z3), .slice p3 n3 c3], .bool true]) rfl rfl) rfl ?_)
  refine wl rfl (oalloc [.bool false, .slice none 0 0] hS rfl rfl Try.zeroValue25 rfl ?_)
  clear hS; intro g8 w9 hS
  refine wl rfl (ostore [.bool (ng z3), .slice p3 n3 c3] [.bool (ng z3), .slice p3 n3 c3] Try.sizeOf25 hS 0 rfl rfl (ev rfl rfl) (ev (v := .agg #[.bool (ng z3), .slice p3 n3 c3]) rfl rfl) rfl rfl rfl rfl rfl rfl ?_)
  clear hS; intro w10 hS
  refine wl rfl (oassign (v := .bool true) rfl rfl (ev (v := .bool true) rfl rfl) ?_)
  refine wnil ?_
  refine thenN ?_
  refine wseq ?_
  refine wreg ?_
  refine wl rfl (ofieldAddr (g := g1) (off := 0) 2 rfl rfl (ev (v := .pointer (some ⟨g1, 0, none⟩)) rfl rfl) Try.runUnderlying27 rfl Try.sizeOf25 rfl ?_)
  refine wl rfl (oload (vs := [.bool (ng z2), .slice p2 n2 c2]) aggZ hS 5 rfl rfl (ev rfl rfl) rfl rfl rfl ?_)
  refine wl rfl (omove (v := .int .i64 (((K : Nat) : Int))) rfl rfl (ev (v := .int .i64 (((K : Nat) : Int))) rfl rfl) ?_)
  obtain ⟨z4, hz4⟩ : ∃ z : Int, Hid (z2 ^ K = z) := ⟨_, rfl⟩
  have hk4 : Wd z4 16778468 := wd_pow hk2 ((by rw [← hz2.out]; exact h2)) hz4
  refine wl rfl (ocall rfl rfl Try.call88 rfl (wqpow (((hS.slm 3 rfl).zr hk2).mono (by omega)) (hK) ((by rw [← hz2.out]; exact h2)) hz4) (args2 (ev rfl rfl) (ev rfl rfl)) ?_)
  rintro _ w11 ⟨_, _, rfl, ⟨p4, n4, c4, rfl, rfl⟩, hN⟩
  refine ⟨_, rfl, ?_⟩
  replace hS := hS.news hN; clear hN
  refine wl rfl (omove (v := .tuple #[.agg #[.bool (ng z4), .slice p4 n4 c4], .bool true]) rfl rfl (ev (v := .tuple #[.agg #[.bool (ng z4), .slice p4 n4 c4], .bool true]) rfl rfl) ?_)
  refine wl rfl (oextract (vs := [.agg #[.bool (ng z4), .slice p4 n4 c4], .bool true]) (v := .agg #[.bool (ng z4), .slice p4 n4 c4]) rfl rfl (ev (v := .tuple #[.agg #[.bool (ng z4), .slice p4 n4 c4], .bool true]) rfl rfl) rfl ?_)
  refine wl rfl (oextract (vs := [.agg #[.bool (ng z4), .slice p4 n4 c4], .bool true]) (v := .bool true) rfl rfl (ev (v := .tuple #[.agg #[.bool (ng z4), .slice p4 n4 c4], .bool true]) rfl rfl) rfl ?_)
  refine wl rfl (oalloc [.bool false, .slice none 0 0] hS rfl rfl Try.zeroValue25 rfl ?_)
  clear hS; intro g12 w13 hS
  refine wl rfl (ostore [.bool (ng z4), .slice p4 n4 c4] [.bool (ng z4), .slice p4 n4 c4] Try.sizeOf25 hS 0 rfl rfl (ev rfl rfl) (ev (v := .agg #[.bool (ng z4), .slice p4 n4 c4]) rfl rfl) rfl rfl rfl rfl rfl rfl ?_)
  clear hS; intro w14 hS
  refine wl rfl (oassign (v := .bool true) rfl rfl (ev (v := .bool true) rfl rfl) ?_)
  refine wnil ?_
  refine thenN ?_
  refine wseq ?_
  refine wseq ?_
  refine wreg ?_
  refine wl rfl (omove (v := .bool true) rfl rfl (ev (v := .bool true) rfl rfl) ?_)
  refine wl rfl (onot (b := true) rfl rfl (ev (v := .bool true) rfl rfl) ?_)
  refine wl rfl (omove (v := .bool false) rfl rfl (ev (v := .bool false) rfl rfl) ?_)
  refine wlOn (e := 42) rfl rfl rfl rfl (omove (v := .bool true) rfl rfl (ev (v := .bool true) rfl rfl) ?_)
  refine wlOn (e := 42) rfl rfl rfl rfl (onot (b := true) rfl rfl (ev (v := .bool true) rfl rfl) ?_)
  refine wl rfl (opick (b := false) (v := .bool false) rfl rfl (ev (v := .bool false) rfl rfl) (ev (v := .bool false) rfl rfl) ?_)
  refine wnil ?_
  refine thenN ?_
  refine wF (ev (v := .bool false) rfl rfl) ?_
  refine wskip ?_
  refine thenN ?_
  refine wseq ?_
  refine wreg ?_
  refine wl rfl (oload (vs := [.bool (ng z3), .slice p3 n3 c3]) aggZ hS 2 rfl rfl (ev rfl rfl) rfl rfl rfl ?_)
  refine wl rfl (oload (vs := [.bool (ng z4), .slice p4 n4 c4]) aggZ hS 0 rfl rfl (ev rfl rfl) rfl rfl rfl ?_)
  refine wl rfl (obuild (ps := #[(0, .agg #[.bool (ng z3), .slice p3 n3 c3]), (1, .agg #[.bool (ng z4), .slice p4 n4 c4])]) (v := .agg #[.bool (ng z3), .slice p3 n3 c3, .bool (ng z4), .slice p4 n4 c4]) rfl rfl (parts2 (ev (v := .agg #[.bool (ng z3), .slice p3 n3 c3]) rfl rfl) (ev (v := .agg #[.bool (ng z4), .slice p4 n4 c4]) rfl rfl)) (fun w => by simp [go_sem, Instr.build, Instr.fill]) ?_)
  refine wl rfl (ostore [.bool (ng z3), .slice p3 n3 c3, .bool (ng z4), .slice p4 n4 c4] [.bool (ng z3), .slice p3 n3 c3, .bool (ng z4), .slice p4 n4 c4] Try.sizeOf27 hS 6 rfl rfl (ev rfl rfl) (ev (v := .agg #[.bool (ng z3), .slice p3 n3 c3, .bool (ng z4), .slice p4 n4 c4]) rfl rfl) rfl rfl rfl rfl rfl rfl ?_)
  clear hS; intro w15 hS
  refine wl rfl (oassign (v := .bool true) rfl rfl (evc (v := .bool true)) ?_)
  refine wnil ?_
  refine thenN ?_
  refine wleave ?_
  refine wret2 Try.results41 (tellC (cs := [.bool (ng z3), .slice p3 n3 c3, .bool (ng z4), .slice p4 n4 c4]) aggR hS 6 rfl rfl rfl rfl) (tellT (v := .bool true) rfl rfl) ?_
  obtain rfl := hz1.out
  obtain rfl := hz2.out
  obtain rfl := hz3.out
  obtain rfl := hz4.out
  exact ⟨_, _, rfl, ⟨_, _, _, _, _, _, rfl, rfl⟩, hS.newM [3, 1] (by decide) rfl rfl⟩

set_option maxRecDepth 100000 in
set_option maxHeartbeats 16000000 in
theorem wqrpow_pA {x y : Int} {K : Nat} {bA bB : Bool} {qA qB : Option Addr} {nA kA nB kB : Nat} {w : World} (hzA : Zr w bA qA nA kA x 16777216) (hzB : Zr w bB qB nB kB y 16777216) (hy : y ≠ 0) (hK : K ≤ 9223372036854775807) (h1 : PowBig (RN x y) K) (h2 : PowOk (RD x y) K ∨ PowBig (RD x y) K) :
    Calls Try.prog 41 #[.agg #[.bool bA, .slice qA nA kA, .bool bB, .slice qB nB kB], .int .i64 (((K : Nat) : Int))] w (Ret (Is (.tuple #[.agg #[.bool false, .slice none 0 0, .bool false, .slice none 0 0], .bool false])) w) := by
  have hS := Sep.init w
  refine went Try.func41 rfl (n := 50) rfl rfl ?_
  refine wseq ?_
  refine wreg ?_
  refine wl rfl (obox [.bool bA, .slice qA nA kA, .bool bB, .slice qB nB kB] hS rfl rfl (ev (v := .agg #[.bool bA, .slice qA nA kA, .bool bB, .slice qB nB kB]) rfl rfl) rfl ?_)
  clear hS; intro g1 w2 hS
  refine wl rfl (oalloc [.bool false, .slice none 0 0, .bool false, .slice none 0 0] hS rfl rfl Try.zeroValue27 rfl ?_)
  clear hS; intro g3 w4 hS
  refine wl rfl (oassign (v := .bool false) rfl rfl (evc (v := .bool false)) ?_)
  refine wnil ?_
  refine thenN ?_
  refine wseq ?_
  refine wreg ?_
  refine wl rfl (oload (vs := [.bool bA, .slice qA nA kA, .bool bB, .slice qB nB kB]) aggR hS 1 rfl rfl (ev rfl rfl) rfl rfl rfl ?_)
  obtain ⟨z1, hz1⟩ : ∃ z : Int, Hid (RN x y = z) := ⟨_, rfl⟩
  have hk1 : Wd z1 16777216 := Wd.rn hzA.wd hz1
  obtain ⟨z2, hz2⟩ : ∃ z : Int, Hid (RD x y = z) := ⟨_, rfl⟩
  have hk2 : Wd z2 16777216 := Wd.rd hzB.wd hz2
  refine wl rfl (ocall rfl rfl Try.call37 rfl ((wsnorm ((hzA.at hS).mono (by omega)) ((hzB.at hS).mono (by omega)) (hy) hz1 hz2)) (args1 (ev rfl rfl)) ?_)
  rintro _ w5 ⟨_, _, rfl, ⟨p1, n1, c1, p2, n2, c2, rfl, rfl⟩, hN⟩
  refine ⟨_, rfl, ?_⟩
  replace hS := hS.news hN; clear hN
  refine wl rfl (ostore [.bool (ng z1), .slice p1 n1 c1, .bool (ng z2), .slice p2 n2 c2] [.bool (ng z1), .slice p1 n1 c1, .bool (ng z2), .slice p2 n2 c2] Try.sizeOf27 hS 3 rfl rfl (ev rfl rfl) (ev (v := .agg #[.bool (ng z1), .slice p1 n1 c1, .bool (ng z2), .slice p2 n2 c2]) rfl rfl) rfl rfl rfl rfl rfl rfl ?_)
  clear hS; intro w6 hS
  refine wnil ?_
  refine thenN ?_
  refine wseq ?_
  refine wseq ?_
  refine wreg ?_
  refine wl rfl (omove (v := .int .i64 (((K : Nat) : Int))) rfl rfl (ev (v := .int .i64 (((K : Nat) : Int))) rfl rfl) ?_)
  refine wl rfl (obin (u := .int .i64 (((K : Nat) : Int))) (v := .int .i64 0) (z := .bool false) rfl rfl (ev (v := .int .i64 (((K : Nat) : Int))) rfl rfl) (evc (v := .int .i64 0)) (bin_lss (decide_eq_false (by omega))) ?_)
  refine wnil ?_
  refine thenN ?_
  refine wF (ev (v := .bool false) rfl rfl) ?_
  refine wskip ?_
  refine thenN ?_
  refine wseq ?_
  refine wreg ?_
  refine wl rfl (ofieldAddr (g := g1) (off := 0) 0 rfl rfl (ev (v := .pointer (some ⟨g1, 0, none⟩)) rfl rfl) Try.runUnderlying27 rfl Try.sizeOf25 rfl ?_)
  refine wl rfl (oload (vs := [.bool (ng z1), .slice p1 n1 c1]) aggZ hS 3 rfl rfl (ev rfl rfl) rfl rfl rfl ?_)
  refine wl rfl (omove (v := .int .i64 (((K : Nat) : Int))) rfl rfl (ev (v := .int .i64 (((K : Nat) : Int))) rfl rfl) ?_)
  have hk3 : Wd 0 2 := Wd.i64 (by omega) (by omega)
  refine wl rfl (ocall rfl rfl Try.call88 rfl (wqpowB (((hS.slm 0 rfl).zr hk1).mono (by omega)) (hK) ((by rw [← hz1.out]; exact h1))) (args2 (ev rfl rfl) (ev rfl rfl)) ?_)
  rintro _ w7 ⟨_, _, rfl, ⟨p3, n3, c3, rfl, rfl⟩, hN⟩
  refine ⟨_, rfl, ?_⟩
  replace hS := hS.news hN; clear hN
  refine wl rfl (omove (v := .tuple #[.agg #[.bool (ng 0), .slice p3 n3 c3], .bool false]) rfl rfl (ev (v := .tuple #[.agg #[.bool (ng 0), .slice p3 n3 c3], .bool false]) rfl rfl) ?_)
  refine wl rfl (oextract (vs := [.agg #[.bool (ng 0), .slice p3 n3 c3], .bool false]) (v := .agg #[.bool (ng 0), .slice p3 n3 c3]) rfl rfl (ev (v := .tuple #[.agg #[.bool (ng 0), .slice p3 n3 c3], .bool false]) rfl rfl) rfl ?_)
  refine wl rfl (oextract (vs := [.agg #[.bool (ng 0), .slice p3 n3 c3], .bool false]) (v := .bool false) rfl rfl (ev (v := .tuple #[.agg #[.bool (ng 0), .slice p3 n3 c3], .bool false]) rfl rfl) rfl ?_)
  refine wl rfl (oalloc [.bool false, .slice none 0 0] hS rfl rfl Try.zeroValue25 rfl ?_)
  clear hS; intro g8 w9 hS
  refine wl rfl (ostore [.bool (ng 0), .slice p3 n3 c3] [.bool (ng 0), .slice p3 n3 c3] Try.sizeOf25 hS 0 rfl rfl (ev rfl rfl) (ev (v := .agg #[.bool (ng 0), .slice p3 n3 c3]) rfl rfl) rfl rfl rfl rfl rfl rfl ?_)
  clear hS; intro w10 hS
  refine wl rfl (oassign (v := .bool false) rfl rfl (ev (v := .bool false) rfl rfl) ?_)
  refine wnil ?_
  refine thenN ?_
  refine wseq ?_
  refine wreg ?_
  refine wl rfl (ofieldAddr (g := g1) (off := 0) 2 rfl rfl (ev (v := .pointer (some ⟨g1, 0, none⟩)) rfl rfl) Try.runUnderlying27 rfl Try.sizeOf25 rfl ?_)
  refine wl rfl (oload (vs := [.bool (ng z2), .slice p2 n2 c2]) aggZ hS 5 rfl rfl (ev rfl rfl) rfl rfl rfl ?_)
  refine wl rfl (omove (v := .int .i64 (((K : Nat) : Int))) rfl rfl (ev (v := .int .i64 (((K : Nat) : Int))) rfl rfl) ?_)
  by_cases o2 : PowOk (RD x y) K
  ·
    obtain ⟨z4, hz4⟩ : ∃ z : Int, Hid (z2 ^ K = z) := ⟨_, rfl⟩
    have hk4 : Wd z4 16778468 := wd_pow hk2 ((by rw [← hz2.out]; exact o2)) hz4
    refine wl rfl (ocall rfl rfl Try.call88 rfl (wqpow (((hS.slm 3 rfl).zr hk2).mono (by omega)) (hK) ((by rw [← hz2.out]; exact o2)) hz4) (args2 (ev rfl rfl) (ev rfl rfl)) ?_)
    rintro _ w11 ⟨_, _, rfl, ⟨p4, n4, c4, rfl, rfl⟩, hN⟩
    refine ⟨_, rfl, ?_⟩
    replace hS := hS.news hN; clear hN
    refine wl rfl (omove (v := .tuple #[.agg #[.bool (ng z4), .slice p4 n4 c4], .bool true]) rfl rfl (ev (v := .tuple #[.agg #[.bool (ng z4), .slice p4 n4 c4], .bool true]) rfl rfl) ?_)
    refine wl rfl (oextract (vs := [.agg #[.bool (ng z4), .slice p4 n4 c4], .bool true]) (v := .agg #[.bool (ng z4), .slice p4 n4 c4]) rfl rfl (ev (v := .tuple #[.agg #[.bool (ng z4), .slice p4 n4 c4], .bool true]) rfl rfl) rfl ?_)
    refine wl rfl (oextract (vs := [.agg #[.bool (ng z4), .slice p4 n4 c4], .bool true]) (v := .bool true) rfl rfl (ev (v := .tuple #[.agg #[.bool (ng z4), .slice p4 n4 c4], .bool true]) rfl rfl) rfl ?_)
    refine wl rfl (oalloc [.bool false, .slice none 0 0] hS rfl rfl Try.zeroValue25 rfl ?_)
    clear hS; intro g12 w13 hS
    refine wl rfl (ostore [.bool (ng z4), .slice p4 n4 c4] [.bool (ng z4), .slice p4 n4 c4] Try.sizeOf25 hS 0 rfl rfl (ev rfl rfl) (ev (v := .agg #[.bool (ng z4), .slice p4 n4 c4]) rfl rfl) rfl rfl rfl rfl rfl rfl ?_)
    clear hS; intro w14 hS
    refine wl rfl (oassign (v := .bool true) rfl rfl (ev (v := .bool true) rfl rfl) ?_)
    refine wnil ?_
    refine thenN ?_
    refine wseq ?_
    refine wseq ?_
    refine wreg ?_
    refine wl rfl (omove (v := .bool false) rfl rfl (ev (v := .bool false) rfl rfl) ?_)
    refine wl rfl (onot (b := false) rfl rfl (ev (v := .bool false) rfl rfl) ?_)
    refine wl rfl (omove (v := .bool true) rfl rfl (ev (v := .bool true) rfl rfl) ?_)
    refine wlOff (e := 42) (d := 43) (b' := true) rfl rfl rfl rfl rfl rfl ?_
    refine wlOff (e := 42) (d := 44) (b' := true) rfl rfl rfl rfl rfl rfl ?_
    refine wl rfl (opick (b := true) (v := .bool true) rfl rfl (ev (v := .bool true) rfl rfl) (evc (v := .bool true)) ?_)
    refine wnil ?_
    refine thenN ?_
    refine wT (ev (v := .bool true) rfl rfl) ?_
    refine wseq ?_
    refine wreg ?_
    refine wl rfl (obuild (ps := #[]) (v := .agg #[.bool false, .slice none 0 0, .bool false, .slice none 0 0]) rfl rfl (parts0) (fun w => by simp [go_sem, Instr.build, Instr.fill]) ?_)
    refine wl rfl (ostore [.bool false, .slice none 0 0, .bool false, .slice none 0 0] [.bool false, .slice none 0 0, .bool false, .slice none 0 0] Try.sizeOf27 hS 6 rfl rfl (ev rfl rfl) (ev (v := .agg #[.bool false, .slice none 0 0, .bool false, .slice none 0 0]) rfl rfl) rfl rfl rfl rfl rfl rfl ?_)
    clear hS; intro w15 hS
    refine wl rfl (oassign (v := .bool false) rfl rfl (evc (v := .bool false)) ?_)
    refine wnil ?_
    refine thenN ?_
    refine wleave ?_
    refine thenR ?_
    refine wret2 Try.results41 (tellC (cs := [.bool false, .slice none 0 0, .bool false, .slice none 0 0]) aggR hS 6 rfl rfl rfl rfl) (tellT (v := .bool false) rfl rfl) ?_
    exact ⟨_, _, rfl, isI, hS.new0⟩
  ·
    have hk4 : Wd 0 2 := Wd.i64 (by omega) (by omega)
    refine wl rfl (ocall rfl rfl Try.call88 rfl (wqpowB (((hS.slm 3 rfl).zr hk2).mono (by omega)) (hK) ((by rw [← hz2.out]; exact (h2.resolve_left o2)))) (args2 (ev rfl rfl) (ev rfl rfl)) ?_)
    rintro _ w11 ⟨_, _, rfl, ⟨p4, n4, c4, rfl, rfl⟩, hN⟩
    refine ⟨_, rfl, ?_⟩
    replace hS := hS.news hN; clear hN
    refine wl rfl (omove (v := .tuple #[.agg #[.bool (ng 0), .slice p4 n4 c4], .bool false]) rfl rfl (ev (v := .tuple #[.agg #[.bool (ng 0), .slice p4 n4 c4], .bool false]) rfl rfl) ?_)
    refine wl rfl (oextract (vs := [.agg #[.bool (ng 0), .slice p4 n4 c4], .bool false]) (v := .agg #[.bool (ng 0), .slice p4 n4 c4]) rfl rfl (ev (v := .tuple #[.agg #[.bool (ng 0), .slice p4 n4 c4], .bool false]) rfl rfl) rfl ?_)
    refine wl rfl (oextract (vs := [.agg #[.bool (ng 0), .slice p4 n4 c4], .bool false]) (v := .bool false) rfl rfl (ev (v := .tuple #[.agg #[.bool (ng 0), .slice p4 n4 c4], .bool false]) rfl rfl) rfl ?_)
    refine wl rfl (oalloc [.bool false, .slice none 0 0] hS rfl rfl Try.zeroValue25 rfl ?_)
    clear hS; intro g12 w13 hS
    refine wl rfl (ostore [.bool (ng 0), .slice p4 n4 c4] [.bool (ng 0), .slice p4 n4 c4] Try.sizeOf25 hS 0 rfl rfl (ev rfl rfl) (ev (v := .agg #[.bool (ng 0), .slice p4 n4 c4]) rfl rfl) rfl rfl rfl rfl rfl rfl ?_)
    clear hS; intro w14 hS
    refine wl rfl (oassign (v := .bool false) rfl rfl (ev (v := .bool false) rfl rfl) ?_)
    refine wnil ?_
    refine thenN ?_
    refine wseq ?_
    refine wseq ?_
    refine wreg ?_
    refine wl rfl (omove (v := .bool false) rfl rfl (ev (v := .bool false) rfl rfl) ?_)
    refine wl rfl (onot (b := false) rfl rfl (ev (v := .bool false) rfl rfl) ?_)
    refine wl rfl (omove (v := .bool true) rfl rfl (ev (v := .bool true) rfl rfl) ?_)
    refine wlOff (e := 42) (d := 43) (b' := true) rfl rfl rfl rfl rfl rfl ?_
    refine wlOff (e := 42) (d := 44) (b' := true) rfl rfl rfl rfl rfl rfl ?_
    refine wl rfl (opick (b := true) (v := .bool true) rfl rfl (ev (v := .bool true) rfl rfl) (evc (v := .bool true)) ?_)
    refine wnil ?_
    refine thenN ?_
    refine wT (ev (v := .bool true) rfl rfl) ?_
    refine wseq ?_
    refine wreg ?_
    refine wl rfl (obuild (ps := #[]) (v := .agg #[.bool false, .slice none 0 0, .bool false, .slice none 0 0]) rfl rfl (parts0) (fun w => by simp [go_sem, Instr.build, Instr.fill]) ?_)
    refine wl rfl (ostore [.bool false, .slice none 0 0, .bool false, .slice none 0 0] [.bool false, .slice none 0 0, .bool false, .slice none 0 0] Try.sizeOf27 hS 6 rfl rfl (ev rfl rfl) (ev (v := .agg #[.bool false, .slice none 0 0, .bool false, .slice none 0 0]) rfl rfl) rfl rfl rfl rfl rfl rfl ?_)
    clear hS; intro w15 hS
    refine wl rfl (oassign (v := .bool false) rfl rfl (evc (v := .bool false)) ?_)
    refine wnil ?_
    refine thenN ?_
    refine wleave ?_
    refine thenR ?_
    refine wret2 Try.results41 (tellC (cs := [.bool false, .slice none 0 0, .bool false, .slice none 0 0]) aggR hS 6 rfl rfl rfl rfl) (tellT (v := .bool false) rfl rfl) ?_
    exact ⟨_, _, rfl, isI, hS.new0⟩

set_option maxRecDepth 100000 in
set_option maxHeartbeats 16000000 in
theorem wqrpow_pB {x y : Int} {K : Nat} {bA bB : Bool} {qA qB : Option Addr} {nA kA nB kB : Nat} {w : World} (hzA : Zr w bA qA nA kA x 16777216) (hzB : Zr w bB qB nB kB y 16777216) (hy : y ≠ 0) (hK : K ≤ 9223372036854775807) (h1 : PowOk (RN x y) K) (h2 : PowBig (RD x y) K) :
    Calls Try.prog 41 #[.agg #[.bool bA, .slice qA nA kA, .bool bB, .slice qB nB kB], .int .i64 (((K : Nat) : Int))] w (Ret (Is (.tuple #[.agg #[.bool false, .slice none 0 0, .bool false, .slice none 0 0], .bool false])) w) := by
  have hS := Sep.init w
  refine went Try.func41 rfl (n := 50) rfl rfl ?_
  refine wseq ?_
  refine wreg ?_
  refine wl rfl (obox [.bool bA, .slice qA nA kA, .bool bB, .slice qB nB kB] hS rfl rfl (ev (v := .agg #[.bool bA, .slice qA nA kA, .bool bB, .slice qB nB kB]) rfl rfl) rfl ?_)
  clear hS; intro g1 w2 hS
  refine wl rfl (oalloc [.bool false, .slice none 0 0, .bool false, .slice none 0 0] hS rfl rfl Try.zeroValue27 rfl ?_)
  clear hS; intro g3 w4 hS
  refine wl rfl (oassign (v := .bool false) rfl rfl (evc (v := .bool false)) ?_)
  refine wnil ?_
  refine thenN ?_
  refine wseq ?_
  refine wreg ?_
  refine wl rfl (oload (vs := [.bool bA, .slice qA nA kA, .bool bB, .slice qB nB kB]) aggR hS 1 rfl rfl (ev rfl rfl) rfl rfl rfl ?_)
  obtain ⟨z1, hz1⟩ : ∃ z : Int, Hid (RN x y = z) := ⟨_, rfl⟩
  have hk1 : Wd z1 16777216 := Wd.rn hzA.wd hz1
  obtain ⟨z2, hz2⟩ : ∃ z : Int, Hid (RD x y = z) := ⟨_, rfl⟩
  have hk2 : Wd z2 16777216 := Wd.rd hzB.wd hz2
  refine wl rfl (ocall rfl rfl Try.call37 rfl ((wsnorm ((hzA.at hS).mono (by omega)) ((hzB.at hS).mono (by omega)) (hy) hz1 hz2)) (args1 (ev rfl rfl)) ?_)
  rintro _ w5 ⟨_, _, rfl, ⟨p1, n1, c1, p2, n2, c2, rfl, rfl⟩, hN⟩
  refine ⟨_, rfl, ?_⟩
  replace hS := hS.news hN; clear hN
  refine wl rfl (ostore [.bool (ng z1), .slice p1 n1 c1, .bool (ng z2), .slice p2 n2 c2] [.bool (ng z1), .slice p1 n1 c1, .bool (ng z2), .slice p2 n2 c2] Try.sizeOf27 hS 3 rfl rfl (ev rfl rfl) (ev (v := .agg #[.bool (ng z1), .slice p1 n1 c1, .bool (ng z2), .slice p2 n2 c2]) rfl rfl) rfl rfl rfl rfl rfl rfl ?_)
  clear hS; intro w6 hS
  refine wnil ?_
  refine thenN ?_
  refine wseq ?_
  refine wseq ?_
  refine wreg ?_
  refine wl rfl (omove (v := .int .i64 (((K : Nat) : Int))) rfl rfl (ev (v := .int .i64 (((K : Nat) : Int))) rfl rfl) ?_)
  refine wl rfl (obin (u := .int .i64 (((K : Nat) : Int))) (v := .int .i64 0) (z := .bool false) rfl rfl (ev (v := .int .i64 (((K : Nat) : Int))) rfl rfl) (evc (v := .int .i64 0)) (bin_lss (decide_eq_false (by omega))) ?_)
  refine wnil ?_
  refine thenN ?_
  refine wF (ev (v := .bool false) rfl rfl) ?_
  refine wskip ?_
  refine thenN ?_
  refine wseq ?_
  refine wreg ?_
  refine wl rfl (ofieldAddr (g := g1) (off := 0) 0 rfl rfl (ev (v := .pointer (some ⟨g1, 0, none⟩)) rfl rfl) Try.runUnderlying27 rfl Try.sizeOf25 rfl ?_)
  refine wl rfl (oload (vs := [.bool (ng z1), .slice p1 n1 c1]) aggZ hS 3 rfl rfl (ev rfl rfl) rfl rfl rfl ?_)
  refine wl rfl (omove (v := .int .i64 (((K : Nat) : Int))) rfl rfl (ev (v := .int .i64 (((K : Nat) : Int))) rfl rfl) ?_)
  obtain ⟨z3, hz3⟩ : ∃ z : Int, Hid (z1 ^ K = z) := ⟨_, rfl⟩
  have hk3 : Wd z3 16778468 := wd_pow hk1 ((by rw [← hz1.out]; exact h1)) hz3
  refine wl rfl (ocall rfl rfl Try.call88 rfl (wqpow (((hS.slm 0 rfl).zr hk1).mono (by omega)) (hK) ((by rw [← hz1.out]; exact h1)) hz3) (args2 (ev rfl rfl) (ev rfl rfl)) ?_)
  rintro _ w7 ⟨_, _, rfl, ⟨p3, n3, c3, rfl, rfl⟩, hN⟩
  refine ⟨_, rfl, ?_⟩
  replace hS := hS.news hN; clear hN
  refine wl rfl (omove (v := .tuple #[.agg #[.bool (ng z3), .slice p3 n3 c3], .bool true]) rfl rfl (ev (v := .tuple #[.agg #[.bool (ng z3), .slice p3 n3 c3], .bool true]) rfl rfl) ?_)
  refine wl rfl (oextract (vs := [.agg #[.bool (ng z3), .slice p3 n3 c3], .bool true]) (v := .agg #[.bool (ng z3), .slice p3 n3 c3]) rfl rfl (ev (v := .tuple #[.agg #[.bool (ng z3), .slice p3 n3 c3], .bool true]) rfl rfl) rfl ?_)
  refine wl rfl (oextract (vs := [.agg #[.bool (ng z3), .slice p3 n3 c3], .bool true]) (v := .bool true) rfl rfl (ev (v := .tuple #[.agg #[.bool (ng z3), .slice p3 n3 c3], .bool true]) rfl rfl) rfl ?_)
  refine wl rfl (oalloc [.bool false, .slice none 0 0] hS rfl rfl Try.zeroValue25 rfl ?_)
  clear hS; intro g8 w9 hS
  refine wl rfl (ostore [.bool (ng z3), .slice p3 n3 c3] [.bool (ng z3), .slice p3 n3 c3] Try.sizeOf25 hS 0 rfl rfl (ev rfl rfl) (ev (v := .agg #[.bool (ng z3), .slice p3 n3 c3]) rfl rfl) rfl rfl rfl rfl rfl rfl ?_)
  clear hS; intro w10 hS
  refine wl rfl (oassign (v := .bool true) rfl rfl (ev (v := .bool true) rfl rfl) ?_)
  refine wnil ?_
  refine thenN ?_
  refine wseq ?_
  refine wreg ?_
  refine wl rfl (ofieldAddr (g := g1) (off := 0) 2 rfl rfl (ev (v := .pointer (some ⟨g1, 0, none⟩)) rfl rfl) Try.runUnderlying27 rfl Try.sizeOf25 rfl ?_)
  refine wl rfl (oload (vs := [.bool (ng z2), .slice p2 n2 c2]) aggZ hS 5 rfl rfl (ev rfl rfl) rfl rfl rfl ?_)
  refine wl rfl (omove (v := .int .i64 (((K : Nat) : Int))) rfl rfl (ev (v := .int .i64 (((K : Nat) : Int))) rfl rfl) ?_)
  have hk4 : Wd 0 2 := Wd.i64 (by omega) (by omega)
  refine wl rfl (ocall rfl rfl Try.call88 rfl (wqpowB (((hS.slm 3 rfl).zr hk2).mono (by omega)) (hK) ((by rw [← hz2.out]; exact h2))) (args2 (ev rfl rfl) (ev rfl rfl)) ?_)
  rintro _ w11 ⟨_, _, rfl, ⟨p4, n4, c4, rfl, rfl⟩, hN⟩
  refine ⟨_, rfl, ?_⟩
  replace hS := hS.news hN; clear hN
  refine wl rfl (omove (v := .tuple #[.agg #[.bool (ng 0), .slice p4 n4 c4], .bool false]) rfl rfl (ev (v := .tuple #[.agg #[.bool (ng 0), .slice p4 n4 c4], .bool false]) rfl rfl) ?_)
  refine wl rfl (oextract (vs := [.agg #[.bool (ng 0), .slice p4 n4 c4], .bool false]) (v := .agg #[.bool (ng 0), .slice p4 n4 c4]) rfl rfl (ev (v := .tuple #[.agg #[.bool (ng 0), .slice p4 n4 c4], .bool false]) rfl rfl) rfl ?_)
  refine wl rfl (oextract (vs := [.agg #[.bool (ng 0), .slice p4 n4 c4], .bool false]) (v := .bool false) rfl rfl (ev (v := .tuple #[.agg #[.bool (ng 0), .slice p4 n4 c4], .bool false]) rfl rfl) rfl ?_)
  refine wl rfl (oalloc [.bool false, .slice none 0 0] hS rfl rfl Try.zeroValue25 rfl ?_)
  clear hS; intro g12 w13 hS
  refine wl rfl (ostore [.bool (ng 0), .slice p4 n4 c4] [.bool (ng 0), .slice p4 n4 c4] Try.sizeOf25 hS 0 rfl rfl (ev rfl rfl) (ev (v := .agg #[.bool (ng 0), .slice p4 n4 c4]) rfl rfl) rfl rfl rfl rfl rfl rfl ?_)
  clear hS; intro w14 hS
  refine wl rfl (oassign (v := .bool false) rfl rfl (ev (v := .bool false) rfl rfl) ?_)
  refine wnil ?_
  refine thenN ?_
  refine wseq ?_
  refine wseq ?_
  refine wreg ?_
  refine wl rfl (omove (v := .bool true) rfl rfl (ev (v := .bool true) rfl rfl) ?_)
  refine wl rfl (onot (b := true) rfl rfl (ev (v := .bool true) rfl rfl) ?_)
  refine wl rfl (omove (v := .bool false) rfl rfl (ev (v := .bool false) rfl rfl) ?_)
  refine wlOn (e := 42) rfl rfl rfl rfl (omove (v := .bool false) rfl rfl (ev (v := .bool false) rfl rfl) ?_)
  refine wlOn (e := 42) rfl rfl rfl rfl (onot (b := false) rfl rfl (ev (v := .bool false) rfl rfl) ?_)
  refine wl rfl (opick (b := false) (v := .bool true) rfl rfl (ev (v := .bool false) rfl rfl) (ev (v := .bool true) rfl rfl) ?_)
  refine wnil ?_
  refine thenN ?_
  refine wT (ev (v := .bool true) rfl rfl) ?_
  refine wseq ?_
  refine wreg ?_
  refine wl rfl (obuild (ps := #[]) (v := .agg #[.bool false, .slice none 0 0, .bool false, .slice none 0 0]) rfl rfl (parts0) (fun w => by simp [go_sem, Instr.build, Instr.fill]) ?_)
  refine wl rfl (ostore [.bool false, .slice none 0 0, .bool false, .slice none 0 0] [.bool false, .slice none 0 0, .bool false, .slice none 0 0] Try.sizeOf27 hS 6 rfl rfl (ev rfl rfl) (ev (v := .agg #[.bool false, .slice none 0 0, .bool false, .slice none 0 0]) rfl rfl) rfl rfl rfl rfl rfl rfl ?_)
  clear hS; intro w15 hS
  refine wl rfl (oassign (v := .bool false) rfl rfl (evc (v := .bool false)) ?_)
  refine wnil ?_
  refine thenN ?_
  refine wleave ?_
  refine thenR ?_
  refine wret2 Try.results41 (tellC (cs := [.bool false, .slice none 0 0, .bool false, .slice none 0 0]) aggR hS 6 rfl rfl rfl rfl) (tellT (v := .bool false) rfl rfl) ?_
  exact ⟨_, _, rfl, isI, hS.new0⟩

set_option maxRecDepth 100000 in
set_option maxHeartbeats 16000000 in
theorem wqrpow_n {x y : Int} {K : Nat} {bA bB : Bool} {qA qB : Option Addr} {nA kA nB kB : Nat} {w : World} (hzA : Zr w bA qA nA kA x 16777216) (hzB : Zr w bB qB nB kB y 16777216) (hy : y ≠ 0) (hK : K ≤ 9223372036854775807) (hK0 : 0 < K) (hx : x ≠ 0) (h1 : PowOk (RN (RD x y) (RN x y)) K) (h2 : PowOk (RD (RD x y) (RN x y)) K) :
    Calls Try.prog 41 #[.agg #[.bool bA, .slice qA nA kA, .bool bB, .slice qB nB kB], .int .i64 ((-((K : Nat) : Int)))] w (Ret (RBt (RN (RD x y) (RN x y) ^ K) (RD (RD x y) (RN x y) ^ K) true) w) := by
  have hS := Sep.init w
  refine went Try.func41 rfl (n := 50) rfl rfl ?_
  refine wseq ?_
  refine wreg ?_
  refine wl rfl (obox [.bool bA, .slice qA nA kA, .bool bB, .slice qB nB kB] hS rfl rfl (ev (v := .agg #[.bool bA, .slice qA nA kA, .bool bB, .slice qB nB kB]) rfl rfl) rfl ?_)
  clear hS; intro g1 w2 hS
  refine wl rfl (oalloc [.bool false, .slice none 0 0, .bool false, .slice none 0 0] hS rfl rfl Try.zeroValue27 rfl ?_)
  clear hS; intro g3 w4 hS
  refine wl rfl (oassign (v := .bool false) rfl rfl (evc (v := .bool false)) ?_)
  refine wnil ?_
  refine thenN ?_
  refine wseq ?_
  refine wreg ?_
  refine wl rfl (oload (vs := [.bool bA, .slice qA nA kA, .bool bB, .slice qB nB kB]) aggR hS 1 rfl rfl (ev rfl rfl) rfl rfl rfl ?_)
  obtain ⟨z1, hz1⟩ : ∃ z : Int, Hid (RN x y = z) := ⟨_, rfl⟩
  have hk1 : Wd z1 16777216 := Wd.rn hzA.wd hz1
  obtain ⟨z2, hz2⟩ : ∃ z : Int, Hid (RD x y = z) := ⟨_, rfl⟩
  have hk2 : Wd z2 16777216 := Wd.rd hzB.wd hz2
  refine wl rfl (ocall rfl rfl Try.call37 rfl ((wsnorm ((hzA.at hS).mono (by omega)) ((hzB.at hS).mono (by omega)) (hy) hz1 hz2)) (args1 (ev rfl rfl)) ?_)
  rintro _ w5 ⟨_, _, rfl, ⟨p1, n1, c1, p2, n2, c2, rfl, rfl⟩, hN⟩
  refine ⟨_, rfl, ?_⟩
  replace hS := hS.news hN; clear hN
  refine wl rfl (ostore [.bool (ng z1), .slice p1 n1 c1, .bool (ng z2), .slice p2 n2 c2] [.bool (ng z1), .slice p1 n1 c1, .bool (ng z2), .slice p2 n2 c2] Try.sizeOf27 hS 3 rfl rfl (ev rfl rfl) (ev (v := .agg #[.bool (ng z1), .slice p1 n1 c1, .bool (ng z2), .slice p2 n2 c2]) rfl rfl) rfl rfl rfl rfl rfl rfl ?_)
  clear hS; intro w6 hS
  refine wnil ?_
  refine thenN ?_
  refine wseq ?_
  refine wseq ?_
  refine wreg ?_
  refine wl rfl (omove (v := .int .i64 ((-((K : Nat) : Int)))) rfl rfl (ev (v := .int .i64 ((-((K : Nat) : Int)))) rfl rfl) ?_)
  refine wl rfl (obin (u := .int .i64 ((-((K : Nat) : Int)))) (v := .int .i64 0) (z := .bool true) rfl rfl (ev (v := .int .i64 ((-((K : Nat) : Int)))) rfl rfl) (evc (v := .int .i64 0)) (bin_lss (decide_eq_true (by omega))) ?_)
  refine wnil ?_
  refine thenN ?_
  refine wT (ev (v := .bool true) rfl rfl) ?_
  refine wseq ?_
  refine wreg ?_
  refine wl rfl (oload (vs := [.bool (ng z1), .slice p1 n1 c1, .bool (ng z2), .slice p2 n2 c2]) aggR hS 3 rfl rfl (ev rfl rfl) rfl rfl rfl ?_)
  obtain ⟨z3, hz3⟩ : ∃ z : Int, Hid (RN z2 z1 = z) := ⟨_, rfl⟩
  have hk3 : Wd z3 16777216 := Wd.rn hk2 hz3
  obtain ⟨z4, hz4⟩ : ∃ z : Int, Hid (RD z2 z1 = z) := ⟨_, rfl⟩
  have hk4 : Wd z4 16777216 := Wd.rd hk1 hz4
  refine wl rfl (ocall rfl rfl Try.call14 rfl (wsinv ((hS.slm 0 rfl).zr hk1) ((hS.slm 1 rfl).zr hk2) (by rw [← hz1.out]; exact fun e => hx ((RN_zero hy).1 e)) hz3 hz4) (args1 (ev rfl rfl)) ?_)
  rintro _ w7 ⟨_, _, rfl, ⟨p3, n3, c3, p4, n4, c4, rfl, rfl⟩, hN⟩
  refine ⟨_, rfl, ?_⟩
  replace hS := hS.news hN; clear hN
  refine wl rfl (ostore [.bool (ng z3), .slice p3 n3 c3, .bool (ng z4), .slice p4 n4 c4] [.bool (ng z3), .slice p3 n3 c3, .bool (ng z4), .slice p4 n4 c4] Try.sizeOf27 hS 5 rfl rfl (ev rfl rfl) (ev (v := .agg #[.bool (ng z3), .slice p3 n3 c3, .bool (ng z4), .slice p4 n4 c4]) rfl rfl) rfl rfl rfl rfl rfl rfl ?_)
  clear hS; intro w8 hS
  refine wnil ?_
  refine thenN ?_
  refine wseq ?_
  refine wseq ?_
  refine wreg ?_
  refine wl rfl (omove (v := .int .i64 ((-((K : Nat) : Int)))) rfl rfl (ev (v := .int .i64 ((-((K : Nat) : Int)))) rfl rfl) ?_)
  refine wl rfl (omove (v := .int .i64 ((-((K : Nat) : Int)))) rfl rfl (ev (v := .int .i64 ((-((K : Nat) : Int)))) rfl rfl) ?_)
  refine wl rfl (oneg (k := .i64) (c := ((K : Nat) : Int)) rfl rfl (ev (v := .int .i64 ((-((K : Nat) : Int)))) rfl rfl) (by rw [Int.neg_neg]; exact wrap_i64 (by omega) (by omega)) ?_)
  refine wl rfl (obin (u := .int .i64 ((-((K : Nat) : Int)))) (v := .int .i64 (((K : Nat) : Int))) (z := .bool false) rfl rfl (ev (v := .int .i64 ((-((K : Nat) : Int)))) rfl rfl) (ev (v := .int .i64 (((K : Nat) : Int))) rfl rfl) (bin_eql (eqF (by omega))) ?_)
  refine wnil ?_
  refine thenN ?_
  refine wF (ev (v := .bool false) rfl rfl) ?_
  refine wskip ?_
  refine thenN ?_
  refine wreg ?_
  refine wl rfl (omove (v := .int .i64 ((-((K : Nat) : Int)))) rfl rfl (ev (v := .int .i64 ((-((K : Nat) : Int)))) rfl rfl) ?_)
  refine wl rfl (oneg (k := .i64) (c := ((K : Nat) : Int)) rfl rfl (ev (v := .int .i64 ((-((K : Nat) : Int)))) rfl rfl) (by rw [Int.neg_neg]; exact wrap_i64 (by omega) (by omega)) ?_)
  refine wl rfl (oassign (v := .int .i64 (((K : Nat) : Int))) rfl rfl (ev (v := .int .i64 (((K : Nat) : Int))) rfl rfl) ?_)
  refine wnil ?_
  refine thenN ?_
  refine wseq ?_
  refine wreg ?_
  refine wl rfl (ofieldAddr (g := g1) (off := 0) 0 rfl rfl (ev (v := .pointer (some ⟨g1, 0, none⟩)) rfl rfl) Try.runUnderlying27 rfl Try.sizeOf25 rfl ?_)
  refine wl rfl (oload (vs := [.bool (ng z3), .slice p3 n3 c3]) aggZ hS 5 rfl rfl (ev rfl rfl) rfl rfl rfl ?_)
  refine wl rfl (omove (v := .int .i64 (((K : Nat) : Int))) rfl rfl (ev (v := .int .i64 (((K : Nat) : Int))) rfl rfl) ?_)
  obtain ⟨z5, hz5⟩ : ∃ z : Int, Hid (z3 ^ K = z) := ⟨_, rfl⟩
  have hk5 : Wd z5 16778468 := wd_pow hk3 ((by rw [← hz3.out, ← hz2.out, ← hz1.out]; exact h1)) hz5
  refine wl rfl (ocall rfl rfl Try.call88 rfl (wqpow (((hS.slm 0 rfl).zr hk3).mono (by omega)) (hK) ((by rw [← hz3.out, ← hz2.out, ← hz1.out]; exact h1)) hz5) (args2 (ev rfl rfl) (ev rfl rfl)) ?_)
  rintro _ w9 ⟨_, _, rfl, ⟨p5, n5, c5, rfl, rfl⟩, hN⟩
  refine ⟨_, rfl, ?_⟩
  replace hS := hS.news hN; clear hN
  refine wl rfl (omove (v := .tuple #[.agg #[.bool (ng z5), .slice p5 n5 c5], .bool true]) rfl rfl (ev (v := .tuple #[.agg #[.bool (ng z5), .slice p5 n5 c5], .bool true]) rfl rfl) ?_)
  refine wl rfl (oextract (vs := [.agg #[.bool (ng z5), .slice p5 n5 c5], .bool true]) (v := .agg #[.bool (ng z5), .slice p5 n5 c5]) rfl rfl (ev (v := .tuple #[.agg #[.bool (ng z5), .slice p5 n5 c5], .bool true]) rfl rfl) rfl ?_)
  refine wl rfl (oextract (vs := [.agg #[.bool (ng z5), .slice p5 n5 c5], .bool true]) (v := .bool true) rfl rfl (ev (v := .tuple #[.agg #[.bool (ng z5), .slice p5 n5 c5], .bool true]) rfl rfl) rfl ?_)
  refine wl rfl (oalloc [.bool false, .slice none 0 0] hS rfl rfl Try.zeroValue25 rfl ?_)
  clear hS; intro g10 w11 hS
  refine wl rfl (ostore [.bool (ng z5), .slice p5 n5 c5] [.bool (ng z5), .slice p5 n5 c5] Try.sizeOf25 hS 0 rfl rfl (ev rfl rfl) (ev (v := .agg #[.bool (ng z5), .slice p5 n5 c5]) rfl rfl) rfl rfl rfl rfl rfl rfl ?_)
  clear hS; intro w12 hS
  refine wl rfl (oassign (v := .bool true) rfl rfl (ev (v := .bool true) rfl rfl) ?_)
  refine wnil ?_
  refine thenN ?_
  refine wseq ?_
  refine wreg ?_
  refine wl rfl (ofieldAddr (g := g1) (off := 0) 2 rfl rfl (ev (v := .pointer (some ⟨g1, 0, none⟩)) rfl rfl) Try.runUnderlying27 rfl Try.sizeOf25 rfl ?_)
  refine wl rfl (oload (vs := [.bool (ng z4), .slice p4 n4 c4]) aggZ hS 7 rfl rfl (ev rfl rfl) rfl rfl rfl ?_)
  refine wl rfl (omove (v := .int .i64 (((K : Nat) : Int))) rfl rfl (ev (v := .int .i64 (((K : Nat) : Int))) rfl rfl) ?_)
  obtain ⟨z6, hz6⟩ : ∃ z : Int, Hid (z4 ^ K = z) := ⟨_, rfl⟩
  have hk6 : Wd z6 16778468 := wd_pow hk4 ((by rw [← hz4.out, ← hz2.out, ← hz1.out]; exact h2)) hz6
  refine wl rfl (ocall rfl rfl Try.call88 rfl (wqpow (((hS.slm 3 rfl).zr hk4).mono (by omega)) (hK) ((by rw [← hz4.out, ← hz2.out, ← hz1.out]; exact h2)) hz6) (args2 (ev rfl rfl) (ev rfl rfl)) ?_)
  rintro _ w13 ⟨_, _, rfl, ⟨p6, n6, c6, rfl, rfl⟩, hN⟩
  refine ⟨_, rfl, ?_⟩
  replace hS := hS.news hN; clear hN
  refine wl rfl (omove (v := .tuple #[.agg #[.bool (ng z6), .slice p6 n6 c6], .bool true]) rfl rfl (ev (v := .tuple #[.agg #[.bool (ng z6), .slice p6 n6 c6], .bool true]) rfl rfl) ?_)
  refine wl rfl (oextract (vs := [.agg #[.bool (ng z6), .slice p6 n6 c6], .bool true]) (v := .agg #[.bool (ng z6), .slice p6 n6 c6]) rfl rfl (ev (v := .tuple #[.agg #[.bool (ng z6), .slice p6 n6 c6], .bool true]) rfl rfl) rfl ?_)
  refine wl rfl (oextract (vs := [.agg #[.bool (ng z6), .slice p6 n6 c6], .bool true]) (v := .bool true) rfl rfl (ev (v := .tuple #[.agg #[.bool (ng z6), .slice p6 n6 c6], .bool true]) rfl rfl) rfl ?_)
  refine wl rfl (oalloc [.bool false, .slice none 0 0] hS rfl rfl Try.zeroValue25 rfl ?_)
  clear hS; intro g14 w15 hS
  refine wl rfl (ostore [.bool (ng z6), .slice p6 n6 c6] [.bool (ng z6), .slice p6 n6 c6] Try.sizeOf25 hS 0 rfl rfl (ev rfl rfl) (ev (v := .agg #[.bool (ng z6), .slice p6 n6 c6]) rfl rfl) rfl rfl rfl rfl rfl rfl ?_)
  clear hS; intro w16 hS
  refine wl rfl (oassign (v := .bool true) rfl rfl (ev (v := .bool true) rfl rfl) ?_)
  refine wnil ?_
  refine thenN ?_
  refine wseq ?_
  refine wseq ?_
  refine wreg ?_
  refine wl rfl (omove (v := .bool true) rfl rfl (ev (v := .bool true) rfl rfl) ?_)
  refine wl rfl (onot (b := true) rfl rfl (ev (v := .bool true) rfl rfl) ?_)
  refine wl rfl (omove (v := .bool false) rfl rfl (ev (v := .bool false) rfl rfl) ?_)
  refine wlOn (e := 42) rfl rfl rfl rfl (omove (v := .bool true) rfl rfl (ev (v := .bool true) rfl rfl) ?_)
  refine wlOn (e := 42) rfl rfl rfl rfl (onot (b := true) rfl rfl (ev (v := .bool true) rfl rfl) ?_)
  refine wl rfl (opick (b := false) (v := .bool false) rfl rfl (ev (v := .bool false) rfl rfl) (ev (v := .bool false) rfl rfl) ?_)
  refine wnil ?_
  refine thenN ?_
  refine wF (ev (v := .bool false) rfl rfl) ?_
  refine wskip ?_
  refine thenN ?_
  refine wseq ?_
  refine wreg ?_
  refine wl rfl (oload (vs := [.bool (ng z5), .slice p5 n5 c5]) aggZ hS 2 rfl rfl (ev rfl rfl) rfl rfl rfl ?_)
  refine wl rfl (oload (vs := [.bool (ng z6), .slice p6 n6 c6]) aggZ hS 0 rfl rfl (ev rfl rfl) rfl rfl rfl ?_)
  refine wl rfl (obuild (ps := #[(0, .agg #[.bool (ng z5), .slice p5 n5 c5]), (1, .agg #[.bool (ng z6), .slice p6 n6 c6])]) (v := .agg #[.bool (ng z5), .slice p5 n5 c5, .bool (ng z6), .slice p6 n6 c6]) rfl rfl (parts2 (ev (v := .agg #[.bool (ng z5), .slice p5 n5 c5]) rfl rfl) (ev (v := .agg #[.bool (ng z6), .slice p6 n6 c6]) rfl rfl)) (fun w => by simp [go_sem, Instr.build, Instr.fill]) ?_)
  refine wl rfl (ostore [.bool (ng z5), .slice p5 n5 c5, .bool (ng z6), .slice p6 n6 c6] [.bool (ng z5), .slice p5 n5 c5, .bool (ng z6), .slice p6 n6 c6] Try.sizeOf27 hS 8 rfl rfl (ev rfl rfl) (ev (v := .agg #[.bool (ng z5), .slice p5 n5 c5, .bool (ng z6), .slice p6 n6 c6]) rfl rfl) rfl rfl rfl rfl rfl rfl ?_)
  clear hS; intro w17 hS
  refine wl rfl (oassign (v := .bool true) rfl rfl (evc (v := .bool true)) ?_)
  refine wnil ?_
  refine thenN ?_
  refine wleave ?_
  refine wret2 Try.results41 (tellC (cs := [.bool (ng z5), .slice p5 n5 c5, .bool (ng z6), .slice p6 n6 c6]) aggR hS 8 rfl rfl rfl rfl) (tellT (v := .bool true) rfl rfl) ?_
  obtain rfl := hz1.out
  obtain rfl := hz2.out
  obtain rfl := hz3.out
  obtain rfl := hz4.out
  obtain rfl := hz5.out
  obtain rfl := hz6.out
  exact ⟨_, _, rfl, ⟨_, _, _, _, _, _, rfl, rfl⟩, hS.newM [3, 1] (by decide) rfl rfl⟩

set_option maxRecDepth 100000 in
set_option maxHeartbeats 16000000 in
theorem wqrpow_nA {x y : Int} {K : Nat} {bA bB : Bool} {qA qB : Option Addr} {nA kA nB kB : Nat} {w : World} (hzA : Zr w bA qA nA kA x 16777216) (hzB : Zr w bB qB nB kB y 16777216) (hy : y ≠ 0) (hK : K ≤ 9223372036854775807) (hK0 : 0 < K) (hx : x ≠ 0) (h1 : PowBig (RN (RD x y) (RN x y)) K) (h2 : PowOk (RD (RD x y) (RN x y)) K ∨ PowBig (RD (RD x y) (RN x y)) K) :
    Calls Try.prog 41 #[.agg #[.bool bA, .slice qA nA kA, .bool bB, .slice qB nB kB], .int .i64 ((-((K : Nat) : Int)))] w (Ret (Is (.tuple #[.agg #[.bool false, .slice none 0 0, .bool false, .slice none 0 0], .bool false])) w) := by
  have hS := Sep.init w
  refine went Try.func41 rfl (n := 50) rfl rfl ?_
  refine wseq ?_
  refine wreg ?_
  refine wl rfl (obox [.bool bA, .slice qA nA kA, .bool bB, .slice qB nB kB] hS rfl rfl (ev (v := .agg #[.bool bA, .slice qA nA kA, .bool bB, .slice qB nB kB]) rfl rfl) rfl ?_)
  clear hS; intro g1 w2 hS
  refine wl rfl (oalloc [.bool false, .slice none 0 0, .bool false, .slice none 0 0] hS rfl rfl Try.zeroValue27 rfl ?_)
  clear hS; intro g3 w4 hS
  refine wl rfl (oassign (v := .bool false) rfl rfl (evc (v := .bool false)) ?_)
  refine wnil ?_
  refine thenN ?_
  refine wseq ?_
  refine wreg ?_
  refine wl rfl (oload (vs := [.bool bA, .slice qA nA kA, .bool bB, .slice qB nB kB]) aggR hS 1 rfl rfl (ev rfl rfl) rfl rfl rfl ?_)
  obtain ⟨z1, hz1⟩ : ∃ z : Int, Hid (RN x y = z) := ⟨_, rfl⟩
  have hk1 : Wd z1 16777216 := Wd.rn hzA.wd hz1
  obtain ⟨z2, hz2⟩ : ∃ z : Int, Hid (RD x y = z) := ⟨_, rfl⟩
  have hk2 : Wd z2 16777216 := Wd.rd hzB.wd hz2
  refine wl rfl (ocall rfl rfl Try.call37 rfl ((wsnorm ((hzA.at hS).mono (by omega)) ((hzB.at hS).mono (by omega)) (hy) hz1 hz2)) (args1 (ev rfl rfl)) ?_)
  rintro _ w5 ⟨_, _, rfl, ⟨p1, n1, c1, p2, n2, c2, rfl, rfl⟩, hN⟩
  refine ⟨_, rfl, ?_⟩
  replace hS := hS.news hN; clear hN
  refine wl rfl (ostore [.bool (ng z1), .slice p1 n1 c1, .bool (ng z2), .slice p2 n2 c2] [.bool (ng z1), .slice p1 n1 c1, .bool (ng z2), .slice p2 n2 c2] Try.sizeOf27 hS 3 rfl rfl (ev rfl rfl) (ev (v := .agg #[.bool (ng z1), .slice p1 n1 c1, .bool (ng z2), .slice p2 n2 c2]) rfl rfl) rfl rfl rfl rfl rfl rfl ?_)
  clear hS; intro w6 hS
  refine wnil ?_
  refine thenN ?_
  refine wseq ?_
  refine wseq ?_
  refine wreg ?_
  refine wl rfl (omove (v := .int .i64 ((-((K : Nat) : Int)))) rfl rfl (ev (v := .int .i64 ((-((K : Nat) : Int)))) rfl rfl) ?_)
  refine wl rfl (obin (u := .int .i64 ((-((K : Nat) : Int)))) (v := .int .i64 0) (z := .bool true) rfl rfl (ev (v := .int .i64 ((-((K : Nat) : Int)))) rfl rfl) (evc (v := .int .i64 0)) (bin_lss (decide_eq_true (by omega))) ?_)
  refine wnil ?_
  refine thenN ?_
  refine wT (ev (v := .bool true) rfl rfl) ?_
  refine wseq ?_
  refine wreg ?_
  refine wl rfl (oload (vs := [.bool (ng z1), .slice p1 n1 c1, .bool (ng z2), .slice p2 n2 c2]) aggR hS 3 rfl rfl (ev rfl rfl) rfl rfl rfl ?_)
  obtain ⟨z3, hz3⟩ : ∃ z : Int, Hid (RN z2 z1 = z) := ⟨_, rfl⟩
  have hk3 : Wd z3 16777216 := Wd.rn hk2 hz3
  obtain ⟨z4, hz4⟩ : ∃ z : Int, Hid (RD z2 z1 = z) := ⟨_, rfl⟩
  have hk4 : Wd z4 16777216 := Wd.rd hk1 hz4
  refine wl rfl (ocall rfl rfl Try.call14 rfl (wsinv ((hS.slm 0 rfl).zr hk1) ((hS.slm 1 rfl).zr hk2) (by rw [← hz1.out]; exact fun e => hx ((RN_zero hy).1 e)) hz3 hz4) (args1 (ev rfl rfl)) ?_)
  rintro _ w7 ⟨_, _, rfl, ⟨p3, n3, c3, p4, n4, c4, rfl, rfl⟩, hN⟩
  refine ⟨_, rfl, ?_⟩
  replace hS := hS.news hN; clear hN
  refine wl rfl (ostore [.bool (ng z3), .slice p3 n3 c3, .bool (ng z4), .slice p4 n4 c4] [.bool (ng z3), .slice p3 n3 c3, .bool (ng z4), .slice p4 n4 c4] Try.sizeOf27 hS 5 rfl rfl (ev rfl rfl) (ev (v := .agg #[.bool (ng z3), .slice p3 n3 c3, .bool (ng z4), .slice p4 n4 c4]) rfl rfl) rfl rfl rfl rfl rfl rfl ?_)
  clear hS; intro w8 hS
  refine wnil ?_
  refine thenN ?_
  refine wseq ?_
  refine wseq ?_
  refine wreg ?_
  refine wl rfl (omove (v := .int .i64 ((-((K : Nat) : Int)))) rfl rfl (ev (v := .int .i64 ((-((K : Nat) : Int)))) rfl rfl) ?_)
  refine wl rfl (omove (v := .int .i64 ((-((K : Nat) : Int)))) rfl rfl (ev (v := .int .i64 ((-((K : Nat) : Int)))) rfl rfl) ?_)
  refine wl rfl (oneg (k := .i64) (c := ((K : Nat) : Int)) rfl rfl (ev (v := .int .i64 ((-((K : Nat) : Int)))) rfl rfl) (by rw [Int.neg_neg]; exact wrap_i64 (by omega) (by omega)) ?_)
  refine wl rfl (obin (u := .int .i64 ((-((K : Nat) : Int)))) (v := .int .i64 (((K : Nat) : Int))) (z := .bool false) rfl rfl (ev (v := .int .i64 ((-((K : Nat) : Int)))) rfl rfl) (ev (v := .int .i64 (((K : Nat) : Int))) rfl rfl) (bin_eql (eqF (by omega))) ?_)
  refine wnil ?_
  refine thenN ?_
  refine wF (ev (v := .bool false) rfl rfl) ?_
  refine wskip ?_
  refine thenN ?_
  refine wreg ?_
  refine wl rfl (omove (v := .int .i64 ((-((K : Nat) : Int)))) rfl rfl (ev (v := .int .i64 ((-((K : Nat) : Int)))) rfl rfl) ?_)
  refine wl rfl (oneg (k := .i64) (c := ((K : Nat) : Int)) rfl rfl (ev (v := .int .i64 ((-((K : Nat) : Int)))) rfl rfl) (by rw [Int.neg_neg]; exact wrap_i64 (by omega) (by omega)) ?_)
  refine wl rfl (oassign (v := .int .i64 (((K : Nat) : Int))) rfl rfl (ev (v := .int .i64 (((K : Nat) : Int))) rfl rfl) ?_)
  refine wnil ?_
  refine thenN ?_
  refine wseq ?_
  refine wreg ?_
  refine wl rfl (ofieldAddr (g := g1) (off := 0) 0 rfl rfl (ev (v := .pointer (some ⟨g1, 0, none⟩)) rfl rfl) Try.runUnderlying27 rfl Try.sizeOf25 rfl ?_)
  refine wl rfl (oload (vs := [.bool (ng z3), .slice p3 n3 c3]) aggZ hS 5 rfl rfl (ev rfl rfl) rfl rfl rfl ?_)
  refine wl rfl (omove (v := .int .i64 (((K : Nat) : Int))) rfl rfl (ev (v := .int .i64 (((K : Nat) : Int))) rfl rfl) ?_)
  have hk5 : Wd 0 2 := Wd.i64 (by omega) (by omega)
  refine wl rfl (ocall rfl rfl Try.call88 rfl (wqpowB (((hS.slm 0 rfl).zr hk3).mono (by omega)) (hK) ((by rw [← hz3.out, ← hz2.out, ← hz1.out]; exact h1))) (args2 (ev rfl rfl) (ev rfl rfl)) ?_)
  rintro _ w9 ⟨_, _, rfl, ⟨p5, n5, c5, rfl, rfl⟩, hN⟩
  refine ⟨_, rfl, ?_⟩
  replace hS := hS.news hN; clear hN
  refine wl rfl (omove (v := .tuple #[.agg #[.bool (ng 0), .slice p5 n5 c5], .bool false]) rfl rfl (ev (v := .tuple #[.agg #[.bool (ng 0), .slice p5 n5 c5], .bool false]) rfl rfl) ?_)
  refine wl rfl (oextract (vs := [.agg #[.bool (ng 0), .slice p5 n5 c5], .bool false]) (v := .agg #[.bool (ng 0), .slice p5 n5 c5]) rfl rfl (ev (v := .tuple #[.agg #[.bool (ng 0), .slice p5 n5 c5], .bool false]) rfl rfl) rfl ?_)
  refine wl rfl (oextract (vs := [.agg #[.bool (ng 0), .slice p5 n5 c5], .bool false]) (v := .bool false) rfl rfl (ev (v := .tuple #[.agg #[.bool (ng 0), .slice p5 n5 c5], .bool false]) rfl rfl) rfl ?_)
  refine wl rfl (oalloc [.bool false, .slice none 0 0] hS rfl rfl Try.zeroValue25 rfl ?_)
  clear hS; intro g10 w11 hS
  refine wl rfl (ostore [.bool (ng 0), .slice p5 n5 c5] [.bool (ng 0), .slice p5 n5 c5] Try.sizeOf25 hS 0 rfl rfl (ev rfl rfl) (ev (v := .agg #[.bool (ng 0), .slice p5 n5 c5]) rfl rfl) rfl rfl rfl rfl rfl rfl ?_)
  clear hS; intro w12 hS
  refine wl rfl (oassign (v := .bool false) rfl rfl (ev (v := .bool false) rfl rfl) ?_)
  refine wnil ?_
  refine thenN ?_
  refine wseq ?_
  refine wreg ?_
  refine wl rfl (ofieldAddr (g := g1) (off := 0) 2 rfl rfl (ev (v := .pointer (some ⟨g1, 0, none⟩)) rfl rfl) Try.runUnderlying27 rfl Try.sizeOf25 rfl ?_)
  refine wl rfl (oload (vs := [.bool (ng z4), .slice p4 n4 c4]) aggZ hS 7 rfl rfl (ev rfl rfl) rfl rfl rfl ?_)
  refine wl rfl (omove (v := .int .i64 (((K : Nat) : Int))) rfl rfl (ev (v := .int .i64 (((K : Nat) : Int))) rfl rfl) ?_)
  by_cases o2 : PowOk (RD (RD x y) (RN x y)) K
  ·
    obtain ⟨z6, hz6⟩ : ∃ z : Int, Hid (z4 ^ K = z) := ⟨_, rfl⟩
    have hk6 : Wd z6 16778468 := wd_pow hk4 ((by rw [← hz4.out, ← hz2.out, ← hz1.out]; exact o2)) hz6
    refine wl rfl (ocall rfl rfl Try.call88 rfl (wqpow (((hS.slm 3 rfl).zr hk4).mono (by omega)) (hK) ((by rw [← hz4.out, ← hz2.out, ← hz1.out]; exact o2)) hz6) (args2 (ev rfl rfl) (ev rfl rfl)) ?_)
    rintro _ w13 ⟨_, _, rfl, ⟨p6, n6, c6, rfl, rfl⟩, hN⟩
    refine ⟨_, rfl, ?_⟩
    replace hS := hS.news hN; clear hN
    refine wl rfl (omove (v := .tuple #[.agg #[.bool (ng z6), .slice p6 n6 c6], .bool true]) rfl rfl (ev (v := .tuple #[.agg #[.bool (ng z6), .slice p6 n6 c6], .bool true]) rfl rfl) ?_)
    refine wl rfl (oextract (vs := [.agg #[.bool (ng z6), .slice p6 n6 c6], .bool true]) (v := .agg #[.bool (ng z6), .slice p6 n6 c6]) rfl rfl (ev (v := .tuple #[.agg #[.bool (ng z6), .slice p6 n6 c6], .bool true]) rfl rfl) rfl ?_)
    refine wl rfl (oextract (vs := [.agg #[.bool (ng z6), .slice p6 n6 c6], .bool true]) (v := .bool true) rfl rfl (ev (v := .tuple #[.agg #[.bool (ng z6), .slice p6 n6 c6], .bool true]) rfl rfl) rfl ?_)
    refine wl rfl (oalloc [.bool false, .slice none 0 0] hS rfl rfl Try.zeroValue25 rfl ?_)
    clear hS; intro g14 w15 hS
    refine wl rfl (ostore [.bool (ng z6), .slice p6 n6 c6] [.bool (ng z6), .slice p6 n6 c6] Try.sizeOf25 hS 0 rfl rfl (ev rfl rfl) (ev (v := .agg #[.bool (ng z6), .slice p6 n6 c6]) rfl rfl) rfl rfl rfl rfl rfl rfl ?_)
    clear hS; intro w16 hS
    refine wl rfl (oassign (v := .bool true) rfl rfl (ev (v := .bool true) rfl rfl) ?_)
    refine wnil ?_
    refine thenN ?_
    refine wseq ?_
    refine wseq ?_
    refine wreg ?_
    refine wl rfl (omove (v := .bool false) rfl rfl (ev (v := .bool false) rfl rfl) ?_)
    refine wl rfl (onot (b := false) rfl rfl (ev (v := .bool false) rfl rfl) ?_)
    refine wl rfl (omove (v := .bool true) rfl rfl (ev (v := .bool true) rfl rfl) ?_)
    refine wlOff (e := 42) (d := 43) (b' := true) rfl rfl rfl rfl rfl rfl ?_
    refine wlOff (e := 42) (d := 44) (b' := true) rfl rfl rfl rfl rfl rfl ?_
    refine wl rfl (opick (b := true) (v := .bool true) rfl rfl (ev (v := .bool true) rfl rfl) (evc (v := .bool true)) ?_)
    refine wnil ?_
    refine thenN ?_
    refine wT (ev (v := .bool true) rfl rfl) ?_
    refine wseq ?_
    refine wreg ?_
    refine wl rfl (obuild (ps := #[]) (v := .agg #[.bool false, .slice none 0 0, .bool false, .slice none 0 0]) rfl rfl (parts0) (fun w => by simp [go_sem, Instr.build, Instr.fill]) ?_)
    refine wl rfl (ostore [.bool false, .slice none 0 0, .bool false, .slice none 0 0] [.bool false, .slice none 0 0, .bool false, .slice none 0 0] Try.sizeOf27 hS 8 rfl rfl (ev rfl rfl) (ev (v := .agg #[.bool false, .slice none 0 0, .bool false, .slice none 0 0]) rfl rfl) rfl rfl rfl rfl rfl rfl ?_)
    clear hS; intro w17 hS
    refine wl rfl (oassign (v := .bool false) rfl rfl (evc (v := .bool false)) ?_)
    refine wnil ?_
    refine thenN ?_
    refine wleave ?_
    refine thenR ?_
    refine wret2 Try.results41 (tellC (cs := [.bool false, .slice none 0 0, .bool false, .slice none 0 0]) aggR hS 8 rfl rfl rfl rfl) (tellT (v := .bool false) rfl rfl) ?_
    exact ⟨_, _, rfl, isI, hS.new0⟩
  ·
    have hk6 : Wd 0 2 := Wd.i64 (by omega) (by omega)
    refine wl rfl (ocall rfl rfl Try.call88 rfl (wqpowB (((hS.slm 3 rfl).zr hk4).mono (by omega)) (hK) ((by rw [← hz4.out, ← hz2.out, ← hz1.out]; exact (h2.resolve_left o2)))) (args2 (ev rfl rfl) (ev rfl rfl)) ?_)
    rintro _ w13 ⟨_, _, rfl, ⟨p6, n6, c6, rfl, rfl⟩, hN⟩
    refine ⟨_, rfl, ?_⟩
    replace hS := hS.news hN; clear hN
    refine wl rfl (omove (v := .tuple #[.agg #[.bool (ng 0), .slice p6 n6 c6], .bool false]) rfl rfl (ev (v := .tuple #[.agg #[.bool (ng 0), .slice p6 n6 c6], .bool false]) rfl rfl) ?_)
    refine wl rfl (oextract (vs := [.agg #[.bool (ng 0), .slice p6 n6 c6], .bool false]) (v := .agg #[.bool (ng 0), .slice p6 n6 c6]) rfl rfl (ev (v := .tuple #[.agg #[.bool (ng 0), .slice p6 n6 c6], .bool false]) rfl rfl) rfl ?_)
    refine wl rfl (oextract (vs := [.agg #[.bool (ng 0), .slice p6 n6 c6], .bool false]) (v := .bool false) rfl rfl (ev (v := .tuple #[.agg #[.bool (ng 0), .slice p6 n6 c6], .bool false]) rfl rfl) rfl ?_)
    refine wl rfl (oalloc [.bool false, .slice none 0 0] hS rfl rfl Try.zeroValue25 rfl ?_)
    clear hS; intro g14 w15 hS
    refine wl rfl (ostore [.bool (ng 0), .slice p6 n6 c6] [.bool (ng 0), .slice p6 n6 c6] Try.sizeOf25 hS 0 rfl rfl (ev rfl rfl) (ev (v := .agg #[.bool (ng 0), .slice p6 n6 c6]) rfl rfl) rfl rfl rfl rfl rfl rfl ?_)
    clear hS; intro w16 hS
    refine wl rfl (oassign (v := .bool false) rfl rfl (ev (v := .bool false) rfl rfl) ?_)
    refine wnil ?_
    refine thenN ?_
    refine wseq ?_
    refine wseq ?_
    refine wreg ?_
    refine wl rfl (omove (v := .bool false) rfl rfl (ev (v := .bool false) rfl rfl) ?_)
    refine wl rfl (onot (b := false) rfl rfl (ev (v := .bool false) rfl rfl) ?_)
    refine wl rfl (omove (v := .bool true) rfl rfl (ev (v := .bool true) rfl rfl) ?_)
    refine wlOff (e := 42) (d := 43) (b' := true) rfl rfl rfl rfl rfl rfl ?_
    refine wlOff (e := 42) (d := 44) (b' := true) rfl rfl rfl rfl rfl rfl ?_
    refine wl rfl (opick (b := true) (v := .bool true) rfl rfl (ev (v := .bool true) rfl rfl) (evc (v := .bool true)) ?_)
    refine wnil ?_
    refine thenN ?_
    refine wT (ev (v := .bool true) rfl rfl) ?_
    refine wseq ?_
    refine wreg ?_
    refine wl rfl (obuild (ps := #[]) (v := .agg #[.bool false, .slice none 0 0, .bool false, .slice none 0 0]) rfl rfl (parts0) (fun w => by simp [go_sem, Instr.build, Instr.fill]) ?_)
    refine wl rfl (ostore [.bool false, .slice none 0 0, .bool false, .slice none 0 0] [.bool false, .slice none 0 0, .bool false, .slice none 0 0] Try.sizeOf27 hS 8 rfl rfl (ev rfl rfl) (ev (v := .agg #[.bool false, .slice none 0 0, .bool false, .slice none 0 0]) rfl rfl) rfl rfl rfl rfl rfl rfl ?_)
    clear hS; intro w17 hS
    refine wl rfl (oassign (v := .bool false) rfl rfl (evc (v := .bool false)) ?_)
    refine wnil ?_
    refine thenN ?_
    refine wleave ?_
    refine thenR ?_
    refine wret2 Try.results41 (tellC (cs := [.bool false, .slice none 0 0, .bool false, .slice none 0 0]) aggR hS 8 rfl rfl rfl rfl) (tellT (v := .bool false) rfl rfl) ?_
    exact ⟨_, _, rfl, isI, hS.new0⟩

set_option maxRecDepth 100000 in
set_option maxHeartbeats 16000000 in
theorem wqrpow_nB {x y : Int} {K : Nat} {bA bB : Bool} {qA qB : Option Addr} {nA kA nB kB : Nat} {w : World} (hzA : Zr w bA qA nA kA x 16777216) (hzB : Zr w bB qB nB kB y 16777216) (hy : y ≠ 0) (hK : K ≤ 9223372036854775807) (hK0 : 0 < K) (hx : x ≠ 0) (h1 : PowOk (RN (RD x y) (RN x y)) K) (h2 : PowBig (RD (RD x y) (RN x y)) K) :
    Calls Try.prog 41 #[.agg #[.bool bA, .slice qA nA kA, .bool bB, .slice qB nB kB], .int .i64 ((-((K : Nat) : Int)))] w (Ret (Is (.tuple #[.agg #[.bool false, .slice none 0 0, .bool false, .slice none 0 0], .bool false])) w) := by
  have hS := Sep.init w
  refine went Try.func41 rfl (n := 50) rfl rfl ?_
  refine wseq ?_
  refine wreg ?_
  refine wl rfl (obox [.bool bA, .slice qA nA kA, .bool bB, .slice qB nB kB] hS rfl rfl (ev (v := .agg #[.bool bA, .slice qA nA kA, .bool bB, .slice qB nB kB]) rfl rfl) rfl ?_)
  clear hS; intro g1 w2 hS
  refine wl rfl (oalloc [.bool false, .slice none 0 0, .bool false, .slice none 0 0] hS rfl rfl Try.zeroValue27 rfl ?_)
  clear hS; intro g3 w4 hS
  refine wl rfl (oassign (v := .bool false) rfl rfl (evc (v := .bool false)) ?_)
  refine wnil ?_
  refine thenN ?_
  refine wseq ?_
  refine wreg ?_
  refine wl rfl (oload (vs := [.bool bA, .slice qA nA kA, .bool bB, .slice qB nB kB]) aggR hS 1 rfl rfl (ev rfl rfl) rfl rfl rfl ?_)
  obtain ⟨z1, hz1⟩ : ∃ z : Int, Hid (RN x y = z) := ⟨_, rfl⟩
  have hk1 : Wd z1 16777216 := Wd.rn hzA.wd hz1
  obtain ⟨z2, hz2⟩ : ∃ z : Int, Hid (RD x y = z) := ⟨_, rfl⟩
  have hk2 : Wd z2 16777216 := Wd.rd hzB.wd hz2
  refine wl rfl (ocall rfl rfl Try.call37 rfl ((wsnorm ((hzA.at hS).mono (by omega)) ((hzB.at hS).mono (by omega)) (hy) hz1 hz2)) (args1 (ev rfl rfl)) ?_)
  rintro _ w5 ⟨_, _, rfl, ⟨p1, n1, c1, p2, n2, c2, rfl, rfl⟩, hN⟩
  refine ⟨_, rfl, ?_⟩
  replace hS := hS.news hN; clear hN
  refine wl rfl (ostore [.bool (ng z1), .slice p1 n1 c1, .bool (ng z2), .slice p2 n2 c2] [.bool (ng z1), .slice p1 n1 c1, .bool (ng z2), .slice p2 n2 c2] Try.sizeOf27 hS 3 rfl rfl (ev rfl rfl) (ev (v := .agg #[.bool (ng z1), .slice p1 n1 c1, .bool (ng z2), .slice p2 n2 c2]) rfl rfl) rfl rfl rfl rfl rfl rfl ?_)
  clear hS; intro w6 hS
  refine wnil ?_
  refine thenN ?_
  refine wseq ?_
  refine wseq ?_
  refine wreg ?_
  refine wl rfl (omove (v := .int .i64 ((-((K : Nat) : Int)))) rfl rfl (ev (v := .int .i64 ((-((K : Nat) : Int)))) rfl rfl) ?_)
  refine wl rfl (obin (u := .int .i64 ((-((K : Nat) : Int)))) (v := .int .i64 0) (z := .bool true) rfl rfl (ev (v := .int .i64 ((-((K : Nat) : Int)))) rfl rfl) (evc (v := .int .i64 0)) (bin_lss (decide_eq_true (by omega))) ?_)
  refine wnil ?_
  refine thenN ?_
  refine wT (ev (v := .bool true) rfl rfl) ?_
  refine wseq ?_
  refine wreg ?_
  refine wl rfl (oload (vs := [.bool (ng z1), .slice p1 n1 c1, .bool (ng z2), .slice p2 n2 c2]) aggR hS 3 rfl rfl (ev rfl rfl) rfl rfl rfl ?_)
  obtain ⟨z3, hz3⟩ : ∃ z : Int, Hid (RN z2 z1 = z) := ⟨_, rfl⟩
  have hk3 : Wd z3 16777216 := Wd.rn hk2 hz3
  obtain ⟨z4, hz4⟩ : ∃ z : Int, Hid (RD z2 z1 = z) := ⟨_, rfl⟩
  have hk4 : Wd z4 16777216 := Wd.rd hk1 hz4
  refine wl rfl (ocall rfl rfl Try.call14 rfl (wsinv ((hS.slm 0 rfl).zr hk1) ((hS.slm 1 rfl).zr hk2) (by rw [← hz1.out]; exact fun e => hx ((RN_zero hy).1 e)) hz3 hz4) (args1 (ev rfl rfl)) ?_)
  rintro _ w7 ⟨_, _, rfl, ⟨p3, n3, c3, p4, n4, c4, rfl, rfl⟩, hN⟩
  refine ⟨_, rfl, ?_⟩
  replace hS := hS.news hN; clear hN
  refine wl rfl (ostore [.bool (ng z3), .slice p3 n3 c3, .bool (ng z4), .slice p4 n4 c4] [.bool (ng z3), .slice p3 n3 c3, .bool (ng z4), .slice p4 n4 c4] Try.sizeOf27 hS 5 rfl rfl (ev rfl rfl) (ev (v := .agg #[.bool (ng z3), .slice p3 n3 c3, .bool (ng z4), .slice p4 n4 c4]) rfl rfl) rfl rfl rfl rfl rfl rfl ?_)
  clear hS; intro w8 hS
  refine wnil ?_
  refine thenN ?_
  refine wseq ?_
  refine wseq ?_
  refine wreg ?_
  refine wl rfl (omove (v := .int .i64 ((-((K : Nat) : Int)))) rfl rfl (ev (v := .int .i64 ((-((K : Nat) : Int)))) rfl rfl) ?_)
  refine wl rfl (omove (v := .int .i64 ((-((K : Nat) : Int)))) rfl rfl (ev (v := .int .i64 ((-((K : Nat) : Int)))) rfl rfl) ?_)
  refine wl rfl (oneg (k := .i64) (c := ((K : Nat) : Int)) rfl rfl (ev (v := .int .i64 ((-((K : Nat) : Int)))) rfl rfl) (by rw [Int.neg_neg]; exact wrap_i64 (by omega) (by omega)) ?_)
  refine wl rfl (obin (u := .int .i64 ((-((K : Nat) : Int)))) (v := .int .i64 (((K : Nat) : Int))) (z := .bool false) rfl rfl (ev (v := .int .i64 ((-((K : Nat) : Int)))) rfl rfl) (ev (v := .int .i64 (((K : Nat) : Int))) rfl rfl) (bin_eql (eqF (by omega))) ?_)
  refine wnil ?_
  refine thenN ?_
  refine wF (ev (v := .bool false) rfl rfl) ?_
  refine wskip ?_
  refine thenN ?_
  refine wreg ?_
  refine wl rfl (omove (v := .int .i64 ((-((K : Nat) : Int)))) rfl rfl (ev (v := .int .i64 ((-((K : Nat) : Int)))) rfl rfl) ?_)
  refine wl rfl (oneg (k := .i64) (c := ((K : Nat) : Int)) rfl rfl (ev (v := .int .i64 ((-((K : Nat) : Int)))) rfl rfl) (by rw [Int.neg_neg]; exact wrap_i64 (by omega) (by omega)) ?_)
  refine wl rfl (oassign (v := .int .i64 (((K : Nat) : Int))) rfl rfl (ev (v := .int .i64 (((K : Nat) : Int))) rfl rfl) ?_)
  refine wnil ?_
  refine thenN ?_
  refine wseq ?_
  refine wreg ?_
  refine wl rfl (ofieldAddr (g := g1) (off := 0) 0 rfl rfl (ev (v := .pointer (some ⟨g1, 0, none⟩)) rfl rfl) Try.runUnderlying27 rfl Try.sizeOf25 rfl ?_)
  refine wl rfl (oload (vs := [.bool (ng z3), .slice p3 n3 c3]) aggZ hS 5 rfl rfl (ev rfl rfl) rfl rfl rfl ?_)
  refine wl rfl (omove (v := .int .i64 (((K : Nat) : Int))) rfl rfl (ev (v := .int .i64 (((K : Nat) : Int))) rfl rfl) ?_)
  obtain ⟨z5, hz5⟩ : ∃ z : Int, Hid (z3 ^ K = z) := ⟨_, rfl⟩
  have hk5 : Wd z5 16778468 := wd_pow hk3 ((by rw [← hz3.out, ← hz2.out, ← hz1.out]; exact h1)) hz5
  refine wl rfl (ocall rfl rfl Try.call88 rfl (wqpow (((hS.slm 0 rfl).zr hk3).mono (by omega)) (hK) ((by rw [← hz3.out, ← hz2.out, ← hz1.out]; exact h1)) hz5) (args2 (ev rfl rfl) (ev rfl rfl)) ?_)
  rintro _ w9 ⟨_, _, rfl, ⟨p5, n5, c5, rfl, rfl⟩, hN⟩
  refine ⟨_, rfl, ?_⟩
  replace hS := hS.news hN; clear hN
  refine wl rfl (omove (v := .tuple #[.agg #[.bool (ng z5), .slice p5 n5 c5], .bool true]) rfl rfl (ev (v := .tuple #[.agg #[.bool (ng z5), .slice p5 n5 c5], .bool true]) rfl rfl) ?_)
  refine wl rfl (oextract (vs := [.agg #[.bool (ng z5), .slice p5 n5 c5], .bool true]) (v := .agg #[.bool (ng z5), .slice p5 n5 c5]) rfl rfl (ev (v := .tuple #[.agg #[.bool (ng z5), .slice p5 n5 c5], .bool true]) rfl rfl) rfl ?_)
  refine wl rfl (oextract (vs := [.agg #[.bool (ng z5), .slice p5 n5 c5], .bool true]) (v := .bool true) rfl rfl (ev (v := .tuple #[.agg #[.bool (ng z5), .slice p5 n5 c5], .bool true]) rfl rfl) rfl ?_)
  refine wl rfl (oalloc [.bool false, .slice none 0 0] hS rfl rfl Try.zeroValue25 rfl ?_)
  clear hS; intro g10 w11 hS
  refine wl rfl (ostore [.bool (ng z5), .slice p5 n5 c5] [.bool (ng z5), .slice p5 n5 c5] Try.sizeOf25 hS 0 rfl rfl (ev rfl rfl) (ev (v := .agg #[.bool (ng z5), .slice p5 n5 c5]) rfl rfl) rfl rfl rfl rfl rfl rfl ?_)
  clear hS; intro w12 hS
  refine wl rfl (oassign (v := .bool true) rfl rfl (ev (v := .bool true) rfl rfl) ?_)
  refine wnil ?_
  refine thenN ?_
  refine wseq ?_
  refine wreg ?_
  refine wl rfl (ofieldAddr (g := g1) (off := 0) 2 rfl rfl (ev (v := .pointer (some ⟨g1, 0, none⟩)) rfl rfl) Try.runUnderlying27 rfl Try.sizeOf25 rfl ?_)
  refine wl rfl (oload (vs := [.bool (ng z4), .slice p4 n4 c4]) aggZ hS 7 rfl rfl (ev rfl rfl) rfl rfl rfl ?_)
  refine wl rfl (omove (v := .int .i64 (((K : Nat) : Int))) rfl rfl (ev (v := .int .i64 (((K : Nat) : Int))) rfl rfl) ?_)
  have hk6 : Wd 0 2 := Wd.i64 (by omega) (by omega)
  refine wl rfl (ocall rfl rfl Try.call88 rfl (wqpowB (((hS.slm 3 rfl).zr hk4).mono (by omega)) (hK) ((by rw [← hz4.out, ← hz2.out, ← hz1.out]; exact h2))) (args2 (ev rfl rfl) (ev rfl rfl)) ?_)
  rintro _ w13 ⟨_, _, rfl, ⟨p6, n6, c6, rfl, rfl⟩, hN⟩
  refine ⟨_, rfl, ?_⟩
  replace hS := hS.news hN; clear hN
  refine wl rfl (omove (v := .tuple #[.agg #[.bool (ng 0), .slice p6 n6 c6], .bool false]) rfl rfl (ev (v := .tuple #[.agg #[.bool (ng 0), .slice p6 n6 c6], .bool false]) rfl rfl) ?_)
  refine wl rfl (oextract (vs := [.agg #[.bool (ng 0), .slice p6 n6 c6], .bool false]) (v := .agg #[.bool (ng 0), .slice p6 n6 c6]) rfl rfl (ev (v := .tuple #[.agg #[.bool (ng 0), .slice p6 n6 c6], .bool false]) rfl rfl) rfl ?_)
  refine wl rfl (oextract (vs := [.agg #[.bool (ng 0), .slice p6 n6 c6], .bool false]) (v := .bool false) rfl rfl (ev (v := .tuple #[.agg #[.bool (ng 0), .slice p6 n6 c6], .bool false]) rfl rfl) rfl ?_)
  refine wl rfl (oalloc [.bool false, .slice none 0 0] hS rfl rfl Try.zeroValue25 rfl ?_)
  clear hS; intro g14 w15 hS
  refine wl rfl (ostore [.bool (ng 0), .slice p6 n6 c6] [.bool (ng 0), .slice p6 n6 c6] Try.sizeOf25 hS 0 rfl rfl (ev rfl rfl) (ev (v := .agg #[.bool (ng 0), .slice p6 n6 c6]) rfl rfl) rfl rfl rfl rfl rfl rfl ?_)
  clear hS; intro w16 hS
  refine wl rfl (oassign (v := .bool false) rfl rfl (ev (v := .bool false) rfl rfl) ?_)
  refine wnil ?_
  refine thenN ?_
  refine wseq ?_
  refine wseq ?_
  refine wreg ?_
  refine wl rfl (omove (v := .bool true) rfl rfl (ev (v := .bool true) rfl rfl) ?_)
  refine wl rfl (onot (b := true) rfl rfl (ev (v := .bool true) rfl rfl) ?_)
  refine wl rfl (omove (v := .bool false) rfl rfl (ev (v := .bool false) rfl rfl) ?_)
  refine wlOn (e := 42) rfl rfl rfl rfl (omove (v := .bool false) rfl rfl (ev (v := .bool false) rfl rfl) ?_)
  refine wlOn (e := 42) rfl rfl rfl rfl (onot (b := false) rfl rfl (ev (v := .bool false) rfl rfl) ?_)
  refine wl rfl (opick (b := false) (v := .bool true) rfl rfl (ev (v := .bool false) rfl rfl) (ev (v := .bool true) rfl rfl) ?_)
  refine wnil ?_
  refine thenN ?_
  refine wT (ev (v := .bool true) rfl rfl) ?_
  refine wseq ?_
  refine wreg ?_
  refine wl rfl (obuild (ps := #[]) (v := .agg #[.bool false, .slice none 0 0, .bool false, .slice none 0 0]) rfl rfl (parts0) (fun w => by simp [go_sem, Instr.build, Instr.fill]) ?_)
  refine wl rfl (ostore [.bool false, .slice none 0 0, .bool false, .slice none 0 0] [.bool false, .slice none 0 0, .bool false, .slice none 0 0] Try.sizeOf27 hS 8 rfl rfl (ev rfl rfl) (ev (v := .agg #[.bool false, .slice none 0 0, .bool false, .slice none 0 0]) rfl rfl) rfl rfl rfl rfl rfl rfl ?_)
  clear hS; intro w17 hS
  refine wl rfl (oassign (v := .bool false) rfl rfl (evc (v := .bool false)) ?_)
  refine wnil ?_
  refine thenN ?_
  refine wleave ?_
  refine thenR ?_
  refine wret2 Try.results41 (tellC (cs := [.bool false, .slice none 0 0, .bool false, .slice none 0 0]) aggR hS 8 rfl rfl rfl rfl) (tellT (v := .bool false) rfl rfl) ?_
  exact ⟨_, _, rfl, isI, hS.new0⟩

set_option maxRecDepth 100000 in
set_option maxHeartbeats 16000000 in
theorem wqrpow_m {x y : Int}  {bA bB : Bool} {qA qB : Option Addr} {nA kA nB kB : Nat} {w : World} (hzA : Zr w bA qA nA kA x 16777216) (hzB : Zr w bB qB nB kB y 16777216) (hy : y ≠ 0) (hx : x ≠ 0) (h1 : blen (RN (RD x y) (RN x y)).natAbs = 1) (h2 : blen (RD (RD x y) (RN x y)).natAbs = 1) :
    Calls Try.prog 41 #[.agg #[.bool bA, .slice qA nA kA, .bool bB, .slice qB nB kB], .int .i64 (-9223372036854775808)] w (Ret (RBt 1 1 true) w) := by
  have hS := Sep.init w
  refine went Try.func41 rfl (n := 50) rfl rfl ?_
  refine wseq ?_
  refine wreg ?_
  refine wl rfl (obox [.bool bA, .slice qA nA kA, .bool bB, .slice qB nB kB] hS rfl rfl (ev (v := .agg #[.bool bA, .slice qA nA kA, .bool bB, .slice qB nB kB]) rfl rfl) rfl ?_)
  clear hS; intro g1 w2 hS
  refine wl rfl (oalloc [.bool false, .slice none 0 0, .bool false, .slice none 0 0] hS rfl rfl Try.zeroValue27 rfl ?_)
  clear hS; intro g3 w4 hS
  refine wl rfl (oassign (v := .bool false) rfl rfl (evc (v := .bool false)) ?_)
  refine wnil ?_
  refine thenN ?_
  refine wseq ?_
  refine wreg ?_
  refine wl rfl (oload (vs := [.bool bA, .slice qA nA kA, .bool bB, .slice qB nB kB]) aggR hS 1 rfl rfl (ev rfl rfl) rfl rfl rfl ?_)
  obtain ⟨z1, hz1⟩ : ∃ z : Int, Hid (RN x y = z) := ⟨_, rfl⟩
  have hk1 : Wd z1 16777216 := Wd.rn hzA.wd hz1
  obtain ⟨z2, hz2⟩ : ∃ z : Int, Hid (RD x y = z) := ⟨_, rfl⟩
  have hk2 : Wd z2 16777216 := Wd.rd hzB.wd hz2
  refine wl rfl (ocall rfl rfl Try.call37 rfl ((wsnorm ((hzA.at hS).mono (by omega)) ((hzB.at hS).mono (by omega)) (hy) hz1 hz2)) (args1 (ev rfl rfl)) ?_)
  rintro _ w5 ⟨_, _, rfl, ⟨p1, n1, c1, p2, n2, c2, rfl, rfl⟩, hN⟩
  refine ⟨_, rfl, ?_⟩
  replace hS := hS.news hN; clear hN
  refine wl rfl (ostore [.bool (ng z1), .slice p1 n1 c1, .bool (ng z2), .slice p2 n2 c2] [.bool (ng z1), .slice p1 n1 c1, .bool (ng z2), .slice p2 n2 c2] Try.sizeOf27 hS 3 rfl rfl (ev rfl rfl) (ev (v := .agg #[.bool (ng z1), .slice p1 n1 c1, .bool (ng z2), .slice p2 n2 c2]) rfl rfl) rfl rfl rfl rfl rfl rfl ?_)
  clear hS; intro w6 hS
  refine wnil ?_
  refine thenN ?_
  refine wseq ?_
  refine wseq ?_
  refine wreg ?_
  refine wl rfl (omove (v := .int .i64 (-9223372036854775808)) rfl rfl (ev (v := .int .i64 (-9223372036854775808)) rfl rfl) ?_)
  refine wl rfl (obin (u := .int .i64 (-9223372036854775808)) (v := .int .i64 0) (z := .bool true) rfl rfl (ev (v := .int .i64 (-9223372036854775808)) rfl rfl) (evc (v := .int .i64 0)) (bin_lss (by decide)) ?_)
  refine wnil ?_
  refine thenN ?_
  refine wT (ev (v := .bool true) rfl rfl) ?_
  refine wseq ?_
  refine wreg ?_
  refine wl rfl (oload (vs := [.bool (ng z1), .slice p1 n1 c1, .bool (ng z2), .slice p2 n2 c2]) aggR hS 3 rfl rfl (ev rfl rfl) rfl rfl rfl ?_)
  obtain ⟨z3, hz3⟩ : ∃ z : Int, Hid (RN z2 z1 = z) := ⟨_, rfl⟩
  have hk3 : Wd z3 16777216 := Wd.rn hk2 hz3
  obtain ⟨z4, hz4⟩ : ∃ z : Int, Hid (RD z2 z1 = z) := ⟨_, rfl⟩
  have hk4 : Wd z4 16777216 := Wd.rd hk1 hz4
  refine wl rfl (ocall rfl rfl Try.call14 rfl (wsinv ((hS.slm 0 rfl).zr hk1) ((hS.slm 1 rfl).zr hk2) (by rw [← hz1.out]; exact fun e => hx ((RN_zero hy).1 e)) hz3 hz4) (args1 (ev rfl rfl)) ?_)
  rintro _ w7 ⟨_, _, rfl, ⟨p3, n3, c3, p4, n4, c4, rfl, rfl⟩, hN⟩
  refine ⟨_, rfl, ?_⟩
  replace hS := hS.news hN; clear hN
  refine wl rfl (ostore [.bool (ng z3), .slice p3 n3 c3, .bool (ng z4), .slice p4 n4 c4] [.bool (ng z3), .slice p3 n3 c3, .bool (ng z4), .slice p4 n4 c4] Try.sizeOf27 hS 5 rfl rfl (ev rfl rfl) (ev (v := .agg #[.bool (ng z3), .slice p3 n3 c3, .bool (ng z4), .slice p4 n4 c4]) rfl rfl) rfl rfl rfl rfl rfl rfl ?_)
  clear hS; intro w8 hS
  refine wnil ?_
  refine thenN ?_
  refine wseq ?_
  refine wseq ?_
  refine wreg ?_
  refine wl rfl (omove (v := .int .i64 (-9223372036854775808)) rfl rfl (ev (v := .int .i64 (-9223372036854775808)) rfl rfl) ?_)
  refine wl rfl (omove (v := .int .i64 (-9223372036854775808)) rfl rfl (ev (v := .int .i64 (-9223372036854775808)) rfl rfl) ?_)
  refine wl rfl (oneg (k := .i64) (c := -9223372036854775808) rfl rfl (ev (v := .int .i64 (-9223372036854775808)) rfl rfl) (by decide) ?_)
  refine wl rfl (obin (u := .int .i64 (-9223372036854775808)) (v := .int .i64 (-9223372036854775808)) (z := .bool true) rfl rfl (ev (v := .int .i64 (-9223372036854775808)) rfl rfl) (ev (v := .int .i64 (-9223372036854775808)) rfl rfl) (bin_eql (by decide)) ?_)
  refine wnil ?_
  refine thenN ?_
  refine wT (ev (v := .bool true) rfl rfl) ?_
  refine wseq ?_
  refine wreg ?_
  refine wl rfl (oload (vs := [.bool (ng z3), .slice p3 n3 c3, .bool (ng z4), .slice p4 n4 c4]) aggR hS 5 rfl rfl (ev rfl rfl) rfl rfl rfl ?_)
  have hk5 : Wd 1 2 := Wd.i64 (by omega) (by omega)
  have hk6 : Wd 1 2 := Wd.i64 (by omega) (by omega)
  refine wl rfl (ocall rfl rfl Try.call87 rfl (wsone (x := z3) (y := z4) (hS.slm 0 rfl) (hS.slm 1 rfl) (hk3.mono (by omega)) (hk4.mono (by omega)) ((by rw [← hz3.out, ← hz2.out, ← hz1.out]; exact h1)) ((by rw [← hz4.out, ← hz2.out, ← hz1.out]; exact h2))) (args1 (ev rfl rfl)) ?_)
  rintro _ w9 ⟨_, _, rfl, ⟨p5, n5, c5, p6, n6, c6, rfl, rfl⟩, hN⟩
  refine ⟨_, rfl, ?_⟩
  replace hS := hS.news hN; clear hN
  refine wl rfl (oextract (vs := [.agg #[.bool (ng 1), .slice p5 n5 c5, .bool (ng 1), .slice p6 n6 c6], .bool true]) (v := .agg #[.bool (ng 1), .slice p5 n5 c5, .bool (ng 1), .slice p6 n6 c6]) rfl rfl (ev (v := .tuple #[.agg #[.bool (ng 1), .slice p5 n5 c5, .bool (ng 1), .slice p6 n6 c6], .bool true]) rfl rfl) rfl ?_)
  refine wl rfl (oextract (vs := [.agg #[.bool (ng 1), .slice p5 n5 c5, .bool (ng 1), .slice p6 n6 c6], .bool true]) (v := .bool true) rfl rfl (ev (v := .tuple #[.agg #[.bool (ng 1), .slice p5 n5 c5, .bool (ng 1), .slice p6 n6 c6], .bool true]) rfl rfl) rfl ?_)
  refine wl rfl (ostore [.bool (ng 1), .slice p5 n5 c5, .bool (ng 1), .slice p6 n6 c6] [.bool (ng 1), .slice p5 n5 c5, .bool (ng 1), .slice p6 n6 c6] Try.sizeOf27 hS 6 rfl rfl (ev rfl rfl) (ev (v := .agg #[.bool (ng 1), .slice p5 n5 c5, .bool (ng 1), .slice p6 n6 c6]) rfl rfl) rfl rfl rfl rfl rfl rfl ?_)
  clear hS; intro w10 hS
  refine wl rfl (oassign (v := .bool true) rfl rfl (ev (v := .bool true) rfl rfl) ?_)
  refine wnil ?_
  refine thenN ?_
  refine wleave ?_
  refine thenR ?_
  refine thenR ?_
  refine wret2 Try.results41 (tellC (cs := [.bool (ng 1), .slice p5 n5 c5, .bool (ng 1), .slice p6 n6 c6]) aggR hS 6 rfl rfl rfl rfl) (tellT (v := .bool true) rfl rfl) ?_
  exact ⟨_, _, rfl, ⟨_, _, _, _, _, _, rfl, rfl⟩, hS.newM [0, 1] (by decide) rfl rfl⟩

set_option maxRecDepth 100000 in
set_option maxHeartbeats 16000000 in
theorem wqrpow_mA {x y : Int}  {bA bB : Bool} {qA qB : Option Addr} {nA kA nB kB : Nat} {w : World} (hzA : Zr w bA qA nA kA x 16777216) (hzB : Zr w bB qB nB kB y 16777216) (hy : y ≠ 0) (hx : x ≠ 0) (h1 : blen (RN (RD x y) (RN x y)).natAbs ≠ 1) :
    Calls Try.prog 41 #[.agg #[.bool bA, .slice qA nA kA, .bool bB, .slice qB nB kB], .int .i64 (-9223372036854775808)] w (Ret (Is (.tuple #[.agg #[.bool false, .slice none 0 0, .bool false, .slice none 0 0], .bool false])) w) := by
  have hS := Sep.init w
  refine went Try.func41 rfl (n := 50) rfl rfl ?_
  refine wseq ?_
  refine wreg ?_
  refine wl rfl (obox [.bool bA, .slice qA nA kA, .bool bB, .slice qB nB kB] hS rfl rfl (ev (v := .agg #[.bool bA, .slice qA nA kA, .bool bB, .slice qB nB kB]) rfl rfl) rfl ?_)
  clear hS; intro g1 w2 hS
  refine wl rfl (oalloc [.bool false, .slice none 0 0, .bool false, .slice none 0 0] hS rfl rfl Try.zeroValue27 rfl ?_)
  clear hS; intro g3 w4 hS
  refine wl rfl (oassign (v := .bool false) rfl rfl (evc (v := .bool false)) ?_)
  refine wnil ?_
  refine thenN ?_
  refine wseq ?_
  refine wreg ?_
  refine wl rfl (oload (vs := [.bool bA, .slice qA nA kA, .bool bB, .slice qB nB kB]) aggR hS 1 rfl rfl (ev rfl rfl) rfl rfl rfl ?_)
  obtain ⟨z1, hz1⟩ : ∃ z : Int, Hid (RN x y = z) := ⟨_, rfl⟩
  have hk1 : Wd z1 16777216 := Wd.rn hzA.wd hz1
  obtain ⟨z2, hz2⟩ : ∃ z : Int, Hid (RD x y = z) := ⟨_, rfl⟩
  have hk2 : Wd z2 16777216 := Wd.rd hzB.wd hz2
  refine wl rfl (ocall rfl rfl Try.call37 rfl ((wsnorm ((hzA.at hS).mono (by omega)) ((hzB.at hS).mono (by omega)) (hy) hz1 hz2)) (args1 (ev rfl rfl)) ?_)
  rintro _ w5 ⟨_, _, rfl, ⟨p1, n1, c1, p2, n2, c2, rfl, rfl⟩, hN⟩
  refine ⟨_, rfl, ?_⟩
  replace hS := hS.news hN; clear hN
  refine wl rfl (ostore [.bool (ng z1), .slice p1 n1 c1, .bool (ng z2), .slice p2 n2 c2] [.bool (ng z1), .slice p1 n1 c1, .bool (ng z2), .slice p2 n2 c2] Try.sizeOf27 hS 3 rfl rfl (ev rfl rfl) (ev (v := .agg #[.bool (ng z1), .slice p1 n1 c1, .bool (ng z2), .slice p2 n2 c2]) rfl rfl) rfl rfl rfl rfl rfl rfl ?_)
  clear hS; intro w6 hS
  refine wnil ?_
  refine thenN ?_
  refine wseq ?_
  refine wseq ?_
  refine wreg ?_
  refine wl rfl (omove (v := .int .i64 (-9223372036854775808)) rfl rfl (ev (v := .int .i64 (-9223372036854775808)) rfl rfl) ?_)
  refine wl rfl (obin (u := .int .i64 (-9223372036854775808)) (v := .int .i64 0) (z := .bool true) rfl rfl (ev (v := .int .i64 (-9223372036854775808)) rfl rfl) (evc (v := .int .i64 0)) (bin_lss (by decide)) ?_)
  refine wnil ?_
  refine thenN ?_
  refine wT (ev (v := .bool true) rfl rfl) ?_
  refine wseq ?_
  refine wreg ?_
  refine wl rfl (oload (vs := [.bool (ng z1), .slice p1 n1 c1, .bool (ng z2), .slice p2 n2 c2]) aggR hS 3 rfl rfl (ev rfl rfl) rfl rfl rfl ?_)
  obtain ⟨z3, hz3⟩ : ∃ z : Int, Hid (RN z2 z1 = z) := ⟨_, rfl⟩
  have hk3 : Wd z3 16777216 := Wd.rn hk2 hz3
  obtain ⟨z4, hz4⟩ : ∃ z : Int, Hid (RD z2 z1 = z) := ⟨_, rfl⟩
  have hk4 : Wd z4 16777216 := Wd.rd hk1 hz4
  refine wl rfl (ocall rfl rfl Try.call14 rfl (wsinv ((hS.slm 0 rfl).zr hk1) ((hS.slm 1 rfl).zr hk2) (by rw [← hz1.out]; exact fun e => hx ((RN_zero hy).1 e)) hz3 hz4) (args1 (ev rfl rfl)) ?_)
  rintro _ w7 ⟨_, _, rfl, ⟨p3, n3, c3, p4, n4, c4, rfl, rfl⟩, hN⟩
  refine ⟨_, rfl, ?_⟩
  replace hS := hS.news hN; clear hN
  refine wl rfl (ostore [.bool (ng z3), .slice p3 n3 c3, .bool (ng z4), .slice p4 n4 c4] [.bool (ng z3), .slice p3 n3 c3, .bool (ng z4), .slice p4 n4 c4] Try.sizeOf27 hS 5 rfl rfl (ev rfl rfl) (ev (v := .agg #[.bool (ng z3), .slice p3 n3 c3, .bool (ng z4), .slice p4 n4 c4]) rfl rfl) rfl rfl rfl rfl rfl rfl ?_)
  clear hS; intro w8 hS
  refine wnil ?_
  refine thenN ?_
  refine wseq ?_
  refine wseq ?_
  refine wreg ?_
  refine wl rfl (omove (v := .int .i64 (-9223372036854775808)) rfl rfl (ev (v := .int .i64 (-9223372036854775808)) rfl rfl) ?_)
  refine wl rfl (omove (v := .int .i64 (-9223372036854775808)) rfl rfl (ev (v := .int .i64 (-9223372036854775808)) rfl rfl) ?_)
  refine wl rfl (oneg (k := .i64) (c := -9223372036854775808) rfl rfl (ev (v := .int .i64 (-9223372036854775808)) rfl rfl) (by decide) ?_)
  refine wl rfl (obin (u := .int .i64 (-9223372036854775808)) (v := .int .i64 (-9223372036854775808)) (z := .bool true) rfl rfl (ev (v := .int .i64 (-9223372036854775808)) rfl rfl) (ev (v := .int .i64 (-9223372036854775808)) rfl rfl) (bin_eql (by decide)) ?_)
  refine wnil ?_
  refine thenN ?_
  refine wT (ev (v := .bool true) rfl rfl) ?_
  refine wseq ?_
  refine wreg ?_
  refine wl rfl (oload (vs := [.bool (ng z3), .slice p3 n3 c3, .bool (ng z4), .slice p4 n4 c4]) aggR hS 5 rfl rfl (ev rfl rfl) rfl rfl rfl ?_)
  refine wl rfl (ocall rfl rfl Try.call87 rfl (wsoneA (x := z3) (y := z4) (hS.slm 0 rfl) (hS.slm 1 rfl) (hk3.mono (by omega)) (hk4.mono (by omega)) ((by rw [← hz3.out, ← hz2.out, ← hz1.out]; exact h1))) (args1 (ev rfl rfl)) ?_)
  rintro _ w9 ⟨_, _, rfl, ⟨rfl, rfl⟩, hN⟩
  refine ⟨_, rfl, ?_⟩
  replace hS := hS.news hN; clear hN
  refine wl rfl (oextract (vs := [.agg #[.bool false, .slice none 0 0, .bool false, .slice none 0 0], .bool false]) (v := .agg #[.bool false, .slice none 0 0, .bool false, .slice none 0 0]) rfl rfl (ev (v := .tuple #[.agg #[.bool false, .slice none 0 0, .bool false, .slice none 0 0], .bool false]) rfl rfl) rfl ?_)
  refine wl rfl (oextract (vs := [.agg #[.bool false, .slice none 0 0, .bool false, .slice none 0 0], .bool false]) (v := .bool false) rfl rfl (ev (v := .tuple #[.agg #[.bool false, .slice none 0 0, .bool false, .slice none 0 0], .bool false]) rfl rfl) rfl ?_)
  refine wl rfl (ostore [.bool false, .slice none 0 0, .bool false, .slice none 0 0] [.bool false, .slice none 0 0, .bool false, .slice none 0 0] Try.sizeOf27 hS 4 rfl rfl (ev rfl rfl) (ev (v := .agg #[.bool false, .slice none 0 0, .bool false, .slice none 0 0]) rfl rfl) rfl rfl rfl rfl rfl rfl ?_)
  clear hS; intro w10 hS
  refine wl rfl (oassign (v := .bool false) rfl rfl (ev (v := .bool false) rfl rfl) ?_)
  refine wnil ?_
  refine thenN ?_
  refine wleave ?_
  refine thenR ?_
  refine thenR ?_
  refine wret2 Try.results41 (tellC (cs := [.bool false, .slice none 0 0, .bool false, .slice none 0 0]) aggR hS 4 rfl rfl rfl rfl) (tellT (v := .bool false) rfl rfl) ?_
  exact ⟨_, _, rfl, isI, hS.new0⟩

set_option maxRecDepth 100000 in
set_option maxHeartbeats 16000000 in
theorem wqrpow_mB {x y : Int}  {bA bB : Bool} {qA qB : Option Addr} {nA kA nB kB : Nat} {w : World} (hzA : Zr w bA qA nA kA x 16777216) (hzB : Zr w bB qB nB kB y 16777216) (hy : y ≠ 0) (hx : x ≠ 0) (h1 : blen (RN (RD x y) (RN x y)).natAbs = 1) (h2 : blen (RD (RD x y) (RN x y)).natAbs ≠ 1) :
    Calls Try.prog 41 #[.agg #[.bool bA, .slice qA nA kA, .bool bB, .slice qB nB kB], .int .i64 (-9223372036854775808)] w (Ret (Is (.tuple #[.agg #[.bool false, .slice none 0 0, .bool false, .slice none 0 0], .bool false])) w) := by
  have hS := Sep.init w
  refine went Try.func41 rfl (n := 50) rfl rfl ?_
  refine wseq ?_
  refine wreg ?_
  refine wl rfl (obox [.bool bA, .slice qA nA kA, .bool bB, .slice qB nB kB] hS rfl rfl (ev (v := .agg #[.bool bA, .slice qA nA kA, .bool bB, .slice qB nB kB]) rfl rfl) rfl ?_)
  clear hS; intro g1 w2 hS
  refine wl rfl (oalloc [.bool false, .slice none 0 0, .bool false, .slice none 0 0] hS rfl rfl Try.zeroValue27 rfl ?_)
  clear hS; intro g3 w4 hS
  refine wl rfl (oassign (v := .bool false) rfl rfl (evc (v := .bool false)) ?_)
  refine wnil ?_
  refine thenN ?_
  refine wseq ?_
  refine wreg ?_
  refine wl rfl (oload (vs := [.bool bA, .slice qA nA kA, .bool bB, .slice qB nB kB]) aggR hS 1 rfl rfl (ev rfl rfl) rfl rfl rfl ?_)
  obtain ⟨z1, hz1⟩ : ∃ z : Int, Hid (RN x y = z) := ⟨_, rfl⟩
  have hk1 : Wd z1 16777216 := Wd.rn hzA.wd hz1
  obtain ⟨z2, hz2⟩ : ∃ z : Int, Hid (RD x y = z) := ⟨_, rfl⟩
  have hk2 : Wd z2 16777216 := Wd.rd hzB.wd hz2
  refine wl rfl (ocall rfl rfl Try.call37 rfl ((wsnorm ((hzA.at hS).mono (by omega)) ((hzB.at hS).mono (by omega)) (hy) hz1 hz2)) (args1 (ev rfl rfl)) ?_)
  rintro _ w5 ⟨_, _, rfl, ⟨p1, n1, c1, p2, n2, c2, rfl, rfl⟩, hN⟩
  refine ⟨_, rfl, ?_⟩
  replace hS := hS.news hN; clear hN
  refine wl rfl (ostore [.bool (ng z1), .slice p1 n1 c1, .bool (ng z2), .slice p2 n2 c2] [.bool (ng z1), .slice p1 n1 c1, .bool (ng z2), .slice p2 n2 c2] Try.sizeOf27 hS 3 rfl rfl (ev rfl rfl) (ev (v := .agg #[.bool (ng z1), .slice p1 n1 c1, .bool (ng z2), .slice p2 n2 c2]) rfl rfl) rfl rfl rfl rfl rfl rfl ?_)
  clear hS; intro w6 hS
  refine wnil ?_
  refine thenN ?_
  refine wseq ?_
  refine wseq ?_
  refine wreg ?_
  refine wl rfl (omove (v := .int .i64 (-9223372036854775808)) rfl rfl (ev (v := .int .i64 (-9223372036854775808)) rfl rfl) ?_)
  refine wl rfl (obin (u := .int .i64 (-9223372036854775808)) (v := .int .i64 0) (z := .bool true) rfl rfl (ev (v := .int .i64 (-9223372036854775808)) rfl rfl) (evc (v := .int .i64 0)) (bin_lss (by decide)) ?_)
  refine wnil ?_
  refine thenN ?_
  refine wT (ev (v := .bool true) rfl rfl) ?_
  refine wseq ?_
  refine wreg ?_
  refine wl rfl (oload (vs := [.bool (ng z1), .slice p1 n1 c1, .bool (ng z2), .slice p2 n2 c2]) aggR hS 3 rfl rfl (ev rfl rfl) rfl rfl rfl ?_)
  obtain ⟨z3, hz3⟩ : ∃ z : Int, Hid (RN z2 z1 = z) := ⟨_, rfl⟩
  have hk3 : Wd z3 16777216 := Wd.rn hk2 hz3
  obtain ⟨z4, hz4⟩ : ∃ z : Int, Hid (RD z2 z1 = z) := ⟨_, rfl⟩
  have hk4 : Wd z4 16777216 := Wd.rd hk1 hz4
  refine wl rfl (ocall rfl rfl Try.call14 rfl (wsinv ((hS.slm 0 rfl).zr hk1) ((hS.slm 1 rfl).zr hk2) (by rw [← hz1.out]; exact fun e => hx ((RN_zero hy).1 e)) hz3 hz4) (args1 (ev rfl rfl)) ?_)
  rintro _ w7 ⟨_, _, rfl, ⟨p3, n3, c3, p4, n4, c4, rfl, rfl⟩, hN⟩
  refine ⟨_, rfl, ?_⟩
  replace hS := hS.news hN; clear hN
  refine wl rfl (ostore [.bool (ng z3), .slice p3 n3 c3, .bool (ng z4), .slice p4 n4 c4] [.bool (ng z3), .slice p3 n3 c3, .bool (ng z4), .slice p4 n4 c4] Try.sizeOf27 hS 5 rfl rfl (ev rfl rfl) (ev (v := .agg #[.bool (ng z3), .slice p3 n3 c3, .bool (ng z4), .slice p4 n4 c4]) rfl rfl) rfl rfl rfl rfl rfl rfl ?_)
  clear hS; intro w8 hS
  refine wnil ?_
  refine thenN ?_
  refine wseq ?_
  refine wseq ?_
  refine wreg ?_
  refine wl rfl (omove (v := .int .i64 (-9223372036854775808)) rfl rfl (ev (v := .int .i64 (-9223372036854775808)) rfl rfl) ?_)
  refine wl rfl (omove (v := .int .i64 (-9223372036854775808)) rfl rfl (ev (v := .int .i64 (-9223372036854775808)) rfl rfl) ?_)
  refine wl rfl (oneg (k := .i64) (c := -9223372036854775808) rfl rfl (ev (v := .int .i64 (-9223372036854775808)) rfl rfl) (by decide) ?_)
  refine wl rfl (obin (u := .int .i64 (-9223372036854775808)) (v := .int .i64 (-9223372036854775808)) (z := .bool true) rfl rfl (ev (v := .int .i64 (-9223372036854775808)) rfl rfl) (ev (v := .int .i64 (-9223372036854775808)) rfl rfl) (bin_eql (by decide)) ?_)
  refine wnil ?_
  refine thenN ?_
  refine wT (ev (v := .bool true) rfl rfl) ?_
  refine wseq ?_
  refine wreg ?_
  refine wl rfl (oload (vs := [.bool (ng z3), .slice p3 n3 c3, .bool (ng z4), .slice p4 n4 c4]) aggR hS 5 rfl rfl (ev rfl rfl) rfl rfl rfl ?_)
  refine wl rfl (ocall rfl rfl Try.call87 rfl (wsoneB (x := z3) (y := z4) (hS.slm 0 rfl) (hS.slm 1 rfl) (hk3.mono (by omega)) (hk4.mono (by omega)) ((by rw [← hz3.out, ← hz2.out, ← hz1.out]; exact h1)) ((by rw [← hz4.out, ← hz2.out, ← hz1.out]; exact h2))) (args1 (ev rfl rfl)) ?_)
  rintro _ w9 ⟨_, _, rfl, ⟨rfl, rfl⟩, hN⟩
  refine ⟨_, rfl, ?_⟩
  replace hS := hS.news hN; clear hN
  refine wl rfl (oextract (vs := [.agg #[.bool false, .slice none 0 0, .bool false, .slice none 0 0], .bool false]) (v := .agg #[.bool false, .slice none 0 0, .bool false, .slice none 0 0]) rfl rfl (ev (v := .tuple #[.agg #[.bool false, .slice none 0 0, .bool false, .slice none 0 0], .bool false]) rfl rfl) rfl ?_)
  refine wl rfl (oextract (vs := [.agg #[.bool false, .slice none 0 0, .bool false, .slice none 0 0], .bool false]) (v := .bool false) rfl rfl (ev (v := .tuple #[.agg #[.bool false, .slice none 0 0, .bool false, .slice none 0 0], .bool false]) rfl rfl) rfl ?_)
  refine wl rfl (ostore [.bool false, .slice none 0 0, .bool false, .slice none 0 0] [.bool false, .slice none 0 0, .bool false, .slice none 0 0] Try.sizeOf27 hS 4 rfl rfl (ev rfl rfl) (ev (v := .agg #[.bool false, .slice none 0 0, .bool false, .slice none 0 0]) rfl rfl) rfl rfl rfl rfl rfl rfl ?_)
  clear hS; intro w10 hS
  refine wl rfl (oassign (v := .bool false) rfl rfl (ev (v := .bool false) rfl rfl) ?_)
  refine wnil ?_
  refine thenN ?_
  refine wleave ?_
  refine thenR ?_
  refine thenR ?_
  refine wret2 Try.results41 (tellC (cs := [.bool false, .slice none 0 0, .bool false, .slice none 0 0]) aggR hS 4 rfl rfl rfl rfl) (tellT (v := .bool false) rfl rfl) ?_
  exact ⟨_, _, rfl, isI, hS.new0⟩

end Go.Proofs.Ytoinfkimlhhmpaa
