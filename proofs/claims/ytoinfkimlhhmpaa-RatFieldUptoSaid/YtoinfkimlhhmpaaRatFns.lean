
/-
  rat's functions and the document's, as contracts.
-/
import Derived.Test.YtoinfkimlhhmpaaRatOps
import Derived.Test.YtoinfkimlhhmpaaZDiv
set_option linter.unusedVariables false
set_option linter.unusedSimpArgs false
namespace Go.Proofs.Ytoinfkimlhhmpaa
open Go.RowKit

/-- The order of two fractions. -/
def cmpQ (x y u v : Int) : Int := ((x * v - u * y) * (y * v)).sign
theorem inv_low {x y : Int} : RN (1 * y) (1 * x) = RN y x ∧ RD (1 * y) (1 * x) = RD y x := by rw [Int.one_mul, Int.one_mul]; exact ⟨rfl, rfl⟩
theorem sgn_wrap {x y s : Int} (h : Hid (x.sign * y.sign = s)) {a b : Int} (ha : Hid (x.sign = a)) (hb : Hid (y.sign = b)) : IntKind.i64.wrap (a * b) = s := by
  rw [← ha.out, ← hb.out, h.out]
  have h1 : x.sign * y.sign = (x * y).sign := (Int.sign_mul x y).symm
  have h2 : (x * y).sign = 1 ∨ (x * y).sign = 0 ∨ (x * y).sign = -1 := by
    rcases Int.lt_trichotomy (x * y) 0 with h | h | h
    · exact .inr (.inr (Int.sign_eq_neg_one_of_neg h))
    · rw [h]; exact .inr (.inl rfl)
    · exact .inl (Int.sign_eq_one_of_pos h)
  have h3 := h.out
  rw [h1] at h3
  exact wrap_i64 (by omega) (by omega)

set_option maxRecDepth 100000 in
set_option maxHeartbeats 16000000 in
theorem wradd {x y u v z t : Int} {bA bB bC bD : Bool} {qA qB qC qD : Option Addr} {nA kA nB kB nC kC nD kD : Nat} {w : World} (hzA : Zr w bA qA nA kA x 16777216) (hzB : Zr w bB qB nB kB y 16777216) (hzC : Zr w bC qC nC kC u 16777216) (hzD : Zr w bD qD nD kD v 16777216) (hy : y ≠ 0) (hv : v ≠ 0) (hz : Hid (RN (x * v + u * y) (y * v) = z)) (ht : Hid (RD (x * v + u * y) (y * v) = t)) :
    Calls Try.prog 29 #[.agg #[.bool bA, .slice qA nA kA, .bool bB, .slice qB nB kB], .agg #[.bool bC, .slice qC nC kC, .bool bD, .slice qD nD kD]] w (Ret (RRt z t 0) w) := by
  have hS := Sep.init w
  refine went Try.func29 rfl (n := 12) rfl rfl ?_
  refine wseq ?_
  refine wreg ?_
  refine wl rfl (obox [.bool bA, .slice qA nA kA, .bool bB, .slice qB nB kB] hS rfl rfl (ev (v := .agg #[.bool bA, .slice qA nA kA, .bool bB, .slice qB nB kB]) rfl rfl) rfl ?_)
  clear hS; intro g1 w2 hS
  refine wl rfl (obox [.bool bC, .slice qC nC kC, .bool bD, .slice qD nD kD] hS rfl rfl (ev (v := .agg #[.bool bC, .slice qC nC kC, .bool bD, .slice qD nD kD]) rfl rfl) rfl ?_)
  clear hS; intro g3 w4 hS
  refine wl rfl (oalloc [.bool false, .slice none 0 0, .bool false, .slice none 0 0] hS rfl rfl Try.zeroValue27 rfl ?_)
  clear hS; intro g5 w6 hS
  refine wl rfl (oassign (v := .int .i64 0) rfl rfl (evc (v := .int .i64 0)) ?_)
  refine wnil ?_
  refine thenN ?_
  refine wseq ?_
  refine wreg ?_
  refine wl rfl (oload (vs := [.bool bA, .slice qA nA kA, .bool bB, .slice qB nB kB]) aggR hS 2 rfl rfl (ev rfl rfl) rfl rfl rfl ?_)
  refine wl rfl (oload (vs := [.bool bC, .slice qC nC kC, .bool bD, .slice qD nD kD]) aggR hS 1 rfl rfl (ev rfl rfl) rfl rfl rfl ?_)
  refine wl rfl (obslice (ps := #[(0, .agg #[.bool bA, .slice qA nA kA, .bool bB, .slice qB nB kB]), (1, .agg #[.bool bC, .slice qC nC kC, .bool bD, .slice qD nD kD])]) (z := .agg #[.bool false, .slice none 0 0, .bool false, .slice none 0 0]) [.bool bA, .slice qA nA kA, .bool bB, .slice qB nB kB, .bool bC, .slice qC nC kC, .bool bD, .slice qD nD kD] hS rfl rfl Try.runUnderlying38 Try.sizeOf27 Try.zeroValue27 (parts2 (ev (v := .agg #[.bool bA, .slice qA nA kA, .bool bB, .slice qB nB kB]) rfl rfl) (ev (v := .agg #[.bool bC, .slice qC nC kC, .bool bD, .slice qD nD kD]) rfl rfl)) rfl (by decide) fill4_2 ?_)
  clear hS; intro g7 w8 hS
  refine wl rfl (ocall rfl rfl Try.call53 rfl (wmR (z := z) (t := t) (E := 0) Try.call76 (Rs.two (hS.blkAt 0 rfl) (hzA.at hS) (hzB.at hS) (hzC.at hS) (hzD.at hS)) (by omega) (by intro e he; simp only [List.mem_cons, List.not_mem_nil, or_false] at he; rcases he with rfl | rfl <;> assumption) (fun w1 p c h => wradd1 h (Int.ne_of_gt (RD_pos (x := x) hy)) (Int.ne_of_gt (RD_pos (x := u) hv)) (show Hid (_ = _) from (low_add hy hv).1.trans hz.out) (show Hid (_ = _) from (low_add hy hv).2.trans ht.out))) (args2 rfl (ev rfl rfl)) ?_)
  rintro _ w9 ⟨_, _, rfl, ⟨pr1, nr1, cr1, pr2, nr2, cr2, rfl, rfl⟩, hN⟩
  refine ⟨_, rfl, ?_⟩
  replace hS := hS.news hN; clear hN
  refine wl rfl (oextract (vs := [.agg #[.bool (ng z), .slice pr1 nr1 cr1, .bool (ng t), .slice pr2 nr2 cr2], .int .i64 0]) (v := .agg #[.bool (ng z), .slice pr1 nr1 cr1, .bool (ng t), .slice pr2 nr2 cr2]) rfl rfl (ev (v := .tuple #[.agg #[.bool (ng z), .slice pr1 nr1 cr1, .bool (ng t), .slice pr2 nr2 cr2], .int .i64 0]) rfl rfl) rfl ?_)
  refine wl rfl (oextract (vs := [.agg #[.bool (ng z), .slice pr1 nr1 cr1, .bool (ng t), .slice pr2 nr2 cr2], .int .i64 0]) (v := .int .i64 0) rfl rfl (ev (v := .tuple #[.agg #[.bool (ng z), .slice pr1 nr1 cr1, .bool (ng t), .slice pr2 nr2 cr2], .int .i64 0]) rfl rfl) rfl ?_)
  refine wl rfl (ostore [.bool (ng z), .slice pr1 nr1 cr1, .bool (ng t), .slice pr2 nr2 cr2] [.bool (ng z), .slice pr1 nr1 cr1, .bool (ng t), .slice pr2 nr2 cr2] Try.sizeOf27 hS 3 rfl rfl (ev rfl rfl) (ev (v := .agg #[.bool (ng z), .slice pr1 nr1 cr1, .bool (ng t), .slice pr2 nr2 cr2]) rfl rfl) rfl rfl rfl rfl rfl rfl ?_)
  clear hS; intro w10 hS
  refine wl rfl (oassign (v := .int .i64 0) rfl rfl (ev (v := .int .i64 0) rfl rfl) ?_)
  refine wnil ?_
  refine thenN ?_
  refine wleave ?_
  refine wret2 Try.results29 (tellC (cs := [.bool (ng z), .slice pr1 nr1 cr1, .bool (ng t), .slice pr2 nr2 cr2]) aggR hS 3 rfl rfl rfl rfl) (tellT (v := .int .i64 0) rfl rfl) ?_
  exact ⟨_, _, rfl, ⟨_, _, _, _, _, _, rfl, rfl⟩, hS.newM [0, 1] (by decide) rfl rfl⟩

set_option maxRecDepth 100000 in
set_option maxHeartbeats 16000000 in
theorem wrsub {x y u v z t : Int} {bA bB bC bD : Bool} {qA qB qC qD : Option Addr} {nA kA nB kB nC kC nD kD : Nat} {w : World} (hzA : Zr w bA qA nA kA x 16777216) (hzB : Zr w bB qB nB kB y 16777216) (hzC : Zr w bC qC nC kC u 16777216) (hzD : Zr w bD qD nD kD v 16777216) (hy : y ≠ 0) (hv : v ≠ 0) (hz : Hid (RN (x * v - u * y) (y * v) = z)) (ht : Hid (RD (x * v - u * y) (y * v) = t)) :
    Calls Try.prog 30 #[.agg #[.bool bA, .slice qA nA kA, .bool bB, .slice qB nB kB], .agg #[.bool bC, .slice qC nC kC, .bool bD, .slice qD nD kD]] w (Ret (RRt z t 0) w) := by
  have hS := Sep.init w
  refine went Try.func30 rfl (n := 12) rfl rfl ?_
  refine wseq ?_
  refine wreg ?_
  refine wl rfl (obox [.bool bA, .slice qA nA kA, .bool bB, .slice qB nB kB] hS rfl rfl (ev (v := .agg #[.bool bA, .slice qA nA kA, .bool bB, .slice qB nB kB]) rfl rfl) rfl ?_)
  clear hS; intro g1 w2 hS
  refine wl rfl (obox [.bool bC, .slice qC nC kC, .bool bD, .slice qD nD kD] hS rfl rfl (ev (v := .agg #[.bool bC, .slice qC nC kC, .bool bD, .slice qD nD kD]) rfl rfl) rfl ?_)
  clear hS; intro g3 w4 hS
  refine wl rfl (oalloc [.bool false, .slice none 0 0, .bool false, .slice none 0 0] hS rfl rfl Try.zeroValue27 rfl ?_)
  clear hS; intro g5 w6 hS
  refine wl rfl (oassign (v := .int .i64 0) rfl rfl (evc (v := .int .i64 0)) ?_)
  refine wnil ?_
  refine thenN ?_
  refine wseq ?_
  refine wreg ?_
  refine wl rfl (oload (vs := [.bool bA, .slice qA nA kA, .bool bB, .slice qB nB kB]) aggR hS 2 rfl rfl (ev rfl rfl) rfl rfl rfl ?_)
  refine wl rfl (oload (vs := [.bool bC, .slice qC nC kC, .bool bD, .slice qD nD kD]) aggR hS 1 rfl rfl (ev rfl rfl) rfl rfl rfl ?_)
  refine wl rfl (obslice (ps := #[(0, .agg #[.bool bA, .slice qA nA kA, .bool bB, .slice qB nB kB]), (1, .agg #[.bool bC, .slice qC nC kC, .bool bD, .slice qD nD kD])]) (z := .agg #[.bool false, .slice none 0 0, .bool false, .slice none 0 0]) [.bool bA, .slice qA nA kA, .bool bB, .slice qB nB kB, .bool bC, .slice qC nC kC, .bool bD, .slice qD nD kD] hS rfl rfl Try.runUnderlying38 Try.sizeOf27 Try.zeroValue27 (parts2 (ev (v := .agg #[.bool bA, .slice qA nA kA, .bool bB, .slice qB nB kB]) rfl rfl) (ev (v := .agg #[.bool bC, .slice qC nC kC, .bool bD, .slice qD nD kD]) rfl rfl)) rfl (by decide) fill4_2 ?_)
  clear hS; intro g7 w8 hS
  refine wl rfl (ocall rfl rfl Try.call53 rfl (wmR (z := z) (t := t) (E := 0) Try.call78 (Rs.two (hS.blkAt 0 rfl) (hzA.at hS) (hzB.at hS) (hzC.at hS) (hzD.at hS)) (by omega) (by intro e he; simp only [List.mem_cons, List.not_mem_nil, or_false] at he; rcases he with rfl | rfl <;> assumption) (fun w1 p c h => wrsub1 h (Int.ne_of_gt (RD_pos (x := x) hy)) (Int.ne_of_gt (RD_pos (x := u) hv)) (show Hid (_ = _) from (low_sub hy hv).1.trans hz.out) (show Hid (_ = _) from (low_sub hy hv).2.trans ht.out))) (args2 rfl (ev rfl rfl)) ?_)
  rintro _ w9 ⟨_, _, rfl, ⟨pr1, nr1, cr1, pr2, nr2, cr2, rfl, rfl⟩, hN⟩
  refine ⟨_, rfl, ?_⟩
  replace hS := hS.news hN; clear hN
  refine wl rfl (oextract (vs := [.agg #[.bool (ng z), .slice pr1 nr1 cr1, .bool (ng t), .slice pr2 nr2 cr2], .int .i64 0]) (v := .agg #[.bool (ng z), .slice pr1 nr1 cr1, .bool (ng t), .slice pr2 nr2 cr2]) rfl rfl (ev (v := .tuple #[.agg #[.bool (ng z), .slice pr1 nr1 cr1, .bool (ng t), .slice pr2 nr2 cr2], .int .i64 0]) rfl rfl) rfl ?_)
  refine wl rfl (oextract (vs := [.agg #[.bool (ng z), .slice pr1 nr1 cr1, .bool (ng t), .slice pr2 nr2 cr2], .int .i64 0]) (v := .int .i64 0) rfl rfl (ev (v := .tuple #[.agg #[.bool (ng z), .slice pr1 nr1 cr1, .bool (ng t), .slice pr2 nr2 cr2], .int .i64 0]) rfl rfl) rfl ?_)
  refine wl rfl (ostore [.bool (ng z), .slice pr1 nr1 cr1, .bool (ng t), .slice pr2 nr2 cr2] [.bool (ng z), .slice pr1 nr1 cr1, .bool (ng t), .slice pr2 nr2 cr2] Try.sizeOf27 hS 3 rfl rfl (ev rfl rfl) (ev (v := .agg #[.bool (ng z), .slice pr1 nr1 cr1, .bool (ng t), .slice pr2 nr2 cr2]) rfl rfl) rfl rfl rfl rfl rfl rfl ?_)
  clear hS; intro w10 hS
  refine wl rfl (oassign (v := .int .i64 0) rfl rfl (ev (v := .int .i64 0) rfl rfl) ?_)
  refine wnil ?_
  refine thenN ?_
  refine wleave ?_
  refine wret2 Try.results30 (tellC (cs := [.bool (ng z), .slice pr1 nr1 cr1, .bool (ng t), .slice pr2 nr2 cr2]) aggR hS 3 rfl rfl rfl rfl) (tellT (v := .int .i64 0) rfl rfl) ?_
  exact ⟨_, _, rfl, ⟨_, _, _, _, _, _, rfl, rfl⟩, hS.newM [0, 1] (by decide) rfl rfl⟩

set_option maxRecDepth 100000 in
set_option maxHeartbeats 16000000 in
theorem wrmul {x y u v z t : Int} {bA bB bC bD : Bool} {qA qB qC qD : Option Addr} {nA kA nB kB nC kC nD kD : Nat} {w : World} (hzA : Zr w bA qA nA kA x 16777216) (hzB : Zr w bB qB nB kB y 16777216) (hzC : Zr w bC qC nC kC u 16777216) (hzD : Zr w bD qD nD kD v 16777216) (hy : y ≠ 0) (hv : v ≠ 0) (hz : Hid (RN (x * u) (y * v) = z)) (ht : Hid (RD (x * u) (y * v) = t)) :
    Calls Try.prog 31 #[.agg #[.bool bA, .slice qA nA kA, .bool bB, .slice qB nB kB], .agg #[.bool bC, .slice qC nC kC, .bool bD, .slice qD nD kD]] w (Ret (RRt z t 0) w) := by
  have hS := Sep.init w
  refine went Try.func31 rfl (n := 12) rfl rfl ?_
  refine wseq ?_
  refine wreg ?_
  refine wl rfl (obox [.bool bA, .slice qA nA kA, .bool bB, .slice qB nB kB] hS rfl rfl (ev (v := .agg #[.bool bA, .slice qA nA kA, .bool bB, .slice qB nB kB]) rfl rfl) rfl ?_)
  clear hS; intro g1 w2 hS
  refine wl rfl (obox [.bool bC, .slice qC nC kC, .bool bD, .slice qD nD kD] hS rfl rfl (ev (v := .agg #[.bool bC, .slice qC nC kC, .bool bD, .slice qD nD kD]) rfl rfl) rfl ?_)
  clear hS; intro g3 w4 hS
  refine wl rfl (oalloc [.bool false, .slice none 0 0, .bool false, .slice none 0 0] hS rfl rfl Try.zeroValue27 rfl ?_)
  clear hS; intro g5 w6 hS
  refine wl rfl (oassign (v := .int .i64 0) rfl rfl (evc (v := .int .i64 0)) ?_)
  refine wnil ?_
  refine thenN ?_
  refine wseq ?_
  refine wreg ?_
  refine wl rfl (oload (vs := [.bool bA, .slice qA nA kA, .bool bB, .slice qB nB kB]) aggR hS 2 rfl rfl (ev rfl rfl) rfl rfl rfl ?_)
  refine wl rfl (oload (vs := [.bool bC, .slice qC nC kC, .bool bD, .slice qD nD kD]) aggR hS 1 rfl rfl (ev rfl rfl) rfl rfl rfl ?_)
  refine wl rfl (obslice (ps := #[(0, .agg #[.bool bA, .slice qA nA kA, .bool bB, .slice qB nB kB]), (1, .agg #[.bool bC, .slice qC nC kC, .bool bD, .slice qD nD kD])]) (z := .agg #[.bool false, .slice none 0 0, .bool false, .slice none 0 0]) [.bool bA, .slice qA nA kA, .bool bB, .slice qB nB kB, .bool bC, .slice qC nC kC, .bool bD, .slice qD nD kD] hS rfl rfl Try.runUnderlying38 Try.sizeOf27 Try.zeroValue27 (parts2 (ev (v := .agg #[.bool bA, .slice qA nA kA, .bool bB, .slice qB nB kB]) rfl rfl) (ev (v := .agg #[.bool bC, .slice qC nC kC, .bool bD, .slice qD nD kD]) rfl rfl)) rfl (by decide) fill4_2 ?_)
  clear hS; intro g7 w8 hS
  refine wl rfl (ocall rfl rfl Try.call53 rfl (wmR (z := z) (t := t) (E := 0) Try.call80 (Rs.two (hS.blkAt 0 rfl) (hzA.at hS) (hzB.at hS) (hzC.at hS) (hzD.at hS)) (by omega) (by intro e he; simp only [List.mem_cons, List.not_mem_nil, or_false] at he; rcases he with rfl | rfl <;> assumption) (fun w1 p c h => wrmul1 h (Int.ne_of_gt (RD_pos (x := x) hy)) (Int.ne_of_gt (RD_pos (x := u) hv)) (show Hid (_ = _) from (low_mul hy hv).1.trans hz.out) (show Hid (_ = _) from (low_mul hy hv).2.trans ht.out))) (args2 rfl (ev rfl rfl)) ?_)
  rintro _ w9 ⟨_, _, rfl, ⟨pr1, nr1, cr1, pr2, nr2, cr2, rfl, rfl⟩, hN⟩
  refine ⟨_, rfl, ?_⟩
  replace hS := hS.news hN; clear hN
  refine wl rfl (oextract (vs := [.agg #[.bool (ng z), .slice pr1 nr1 cr1, .bool (ng t), .slice pr2 nr2 cr2], .int .i64 0]) (v := .agg #[.bool (ng z), .slice pr1 nr1 cr1, .bool (ng t), .slice pr2 nr2 cr2]) rfl rfl (ev (v := .tuple #[.agg #[.bool (ng z), .slice pr1 nr1 cr1, .bool (ng t), .slice pr2 nr2 cr2], .int .i64 0]) rfl rfl) rfl ?_)
  refine wl rfl (oextract (vs := [.agg #[.bool (ng z), .slice pr1 nr1 cr1, .bool (ng t), .slice pr2 nr2 cr2], .int .i64 0]) (v := .int .i64 0) rfl rfl (ev (v := .tuple #[.agg #[.bool (ng z), .slice pr1 nr1 cr1, .bool (ng t), .slice pr2 nr2 cr2], .int .i64 0]) rfl rfl) rfl ?_)
  refine wl rfl (ostore [.bool (ng z), .slice pr1 nr1 cr1, .bool (ng t), .slice pr2 nr2 cr2] [.bool (ng z), .slice pr1 nr1 cr1, .bool (ng t), .slice pr2 nr2 cr2] Try.sizeOf27 hS 3 rfl rfl (ev rfl rfl) (ev (v := .agg #[.bool (ng z), .slice pr1 nr1 cr1, .bool (ng t), .slice pr2 nr2 cr2]) rfl rfl) rfl rfl rfl rfl rfl rfl ?_)
  clear hS; intro w10 hS
  refine wl rfl (oassign (v := .int .i64 0) rfl rfl (ev (v := .int .i64 0) rfl rfl) ?_)
  refine wnil ?_
  refine thenN ?_
  refine wleave ?_
  refine wret2 Try.results31 (tellC (cs := [.bool (ng z), .slice pr1 nr1 cr1, .bool (ng t), .slice pr2 nr2 cr2]) aggR hS 3 rfl rfl rfl rfl) (tellT (v := .int .i64 0) rfl rfl) ?_
  exact ⟨_, _, rfl, ⟨_, _, _, _, _, _, rfl, rfl⟩, hS.newM [0, 1] (by decide) rfl rfl⟩

set_option maxRecDepth 100000 in
set_option maxHeartbeats 16000000 in
theorem wrquo {x y u v z t : Int} {bA bB bC bD : Bool} {qA qB qC qD : Option Addr} {nA kA nB kB nC kC nD kD : Nat} {w : World} (hzA : Zr w bA qA nA kA x 16777216) (hzB : Zr w bB qB nB kB y 16777216) (hzC : Zr w bC qC nC kC u 16777216) (hzD : Zr w bD qD nD kD v 16777216) (hy : y ≠ 0) (hv : v ≠ 0) (hu : u ≠ 0) (hz : Hid (RN (x * v) (y * u) = z)) (ht : Hid (RD (x * v) (y * u) = t)) :
    Calls Try.prog 10 #[.agg #[.bool bA, .slice qA nA kA, .bool bB, .slice qB nB kB], .agg #[.bool bC, .slice qC nC kC, .bool bD, .slice qD nD kD]] w (Ret (RRt z t 0) w) := by
  have hS := Sep.init w
  refine went Try.func10 rfl (n := 12) rfl rfl ?_
  refine wseq ?_
  refine wreg ?_
  refine wl rfl (obox [.bool bA, .slice qA nA kA, .bool bB, .slice qB nB kB] hS rfl rfl (ev (v := .agg #[.bool bA, .slice qA nA kA, .bool bB, .slice qB nB kB]) rfl rfl) rfl ?_)
  clear hS; intro g1 w2 hS
  refine wl rfl (obox [.bool bC, .slice qC nC kC, .bool bD, .slice qD nD kD] hS rfl rfl (ev (v := .agg #[.bool bC, .slice qC nC kC, .bool bD, .slice qD nD kD]) rfl rfl) rfl ?_)
  clear hS; intro g3 w4 hS
  refine wl rfl (oalloc [.bool false, .slice none 0 0, .bool false, .slice none 0 0] hS rfl rfl Try.zeroValue27 rfl ?_)
  clear hS; intro g5 w6 hS
  refine wl rfl (oassign (v := .int .i64 0) rfl rfl (evc (v := .int .i64 0)) ?_)
  refine wnil ?_
  refine thenN ?_
  refine wseq ?_
  refine wreg ?_
  refine wl rfl (oload (vs := [.bool bA, .slice qA nA kA, .bool bB, .slice qB nB kB]) aggR hS 2 rfl rfl (ev rfl rfl) rfl rfl rfl ?_)
  refine wl rfl (oload (vs := [.bool bC, .slice qC nC kC, .bool bD, .slice qD nD kD]) aggR hS 1 rfl rfl (ev rfl rfl) rfl rfl rfl ?_)
  refine wl rfl (obslice (ps := #[(0, .agg #[.bool bA, .slice qA nA kA, .bool bB, .slice qB nB kB]), (1, .agg #[.bool bC, .slice qC nC kC, .bool bD, .slice qD nD kD])]) (z := .agg #[.bool false, .slice none 0 0, .bool false, .slice none 0 0]) [.bool bA, .slice qA nA kA, .bool bB, .slice qB nB kB, .bool bC, .slice qC nC kC, .bool bD, .slice qD nD kD] hS rfl rfl Try.runUnderlying38 Try.sizeOf27 Try.zeroValue27 (parts2 (ev (v := .agg #[.bool bA, .slice qA nA kA, .bool bB, .slice qB nB kB]) rfl rfl) (ev (v := .agg #[.bool bC, .slice qC nC kC, .bool bD, .slice qD nD kD]) rfl rfl)) rfl (by decide) fill4_2 ?_)
  clear hS; intro g7 w8 hS
  refine wl rfl (ocall rfl rfl Try.call53 rfl (wmR (z := z) (t := t) (E := 0) Try.call54 (Rs.two (hS.blkAt 0 rfl) (hzA.at hS) (hzB.at hS) (hzC.at hS) (hzD.at hS)) (by omega) (by intro e he; simp only [List.mem_cons, List.not_mem_nil, or_false] at he; rcases he with rfl | rfl <;> assumption) (fun w1 p c h => wrquo1 h (Int.ne_of_gt (RD_pos (x := x) hy)) (fun e => hu ((RN_zero hv).1 e)) (show Hid (_ = _) from (low_quo hy hv hu).1.trans hz.out) (show Hid (_ = _) from (low_quo hy hv hu).2.trans ht.out))) (args2 rfl (ev rfl rfl)) ?_)
  rintro _ w9 ⟨_, _, rfl, ⟨pr1, nr1, cr1, pr2, nr2, cr2, rfl, rfl⟩, hN⟩
  refine ⟨_, rfl, ?_⟩
  replace hS := hS.news hN; clear hN
  refine wl rfl (oextract (vs := [.agg #[.bool (ng z), .slice pr1 nr1 cr1, .bool (ng t), .slice pr2 nr2 cr2], .int .i64 0]) (v := .agg #[.bool (ng z), .slice pr1 nr1 cr1, .bool (ng t), .slice pr2 nr2 cr2]) rfl rfl (ev (v := .tuple #[.agg #[.bool (ng z), .slice pr1 nr1 cr1, .bool (ng t), .slice pr2 nr2 cr2], .int .i64 0]) rfl rfl) rfl ?_)
  refine wl rfl (oextract (vs := [.agg #[.bool (ng z), .slice pr1 nr1 cr1, .bool (ng t), .slice pr2 nr2 cr2], .int .i64 0]) (v := .int .i64 0) rfl rfl (ev (v := .tuple #[.agg #[.bool (ng z), .slice pr1 nr1 cr1, .bool (ng t), .slice pr2 nr2 cr2], .int .i64 0]) rfl rfl) rfl ?_)
  refine wl rfl (ostore [.bool (ng z), .slice pr1 nr1 cr1, .bool (ng t), .slice pr2 nr2 cr2] [.bool (ng z), .slice pr1 nr1 cr1, .bool (ng t), .slice pr2 nr2 cr2] Try.sizeOf27 hS 3 rfl rfl (ev rfl rfl) (ev (v := .agg #[.bool (ng z), .slice pr1 nr1 cr1, .bool (ng t), .slice pr2 nr2 cr2]) rfl rfl) rfl rfl rfl rfl rfl rfl ?_)
  clear hS; intro w10 hS
  refine wl rfl (oassign (v := .int .i64 0) rfl rfl (ev (v := .int .i64 0) rfl rfl) ?_)
  refine wnil ?_
  refine thenN ?_
  refine wleave ?_
  refine wret2 Try.results10 (tellC (cs := [.bool (ng z), .slice pr1 nr1 cr1, .bool (ng t), .slice pr2 nr2 cr2]) aggR hS 3 rfl rfl rfl rfl) (tellT (v := .int .i64 0) rfl rfl) ?_
  exact ⟨_, _, rfl, ⟨_, _, _, _, _, _, rfl, rfl⟩, hS.newM [0, 1] (by decide) rfl rfl⟩

set_option maxRecDepth 100000 in
set_option maxHeartbeats 16000000 in
theorem wrquoz {x y u v : Int} {bA bB bC bD : Bool} {qA qB qC qD : Option Addr} {nA kA nB kB nC kC nD kD : Nat} {w : World} (hzA : Zr w bA qA nA kA x 16777216) (hzB : Zr w bB qB nB kB y 16777216) (hzC : Zr w bC qC nC kC u 16777216) (hzD : Zr w bD qD nD kD v 16777216) (hy : y ≠ 0) (hv : v ≠ 0) (hu : u = 0) :
    Calls Try.prog 10 #[.agg #[.bool bA, .slice qA nA kA, .bool bB, .slice qB nB kB], .agg #[.bool bC, .slice qC nC kC, .bool bD, .slice qD nD kD]] w (Ret (RRt 0 0 5) w) := by
  have hS := Sep.init w
  refine went Try.func10 rfl (n := 12) rfl rfl ?_
  refine wseq ?_
  refine wreg ?_
  refine wl rfl (obox [.bool bA, .slice qA nA kA, .bool bB, .slice qB nB kB] hS rfl rfl (ev (v := .agg #[.bool bA, .slice qA nA kA, .bool bB, .slice qB nB kB]) rfl rfl) rfl ?_)
  clear hS; intro g1 w2 hS
  refine wl rfl (obox [.bool bC, .slice qC nC kC, .bool bD, .slice qD nD kD] hS rfl rfl (ev (v := .agg #[.bool bC, .slice qC nC kC, .bool bD, .slice qD nD kD]) rfl rfl) rfl ?_)
  clear hS; intro g3 w4 hS
  refine wl rfl (oalloc [.bool false, .slice none 0 0, .bool false, .slice none 0 0] hS rfl rfl Try.zeroValue27 rfl ?_)
  clear hS; intro g5 w6 hS
  refine wl rfl (oassign (v := .int .i64 0) rfl rfl (evc (v := .int .i64 0)) ?_)
  refine wnil ?_
  refine thenN ?_
  refine wseq ?_
  refine wreg ?_
  refine wl rfl (oload (vs := [.bool bA, .slice qA nA kA, .bool bB, .slice qB nB kB]) aggR hS 2 rfl rfl (ev rfl rfl) rfl rfl rfl ?_)
  refine wl rfl (oload (vs := [.bool bC, .slice qC nC kC, .bool bD, .slice qD nD kD]) aggR hS 1 rfl rfl (ev rfl rfl) rfl rfl rfl ?_)
  refine wl rfl (obslice (ps := #[(0, .agg #[.bool bA, .slice qA nA kA, .bool bB, .slice qB nB kB]), (1, .agg #[.bool bC, .slice qC nC kC, .bool bD, .slice qD nD kD])]) (z := .agg #[.bool false, .slice none 0 0, .bool false, .slice none 0 0]) [.bool bA, .slice qA nA kA, .bool bB, .slice qB nB kB, .bool bC, .slice qC nC kC, .bool bD, .slice qD nD kD] hS rfl rfl Try.runUnderlying38 Try.sizeOf27 Try.zeroValue27 (parts2 (ev (v := .agg #[.bool bA, .slice qA nA kA, .bool bB, .slice qB nB kB]) rfl rfl) (ev (v := .agg #[.bool bC, .slice qC nC kC, .bool bD, .slice qD nD kD]) rfl rfl)) rfl (by decide) fill4_2 ?_)
  clear hS; intro g7 w8 hS
  refine wl rfl (ocall rfl rfl Try.call53 rfl (wmR (z := 0) (t := 0) (E := 5) Try.call54 (Rs.two (hS.blkAt 0 rfl) (hzA.at hS) (hzB.at hS) (hzC.at hS) (hzD.at hS)) (by omega) (by intro e he; simp only [List.mem_cons, List.not_mem_nil, or_false] at he; rcases he with rfl | rfl <;> assumption) (fun w1 p c h => wrquo10 h ((RN_zero hv).2 hu))) (args2 rfl (ev rfl rfl)) ?_)
  rintro _ w9 ⟨_, _, rfl, ⟨pr1, nr1, cr1, pr2, nr2, cr2, rfl, rfl⟩, hN⟩
  refine ⟨_, rfl, ?_⟩
  replace hS := hS.news hN; clear hN
  refine wl rfl (oextract (vs := [.agg #[.bool (ng 0), .slice pr1 nr1 cr1, .bool (ng 0), .slice pr2 nr2 cr2], .int .i64 5]) (v := .agg #[.bool (ng 0), .slice pr1 nr1 cr1, .bool (ng 0), .slice pr2 nr2 cr2]) rfl rfl (ev (v := .tuple #[.agg #[.bool (ng 0), .slice pr1 nr1 cr1, .bool (ng 0), .slice pr2 nr2 cr2], .int .i64 5]) rfl rfl) rfl ?_)
  refine wl rfl (oextract (vs := [.agg #[.bool (ng 0), .slice pr1 nr1 cr1, .bool (ng 0), .slice pr2 nr2 cr2], .int .i64 5]) (v := .int .i64 5) rfl rfl (ev (v := .tuple #[.agg #[.bool (ng 0), .slice pr1 nr1 cr1, .bool (ng 0), .slice pr2 nr2 cr2], .int .i64 5]) rfl rfl) rfl ?_)
  refine wl rfl (ostore [.bool (ng 0), .slice pr1 nr1 cr1, .bool (ng 0), .slice pr2 nr2 cr2] [.bool (ng 0), .slice pr1 nr1 cr1, .bool (ng 0), .slice pr2 nr2 cr2] Try.sizeOf27 hS 3 rfl rfl (ev rfl rfl) (ev (v := .agg #[.bool (ng 0), .slice pr1 nr1 cr1, .bool (ng 0), .slice pr2 nr2 cr2]) rfl rfl) rfl rfl rfl rfl rfl rfl ?_)
  clear hS; intro w10 hS
  refine wl rfl (oassign (v := .int .i64 5) rfl rfl (ev (v := .int .i64 5) rfl rfl) ?_)
  refine wnil ?_
  refine thenN ?_
  refine wleave ?_
  refine wret2 Try.results10 (tellC (cs := [.bool (ng 0), .slice pr1 nr1 cr1, .bool (ng 0), .slice pr2 nr2 cr2]) aggR hS 3 rfl rfl rfl rfl) (tellT (v := .int .i64 5) rfl rfl) ?_
  exact ⟨_, _, rfl, ⟨_, _, _, _, _, _, rfl, rfl⟩, hS.newM [0, 1] (by decide) rfl rfl⟩

set_option maxRecDepth 100000 in
set_option maxHeartbeats 16000000 in
theorem wrof {x : Int} {w : World} (h1 : -9223372036854775808 ≤ x) (h2 : x ≤ 9223372036854775807) :
    Calls Try.prog 47 #[.int .i64 x] w (Ret (Rrt x 1) w) := by
  have hS := Sep.init w
  refine went Try.func47 rfl (n := 7) rfl rfl ?_
  refine wseq ?_
  refine wreg ?_
  refine wl rfl (oalloc [.bool false, .slice none 0 0, .bool false, .slice none 0 0] hS rfl rfl Try.zeroValue27 rfl ?_)
  clear hS; intro g1 w2 hS
  refine wnil ?_
  refine thenN ?_
  refine wseq ?_
  refine wreg ?_
  refine wl rfl (omove (v := .int .i64 x) rfl rfl (ev (v := .int .i64 x) rfl rfl) ?_)
  have hk1 : Wd x 2 := Wd.i64 (h1) (h2)
  refine wl rfl (ocall rfl rfl Try.call64 rfl ((wzof (z := x) (h1) (h2)).mono Zt.m) (args1 (ev rfl rfl)) ?_)
  rintro _ w3 ⟨_, _, rfl, ⟨p1, n1, c1, rfl, rfl⟩, hN⟩
  refine ⟨_, rfl, ?_⟩
  replace hS := hS.news hN; clear hN
  have hk2 : Wd 1 2 := Wd.i64 (by omega) (by omega)
  refine wl rfl (ocall rfl rfl Try.call64 rfl ((wzof (z := 1) (by omega) (by omega)).mono Zt.m) (args1 evc) ?_)
  rintro _ w4 ⟨_, _, rfl, ⟨p2, n2, c2, rfl, rfl⟩, hN⟩
  refine ⟨_, rfl, ?_⟩
  replace hS := hS.news hN; clear hN
  refine wl rfl (obuild (ps := #[(0, .agg #[.bool (ng x), .slice p1 n1 c1]), (1, .agg #[.bool (ng 1), .slice p2 n2 c2])]) (v := .agg #[.bool (ng x), .slice p1 n1 c1, .bool (ng 1), .slice p2 n2 c2]) rfl rfl (parts2 (ev (v := .agg #[.bool (ng x), .slice p1 n1 c1]) rfl rfl) (ev (v := .agg #[.bool (ng 1), .slice p2 n2 c2]) rfl rfl)) (fun w => by simp [go_sem, Instr.build, Instr.fill]) ?_)
  refine wl rfl (ostore [.bool (ng x), .slice p1 n1 c1, .bool (ng 1), .slice p2 n2 c2] [.bool (ng x), .slice p1 n1 c1, .bool (ng 1), .slice p2 n2 c2] Try.sizeOf27 hS 2 rfl rfl (ev rfl rfl) (ev (v := .agg #[.bool (ng x), .slice p1 n1 c1, .bool (ng 1), .slice p2 n2 c2]) rfl rfl) rfl rfl rfl rfl rfl rfl ?_)
  clear hS; intro w5 hS
  refine wnil ?_
  refine thenN ?_
  refine wleave ?_
  refine wret1 Try.results47 (tellC (cs := [.bool (ng x), .slice p1 n1 c1, .bool (ng 1), .slice p2 n2 c2]) aggR hS 2 rfl rfl rfl rfl) ?_
  exact ⟨_, _, rfl, ⟨_, _, _, _, _, _, rfl, rfl⟩, hS.newM [1, 0] (by decide) rfl rfl⟩

set_option maxRecDepth 100000 in
set_option maxHeartbeats 16000000 in
theorem wlfrac {x y : Int} {w : World} (h1 : -9223372036854775808 ≤ x) (h2 : x ≤ 9223372036854775807) (h3 : -9223372036854775808 ≤ y) (h4 : y ≤ 9223372036854775807) :
    Calls Try.prog 61 #[.int .i64 x, .int .i64 y] w (Ret (Rrt x y) w) := by
  have hS := Sep.init w
  refine went Try.func61 rfl (n := 10) rfl rfl ?_
  refine wseq ?_
  refine wreg ?_
  refine wl rfl (oalloc [.bool false, .slice none 0 0, .bool false, .slice none 0 0] hS rfl rfl Try.zeroValue27 rfl ?_)
  clear hS; intro g1 w2 hS
  refine wnil ?_
  refine thenN ?_
  refine wseq ?_
  refine wreg ?_
  refine wl rfl (omove (v := .int .i64 x) rfl rfl (ev (v := .int .i64 x) rfl rfl) ?_)
  have hk1 : Wd x 2 := Wd.i64 (h1) (h2)
  refine wl rfl (ocall rfl rfl Try.call60 rfl ((wqof (z := x) (h1) (h2)).mono Zt.m) (args1 (ev rfl rfl)) ?_)
  rintro _ w3 ⟨_, _, rfl, ⟨p1, n1, c1, rfl, rfl⟩, hN⟩
  refine ⟨_, rfl, ?_⟩
  replace hS := hS.news hN; clear hN
  refine wl rfl (omove (v := .int .i64 y) rfl rfl (ev (v := .int .i64 y) rfl rfl) ?_)
  have hk2 : Wd y 2 := Wd.i64 (h3) (h4)
  refine wl rfl (ocall rfl rfl Try.call60 rfl ((wqof (z := y) (h3) (h4)).mono Zt.m) (args1 (ev rfl rfl)) ?_)
  rintro _ w4 ⟨_, _, rfl, ⟨p2, n2, c2, rfl, rfl⟩, hN⟩
  refine ⟨_, rfl, ?_⟩
  replace hS := hS.news hN; clear hN
  refine wl rfl (obuild (ps := #[(0, .agg #[.bool (ng x), .slice p1 n1 c1]), (1, .agg #[.bool (ng y), .slice p2 n2 c2])]) (v := .agg #[.bool (ng x), .slice p1 n1 c1, .bool (ng y), .slice p2 n2 c2]) rfl rfl (parts2 (ev (v := .agg #[.bool (ng x), .slice p1 n1 c1]) rfl rfl) (ev (v := .agg #[.bool (ng y), .slice p2 n2 c2]) rfl rfl)) (fun w => by simp [go_sem, Instr.build, Instr.fill]) ?_)
  refine wl rfl (ostore [.bool (ng x), .slice p1 n1 c1, .bool (ng y), .slice p2 n2 c2] [.bool (ng x), .slice p1 n1 c1, .bool (ng y), .slice p2 n2 c2] Try.sizeOf27 hS 2 rfl rfl (ev rfl rfl) (ev (v := .agg #[.bool (ng x), .slice p1 n1 c1, .bool (ng y), .slice p2 n2 c2]) rfl rfl) rfl rfl rfl rfl rfl rfl ?_)
  clear hS; intro w5 hS
  refine wnil ?_
  refine thenN ?_
  refine wleave ?_
  refine wret1 Try.results61 (tellC (cs := [.bool (ng x), .slice p1 n1 c1, .bool (ng y), .slice p2 n2 c2]) aggR hS 2 rfl rfl rfl rfl) ?_
  exact ⟨_, _, rfl, ⟨_, _, _, _, _, _, rfl, rfl⟩, hS.newM [1, 0] (by decide) rfl rfl⟩

set_option maxRecDepth 100000 in
set_option maxHeartbeats 16000000 in
theorem wrinv {x y z t : Int} {bA bB : Bool} {qA qB : Option Addr} {nA kA nB kB : Nat} {w : World} (hzA : Zr w bA qA nA kA x 16777216) (hzB : Zr w bB qB nB kB y 16777216) (hy : y ≠ 0) (hx : x ≠ 0) (hz : Hid (RN y x = z)) (ht : Hid (RD y x = t)) :
    Calls Try.prog 9 #[.agg #[.bool bA, .slice qA nA kA, .bool bB, .slice qB nB kB]] w (Ret (RRt z t 0) w) := by
  have hS := Sep.init w
  refine went Try.func9 rfl (n := 9) rfl rfl ?_
  refine wseq ?_
  refine wreg ?_
  refine wl rfl (obox [.bool bA, .slice qA nA kA, .bool bB, .slice qB nB kB] hS rfl rfl (ev (v := .agg #[.bool bA, .slice qA nA kA, .bool bB, .slice qB nB kB]) rfl rfl) rfl ?_)
  clear hS; intro g1 w2 hS
  refine wl rfl (oalloc [.bool false, .slice none 0 0, .bool false, .slice none 0 0] hS rfl rfl Try.zeroValue27 rfl ?_)
  clear hS; intro g3 w4 hS
  refine wl rfl (oassign (v := .int .i64 0) rfl rfl (evc (v := .int .i64 0)) ?_)
  refine wnil ?_
  refine thenN ?_
  refine wseq ?_
  have hk1 : Wd 1 2 := Wd.i64 (by omega) (by omega)
  have hk2 : Wd 1 2 := Wd.i64 (by omega) (by omega)
  obtain ⟨z3, hz3⟩ : ∃ z : Int, Hid (RN (1 * y) (1 * x) = z) := ⟨_, rfl⟩
  have hk3 : Wd z3 16777218 := Wd.rn (Wd.mul (m := 16777218) hk1 hzB.wd rfl (by omega)) hz3
  obtain ⟨z4, hz4⟩ : ∃ z : Int, Hid (RD (1 * y) (1 * x) = z) := ⟨_, rfl⟩
  have hk4 : Wd z4 16777218 := Wd.rd (Wd.mul (m := 16777218) hk2 hzA.wd rfl (by omega)) hz4
  refine wstage 5 [4, 5, 6, 7, 8] [[], [], [0, 1], [2, 0, 1], [2, 0, 1]] [[], [], [], [2], []] [] [] (fun i9 => ([fun _ => Rrt 1 1, fun _ => Is (.agg #[.bool bA, .slice qA nA kA, .bool bB, .slice qB nB kB]), fun _ => RRt z3 z4 0, fun us => Is (.agg #[.bool (ng z3), (vat (us.getD 0 undef) [0, 1]), .bool (ng z4), (vat (us.getD 0 undef) [0, 3])]), fun _ => Is (.int .i64 0)] : List (List Value → Tell)).getD i9 (fun _ _ _ => False)) (heldNil) (fun d _ _ _ _ h => (by cases d <;> exact h)) (by kernel_rfl) (by kernel_rfl) (by kernel_rfl) hS ?_ ?_
  ·
    refine stepsCons rfl ?_ ?_
    · intro Q f' w' ρ S ho hT hS hB
      refine .inl ⟨want_none rfl, ocall rfl rfl Try.call47 rfl (wrof (x := 1) (by omega) (by omega)) (args1 evc) ?_⟩
      rintro _ w9 ⟨_, _, rfl, hTT, hN⟩
      exact ⟨_, rfl, _, _, rfl, hTT, hN⟩
    refine stepsCons rfl ?_ ?_
    · intro Q f' w' ρ S ho hT hS hB
      exact .inl ⟨want_none rfl, oload (vs := [.bool bA, .slice qA nA kA, .bool bB, .slice qB nB kB]) aggR hS 1 rfl rfl (ev rfl (ho 1 rfl)) rfl rfl rfl ⟨_, _, rfl, isI, New.same _⟩⟩
    refine stepsCons rfl ?_ ?_
    · intro Q f' w' ρ S ho hT hS hB
      obtain ⟨p1, n1, c1, p2, n2, c2, hv0, hr0⟩ := (hT 0 4 rfl rfl : (Rrt 1 1) (f' 4) (ρ 0))
      obtain ⟨hv1, hr1⟩ := (hT 1 5 rfl rfl : (Is (.agg #[.bool bA, .slice qA nA kA, .bool bB, .slice qB nB kB])) (f' 5) (ρ 1))
      obtain hS := hS.flat2 hr0 hr1
      refine .inl ⟨want_none rfl, ocall rfl rfl Try.call10 rfl (wrquo (((hS.slm 2 rfl).zr hk1).mono (by omega)) (((hS.slm 3 rfl).zr hk2).mono (by omega)) (hzA.at hS) (hzB.at hS) (by omega) (hy) (hx) hz3 hz4) (args2 (ev rfl hv0) (ev rfl hv1)) ?_⟩
      rintro _ w9 ⟨_, _, rfl, hTT, hN⟩
      exact ⟨_, rfl, _, _, rfl, hTT, hN⟩
    refine stepsCons rfl ?_ ?_
    · intro Q f' w' ρ S ho hT hS hB
      obtain ⟨p3, n3, c3, p4, n4, c4, hv2, hr2⟩ := (hT 2 6 rfl rfl : (RRt z3 z4 0) (f' 6) (ρ 2))
      obtain hS := hS.flat1 hr2
      have hQ : (.agg #[.bool (ng z3), .slice p3 n3 c3, .bool (ng z4), .slice p4 n4 c4] : Value) = (fun (us : List Value) => (.agg #[.bool (ng z3), (vat (us.getD 0 undef) [0, 1]), .bool (ng z4), (vat (us.getD 0 undef) [0, 3])] : Value)) [f' 6] := by show _ = (.agg #[.bool (ng z3), (vat (f' 6) [0, 1]), .bool (ng z4), (vat (f' 6) [0, 3])] : Value); rw [hv2]; rfl
      exact .inl ⟨want_none rfl, oextract (vs := [.agg #[.bool (ng z3), .slice p3 n3 c3, .bool (ng z4), .slice p4 n4 c4], .int .i64 0]) (v := .agg #[.bool (ng z3), .slice p3 n3 c3, .bool (ng z4), .slice p4 n4 c4]) rfl rfl (ev (v := .tuple #[.agg #[.bool (ng z3), .slice p3 n3 c3, .bool (ng z4), .slice p4 n4 c4], .int .i64 0]) rfl hv2) rfl ⟨_, _, rfl, ⟨hQ, rfl⟩, New.same _⟩⟩
    refine stepsCons rfl ?_ ?_
    · intro Q f' w' ρ S ho hT hS hB
      obtain ⟨p3, n3, c3, p4, n4, c4, hv2, hr2⟩ := (hT 2 6 rfl rfl : (RRt z3 z4 0) (f' 6) (ρ 2))
      obtain hS := hS.flat1 hr2
      exact .inl ⟨want_none rfl, oextract (vs := [.agg #[.bool (ng z3), .slice p3 n3 c3, .bool (ng z4), .slice p4 n4 c4], .int .i64 0]) (v := .int .i64 0) rfl rfl (ev (v := .tuple #[.agg #[.bool (ng z3), .slice p3 n3 c3, .bool (ng z4), .slice p4 n4 c4], .int .i64 0]) rfl hv2) rfl ⟨_, _, rfl, isI, New.same _⟩⟩
    exact stepsNil
  ·
    intro vs ρ w5 f' hf hT hS
    obtain ⟨p1, n1, c1, p2, n2, c2, hv0, hr0⟩ := (hT 0 (by decide) : (Rrt 1 1) (vs 0) (ρ 0))
    obtain ⟨hv1, hr1⟩ := (hT 1 (by decide) : (Is (.agg #[.bool bA, .slice qA nA kA, .bool bB, .slice qB nB kB])) (vs 1) (ρ 1))
    obtain ⟨p3, n3, c3, p4, n4, c4, hv2, hr2⟩ := (hT 2 (by decide) : (RRt z3 z4 0) (vs 2) (ρ 2))
    obtain ⟨hv3, hr3⟩ := (hT 3 (by decide) : (fun (us : List Value) => Is (.agg #[.bool (ng z3), (vat (us.getD 0 undef) [0, 1]), .bool (ng z4), (vat (us.getD 0 undef) [0, 3])])) [vs 2] (vs 3) (ρ 3))
    replace hv3 : vs 3 = .agg #[.bool (ng z3), .slice p3 n3 c3, .bool (ng z4), .slice p4 n4 c4] := hv3.trans (by show (.agg #[.bool (ng z3), (vat (vs 2) [0, 1]), .bool (ng z4), (vat (vs 2) [0, 3])] : Value) = _; rw [hv2]; rfl)
    obtain ⟨hv4, hr4⟩ := (hT 4 (by decide) : (Is (.int .i64 0)) (vs 4) (ρ 4))
    simp only [pool, if_true, hr0, hr1, hr2, hr3, hr4, List.nil_append, List.cons_append, List.append_nil] at hS
    simp only [layf, hv0, hv1, hv2, hv3, hv4] at hf
    subst hf; clear hT hv0 hv1 hv2 hv3 hv4 hr0 hr1 hr2 hr3 hr4
    refine wlate 5 rfl (by kernel_rfl) (ostore [.bool (ng z3), .slice p3 n3 c3, .bool (ng z4), .slice p4 n4 c4] [.bool (ng z3), .slice p3 n3 c3, .bool (ng z4), .slice p4 n4 c4] Try.sizeOf27 hS 4 rfl rfl (ev rfl rfl) (ev (v := .agg #[.bool (ng z3), .slice p3 n3 c3, .bool (ng z4), .slice p4 n4 c4]) rfl rfl) rfl rfl rfl rfl rfl rfl ?_)
    clear hS; intro w6 hS
    refine ⟨heldNil, ?_⟩
    refine wlate 6 rfl (by kernel_rfl) (oassign (v := .int .i64 0) rfl rfl (ev (v := .int .i64 0) rfl rfl) ?_)
    refine ⟨heldNil, ?_⟩
    refine wdone rfl ?_
    refine thenN ?_
    refine wleave ?_
    refine wret2 Try.results9 (tellC (cs := [.bool (ng z3), .slice p3 n3 c3, .bool (ng z4), .slice p4 n4 c4]) aggR hS 4 rfl rfl rfl rfl) (tellT (v := .int .i64 0) rfl rfl) ?_
    obtain rfl : z3 = z := hz3.out.symm.trans (inv_low.1.trans hz.out)
    obtain rfl : z4 = t := hz4.out.symm.trans (inv_low.2.trans ht.out)
    exact ⟨_, _, rfl, ⟨_, _, _, _, _, _, rfl, rfl⟩, hS.newM [0, 1] (by decide) rfl rfl⟩

set_option maxRecDepth 100000 in
set_option maxHeartbeats 16000000 in
theorem wsmay {y : Int} {bB bA : Bool} {qA qB : Option Addr} {nA kA nB kB : Nat} {w : World} (hzB : Zr w bB qB nB kB y 67108864) (hy : y ≠ 0) :
    Calls Try.prog 11 #[.agg #[.bool bA, .slice qA nA kA, .bool bB, .slice qB nB kB]] w (Ret (Is (.bool true)) w) := by
  have hS := Sep.init w
  refine went Try.func11 rfl (n := 7) rfl rfl ?_
  refine wseq ?_
  refine wreg ?_
  refine wl rfl (obox [.bool bA, .slice qA nA kA, .bool bB, .slice qB nB kB] hS rfl rfl (ev (v := .agg #[.bool bA, .slice qA nA kA, .bool bB, .slice qB nB kB]) rfl rfl) rfl ?_)
  clear hS; intro g1 w2 hS
  refine wl rfl (oassign (v := .bool false) rfl rfl (evc (v := .bool false)) ?_)
  refine wnil ?_
  refine thenN ?_
  refine wseq ?_
  refine wreg ?_
  refine wl rfl (ofieldAddr (g := g1) (off := 0) 2 rfl rfl (ev (v := .pointer (some ⟨g1, 0, none⟩)) rfl rfl) Try.runUnderlying27 rfl Try.sizeOf25 rfl ?_)
  refine wl rfl (oload (vs := [.bool bB, .slice qB nB kB]) aggZ hS 0 rfl rfl (ev rfl rfl) rfl rfl rfl ?_)
  obtain ⟨s1, hs1⟩ : ∃ z : Int, Hid ((y : Int).sign = z) := ⟨_, rfl⟩
  refine wl rfl (ocall rfl rfl Try.call57 rfl (wqsign ((hzB.at hS).mono (by omega)) hs1) (args1 (ev rfl rfl)) ?_)
  rintro _ w3 ⟨_, _, rfl, ⟨rfl, rfl⟩, hN⟩
  refine ⟨_, rfl, ?_⟩
  replace hS := hS.news hN; clear hN
  refine wl rfl (obin (u := .int .i64 s1) (v := .int .i64 0) (z := .bool true) rfl rfl (ev (v := .int .i64 s1) rfl rfl) (evc (v := .int .i64 0)) (bin_neq (bne_iff_ne.2 (fun e => by have := sign_ne hs1 hy; rw [e] at this; exact absurd this (by decide)))) ?_)
  refine wl rfl (oassign (v := .bool true) rfl rfl (ev (v := .bool true) rfl rfl) ?_)
  refine wnil ?_
  refine thenN ?_
  refine wleave ?_
  refine wret1 Try.results11 (tellT (v := .bool true) rfl rfl) ?_
  exact ⟨_, _, rfl, isI, hS.new0⟩

set_option maxRecDepth 100000 in
set_option maxHeartbeats 16000000 in
theorem wsmay0 {y : Int} {bB bA : Bool} {qA qB : Option Addr} {nA kA nB kB : Nat} {w : World} (hzB : Zr w bB qB nB kB y 67108864) (hy : y = 0) :
    Calls Try.prog 11 #[.agg #[.bool bA, .slice qA nA kA, .bool bB, .slice qB nB kB]] w (Ret (Is (.bool false)) w) := by
  have hS := Sep.init w
  refine went Try.func11 rfl (n := 7) rfl rfl ?_
  refine wseq ?_
  refine wreg ?_
  refine wl rfl (obox [.bool bA, .slice qA nA kA, .bool bB, .slice qB nB kB] hS rfl rfl (ev (v := .agg #[.bool bA, .slice qA nA kA, .bool bB, .slice qB nB kB]) rfl rfl) rfl ?_)
  clear hS; intro g1 w2 hS
  refine wl rfl (oassign (v := .bool false) rfl rfl (evc (v := .bool false)) ?_)
  refine wnil ?_
  refine thenN ?_
  refine wseq ?_
  refine wreg ?_
  refine wl rfl (ofieldAddr (g := g1) (off := 0) 2 rfl rfl (ev (v := .pointer (some ⟨g1, 0, none⟩)) rfl rfl) Try.runUnderlying27 rfl Try.sizeOf25 rfl ?_)
  refine wl rfl (oload (vs := [.bool bB, .slice qB nB kB]) aggZ hS 0 rfl rfl (ev rfl rfl) rfl rfl rfl ?_)
  obtain ⟨s1, hs1⟩ : ∃ z : Int, Hid ((y : Int).sign = z) := ⟨_, rfl⟩
  refine wl rfl (ocall rfl rfl Try.call57 rfl (wqsign ((hzB.at hS).mono (by omega)) hs1) (args1 (ev rfl rfl)) ?_)
  rintro _ w3 ⟨_, _, rfl, ⟨rfl, rfl⟩, hN⟩
  refine ⟨_, rfl, ?_⟩
  replace hS := hS.news hN; clear hN
  refine wl rfl (obin (u := .int .i64 s1) (v := .int .i64 0) (z := .bool false) rfl rfl (ev (v := .int .i64 s1) rfl rfl) (evc (v := .int .i64 0)) (bin_neq (neF (by have := sign_eq hs1 hy; simpa using this))) ?_)
  refine wl rfl (oassign (v := .bool false) rfl rfl (ev (v := .bool false) rfl rfl) ?_)
  refine wnil ?_
  refine thenN ?_
  refine wleave ?_
  refine wret1 Try.results11 (tellT (v := .bool false) rfl rfl) ?_
  exact ⟨_, _, rfl, isI, hS.new0⟩

set_option maxRecDepth 100000 in
set_option maxHeartbeats 16000000 in
theorem wssign {x y s : Int} {bA bB : Bool} {qA qB : Option Addr} {nA kA nB kB : Nat} {w : World} (hzA : Zr w bA qA nA kA x 67108864) (hzB : Zr w bB qB nB kB y 67108864) (hy : y ≠ 0) (hs : Hid (x.sign * y.sign = s)) :
    Calls Try.prog 12 #[.agg #[.bool bA, .slice qA nA kA, .bool bB, .slice qB nB kB]] w (Ret (Is (.int .i64 s)) w) := by
  have hS := Sep.init w
  refine went Try.func12 rfl (n := 10) rfl rfl ?_
  refine wseq ?_
  refine wreg ?_
  refine wl rfl (obox [.bool bA, .slice qA nA kA, .bool bB, .slice qB nB kB] hS rfl rfl (ev (v := .agg #[.bool bA, .slice qA nA kA, .bool bB, .slice qB nB kB]) rfl rfl) rfl ?_)
  clear hS; intro g1 w2 hS
  refine wl rfl (oassign (v := .int .i64 0) rfl rfl (evc (v := .int .i64 0)) ?_)
  refine wnil ?_
  refine thenN ?_
  refine wseq ?_
  obtain ⟨s1, hs1⟩ : ∃ z : Int, Hid ((x : Int).sign = z) := ⟨_, rfl⟩
  obtain ⟨s2, hs2⟩ : ∃ z : Int, Hid ((y : Int).sign = z) := ⟨_, rfl⟩
  refine wstage 8 [3, 4, 5, 6, 7, 8, 9, 2] [[], [0], [1, 0], [], [3], [4, 0, 1, 2, 3], [2, 5, 0, 1, 3, 4], [6, 0, 1, 2, 3, 4, 5]] [[], [], [], [], [], [], [], []] [] [] (fun i9 => ([fun _ => Is (.pointer (some ⟨g1, 0, none⟩)), fun _ => Is (.agg #[.bool bA, .slice qA nA kA]), fun _ => Is (.int .i64 s1), fun _ => Is (.pointer (some ⟨g1, 2, none⟩)), fun _ => Is (.agg #[.bool bB, .slice qB nB kB]), fun _ => Is (.int .i64 s2), fun _ => Is (.int .i64 s), fun _ => Is (.int .i64 s)] : List (List Value → Tell)).getD i9 (fun _ _ _ => False)) (heldNil) (fun d _ _ _ _ h => (by cases d <;> exact h)) (by kernel_rfl) (by kernel_rfl) (by kernel_rfl) hS ?_ ?_
  ·
    refine stepsCons rfl ?_ ?_
    · intro Q f' w' ρ S ho hT hS hB
      exact .inl ⟨want_none rfl, ofieldAddr (g := g1) (off := 0) 0 rfl rfl (ev (v := .pointer (some ⟨g1, 0, none⟩)) rfl (ho 1 rfl)) Try.runUnderlying27 rfl Try.sizeOf25 rfl ⟨_, _, rfl, isI, New.same _⟩⟩
    refine stepsCons rfl ?_ ?_
    · intro Q f' w' ρ S ho hT hS hB
      obtain ⟨hv0, hr0⟩ := (hT 0 3 rfl rfl : (Is (.pointer (some ⟨g1, 0, none⟩))) (f' 3) (ρ 0))
      obtain hS := hS.flat1 hr0
      exact .inl ⟨want_none rfl, oload (vs := [.bool bA, .slice qA nA kA]) aggZ hS 0 rfl rfl (ev rfl hv0) rfl rfl rfl ⟨_, _, rfl, isI, New.same _⟩⟩
    refine stepsCons rfl ?_ ?_
    · intro Q f' w' ρ S ho hT hS hB
      obtain ⟨hv1, hr1⟩ := (hT 1 4 rfl rfl : (Is (.agg #[.bool bA, .slice qA nA kA])) (f' 4) (ρ 1))
      obtain hS := hS.flat1 hr1
      refine .inl ⟨want_none rfl, ocall rfl rfl Try.call57 rfl (wqsign ((hzA.at hS).mono (by omega)) hs1) (args1 (ev rfl hv1)) ?_⟩
      rintro _ w9 ⟨_, _, rfl, hTT, hN⟩
      exact ⟨_, rfl, _, _, rfl, hTT, hN⟩
    refine stepsCons rfl ?_ ?_
    · intro Q f' w' ρ S ho hT hS hB
      exact .inl ⟨want_none rfl, ofieldAddr (g := g1) (off := 0) 2 rfl rfl (ev (v := .pointer (some ⟨g1, 0, none⟩)) rfl (ho 1 rfl)) Try.runUnderlying27 rfl Try.sizeOf25 rfl ⟨_, _, rfl, isI, New.same _⟩⟩
    refine stepsCons rfl ?_ ?_
    · intro Q f' w' ρ S ho hT hS hB
      obtain ⟨hv3, hr3⟩ := (hT 3 6 rfl rfl : (Is (.pointer (some ⟨g1, 2, none⟩))) (f' 6) (ρ 3))
      obtain hS := hS.flat1 hr3
      exact .inl ⟨want_none rfl, oload (vs := [.bool bB, .slice qB nB kB]) aggZ hS 0 rfl rfl (ev rfl hv3) rfl rfl rfl ⟨_, _, rfl, isI, New.same _⟩⟩
    refine stepsCons rfl ?_ ?_
    · intro Q f' w' ρ S ho hT hS hB
      obtain ⟨hv4, hr4⟩ := (hT 4 7 rfl rfl : (Is (.agg #[.bool bB, .slice qB nB kB])) (f' 7) (ρ 4))
      obtain hS := hS.flat1 hr4
      refine .inl ⟨want_none rfl, ocall rfl rfl Try.call57 rfl (wqsign ((hzB.at hS).mono (by omega)) hs2) (args1 (ev rfl hv4)) ?_⟩
      rintro _ w9 ⟨_, _, rfl, hTT, hN⟩
      exact ⟨_, rfl, _, _, rfl, hTT, hN⟩
    refine stepsCons rfl ?_ ?_
    · intro Q f' w' ρ S ho hT hS hB
      obtain ⟨hv2, hr2⟩ := (hT 2 5 rfl rfl : (Is (.int .i64 s1)) (f' 5) (ρ 2))
      obtain ⟨hv5, hr5⟩ := (hT 5 8 rfl rfl : (Is (.int .i64 s2)) (f' 8) (ρ 5))
      obtain hS := hS.flat2 hr2 hr5
      exact .inl ⟨want_none rfl, obin (u := .int .i64 s1) (v := .int .i64 s2) (z := .int .i64 s) rfl rfl (ev (v := .int .i64 s1) rfl hv2) (ev (v := .int .i64 s2) rfl hv5) (bin_mul (sgn_wrap hs hs1 hs2)) ⟨_, _, rfl, isI, New.same _⟩⟩
    refine stepsCons rfl ?_ ?_
    · intro Q f' w' ρ S ho hT hS hB
      obtain ⟨hv6, hr6⟩ := (hT 6 9 rfl rfl : (Is (.int .i64 s)) (f' 9) (ρ 6))
      obtain hS := hS.flat1 hr6
      exact .inl ⟨want_none rfl, oassign (v := .int .i64 s) rfl rfl (ev (v := .int .i64 s) rfl hv6) ⟨_, _, rfl, isI, New.same _⟩⟩
    exact stepsNil
  ·
    intro vs ρ w3 f' hf hT hS
    obtain ⟨hv0, hr0⟩ := (hT 0 (by decide) : (Is (.pointer (some ⟨g1, 0, none⟩))) (vs 0) (ρ 0))
    obtain ⟨hv1, hr1⟩ := (hT 1 (by decide) : (Is (.agg #[.bool bA, .slice qA nA kA])) (vs 1) (ρ 1))
    obtain ⟨hv2, hr2⟩ := (hT 2 (by decide) : (Is (.int .i64 s1)) (vs 2) (ρ 2))
    obtain ⟨hv3, hr3⟩ := (hT 3 (by decide) : (Is (.pointer (some ⟨g1, 2, none⟩))) (vs 3) (ρ 3))
    obtain ⟨hv4, hr4⟩ := (hT 4 (by decide) : (Is (.agg #[.bool bB, .slice qB nB kB])) (vs 4) (ρ 4))
    obtain ⟨hv5, hr5⟩ := (hT 5 (by decide) : (Is (.int .i64 s2)) (vs 5) (ρ 5))
    obtain ⟨hv6, hr6⟩ := (hT 6 (by decide) : (Is (.int .i64 s)) (vs 6) (ρ 6))
    obtain ⟨hv7, hr7⟩ := (hT 7 (by decide) : (Is (.int .i64 s)) (vs 7) (ρ 7))
    simp only [pool, if_true, hr0, hr1, hr2, hr3, hr4, hr5, hr6, hr7, List.nil_append, List.cons_append, List.append_nil] at hS
    simp only [layf, hv0, hv1, hv2, hv3, hv4, hv5, hv6, hv7] at hf
    subst hf; clear hT hv0 hv1 hv2 hv3 hv4 hv5 hv6 hv7 hr0 hr1 hr2 hr3 hr4 hr5 hr6 hr7
    refine wdone rfl ?_
    refine thenN ?_
    refine wleave ?_
    refine wret1 Try.results12 (tellT (v := .int .i64 s) rfl rfl) ?_
    exact ⟨_, _, rfl, isI, hS.new0⟩

end Go.Proofs.Ytoinfkimlhhmpaa
