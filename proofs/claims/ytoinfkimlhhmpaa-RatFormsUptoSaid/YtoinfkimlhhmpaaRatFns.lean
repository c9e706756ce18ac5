
/-
  rat's functions and the document's, as contracts.
-/
import Derived.Test.YtoinfkimlhhmpaaRatOps
import Derived.Test.YtoinfkimlhhmpaaZDiv
set_option linter.unusedVariables false
set_option linter.unusedSimpArgs false
namespace Go.Proofs.Ytoinfkimlhhmpaa
open Go.RowKit

/-- The order of two fractions. -/
def cmpQ (x y u v : Int) : Int := ((x * v - u * y) * (y * v)).sign
theorem cmpZ_sign (a b : Int) : cmpZ a b = (a - b).sign := by
  unfold cmpZ
  rcases Int.lt_trichotomy a b with h | h | h
  · rw [if_pos h, Int.sign_eq_neg_one_of_neg (by omega)]
  · rw [if_neg (by omega), if_pos h, h, Int.sub_self]; rfl
  · rw [if_neg (by omega), if_neg (by omega), Int.sign_eq_one_of_pos (by omega)]
theorem low_cmp {x y u v : Int} (hy : y ≠ 0) (hv : v ≠ 0) : cmpZ (RN x y * RD u v) (RN u v * RD x y) = cmpQ x y u v := by
  rw [cmpZ_sign]
  unfold cmpQ
  have e1 := RN_mul x y; have e2 := RD_mul x y; have e3 := RN_mul u v; have e4 := RD_mul u v
  have p1 := RD_pos (x := x) hy; have p2 := RD_pos (x := u) hv
  have k1 := sgd_ne (x := x) hy; have k2 := sgd_ne (x := u) hv
  have e : (x * v - u * y) * (y * v) = (RN x y * RD u v - RN u v * RD x y) * ((sgd x y * sgd u v) * (sgd x y * sgd u v) * (RD x y * RD u v)) := by
    generalize RN x y = a at *; generalize RD x y = b at *; generalize RN u v = c at *; generalize RD u v = d at *
    generalize sgd x y = k at *; generalize sgd u v = l at *
    rw [← e1, ← e2, ← e3, ← e4]; grind
  rw [e, Int.sign_mul, Int.sign_eq_one_of_pos (a := (sgd x y * sgd u v) * (sgd x y * sgd u v) * (RD x y * RD u v)), Int.mul_one]
  have h1 : sgd x y * sgd u v ≠ 0 := ne_mul k1 k2
  have h2 : 0 < (sgd x y * sgd u v) * (sgd x y * sgd u v) := by
    rcases Int.lt_or_gt_of_ne h1 with h | h
    · exact Int.mul_pos_of_neg_of_neg h h
    · exact Int.mul_pos h h
  exact Int.mul_pos h2 (Int.mul_pos p1 p2)
theorem sub_cmp {x y u v : Int} (hy : y ≠ 0) (hv : v ≠ 0) : (RN (x * v - u * y) (y * v)).sign * (RD (x * v - u * y) (y * v)).sign = cmpQ x y u v := by
  rw [RN_sign (ne_mul hy hv), Int.sign_eq_one_of_pos (RD_pos (ne_mul hy hv)), Int.mul_one, ← Int.sign_mul]; rfl
theorem sub_low {x y u v : Int} (hy : y ≠ 0) (hv : v ≠ 0) : RN (x * RD (-u) v + RN (-u) v * y) (y * RD (-u) v) = RN (x * v - u * y) (y * v) ∧ RD (x * RD (-u) v + RN (-u) v * y) (y * RD (-u) v) = RD (x * v - u * y) (y * v) := by
  have h1 := R_cross (-u) v
  have p1 := RD_pos (x := -u) hv
  refine R_same (ne_mul hy (by omega)) (ne_mul hy hv) ?_
  generalize RN (-u) v = a at *; generalize RD (-u) v = b at *
  clear p1 hy hv
  grind
theorem sgn_wrap {x y s : Int} (h : Hid (x.sign * y.sign = s)) {a b : Int} (ha : Hid (x.sign = a)) (hb : Hid (y.sign = b)) : IntKind.i64.wrap (a * b) = s := by
  rw [← ha.out, ← hb.out, h.out]
  have h1 : x.sign * y.sign = (x * y).sign := (Int.sign_mul x y).symm
  have h2 : (x * y).sign = 1 ∨ (x * y).sign = 0 ∨ (x * y).sign = -1 := by
    rcases Int.lt_trichotomy (x * y) 0 with h | h | h
    · exact .inr (.inr (Int.sign_eq_neg_one_of_neg h))
    · rw [h]; exact .inr (.inl rfl)
    · exact .inl (Int.sign_eq_one_of_pos h)
  have h3 := h.out
  rw [h1] at h3
  exact wrap_i64 (by omega) (by omega)

set_option maxRecDepth 100000 in
set_option maxHeartbeats 16000000 in
theorem wrsign {x y s : Int} {bA bB : Bool} {qA qB : Option Addr} {nA kA nB kB : Nat} {w : World} (hzA : Zr w bA qA nA kA x 16777216) (hzB : Zr w bB qB nB kB y 16777216) (hy : y ≠ 0) (hs : Hid (x.sign * y.sign = s)) :
    Calls Try.prog 44 #[.agg #[.bool bA, .slice qA nA kA, .bool bB, .slice qB nB kB]] w (Ret (Is (.tuple #[.int .i64 s, .int .i64 0])) w) := by
  have hS := Sep.init w
  refine went Try.func44 rfl (n := 9) rfl rfl ?_
  refine wseq ?_
  refine wreg ?_
  refine wl rfl (obox [.bool bA, .slice qA nA kA, .bool bB, .slice qB nB kB] hS rfl rfl (ev (v := .agg #[.bool bA, .slice qA nA kA, .bool bB, .slice qB nB kB]) rfl rfl) rfl ?_)
  clear hS; intro g1 w2 hS
  refine wl rfl (oassign (v := .int .i64 0) rfl rfl (evc (v := .int .i64 0)) ?_)
  refine wl rfl (oassign (v := .int .i64 0) rfl rfl (evc (v := .int .i64 0)) ?_)
  refine wnil ?_
  refine thenN ?_
  refine wseq ?_
  refine wreg ?_
  refine wl rfl (oload (vs := [.bool bA, .slice qA nA kA, .bool bB, .slice qB nB kB]) aggR hS 0 rfl rfl (ev rfl rfl) rfl rfl rfl ?_)
  refine wl rfl (obslice (ps := #[(0, .agg #[.bool bA, .slice qA nA kA, .bool bB, .slice qB nB kB])]) (z := .agg #[.bool false, .slice none 0 0, .bool false, .slice none 0 0]) [.bool bA, .slice qA nA kA, .bool bB, .slice qB nB kB] hS rfl rfl Try.runUnderlying38 Try.sizeOf27 Try.zeroValue27 (parts1 (ev (v := .agg #[.bool bA, .slice qA nA kA, .bool bB, .slice qB nB kB]) rfl rfl)) rfl (by decide) fill4_1 ?_)
  clear hS; intro g3 w4 hS
  refine wl rfl (ocall rfl rfl Try.call67 rfl (wmI (z := s) (E := 0) Try.call90 (Rs.one (hS.blkAt 0 rfl) (hzA.at hS) (hzB.at hS)) (by omega) (by intro e he; simp only [List.mem_cons, List.not_mem_nil, or_false] at he; subst he; assumption) (fun w1 p c h => wrsign1 h (show Hid (_ = _) from (RN_sign hy).trans hs.out))) (args2 rfl (ev rfl rfl)) ?_)
  rintro _ w5 ⟨_, _, rfl, ⟨rfl, rfl⟩, hN⟩
  refine ⟨_, rfl, ?_⟩
  replace hS := hS.news hN; clear hN
  refine wl rfl (oextract (vs := [.int .i64 s, .int .i64 0]) (v := .int .i64 s) rfl rfl (ev (v := .tuple #[.int .i64 s, .int .i64 0]) rfl rfl) rfl ?_)
  refine wl rfl (oextract (vs := [.int .i64 s, .int .i64 0]) (v := .int .i64 0) rfl rfl (ev (v := .tuple #[.int .i64 s, .int .i64 0]) rfl rfl) rfl ?_)
  refine wl rfl (oassign (v := .int .i64 s) rfl rfl (ev (v := .int .i64 s) rfl rfl) ?_)
  refine wl rfl (oassign (v := .int .i64 0) rfl rfl (ev (v := .int .i64 0) rfl rfl) ?_)
  refine wnil ?_
  refine thenN ?_
  refine wleave ?_
  refine wret2 Try.results44 (tellT (v := .int .i64 s) rfl rfl) (tellT (v := .int .i64 0) rfl rfl) ?_
  exact ⟨_, _, rfl, isI, hS.new0⟩

set_option maxRecDepth 100000 in
set_option maxHeartbeats 16000000 in
theorem wrsign0 {x y : Int} {bA bB : Bool} {qA qB : Option Addr} {nA kA nB kB : Nat} {w : World} (hzA : Zr w bA qA nA kA x 16777216) (hzB : Zr w bB qB nB kB y 16777216) (h0 : y = 0) :
    Calls Try.prog 44 #[.agg #[.bool bA, .slice qA nA kA, .bool bB, .slice qB nB kB]] w (Ret (Is (.tuple #[.int .i64 0, .int .i64 6])) w) := by
  have hS := Sep.init w
  refine went Try.func44 rfl (n := 9) rfl rfl ?_
  refine wseq ?_
  refine wreg ?_
  refine wl rfl (obox [.bool bA, .slice qA nA kA, .bool bB, .slice qB nB kB] hS rfl rfl (ev (v := .agg #[.bool bA, .slice qA nA kA, .bool bB, .slice qB nB kB]) rfl rfl) rfl ?_)
  clear hS; intro g1 w2 hS
  refine wl rfl (oassign (v := .int .i64 0) rfl rfl (evc (v := .int .i64 0)) ?_)
  refine wl rfl (oassign (v := .int .i64 0) rfl rfl (evc (v := .int .i64 0)) ?_)
  refine wnil ?_
  refine thenN ?_
  refine wseq ?_
  refine wreg ?_
  refine wl rfl (oload (vs := [.bool bA, .slice qA nA kA, .bool bB, .slice qB nB kB]) aggR hS 0 rfl rfl (ev rfl rfl) rfl rfl rfl ?_)
  refine wl rfl (obslice (ps := #[(0, .agg #[.bool bA, .slice qA nA kA, .bool bB, .slice qB nB kB])]) (z := .agg #[.bool false, .slice none 0 0, .bool false, .slice none 0 0]) [.bool bA, .slice qA nA kA, .bool bB, .slice qB nB kB] hS rfl rfl Try.runUnderlying38 Try.sizeOf27 Try.zeroValue27 (parts1 (ev (v := .agg #[.bool bA, .slice qA nA kA, .bool bB, .slice qB nB kB]) rfl rfl)) rfl (by decide) fill4_1 ?_)
  clear hS; intro g3 w4 hS
  refine wl rfl (ocall rfl rfl Try.call67 rfl (wmadeI0 ((Rs.one (hS.blkAt 0 rfl) (hzA.at hS) (hzB.at hS)).mono (by omega)) ⟨_, List.mem_cons_self, h0⟩) (args2 rfl (ev rfl rfl)) ?_)
  rintro _ w5 ⟨_, _, rfl, ⟨rfl, rfl⟩, hN⟩
  refine ⟨_, rfl, ?_⟩
  replace hS := hS.news hN; clear hN
  refine wl rfl (oextract (vs := [.int .i64 0, .int .i64 6]) (v := .int .i64 0) rfl rfl (ev (v := .tuple #[.int .i64 0, .int .i64 6]) rfl rfl) rfl ?_)
  refine wl rfl (oextract (vs := [.int .i64 0, .int .i64 6]) (v := .int .i64 6) rfl rfl (ev (v := .tuple #[.int .i64 0, .int .i64 6]) rfl rfl) rfl ?_)
  refine wl rfl (oassign (v := .int .i64 0) rfl rfl (ev (v := .int .i64 0) rfl rfl) ?_)
  refine wl rfl (oassign (v := .int .i64 6) rfl rfl (ev (v := .int .i64 6) rfl rfl) ?_)
  refine wnil ?_
  refine thenN ?_
  refine wleave ?_
  refine wret2 Try.results44 (tellT (v := .int .i64 0) rfl rfl) (tellT (v := .int .i64 6) rfl rfl) ?_
  exact ⟨_, _, rfl, isI, hS.new0⟩

set_option maxRecDepth 100000 in
set_option maxHeartbeats 16000000 in
theorem wrcmp {x y u v s : Int} {bA bB bC bD : Bool} {qA qB qC qD : Option Addr} {nA kA nB kB nC kC nD kD : Nat} {w : World} (hzA : Zr w bA qA nA kA x 16777216) (hzB : Zr w bB qB nB kB y 16777216) (hzC : Zr w bC qC nC kC u 16777216) (hzD : Zr w bD qD nD kD v 16777216) (hy : y ≠ 0) (hv : v ≠ 0) (hs : Hid (cmpQ x y u v = s)) :
    Calls Try.prog 45 #[.agg #[.bool bA, .slice qA nA kA, .bool bB, .slice qB nB kB], .agg #[.bool bC, .slice qC nC kC, .bool bD, .slice qD nD kD]] w (Ret (Is (.tuple #[.int .i64 s, .int .i64 0])) w) := by
  have hS := Sep.init w
  refine went Try.func45 rfl (n := 12) rfl rfl ?_
  refine wseq ?_
  refine wreg ?_
  refine wl rfl (obox [.bool bA, .slice qA nA kA, .bool bB, .slice qB nB kB] hS rfl rfl (ev (v := .agg #[.bool bA, .slice qA nA kA, .bool bB, .slice qB nB kB]) rfl rfl) rfl ?_)
  clear hS; intro g1 w2 hS
  refine wl rfl (obox [.bool bC, .slice qC nC kC, .bool bD, .slice qD nD kD] hS rfl rfl (ev (v := .agg #[.bool bC, .slice qC nC kC, .bool bD, .slice qD nD kD]) rfl rfl) rfl ?_)
  clear hS; intro g3 w4 hS
  refine wl rfl (oassign (v := .int .i64 0) rfl rfl (evc (v := .int .i64 0)) ?_)
  refine wl rfl (oassign (v := .int .i64 0) rfl rfl (evc (v := .int .i64 0)) ?_)
  refine wnil ?_
  refine thenN ?_
  refine wseq ?_
  refine wreg ?_
  refine wl rfl (oload (vs := [.bool bA, .slice qA nA kA, .bool bB, .slice qB nB kB]) aggR hS 1 rfl rfl (ev rfl rfl) rfl rfl rfl ?_)
  refine wl rfl (oload (vs := [.bool bC, .slice qC nC kC, .bool bD, .slice qD nD kD]) aggR hS 0 rfl rfl (ev rfl rfl) rfl rfl rfl ?_)
  refine wl rfl (obslice (ps := #[(0, .agg #[.bool bA, .slice qA nA kA, .bool bB, .slice qB nB kB]), (1, .agg #[.bool bC, .slice qC nC kC, .bool bD, .slice qD nD kD])]) (z := .agg #[.bool false, .slice none 0 0, .bool false, .slice none 0 0]) [.bool bA, .slice qA nA kA, .bool bB, .slice qB nB kB, .bool bC, .slice qC nC kC, .bool bD, .slice qD nD kD] hS rfl rfl Try.runUnderlying38 Try.sizeOf27 Try.zeroValue27 (parts2 (ev (v := .agg #[.bool bA, .slice qA nA kA, .bool bB, .slice qB nB kB]) rfl rfl) (ev (v := .agg #[.bool bC, .slice qC nC kC, .bool bD, .slice qD nD kD]) rfl rfl)) rfl (by decide) fill4_2 ?_)
  clear hS; intro g5 w6 hS
  refine wl rfl (ocall rfl rfl Try.call67 rfl (wmI (z := s) (E := 0) Try.call91 (Rs.two (hS.blkAt 0 rfl) (hzA.at hS) (hzB.at hS) (hzC.at hS) (hzD.at hS)) (by omega) (by intro e he; simp only [List.mem_cons, List.not_mem_nil, or_false] at he; rcases he with rfl | rfl <;> assumption) (fun w1 p c h => wrcmp1 h (show Hid (_ = _) from (low_cmp hy hv).trans hs.out))) (args2 rfl (ev rfl rfl)) ?_)
  rintro _ w7 ⟨_, _, rfl, ⟨rfl, rfl⟩, hN⟩
  refine ⟨_, rfl, ?_⟩
  replace hS := hS.news hN; clear hN
  refine wl rfl (oextract (vs := [.int .i64 s, .int .i64 0]) (v := .int .i64 s) rfl rfl (ev (v := .tuple #[.int .i64 s, .int .i64 0]) rfl rfl) rfl ?_)
  refine wl rfl (oextract (vs := [.int .i64 s, .int .i64 0]) (v := .int .i64 0) rfl rfl (ev (v := .tuple #[.int .i64 s, .int .i64 0]) rfl rfl) rfl ?_)
  refine wl rfl (oassign (v := .int .i64 s) rfl rfl (ev (v := .int .i64 s) rfl rfl) ?_)
  refine wl rfl (oassign (v := .int .i64 0) rfl rfl (ev (v := .int .i64 0) rfl rfl) ?_)
  refine wnil ?_
  refine thenN ?_
  refine wleave ?_
  refine wret2 Try.results45 (tellT (v := .int .i64 s) rfl rfl) (tellT (v := .int .i64 0) rfl rfl) ?_
  exact ⟨_, _, rfl, isI, hS.new0⟩

set_option maxRecDepth 100000 in
set_option maxHeartbeats 16000000 in
theorem wrcmp0 {x y u v : Int} {bA bB bC bD : Bool} {qA qB qC qD : Option Addr} {nA kA nB kB nC kC nD kD : Nat} {w : World} (hzA : Zr w bA qA nA kA x 16777216) (hzB : Zr w bB qB nB kB y 16777216) (hzC : Zr w bC qC nC kC u 16777216) (hzD : Zr w bD qD nD kD v 16777216) (h0 : y = 0 ∨ v = 0) :
    Calls Try.prog 45 #[.agg #[.bool bA, .slice qA nA kA, .bool bB, .slice qB nB kB], .agg #[.bool bC, .slice qC nC kC, .bool bD, .slice qD nD kD]] w (Ret (Is (.tuple #[.int .i64 0, .int .i64 6])) w) := by
  have hS := Sep.init w
  refine went Try.func45 rfl (n := 12) rfl rfl ?_
  refine wseq ?_
  refine wreg ?_
  refine wl rfl (obox [.bool bA, .slice qA nA kA, .bool bB, .slice qB nB kB] hS rfl rfl (ev (v := .agg #[.bool bA, .slice qA nA kA, .bool bB, .slice qB nB kB]) rfl rfl) rfl ?_)
  clear hS; intro g1 w2 hS
  refine wl rfl (obox [.bool bC, .slice qC nC kC, .bool bD, .slice qD nD kD] hS rfl rfl (ev (v := .agg #[.bool bC, .slice qC nC kC, .bool bD, .slice qD nD kD]) rfl rfl) rfl ?_)
  clear hS; intro g3 w4 hS
  refine wl rfl (oassign (v := .int .i64 0) rfl rfl (evc (v := .int .i64 0)) ?_)
  refine wl rfl (oassign (v := .int .i64 0) rfl rfl (evc (v := .int .i64 0)) ?_)
  refine wnil ?_
  refine thenN ?_
  refine wseq ?_
  refine wreg ?_
  refine wl rfl (oload (vs := [.bool bA, .slice qA nA kA, .bool bB, .slice qB nB kB]) aggR hS 1 rfl rfl (ev rfl rfl) rfl rfl rfl ?_)
  refine wl rfl (oload (vs := [.bool bC, .slice qC nC kC, .bool bD, .slice qD nD kD]) aggR hS 0 rfl rfl (ev rfl rfl) rfl rfl rfl ?_)
  refine wl rfl (obslice (ps := #[(0, .agg #[.bool bA, .slice qA nA kA, .bool bB, .slice qB nB kB]), (1, .agg #[.bool bC, .slice qC nC kC, .bool bD, .slice qD nD kD])]) (z := .agg #[.bool false, .slice none 0 0, .bool false, .slice none 0 0]) [.bool bA, .slice qA nA kA, .bool bB, .slice qB nB kB, .bool bC, .slice qC nC kC, .bool bD, .slice qD nD kD] hS rfl rfl Try.runUnderlying38 Try.sizeOf27 Try.zeroValue27 (parts2 (ev (v := .agg #[.bool bA, .slice qA nA kA, .bool bB, .slice qB nB kB]) rfl rfl) (ev (v := .agg #[.bool bC, .slice qC nC kC, .bool bD, .slice qD nD kD]) rfl rfl)) rfl (by decide) fill4_2 ?_)
  clear hS; intro g5 w6 hS
  refine wl rfl (ocall rfl rfl Try.call67 rfl (wmadeI0 ((Rs.two (hS.blkAt 0 rfl) (hzA.at hS) (hzB.at hS) (hzC.at hS) (hzD.at hS)).mono (by omega)) (by rcases h0 with h0 | h0; exact ⟨_, List.mem_cons_self, h0⟩; exact ⟨_, List.mem_cons_of_mem _ List.mem_cons_self, h0⟩)) (args2 rfl (ev rfl rfl)) ?_)
  rintro _ w7 ⟨_, _, rfl, ⟨rfl, rfl⟩, hN⟩
  refine ⟨_, rfl, ?_⟩
  replace hS := hS.news hN; clear hN
  refine wl rfl (oextract (vs := [.int .i64 0, .int .i64 6]) (v := .int .i64 0) rfl rfl (ev (v := .tuple #[.int .i64 0, .int .i64 6]) rfl rfl) rfl ?_)
  refine wl rfl (oextract (vs := [.int .i64 0, .int .i64 6]) (v := .int .i64 6) rfl rfl (ev (v := .tuple #[.int .i64 0, .int .i64 6]) rfl rfl) rfl ?_)
  refine wl rfl (oassign (v := .int .i64 0) rfl rfl (ev (v := .int .i64 0) rfl rfl) ?_)
  refine wl rfl (oassign (v := .int .i64 6) rfl rfl (ev (v := .int .i64 6) rfl rfl) ?_)
  refine wnil ?_
  refine thenN ?_
  refine wleave ?_
  refine wret2 Try.results45 (tellT (v := .int .i64 0) rfl rfl) (tellT (v := .int .i64 6) rfl rfl) ?_
  exact ⟨_, _, rfl, isI, hS.new0⟩

set_option maxRecDepth 100000 in
set_option maxHeartbeats 16000000 in
theorem wrfloor {x y z : Int} {bA bB : Bool} {qA qB : Option Addr} {nA kA nB kB : Nat} {w : World} (hzA : Zr w bA qA nA kA x 16777216) (hzB : Zr w bB qB nB kB y 16777216) (hy : y ≠ 0) (hz : Hid (RN x y / RD x y = z)) :
    Calls Try.prog 46 #[.agg #[.bool bA, .slice qA nA kA, .bool bB, .slice qB nB kB]] w (Ret (ZEt z 0) w) := by
  have hS := Sep.init w
  refine went Try.func46 rfl (n := 9) rfl rfl ?_
  refine wseq ?_
  refine wreg ?_
  refine wl rfl (obox [.bool bA, .slice qA nA kA, .bool bB, .slice qB nB kB] hS rfl rfl (ev (v := .agg #[.bool bA, .slice qA nA kA, .bool bB, .slice qB nB kB]) rfl rfl) rfl ?_)
  clear hS; intro g1 w2 hS
  refine wl rfl (oalloc [.bool false, .slice none 0 0] hS rfl rfl Try.zeroValue25 rfl ?_)
  clear hS; intro g3 w4 hS
  refine wl rfl (oassign (v := .int .i64 0) rfl rfl (evc (v := .int .i64 0)) ?_)
  refine wnil ?_
  refine thenN ?_
  refine wseq ?_
  refine wreg ?_
  refine wl rfl (oload (vs := [.bool bA, .slice qA nA kA, .bool bB, .slice qB nB kB]) aggR hS 1 rfl rfl (ev rfl rfl) rfl rfl rfl ?_)
  refine wl rfl (obslice (ps := #[(0, .agg #[.bool bA, .slice qA nA kA, .bool bB, .slice qB nB kB])]) (z := .agg #[.bool false, .slice none 0 0, .bool false, .slice none 0 0]) [.bool bA, .slice qA nA kA, .bool bB, .slice qB nB kB] hS rfl rfl Try.runUnderlying38 Try.sizeOf27 Try.zeroValue27 (parts1 (ev (v := .agg #[.bool bA, .slice qA nA kA, .bool bB, .slice qB nB kB]) rfl rfl)) rfl (by decide) fill4_1 ?_)
  clear hS; intro g5 w6 hS
  refine wl rfl (ocall rfl rfl Try.call93 rfl (wmZ (z := z) (E := 0) Try.call94 (Rs.one (hS.blkAt 0 rfl) (hzA.at hS) (hzB.at hS)) (by omega) (by intro e he; simp only [List.mem_cons, List.not_mem_nil, or_false] at he; subst he; assumption) (fun w1 p c h => wrfloor1 h (Int.ne_of_gt (RD_pos (x := x) hy)) hz)) (args2 rfl (ev rfl rfl)) ?_)
  rintro _ w7 ⟨_, _, rfl, ⟨pr1, nr1, cr1, rfl, rfl⟩, hN⟩
  refine ⟨_, rfl, ?_⟩
  replace hS := hS.news hN; clear hN
  refine wl rfl (oextract (vs := [.agg #[.bool (ng z), .slice pr1 nr1 cr1], .int .i64 0]) (v := .agg #[.bool (ng z), .slice pr1 nr1 cr1]) rfl rfl (ev (v := .tuple #[.agg #[.bool (ng z), .slice pr1 nr1 cr1], .int .i64 0]) rfl rfl) rfl ?_)
  refine wl rfl (oextract (vs := [.agg #[.bool (ng z), .slice pr1 nr1 cr1], .int .i64 0]) (v := .int .i64 0) rfl rfl (ev (v := .tuple #[.agg #[.bool (ng z), .slice pr1 nr1 cr1], .int .i64 0]) rfl rfl) rfl ?_)
  refine wl rfl (ostore [.bool (ng z), .slice pr1 nr1 cr1] [.bool (ng z), .slice pr1 nr1 cr1] Try.sizeOf25 hS 2 rfl rfl (ev rfl rfl) (ev (v := .agg #[.bool (ng z), .slice pr1 nr1 cr1]) rfl rfl) rfl rfl rfl rfl rfl rfl ?_)
  clear hS; intro w8 hS
  refine wl rfl (oassign (v := .int .i64 0) rfl rfl (ev (v := .int .i64 0) rfl rfl) ?_)
  refine wnil ?_
  refine thenN ?_
  refine wleave ?_
  refine wret2 Try.results46 (tellC (cs := [.bool (ng z), .slice pr1 nr1 cr1]) aggZ hS 2 rfl rfl rfl rfl) (tellT (v := .int .i64 0) rfl rfl) ?_
  exact ⟨_, _, rfl, ⟨_, _, _, rfl, rfl⟩, hS.new1 0 rfl⟩

set_option maxRecDepth 100000 in
set_option maxHeartbeats 16000000 in
theorem wrfloor0 {x y : Int} {bA bB : Bool} {qA qB : Option Addr} {nA kA nB kB : Nat} {w : World} (hzA : Zr w bA qA nA kA x 16777216) (hzB : Zr w bB qB nB kB y 16777216) (h0 : y = 0) :
    Calls Try.prog 46 #[.agg #[.bool bA, .slice qA nA kA, .bool bB, .slice qB nB kB]] w (Ret (Is (.tuple #[.agg #[.bool false, .slice none 0 0], .int .i64 6])) w) := by
  have hS := Sep.init w
  refine went Try.func46 rfl (n := 9) rfl rfl ?_
  refine wseq ?_
  refine wreg ?_
  refine wl rfl (obox [.bool bA, .slice qA nA kA, .bool bB, .slice qB nB kB] hS rfl rfl (ev (v := .agg #[.bool bA, .slice qA nA kA, .bool bB, .slice qB nB kB]) rfl rfl) rfl ?_)
  clear hS; intro g1 w2 hS
  refine wl rfl (oalloc [.bool false, .slice none 0 0] hS rfl rfl Try.zeroValue25 rfl ?_)
  clear hS; intro g3 w4 hS
  refine wl rfl (oassign (v := .int .i64 0) rfl rfl (evc (v := .int .i64 0)) ?_)
  refine wnil ?_
  refine thenN ?_
  refine wseq ?_
  refine wreg ?_
  refine wl rfl (oload (vs := [.bool bA, .slice qA nA kA, .bool bB, .slice qB nB kB]) aggR hS 1 rfl rfl (ev rfl rfl) rfl rfl rfl ?_)
  refine wl rfl (obslice (ps := #[(0, .agg #[.bool bA, .slice qA nA kA, .bool bB, .slice qB nB kB])]) (z := .agg #[.bool false, .slice none 0 0, .bool false, .slice none 0 0]) [.bool bA, .slice qA nA kA, .bool bB, .slice qB nB kB] hS rfl rfl Try.runUnderlying38 Try.sizeOf27 Try.zeroValue27 (parts1 (ev (v := .agg #[.bool bA, .slice qA nA kA, .bool bB, .slice qB nB kB]) rfl rfl)) rfl (by decide) fill4_1 ?_)
  clear hS; intro g5 w6 hS
  refine wl rfl (ocall rfl rfl Try.call93 rfl (wmadeZ0 ((Rs.one (hS.blkAt 0 rfl) (hzA.at hS) (hzB.at hS)).mono (by omega)) ⟨_, List.mem_cons_self, h0⟩) (args2 rfl (ev rfl rfl)) ?_)
  rintro _ w7 ⟨_, _, rfl, ⟨rfl, rfl⟩, hN⟩
  refine ⟨_, rfl, ?_⟩
  replace hS := hS.news hN; clear hN
  refine wl rfl (oextract (vs := [.agg #[.bool false, .slice none 0 0], .int .i64 6]) (v := .agg #[.bool false, .slice none 0 0]) rfl rfl (ev (v := .tuple #[.agg #[.bool false, .slice none 0 0], .int .i64 6]) rfl rfl) rfl ?_)
  refine wl rfl (oextract (vs := [.agg #[.bool false, .slice none 0 0], .int .i64 6]) (v := .int .i64 6) rfl rfl (ev (v := .tuple #[.agg #[.bool false, .slice none 0 0], .int .i64 6]) rfl rfl) rfl ?_)
  refine wl rfl (ostore [.bool false, .slice none 0 0] [.bool false, .slice none 0 0] Try.sizeOf25 hS 1 rfl rfl (ev rfl rfl) (ev (v := .agg #[.bool false, .slice none 0 0]) rfl rfl) rfl rfl rfl rfl rfl rfl ?_)
  clear hS; intro w8 hS
  refine wl rfl (oassign (v := .int .i64 6) rfl rfl (ev (v := .int .i64 6) rfl rfl) ?_)
  refine wnil ?_
  refine thenN ?_
  refine wleave ?_
  refine wret2 Try.results46 (tellC (cs := [.bool false, .slice none 0 0]) aggZ hS 1 rfl rfl rfl rfl) (tellT (v := .int .i64 6) rfl rfl) ?_
  exact ⟨_, _, rfl, isI, hS.new0⟩

set_option maxRecDepth 100000 in
set_option maxHeartbeats 16000000 in
theorem wrof {x : Int} {w : World} (h1 : -9223372036854775808 ≤ x) (h2 : x ≤ 9223372036854775807) :
    Calls Try.prog 47 #[.int .i64 x] w (Ret (Rrt x 1) w) := by
  have hS := Sep.init w
  refine went Try.func47 rfl (n := 7) rfl rfl ?_
  refine wseq ?_
  refine wreg ?_
  refine wl rfl (oalloc [.bool false, .slice none 0 0, .bool false, .slice none 0 0] hS rfl rfl Try.zeroValue27 rfl ?_)
  clear hS; intro g1 w2 hS
  refine wnil ?_
  refine thenN ?_
  refine wseq ?_
  refine wreg ?_
  refine wl rfl (omove (v := .int .i64 x) rfl rfl (ev (v := .int .i64 x) rfl rfl) ?_)
  have hk1 : Wd x 2 := Wd.i64 (h1) (h2)
  refine wl rfl (ocall rfl rfl Try.call64 rfl ((wzof (z := x) (h1) (h2)).mono Zt.m) (args1 (ev rfl rfl)) ?_)
  rintro _ w3 ⟨_, _, rfl, ⟨p1, n1, c1, rfl, rfl⟩, hN⟩
  refine ⟨_, rfl, ?_⟩
  replace hS := hS.news hN; clear hN
  have hk2 : Wd 1 2 := Wd.i64 (by omega) (by omega)
  refine wl rfl (ocall rfl rfl Try.call64 rfl ((wzof (z := 1) (by omega) (by omega)).mono Zt.m) (args1 evc) ?_)
  rintro _ w4 ⟨_, _, rfl, ⟨p2, n2, c2, rfl, rfl⟩, hN⟩
  refine ⟨_, rfl, ?_⟩
  replace hS := hS.news hN; clear hN
  refine wl rfl (obuild (ps := #[(0, .agg #[.bool (ng x), .slice p1 n1 c1]), (1, .agg #[.bool (ng 1), .slice p2 n2 c2])]) (v := .agg #[.bool (ng x), .slice p1 n1 c1, .bool (ng 1), .slice p2 n2 c2]) rfl rfl (parts2 (ev (v := .agg #[.bool (ng x), .slice p1 n1 c1]) rfl rfl) (ev (v := .agg #[.bool (ng 1), .slice p2 n2 c2]) rfl rfl)) (fun w => by simp [go_sem, Instr.build, Instr.fill]) ?_)
  refine wl rfl (ostore [.bool (ng x), .slice p1 n1 c1, .bool (ng 1), .slice p2 n2 c2] [.bool (ng x), .slice p1 n1 c1, .bool (ng 1), .slice p2 n2 c2] Try.sizeOf27 hS 2 rfl rfl (ev rfl rfl) (ev (v := .agg #[.bool (ng x), .slice p1 n1 c1, .bool (ng 1), .slice p2 n2 c2]) rfl rfl) rfl rfl rfl rfl rfl rfl ?_)
  clear hS; intro w5 hS
  refine wnil ?_
  refine thenN ?_
  refine wleave ?_
  refine wret1 Try.results47 (tellC (cs := [.bool (ng x), .slice p1 n1 c1, .bool (ng 1), .slice p2 n2 c2]) aggR hS 2 rfl rfl rfl rfl) ?_
  exact ⟨_, _, rfl, ⟨_, _, _, _, _, _, rfl, rfl⟩, hS.newM [1, 0] (by decide) rfl rfl⟩

set_option maxRecDepth 100000 in
set_option maxHeartbeats 16000000 in
theorem wsof {x : Int} {w : World} (h1 : -9223372036854775808 ≤ x) (h2 : x ≤ 9223372036854775807) :
    Calls Try.prog 48 #[.int .i64 x] w (Ret (Rrt x 1) w) := by
  have hS := Sep.init w
  refine went Try.func48 rfl (n := 7) rfl rfl ?_
  refine wseq ?_
  refine wreg ?_
  refine wl rfl (oalloc [.bool false, .slice none 0 0, .bool false, .slice none 0 0] hS rfl rfl Try.zeroValue27 rfl ?_)
  clear hS; intro g1 w2 hS
  refine wnil ?_
  refine thenN ?_
  refine wseq ?_
  refine wreg ?_
  refine wl rfl (omove (v := .int .i64 x) rfl rfl (ev (v := .int .i64 x) rfl rfl) ?_)
  have hk1 : Wd x 2 := Wd.i64 (h1) (h2)
  refine wl rfl (ocall rfl rfl Try.call60 rfl ((wqof (z := x) (h1) (h2)).mono Zt.m) (args1 (ev rfl rfl)) ?_)
  rintro _ w3 ⟨_, _, rfl, ⟨p1, n1, c1, rfl, rfl⟩, hN⟩
  refine ⟨_, rfl, ?_⟩
  replace hS := hS.news hN; clear hN
  have hk2 : Wd 1 2 := Wd.i64 (by omega) (by omega)
  refine wl rfl (ocall rfl rfl Try.call60 rfl ((wqof (z := 1) (by omega) (by omega)).mono Zt.m) (args1 evc) ?_)
  rintro _ w4 ⟨_, _, rfl, ⟨p2, n2, c2, rfl, rfl⟩, hN⟩
  refine ⟨_, rfl, ?_⟩
  replace hS := hS.news hN; clear hN
  refine wl rfl (obuild (ps := #[(0, .agg #[.bool (ng x), .slice p1 n1 c1]), (1, .agg #[.bool (ng 1), .slice p2 n2 c2])]) (v := .agg #[.bool (ng x), .slice p1 n1 c1, .bool (ng 1), .slice p2 n2 c2]) rfl rfl (parts2 (ev (v := .agg #[.bool (ng x), .slice p1 n1 c1]) rfl rfl) (ev (v := .agg #[.bool (ng 1), .slice p2 n2 c2]) rfl rfl)) (fun w => by simp [go_sem, Instr.build, Instr.fill]) ?_)
  refine wl rfl (ostore [.bool (ng x), .slice p1 n1 c1, .bool (ng 1), .slice p2 n2 c2] [.bool (ng x), .slice p1 n1 c1, .bool (ng 1), .slice p2 n2 c2] Try.sizeOf27 hS 2 rfl rfl (ev rfl rfl) (ev (v := .agg #[.bool (ng x), .slice p1 n1 c1, .bool (ng 1), .slice p2 n2 c2]) rfl rfl) rfl rfl rfl rfl rfl rfl ?_)
  clear hS; intro w5 hS
  refine wnil ?_
  refine thenN ?_
  refine wleave ?_
  refine wret1 Try.results48 (tellC (cs := [.bool (ng x), .slice p1 n1 c1, .bool (ng 1), .slice p2 n2 c2]) aggR hS 2 rfl rfl rfl rfl) ?_
  exact ⟨_, _, rfl, ⟨_, _, _, _, _, _, rfl, rfl⟩, hS.newM [1, 0] (by decide) rfl rfl⟩

set_option maxRecDepth 100000 in
set_option maxHeartbeats 16000000 in
theorem wlfrac {x y : Int} {w : World} (h1 : -9223372036854775808 ≤ x) (h2 : x ≤ 9223372036854775807) (h3 : -9223372036854775808 ≤ y) (h4 : y ≤ 9223372036854775807) :
    Calls Try.prog 61 #[.int .i64 x, .int .i64 y] w (Ret (Rrt x y) w) := by
  have hS := Sep.init w
  refine went Try.func61 rfl (n := 10) rfl rfl ?_
  refine wseq ?_
  refine wreg ?_
  refine wl rfl (oalloc [.bool false, .slice none 0 0, .bool false, .slice none 0 0] hS rfl rfl Try.zeroValue27 rfl ?_)
  clear hS; intro g1 w2 hS
  refine wnil ?_
  refine thenN ?_
  refine wseq ?_
  refine wreg ?_
  refine wl rfl (omove (v := .int .i64 x) rfl rfl (ev (v := .int .i64 x) rfl rfl) ?_)
  have hk1 : Wd x 2 := Wd.i64 (h1) (h2)
  refine wl rfl (ocall rfl rfl Try.call60 rfl ((wqof (z := x) (h1) (h2)).mono Zt.m) (args1 (ev rfl rfl)) ?_)
  rintro _ w3 ⟨_, _, rfl, ⟨p1, n1, c1, rfl, rfl⟩, hN⟩
  refine ⟨_, rfl, ?_⟩
  replace hS := hS.news hN; clear hN
  refine wl rfl (omove (v := .int .i64 y) rfl rfl (ev (v := .int .i64 y) rfl rfl) ?_)
  have hk2 : Wd y 2 := Wd.i64 (h3) (h4)
  refine wl rfl (ocall rfl rfl Try.call60 rfl ((wqof (z := y) (h3) (h4)).mono Zt.m) (args1 (ev rfl rfl)) ?_)
  rintro _ w4 ⟨_, _, rfl, ⟨p2, n2, c2, rfl, rfl⟩, hN⟩
  refine ⟨_, rfl, ?_⟩
  replace hS := hS.news hN; clear hN
  refine wl rfl (obuild (ps := #[(0, .agg #[.bool (ng x), .slice p1 n1 c1]), (1, .agg #[.bool (ng y), .slice p2 n2 c2])]) (v := .agg #[.bool (ng x), .slice p1 n1 c1, .bool (ng y), .slice p2 n2 c2]) rfl rfl (parts2 (ev (v := .agg #[.bool (ng x), .slice p1 n1 c1]) rfl rfl) (ev (v := .agg #[.bool (ng y), .slice p2 n2 c2]) rfl rfl)) (fun w => by simp [go_sem, Instr.build, Instr.fill]) ?_)
  refine wl rfl (ostore [.bool (ng x), .slice p1 n1 c1, .bool (ng y), .slice p2 n2 c2] [.bool (ng x), .slice p1 n1 c1, .bool (ng y), .slice p2 n2 c2] Try.sizeOf27 hS 2 rfl rfl (ev rfl rfl) (ev (v := .agg #[.bool (ng x), .slice p1 n1 c1, .bool (ng y), .slice p2 n2 c2]) rfl rfl) rfl rfl rfl rfl rfl rfl ?_)
  clear hS; intro w5 hS
  refine wnil ?_
  refine thenN ?_
  refine wleave ?_
  refine wret1 Try.results61 (tellC (cs := [.bool (ng x), .slice p1 n1 c1, .bool (ng y), .slice p2 n2 c2]) aggR hS 2 rfl rfl rfl rfl) ?_
  exact ⟨_, _, rfl, ⟨_, _, _, _, _, _, rfl, rfl⟩, hS.newM [1, 0] (by decide) rfl rfl⟩

set_option maxRecDepth 100000 in
set_option maxHeartbeats 16000000 in
theorem wsadd {x y u v z t : Int} {bA bB bC bD : Bool} {qA qB qC qD : Option Addr} {nA kA nB kB nC kC nD kD : Nat} {w : World} (hzA : Zr w bA qA nA kA x 16777216) (hzB : Zr w bB qB nB kB y 16777216) (hzC : Zr w bC qC nC kC u 16777216) (hzD : Zr w bD qD nD kD v 16777216) (hy : y ≠ 0) (hv : v ≠ 0) (hz : Hid (RN (x * v + u * y) (y * v) = z)) (ht : Hid (RD (x * v + u * y) (y * v) = t)) :
    Calls Try.prog 34 #[.agg #[.bool bA, .slice qA nA kA, .bool bB, .slice qB nB kB], .agg #[.bool bC, .slice qC nC kC, .bool bD, .slice qD nD kD]] w (Ret (Rrt z t) w) := by
  have hS := Sep.init w
  refine went Try.func34 rfl (n := 22) rfl rfl ?_
  refine wseq ?_
  refine wreg ?_
  refine wl rfl (obox [.bool bA, .slice qA nA kA, .bool bB, .slice qB nB kB] hS rfl rfl (ev (v := .agg #[.bool bA, .slice qA nA kA, .bool bB, .slice qB nB kB]) rfl rfl) rfl ?_)
  clear hS; intro g1 w2 hS
  refine wl rfl (obox [.bool bC, .slice qC nC kC, .bool bD, .slice qD nD kD] hS rfl rfl (ev (v := .agg #[.bool bC, .slice qC nC kC, .bool bD, .slice qD nD kD]) rfl rfl) rfl ?_)
  clear hS; intro g3 w4 hS
  refine wl rfl (oalloc [.bool false, .slice none 0 0, .bool false, .slice none 0 0] hS rfl rfl Try.zeroValue27 rfl ?_)
  clear hS; intro g5 w6 hS
  refine wnil ?_
  refine thenN ?_
  refine wseq ?_
  obtain ⟨z1, hz1⟩ : ∃ z : Int, Hid (x * v = z) := ⟨_, rfl⟩
  have hk1 : Wd z1 33554432 := Wd.mul hzA.wd hzD.wd hz1 (by omega)
  obtain ⟨z2, hz2⟩ : ∃ z : Int, Hid (u * y = z) := ⟨_, rfl⟩
  have hk2 : Wd z2 33554432 := Wd.mul hzC.wd hzB.wd hz2 (by omega)
  obtain ⟨z3, hz3⟩ : ∃ z : Int, Hid (z1 + z2 = z) := ⟨_, rfl⟩
  have hk3 : Wd z3 33554433 := Wd.add hk1 hk2 hz3 (by omega)
  obtain ⟨z4, hz4⟩ : ∃ z : Int, Hid (y * v = z) := ⟨_, rfl⟩
  have hk4 : Wd z4 33554432 := Wd.mul hzB.wd hzD.wd hz4 (by omega)
  obtain ⟨z5, hz5⟩ : ∃ z : Int, Hid (RN z3 z4 = z) := ⟨_, rfl⟩
  have hk5 : Wd z5 33554433 := Wd.rn hk3 hz5
  obtain ⟨z6, hz6⟩ : ∃ z : Int, Hid (RD z3 z4 = z) := ⟨_, rfl⟩
  have hk6 : Wd z6 33554432 := Wd.rd hk4 hz6
  refine wstage 17 [5, 6, 7, 8, 9, 10, 11, 12, 13, 14, 15, 16, 17, 18, 19, 20, 21] [[], [0], [], [2], [1, 3, 0, 2], [], [5], [], [7], [6, 8, 0, 1, 2, 3, 4, 5, 7], [4, 9, 0, 1, 2, 3, 5, 6, 7, 8], [], [11], [], [13], [12, 14, 0, 1, 2, 3, 4, 5, 6, 7, 8, 9, 10, 11, 13], [10, 15, 0, 1, 2, 3, 4, 5, 6, 7, 8, 9, 11, 12, 13, 14]] [[], [], [], [], [], [], [], [], [], [], [], [], [], [], [], [], []] [] [] (fun i9 => ([fun _ => Is (.pointer (some ⟨g1, 0, none⟩)), fun _ => Is (.agg #[.bool bA, .slice qA nA kA]), fun _ => Is (.pointer (some ⟨g3, 2, none⟩)), fun _ => Is (.agg #[.bool bD, .slice qD nD kD]), fun _ => Zt z1, fun _ => Is (.pointer (some ⟨g3, 0, none⟩)), fun _ => Is (.agg #[.bool bC, .slice qC nC kC]), fun _ => Is (.pointer (some ⟨g1, 2, none⟩)), fun _ => Is (.agg #[.bool bB, .slice qB nB kB]), fun _ => Zt z2, fun _ => Zt z3, fun _ => Is (.pointer (some ⟨g1, 2, none⟩)), fun _ => Is (.agg #[.bool bB, .slice qB nB kB]), fun _ => Is (.pointer (some ⟨g3, 2, none⟩)), fun _ => Is (.agg #[.bool bD, .slice qD nD kD]), fun _ => Zt z4, fun _ => Rrt z5 z6] : List (List Value → Tell)).getD i9 (fun _ _ _ => False)) (heldNil) (fun d _ _ _ _ h => (by cases d <;> exact h)) (by kernel_rfl) (by kernel_rfl) (by kernel_rfl) hS ?_ ?_
  ·
    refine stepsCons rfl ?_ ?_
    · intro Q f' w' ρ S ho hT hS hB
      exact .inl ⟨want_none rfl, ofieldAddr (g := g1) (off := 0) 0 rfl rfl (ev (v := .pointer (some ⟨g1, 0, none⟩)) rfl (ho 2 rfl)) Try.runUnderlying27 rfl Try.sizeOf25 rfl ⟨_, _, rfl, isI, New.same _⟩⟩
    refine stepsCons rfl ?_ ?_
    · intro Q f' w' ρ S ho hT hS hB
      obtain ⟨hv0, hr0⟩ := (hT 0 5 rfl rfl : (Is (.pointer (some ⟨g1, 0, none⟩))) (f' 5) (ρ 0))
      obtain hS := hS.flat1 hr0
      exact .inl ⟨want_none rfl, oload (vs := [.bool bA, .slice qA nA kA]) aggZ hS 2 rfl rfl (ev rfl hv0) rfl rfl rfl ⟨_, _, rfl, isI, New.same _⟩⟩
    refine stepsCons rfl ?_ ?_
    · intro Q f' w' ρ S ho hT hS hB
      exact .inl ⟨want_none rfl, ofieldAddr (g := g3) (off := 0) 2 rfl rfl (ev (v := .pointer (some ⟨g3, 0, none⟩)) rfl (ho 3 rfl)) Try.runUnderlying27 rfl Try.sizeOf25 rfl ⟨_, _, rfl, isI, New.same _⟩⟩
    refine stepsCons rfl ?_ ?_
    · intro Q f' w' ρ S ho hT hS hB
      obtain ⟨hv2, hr2⟩ := (hT 2 7 rfl rfl : (Is (.pointer (some ⟨g3, 2, none⟩))) (f' 7) (ρ 2))
      obtain hS := hS.flat1 hr2
      exact .inl ⟨want_none rfl, oload (vs := [.bool bD, .slice qD nD kD]) aggZ hS 1 rfl rfl (ev rfl hv2) rfl rfl rfl ⟨_, _, rfl, isI, New.same _⟩⟩
    refine stepsCons rfl ?_ ?_
    · intro Q f' w' ρ S ho hT hS hB
      obtain ⟨hv1, hr1⟩ := (hT 1 6 rfl rfl : (Is (.agg #[.bool bA, .slice qA nA kA])) (f' 6) (ρ 1))
      obtain ⟨hv3, hr3⟩ := (hT 3 8 rfl rfl : (Is (.agg #[.bool bD, .slice qD nD kD])) (f' 8) (ρ 3))
      obtain hS := hS.flat2 hr1 hr3
      refine .inl ⟨want_none rfl, ocall rfl rfl Try.call83 rfl (wqmul ((hzA.at hS).mono (by omega)) ((hzD.at hS).mono (by omega)) hz1) (args2 (ev rfl hv1) (ev rfl hv3)) ?_⟩
      rintro _ w9 ⟨_, _, rfl, hTT, hN⟩
      exact ⟨_, rfl, _, _, rfl, hTT, hN⟩
    refine stepsCons rfl ?_ ?_
    · intro Q f' w' ρ S ho hT hS hB
      exact .inl ⟨want_none rfl, ofieldAddr (g := g3) (off := 0) 0 rfl rfl (ev (v := .pointer (some ⟨g3, 0, none⟩)) rfl (ho 3 rfl)) Try.runUnderlying27 rfl Try.sizeOf25 rfl ⟨_, _, rfl, isI, New.same _⟩⟩
    refine stepsCons rfl ?_ ?_
    · intro Q f' w' ρ S ho hT hS hB
      obtain ⟨hv5, hr5⟩ := (hT 5 10 rfl rfl : (Is (.pointer (some ⟨g3, 0, none⟩))) (f' 10) (ρ 5))
      obtain hS := hS.flat1 hr5
      exact .inl ⟨want_none rfl, oload (vs := [.bool bC, .slice qC nC kC]) aggZ hS 1 rfl rfl (ev rfl hv5) rfl rfl rfl ⟨_, _, rfl, isI, New.same _⟩⟩
    refine stepsCons rfl ?_ ?_
    · intro Q f' w' ρ S ho hT hS hB
      exact .inl ⟨want_none rfl, ofieldAddr (g := g1) (off := 0) 2 rfl rfl (ev (v := .pointer (some ⟨g1, 0, none⟩)) rfl (ho 2 rfl)) Try.runUnderlying27 rfl Try.sizeOf25 rfl ⟨_, _, rfl, isI, New.same _⟩⟩
    refine stepsCons rfl ?_ ?_
    · intro Q f' w' ρ S ho hT hS hB
      obtain ⟨hv7, hr7⟩ := (hT 7 12 rfl rfl : (Is (.pointer (some ⟨g1, 2, none⟩))) (f' 12) (ρ 7))
      obtain hS := hS.flat1 hr7
      exact .inl ⟨want_none rfl, oload (vs := [.bool bB, .slice qB nB kB]) aggZ hS 2 rfl rfl (ev rfl hv7) rfl rfl rfl ⟨_, _, rfl, isI, New.same _⟩⟩
    refine stepsCons rfl ?_ ?_
    · intro Q f' w' ρ S ho hT hS hB
      obtain ⟨hv6, hr6⟩ := (hT 6 11 rfl rfl : (Is (.agg #[.bool bC, .slice qC nC kC])) (f' 11) (ρ 6))
      obtain ⟨hv8, hr8⟩ := (hT 8 13 rfl rfl : (Is (.agg #[.bool bB, .slice qB nB kB])) (f' 13) (ρ 8))
      obtain hS := hS.flat2 hr6 hr8
      refine .inl ⟨want_none rfl, ocall rfl rfl Try.call83 rfl (wqmul ((hzC.at hS).mono (by omega)) ((hzB.at hS).mono (by omega)) hz2) (args2 (ev rfl hv6) (ev rfl hv8)) ?_⟩
      rintro _ w9 ⟨_, _, rfl, hTT, hN⟩
      exact ⟨_, rfl, _, _, rfl, hTT, hN⟩
    refine stepsCons rfl ?_ ?_
    · intro Q f' w' ρ S ho hT hS hB
      obtain ⟨p1, n1, c1, hv4, hr4⟩ := (hT 4 9 rfl rfl : (Zt z1) (f' 9) (ρ 4))
      obtain ⟨p2, n2, c2, hv9, hr9⟩ := (hT 9 14 rfl rfl : (Zt z2) (f' 14) (ρ 9))
      obtain hS := hS.flat2 hr4 hr9
      refine .inl ⟨want_none rfl, ocall rfl rfl Try.call82 rfl (wqadd (((hS.sl 3 rfl).zr hk1).mono (by omega)) (((hS.sl 4 rfl).zr hk2).mono (by omega)) hz3) (args2 (ev rfl hv4) (ev rfl hv9)) ?_⟩
      rintro _ w9 ⟨_, _, rfl, hTT, hN⟩
      exact ⟨_, rfl, _, _, rfl, hTT, hN⟩
    refine stepsCons rfl ?_ ?_
    · intro Q f' w' ρ S ho hT hS hB
      exact .inl ⟨want_none rfl, ofieldAddr (g := g1) (off := 0) 2 rfl rfl (ev (v := .pointer (some ⟨g1, 0, none⟩)) rfl (ho 2 rfl)) Try.runUnderlying27 rfl Try.sizeOf25 rfl ⟨_, _, rfl, isI, New.same _⟩⟩
    refine stepsCons rfl ?_ ?_
    · intro Q f' w' ρ S ho hT hS hB
      obtain ⟨hv11, hr11⟩ := (hT 11 16 rfl rfl : (Is (.pointer (some ⟨g1, 2, none⟩))) (f' 16) (ρ 11))
      obtain hS := hS.flat1 hr11
      exact .inl ⟨want_none rfl, oload (vs := [.bool bB, .slice qB nB kB]) aggZ hS 2 rfl rfl (ev rfl hv11) rfl rfl rfl ⟨_, _, rfl, isI, New.same _⟩⟩
    refine stepsCons rfl ?_ ?_
    · intro Q f' w' ρ S ho hT hS hB
      exact .inl ⟨want_none rfl, ofieldAddr (g := g3) (off := 0) 2 rfl rfl (ev (v := .pointer (some ⟨g3, 0, none⟩)) rfl (ho 3 rfl)) Try.runUnderlying27 rfl Try.sizeOf25 rfl ⟨_, _, rfl, isI, New.same _⟩⟩
    refine stepsCons rfl ?_ ?_
    · intro Q f' w' ρ S ho hT hS hB
      obtain ⟨hv13, hr13⟩ := (hT 13 18 rfl rfl : (Is (.pointer (some ⟨g3, 2, none⟩))) (f' 18) (ρ 13))
      obtain hS := hS.flat1 hr13
      exact .inl ⟨want_none rfl, oload (vs := [.bool bD, .slice qD nD kD]) aggZ hS 1 rfl rfl (ev rfl hv13) rfl rfl rfl ⟨_, _, rfl, isI, New.same _⟩⟩
    refine stepsCons rfl ?_ ?_
    · intro Q f' w' ρ S ho hT hS hB
      obtain ⟨hv12, hr12⟩ := (hT 12 17 rfl rfl : (Is (.agg #[.bool bB, .slice qB nB kB])) (f' 17) (ρ 12))
      obtain ⟨hv14, hr14⟩ := (hT 14 19 rfl rfl : (Is (.agg #[.bool bD, .slice qD nD kD])) (f' 19) (ρ 14))
      obtain hS := hS.flat2 hr12 hr14
      refine .inl ⟨want_none rfl, ocall rfl rfl Try.call83 rfl (wqmul ((hzB.at hS).mono (by omega)) ((hzD.at hS).mono (by omega)) hz4) (args2 (ev rfl hv12) (ev rfl hv14)) ?_⟩
      rintro _ w9 ⟨_, _, rfl, hTT, hN⟩
      exact ⟨_, rfl, _, _, rfl, hTT, hN⟩
    refine stepsCons rfl ?_ ?_
    · intro Q f' w' ρ S ho hT hS hB
      obtain ⟨p3, n3, c3, hv10, hr10⟩ := (hT 10 15 rfl rfl : (Zt z3) (f' 15) (ρ 10))
      obtain ⟨p4, n4, c4, hv15, hr15⟩ := (hT 15 20 rfl rfl : (Zt z4) (f' 20) (ρ 15))
      obtain hS := hS.flat2 hr10 hr15
      refine .inl ⟨want_none rfl, ocall rfl rfl Try.call59 rfl (wsmake (((hS.sl 3 rfl).zr hk3).mono (by omega)) (((hS.sl 4 rfl).zr hk4).mono (by omega)) (by rw [← hz4.out]; exact ne_mul hy hv) hz5 hz6) (args2 (ev rfl hv10) (ev rfl hv15)) ?_⟩
      rintro _ w9 ⟨_, _, rfl, hTT, hN⟩
      exact ⟨_, rfl, _, _, rfl, hTT, hN⟩
    exact stepsNil
  ·
    intro vs ρ w7 f' hf hT hS
    obtain ⟨hv0, hr0⟩ := (hT 0 (by decide) : (Is (.pointer (some ⟨g1, 0, none⟩))) (vs 0) (ρ 0))
    obtain ⟨hv1, hr1⟩ := (hT 1 (by decide) : (Is (.agg #[.bool bA, .slice qA nA kA])) (vs 1) (ρ 1))
    obtain ⟨hv2, hr2⟩ := (hT 2 (by decide) : (Is (.pointer (some ⟨g3, 2, none⟩))) (vs 2) (ρ 2))
    obtain ⟨hv3, hr3⟩ := (hT 3 (by decide) : (Is (.agg #[.bool bD, .slice qD nD kD])) (vs 3) (ρ 3))
    obtain ⟨p1, n1, c1, hv4, hr4⟩ := (hT 4 (by decide) : (Zt z1) (vs 4) (ρ 4))
    obtain ⟨hv5, hr5⟩ := (hT 5 (by decide) : (Is (.pointer (some ⟨g3, 0, none⟩))) (vs 5) (ρ 5))
    obtain ⟨hv6, hr6⟩ := (hT 6 (by decide) : (Is (.agg #[.bool bC, .slice qC nC kC])) (vs 6) (ρ 6))
    obtain ⟨hv7, hr7⟩ := (hT 7 (by decide) : (Is (.pointer (some ⟨g1, 2, none⟩))) (vs 7) (ρ 7))
    obtain ⟨hv8, hr8⟩ := (hT 8 (by decide) : (Is (.agg #[.bool bB, .slice qB nB kB])) (vs 8) (ρ 8))
    obtain ⟨p2, n2, c2, hv9, hr9⟩ := (hT 9 (by decide) : (Zt z2) (vs 9) (ρ 9))
    obtain ⟨p3, n3, c3, hv10, hr10⟩ := (hT 10 (by decide) : (Zt z3) (vs 10) (ρ 10))
    obtain ⟨hv11, hr11⟩ := (hT 11 (by decide) : (Is (.pointer (some ⟨g1, 2, none⟩))) (vs 11) (ρ 11))
    obtain ⟨hv12, hr12⟩ := (hT 12 (by decide) : (Is (.agg #[.bool bB, .slice qB nB kB])) (vs 12) (ρ 12))
    obtain ⟨hv13, hr13⟩ := (hT 13 (by decide) : (Is (.pointer (some ⟨g3, 2, none⟩))) (vs 13) (ρ 13))
    obtain ⟨hv14, hr14⟩ := (hT 14 (by decide) : (Is (.agg #[.bool bD, .slice qD nD kD])) (vs 14) (ρ 14))
    obtain ⟨p4, n4, c4, hv15, hr15⟩ := (hT 15 (by decide) : (Zt z4) (vs 15) (ρ 15))
    obtain ⟨p5, n5, c5, p6, n6, c6, hv16, hr16⟩ := (hT 16 (by decide) : (Rrt z5 z6) (vs 16) (ρ 16))
    simp only [pool, if_true, hr0, hr1, hr2, hr3, hr4, hr5, hr6, hr7, hr8, hr9, hr10, hr11, hr12, hr13, hr14, hr15, hr16, List.nil_append, List.cons_append, List.append_nil] at hS
    simp only [layf, hv0, hv1, hv2, hv3, hv4, hv5, hv6, hv7, hv8, hv9, hv10, hv11, hv12, hv13, hv14, hv15, hv16] at hf
    subst hf; clear hT hv0 hv1 hv2 hv3 hv4 hv5 hv6 hv7 hv8 hv9 hv10 hv11 hv12 hv13 hv14 hv15 hv16 hr0 hr1 hr2 hr3 hr4 hr5 hr6 hr7 hr8 hr9 hr10 hr11 hr12 hr13 hr14 hr15 hr16
    refine wlate 17 rfl (by kernel_rfl) (ostore [.bool (ng z5), .slice p5 n5 c5, .bool (ng z6), .slice p6 n6 c6] [.bool (ng z5), .slice p5 n5 c5, .bool (ng z6), .slice p6 n6 c6] Try.sizeOf27 hS 6 rfl rfl (ev rfl rfl) (ev (v := .agg #[.bool (ng z5), .slice p5 n5 c5, .bool (ng z6), .slice p6 n6 c6]) rfl rfl) rfl rfl rfl rfl rfl rfl ?_)
    clear hS; intro w8 hS
    refine ⟨heldNil, ?_⟩
    refine wdone rfl ?_
    refine thenN ?_
    refine wleave ?_
    refine wret1 Try.results34 (tellC (cs := [.bool (ng z5), .slice p5 n5 c5, .bool (ng z6), .slice p6 n6 c6]) aggR hS 6 rfl rfl rfl rfl) ?_
    obtain rfl : z5 = z := (by rw [← hz5.out, ← hz3.out, ← hz1.out, ← hz2.out, ← hz4.out]; exact hz.out)
    obtain rfl : z6 = t := (by rw [← hz6.out, ← hz3.out, ← hz1.out, ← hz2.out, ← hz4.out]; exact ht.out)
    exact ⟨_, _, rfl, ⟨_, _, _, _, _, _, rfl, rfl⟩, hS.newM [0, 1] (by decide) rfl rfl⟩

set_option maxRecDepth 100000 in
set_option maxHeartbeats 16000000 in
theorem wsneg {x y z t : Int} {bA bB : Bool} {qA qB : Option Addr} {nA kA nB kB : Nat} {w : World} (hzA : Zr w bA qA nA kA x 16777216) (hzB : Zr w bB qB nB kB y 16777216) (hy : y ≠ 0) (hz : Hid (RN (-x) (y) = z)) (ht : Hid (RD (-x) (y) = t)) :
    Calls Try.prog 33 #[.agg #[.bool bA, .slice qA nA kA, .bool bB, .slice qB nB kB]] w (Ret (Rrt z t) w) := by
  have hS := Sep.init w
  refine went Try.func33 rfl (n := 9) rfl rfl ?_
  refine wseq ?_
  refine wreg ?_
  refine wl rfl (obox [.bool bA, .slice qA nA kA, .bool bB, .slice qB nB kB] hS rfl rfl (ev (v := .agg #[.bool bA, .slice qA nA kA, .bool bB, .slice qB nB kB]) rfl rfl) rfl ?_)
  clear hS; intro g1 w2 hS
  refine wl rfl (oalloc [.bool false, .slice none 0 0, .bool false, .slice none 0 0] hS rfl rfl Try.zeroValue27 rfl ?_)
  clear hS; intro g3 w4 hS
  refine wnil ?_
  refine thenN ?_
  refine wseq ?_
  obtain ⟨z1, hz1⟩ : ∃ z : Int, Hid (-x = z) := ⟨_, rfl⟩
  have hk1 : Wd z1 16777216 := Wd.neg hzA.wd hz1
  obtain ⟨z2, hz2⟩ : ∃ z : Int, Hid (RN z1 y = z) := ⟨_, rfl⟩
  have hk2 : Wd z2 16777216 := Wd.rn hk1 hz2
  obtain ⟨z3, hz3⟩ : ∃ z : Int, Hid (RD z1 y = z) := ⟨_, rfl⟩
  have hk3 : Wd z3 16777216 := Wd.rd hzB.wd hz3
  refine wstage 6 [3, 4, 5, 6, 7, 8] [[], [0], [1, 0], [], [3], [2, 4, 0, 1, 3]] [[], [], [], [], [], []] [] [] (fun i9 => ([fun _ => Is (.pointer (some ⟨g1, 0, none⟩)), fun _ => Is (.agg #[.bool bA, .slice qA nA kA]), fun _ => Zt z1, fun _ => Is (.pointer (some ⟨g1, 2, none⟩)), fun _ => Is (.agg #[.bool bB, .slice qB nB kB]), fun _ => Rrt z2 z3] : List (List Value → Tell)).getD i9 (fun _ _ _ => False)) (heldNil) (fun d _ _ _ _ h => (by cases d <;> exact h)) (by kernel_rfl) (by kernel_rfl) (by kernel_rfl) hS ?_ ?_
  ·
    refine stepsCons rfl ?_ ?_
    · intro Q f' w' ρ S ho hT hS hB
      exact .inl ⟨want_none rfl, ofieldAddr (g := g1) (off := 0) 0 rfl rfl (ev (v := .pointer (some ⟨g1, 0, none⟩)) rfl (ho 1 rfl)) Try.runUnderlying27 rfl Try.sizeOf25 rfl ⟨_, _, rfl, isI, New.same _⟩⟩
    refine stepsCons rfl ?_ ?_
    · intro Q f' w' ρ S ho hT hS hB
      obtain ⟨hv0, hr0⟩ := (hT 0 3 rfl rfl : (Is (.pointer (some ⟨g1, 0, none⟩))) (f' 3) (ρ 0))
      obtain hS := hS.flat1 hr0
      exact .inl ⟨want_none rfl, oload (vs := [.bool bA, .slice qA nA kA]) aggZ hS 1 rfl rfl (ev rfl hv0) rfl rfl rfl ⟨_, _, rfl, isI, New.same _⟩⟩
    refine stepsCons rfl ?_ ?_
    · intro Q f' w' ρ S ho hT hS hB
      obtain ⟨hv1, hr1⟩ := (hT 1 4 rfl rfl : (Is (.agg #[.bool bA, .slice qA nA kA])) (f' 4) (ρ 1))
      obtain hS := hS.flat1 hr1
      refine .inl ⟨want_none rfl, ocall rfl rfl Try.call81 rfl (wqneg ((hzA.at hS).mono (by omega)) hz1) (args1 (ev rfl hv1)) ?_⟩
      rintro _ w9 ⟨_, _, rfl, hTT, hN⟩
      exact ⟨_, rfl, _, _, rfl, hTT, hN⟩
    refine stepsCons rfl ?_ ?_
    · intro Q f' w' ρ S ho hT hS hB
      exact .inl ⟨want_none rfl, ofieldAddr (g := g1) (off := 0) 2 rfl rfl (ev (v := .pointer (some ⟨g1, 0, none⟩)) rfl (ho 1 rfl)) Try.runUnderlying27 rfl Try.sizeOf25 rfl ⟨_, _, rfl, isI, New.same _⟩⟩
    refine stepsCons rfl ?_ ?_
    · intro Q f' w' ρ S ho hT hS hB
      obtain ⟨hv3, hr3⟩ := (hT 3 6 rfl rfl : (Is (.pointer (some ⟨g1, 2, none⟩))) (f' 6) (ρ 3))
      obtain hS := hS.flat1 hr3
      exact .inl ⟨want_none rfl, oload (vs := [.bool bB, .slice qB nB kB]) aggZ hS 1 rfl rfl (ev rfl hv3) rfl rfl rfl ⟨_, _, rfl, isI, New.same _⟩⟩
    refine stepsCons rfl ?_ ?_
    · intro Q f' w' ρ S ho hT hS hB
      obtain ⟨p1, n1, c1, hv2, hr2⟩ := (hT 2 5 rfl rfl : (Zt z1) (f' 5) (ρ 2))
      obtain ⟨hv4, hr4⟩ := (hT 4 7 rfl rfl : (Is (.agg #[.bool bB, .slice qB nB kB])) (f' 7) (ρ 4))
      obtain hS := hS.flat2 hr2 hr4
      refine .inl ⟨want_none rfl, ocall rfl rfl Try.call59 rfl (wsmake (((hS.sl 2 rfl).zr hk1).mono (by omega)) ((hzB.at hS).mono (by omega)) (hy) hz2 hz3) (args2 (ev rfl hv2) (ev rfl hv4)) ?_⟩
      rintro _ w9 ⟨_, _, rfl, hTT, hN⟩
      exact ⟨_, rfl, _, _, rfl, hTT, hN⟩
    exact stepsNil
  ·
    intro vs ρ w5 f' hf hT hS
    obtain ⟨hv0, hr0⟩ := (hT 0 (by decide) : (Is (.pointer (some ⟨g1, 0, none⟩))) (vs 0) (ρ 0))
    obtain ⟨hv1, hr1⟩ := (hT 1 (by decide) : (Is (.agg #[.bool bA, .slice qA nA kA])) (vs 1) (ρ 1))
    obtain ⟨p1, n1, c1, hv2, hr2⟩ := (hT 2 (by decide) : (Zt z1) (vs 2) (ρ 2))
    obtain ⟨hv3, hr3⟩ := (hT 3 (by decide) : (Is (.pointer (some ⟨g1, 2, none⟩))) (vs 3) (ρ 3))
    obtain ⟨hv4, hr4⟩ := (hT 4 (by decide) : (Is (.agg #[.bool bB, .slice qB nB kB])) (vs 4) (ρ 4))
    obtain ⟨p2, n2, c2, p3, n3, c3, hv5, hr5⟩ := (hT 5 (by decide) : (Rrt z2 z3) (vs 5) (ρ 5))
    simp only [pool, if_true, hr0, hr1, hr2, hr3, hr4, hr5, List.nil_append, List.cons_append, List.append_nil] at hS
    simp only [layf, hv0, hv1, hv2, hv3, hv4, hv5] at hf
    subst hf; clear hT hv0 hv1 hv2 hv3 hv4 hv5 hr0 hr1 hr2 hr3 hr4 hr5
    refine wlate 6 rfl (by kernel_rfl) (ostore [.bool (ng z2), .slice p2 n2 c2, .bool (ng z3), .slice p3 n3 c3] [.bool (ng z2), .slice p2 n2 c2, .bool (ng z3), .slice p3 n3 c3] Try.sizeOf27 hS 3 rfl rfl (ev rfl rfl) (ev (v := .agg #[.bool (ng z2), .slice p2 n2 c2, .bool (ng z3), .slice p3 n3 c3]) rfl rfl) rfl rfl rfl rfl rfl rfl ?_)
    clear hS; intro w6 hS
    refine ⟨heldNil, ?_⟩
    refine wdone rfl ?_
    refine thenN ?_
    refine wleave ?_
    refine wret1 Try.results33 (tellC (cs := [.bool (ng z2), .slice p2 n2 c2, .bool (ng z3), .slice p3 n3 c3]) aggR hS 3 rfl rfl rfl rfl) ?_
    obtain rfl : z2 = z := (by rw [← hz2.out, ← hz1.out]; exact hz.out)
    obtain rfl : z3 = t := (by rw [← hz3.out, ← hz1.out]; exact ht.out)
    exact ⟨_, _, rfl, ⟨_, _, _, _, _, _, rfl, rfl⟩, hS.newM [0, 1] (by decide) rfl rfl⟩

set_option maxRecDepth 100000 in
set_option maxHeartbeats 16000000 in
theorem wssub {x y u v z t : Int} {bA bB bC bD : Bool} {qA qB qC qD : Option Addr} {nA kA nB kB nC kC nD kD : Nat} {w : World} (hzA : Zr w bA qA nA kA x 16777216) (hzB : Zr w bB qB nB kB y 16777216) (hzC : Zr w bC qC nC kC u 16777216) (hzD : Zr w bD qD nD kD v 16777216) (hy : y ≠ 0) (hv : v ≠ 0) (hz : Hid (RN (x * v - u * y) (y * v) = z)) (ht : Hid (RD (x * v - u * y) (y * v) = t)) :
    Calls Try.prog 35 #[.agg #[.bool bA, .slice qA nA kA, .bool bB, .slice qB nB kB], .agg #[.bool bC, .slice qC nC kC, .bool bD, .slice qD nD kD]] w (Ret (Rrt z t) w) := by
  have hS := Sep.init w
  refine went Try.func35 rfl (n := 9) rfl rfl ?_
  refine wseq ?_
  refine wreg ?_
  refine wl rfl (obox [.bool bA, .slice qA nA kA, .bool bB, .slice qB nB kB] hS rfl rfl (ev (v := .agg #[.bool bA, .slice qA nA kA, .bool bB, .slice qB nB kB]) rfl rfl) rfl ?_)
  clear hS; intro g1 w2 hS
  refine wl rfl (obox [.bool bC, .slice qC nC kC, .bool bD, .slice qD nD kD] hS rfl rfl (ev (v := .agg #[.bool bC, .slice qC nC kC, .bool bD, .slice qD nD kD]) rfl rfl) rfl ?_)
  clear hS; intro g3 w4 hS
  refine wl rfl (oalloc [.bool false, .slice none 0 0, .bool false, .slice none 0 0] hS rfl rfl Try.zeroValue27 rfl ?_)
  clear hS; intro g5 w6 hS
  refine wnil ?_
  refine thenN ?_
  refine wseq ?_
  obtain ⟨z1, hz1⟩ : ∃ z : Int, Hid (RN (-u) v = z) := ⟨_, rfl⟩
  have hk1 : Wd z1 16777216 := Wd.rn (Wd.neg hzC.wd rfl) hz1
  obtain ⟨z2, hz2⟩ : ∃ z : Int, Hid (RD (-u) v = z) := ⟨_, rfl⟩
  have hk2 : Wd z2 16777216 := Wd.rd hzD.wd hz2
  obtain ⟨z3, hz3⟩ : ∃ z : Int, Hid (RN (x * z2 + z1 * y) (y * z2) = z) := ⟨_, rfl⟩
  have hk3 : Wd z3 33554433 := Wd.rn (Wd.add (m := 33554433) (Wd.mul (m := 33554432) hzA.wd hk2 rfl (by omega)) (Wd.mul (m := 33554432) hk1 hzB.wd rfl (by omega)) rfl (by omega)) hz3
  obtain ⟨z4, hz4⟩ : ∃ z : Int, Hid (RD (x * z2 + z1 * y) (y * z2) = z) := ⟨_, rfl⟩
  have hk4 : Wd z4 33554432 := Wd.rd (Wd.mul (m := 33554432) hzB.wd hk2 rfl (by omega)) hz4
  refine wstage 4 [5, 6, 7, 8] [[], [], [1], [0, 2, 1]] [[], [], [], []] [] [] (fun i9 => ([fun _ => Is (.agg #[.bool bA, .slice qA nA kA, .bool bB, .slice qB nB kB]), fun _ => Is (.agg #[.bool bC, .slice qC nC kC, .bool bD, .slice qD nD kD]), fun _ => Rrt z1 z2, fun _ => Rrt z3 z4] : List (List Value → Tell)).getD i9 (fun _ _ _ => False)) (heldNil) (fun d _ _ _ _ h => (by cases d <;> exact h)) (by kernel_rfl) (by kernel_rfl) (by kernel_rfl) hS ?_ ?_
  ·
    refine stepsCons rfl ?_ ?_
    · intro Q f' w' ρ S ho hT hS hB
      exact .inl ⟨want_none rfl, oload (vs := [.bool bA, .slice qA nA kA, .bool bB, .slice qB nB kB]) aggR hS 2 rfl rfl (ev rfl (ho 2 rfl)) rfl rfl rfl ⟨_, _, rfl, isI, New.same _⟩⟩
    refine stepsCons rfl ?_ ?_
    · intro Q f' w' ρ S ho hT hS hB
      exact .inl ⟨want_none rfl, oload (vs := [.bool bC, .slice qC nC kC, .bool bD, .slice qD nD kD]) aggR hS 1 rfl rfl (ev rfl (ho 3 rfl)) rfl rfl rfl ⟨_, _, rfl, isI, New.same _⟩⟩
    refine stepsCons rfl ?_ ?_
    · intro Q f' w' ρ S ho hT hS hB
      obtain ⟨hv1, hr1⟩ := (hT 1 6 rfl rfl : (Is (.agg #[.bool bC, .slice qC nC kC, .bool bD, .slice qD nD kD])) (f' 6) (ρ 1))
      obtain hS := hS.flat1 hr1
      refine .inl ⟨want_none rfl, ocall rfl rfl Try.call33 rfl (wsneg (hzC.at hS) (hzD.at hS) (hv) hz1 hz2) (args1 (ev rfl hv1)) ?_⟩
      rintro _ w9 ⟨_, _, rfl, hTT, hN⟩
      exact ⟨_, rfl, _, _, rfl, hTT, hN⟩
    refine stepsCons rfl ?_ ?_
    · intro Q f' w' ρ S ho hT hS hB
      obtain ⟨hv0, hr0⟩ := (hT 0 5 rfl rfl : (Is (.agg #[.bool bA, .slice qA nA kA, .bool bB, .slice qB nB kB])) (f' 5) (ρ 0))
      obtain ⟨p1, n1, c1, p2, n2, c2, hv2, hr2⟩ := (hT 2 7 rfl rfl : (Rrt z1 z2) (f' 7) (ρ 2))
      obtain hS := hS.flat2 hr0 hr2
      refine .inl ⟨want_none rfl, ocall rfl rfl Try.call34 rfl (wsadd (hzA.at hS) (hzB.at hS) ((hS.slm 3 rfl).zr hk1) ((hS.slm 4 rfl).zr hk2) (hy) (by rw [← hz2.out]; have := RD_pos (x := -u) hv; omega) hz3 hz4) (args2 (ev rfl hv0) (ev rfl hv2)) ?_⟩
      rintro _ w9 ⟨_, _, rfl, hTT, hN⟩
      exact ⟨_, rfl, _, _, rfl, hTT, hN⟩
    exact stepsNil
  ·
    intro vs ρ w7 f' hf hT hS
    obtain ⟨hv0, hr0⟩ := (hT 0 (by decide) : (Is (.agg #[.bool bA, .slice qA nA kA, .bool bB, .slice qB nB kB])) (vs 0) (ρ 0))
    obtain ⟨hv1, hr1⟩ := (hT 1 (by decide) : (Is (.agg #[.bool bC, .slice qC nC kC, .bool bD, .slice qD nD kD])) (vs 1) (ρ 1))
    obtain ⟨p1, n1, c1, p2, n2, c2, hv2, hr2⟩ := (hT 2 (by decide) : (Rrt z1 z2) (vs 2) (ρ 2))
    obtain ⟨p3, n3, c3, p4, n4, c4, hv3, hr3⟩ := (hT 3 (by decide) : (Rrt z3 z4) (vs 3) (ρ 3))
    simp only [pool, if_true, hr0, hr1, hr2, hr3, List.nil_append, List.cons_append, List.append_nil] at hS
    simp only [layf, hv0, hv1, hv2, hv3] at hf
    subst hf; clear hT hv0 hv1 hv2 hv3 hr0 hr1 hr2 hr3
    refine wlate 4 rfl (by kernel_rfl) (ostore [.bool (ng z3), .slice p3 n3 c3, .bool (ng z4), .slice p4 n4 c4] [.bool (ng z3), .slice p3 n3 c3, .bool (ng z4), .slice p4 n4 c4] Try.sizeOf27 hS 4 rfl rfl (ev rfl rfl) (ev (v := .agg #[.bool (ng z3), .slice p3 n3 c3, .bool (ng z4), .slice p4 n4 c4]) rfl rfl) rfl rfl rfl rfl rfl rfl ?_)
    clear hS; intro w8 hS
    refine ⟨heldNil, ?_⟩
    refine wdone rfl ?_
    refine thenN ?_
    refine wleave ?_
    refine wret1 Try.results35 (tellC (cs := [.bool (ng z3), .slice p3 n3 c3, .bool (ng z4), .slice p4 n4 c4]) aggR hS 4 rfl rfl rfl rfl) ?_
    obtain rfl : z3 = z := (by rw [← hz3.out, ← hz1.out, ← hz2.out]; exact (sub_low hy hv).1.trans hz.out)
    obtain rfl : z4 = t := (by rw [← hz4.out, ← hz1.out, ← hz2.out]; exact (sub_low hy hv).2.trans ht.out)
    exact ⟨_, _, rfl, ⟨_, _, _, _, _, _, rfl, rfl⟩, hS.newM [0, 1] (by decide) rfl rfl⟩

set_option maxRecDepth 100000 in
set_option maxHeartbeats 16000000 in
theorem wsmay {y : Int} {bB bA : Bool} {qA qB : Option Addr} {nA kA nB kB : Nat} {w : World} (hzB : Zr w bB qB nB kB y 67108864) (hy : y ≠ 0) :
    Calls Try.prog 11 #[.agg #[.bool bA, .slice qA nA kA, .bool bB, .slice qB nB kB]] w (Ret (Is (.bool true)) w) := by
  have hS := Sep.init w
  refine went Try.func11 rfl (n := 7) rfl rfl ?_
  refine wseq ?_
  refine wreg ?_
  refine wl rfl (obox [.bool bA, .slice qA nA kA, .bool bB, .slice qB nB kB] hS rfl rfl (ev (v := .agg #[.bool bA, .slice qA nA kA, .bool bB, .slice qB nB kB]) rfl rfl) rfl ?_)
  clear hS; intro g1 w2 hS
  refine wl rfl (oassign (v := .bool false) rfl rfl (evc (v := .bool false)) ?_)
  refine wnil ?_
  refine thenN ?_
  refine wseq ?_
  refine wreg ?_
  refine wl rfl (ofieldAddr (g := g1) (off := 0) 2 rfl rfl (ev (v := .pointer (some ⟨g1, 0, none⟩)) rfl rfl) Try.runUnderlying27 rfl Try.sizeOf25 rfl ?_)
  refine wl rfl (oload (vs := [.bool bB, .slice qB nB kB]) aggZ hS 0 rfl rfl (ev rfl rfl) rfl rfl rfl ?_)
  obtain ⟨s1, hs1⟩ : ∃ z : Int, Hid ((y : Int).sign = z) := ⟨_, rfl⟩
  refine wl rfl (ocall rfl rfl Try.call57 rfl (wqsign ((hzB.at hS).mono (by omega)) hs1) (args1 (ev rfl rfl)) ?_)
  rintro _ w3 ⟨_, _, rfl, ⟨rfl, rfl⟩, hN⟩
  refine ⟨_, rfl, ?_⟩
  replace hS := hS.news hN; clear hN
  refine wl rfl (obin (u := .int .i64 s1) (v := .int .i64 0) (z := .bool true) rfl rfl (ev (v := .int .i64 s1) rfl rfl) (evc (v := .int .i64 0)) (bin_neq (bne_iff_ne.2 (fun e => by have := sign_ne hs1 hy; rw [e] at this; exact absurd this (by decide)))) ?_)
  refine wl rfl (oassign (v := .bool true) rfl rfl (ev (v := .bool true) rfl rfl) ?_)
  refine wnil ?_
  refine thenN ?_
  refine wleave ?_
  refine wret1 Try.results11 (tellT (v := .bool true) rfl rfl) ?_
  exact ⟨_, _, rfl, isI, hS.new0⟩

set_option maxRecDepth 100000 in
set_option maxHeartbeats 16000000 in
theorem wsmay0 {y : Int} {bB bA : Bool} {qA qB : Option Addr} {nA kA nB kB : Nat} {w : World} (hzB : Zr w bB qB nB kB y 67108864) (hy : y = 0) :
    Calls Try.prog 11 #[.agg #[.bool bA, .slice qA nA kA, .bool bB, .slice qB nB kB]] w (Ret (Is (.bool false)) w) := by
  have hS := Sep.init w
  refine went Try.func11 rfl (n := 7) rfl rfl ?_
  refine wseq ?_
  refine wreg ?_
  refine wl rfl (obox [.bool bA, .slice qA nA kA, .bool bB, .slice qB nB kB] hS rfl rfl (ev (v := .agg #[.bool bA, .slice qA nA kA, .bool bB, .slice qB nB kB]) rfl rfl) rfl ?_)
  clear hS; intro g1 w2 hS
  refine wl rfl (oassign (v := .bool false) rfl rfl (evc (v := .bool false)) ?_)
  refine wnil ?_
  refine thenN ?_
  refine wseq ?_
  refine wreg ?_
  refine wl rfl (ofieldAddr (g := g1) (off := 0) 2 rfl rfl (ev (v := .pointer (some ⟨g1, 0, none⟩)) rfl rfl) Try.runUnderlying27 rfl Try.sizeOf25 rfl ?_)
  refine wl rfl (oload (vs := [.bool bB, .slice qB nB kB]) aggZ hS 0 rfl rfl (ev rfl rfl) rfl rfl rfl ?_)
  obtain ⟨s1, hs1⟩ : ∃ z : Int, Hid ((y : Int).sign = z) := ⟨_, rfl⟩
  refine wl rfl (ocall rfl rfl Try.call57 rfl (wqsign ((hzB.at hS).mono (by omega)) hs1) (args1 (ev rfl rfl)) ?_)
  rintro _ w3 ⟨_, _, rfl, ⟨rfl, rfl⟩, hN⟩
  refine ⟨_, rfl, ?_⟩
  replace hS := hS.news hN; clear hN
  refine wl rfl (obin (u := .int .i64 s1) (v := .int .i64 0) (z := .bool false) rfl rfl (ev (v := .int .i64 s1) rfl rfl) (evc (v := .int .i64 0)) (bin_neq (neF (by have := sign_eq hs1 hy; simpa using this))) ?_)
  refine wl rfl (oassign (v := .bool false) rfl rfl (ev (v := .bool false) rfl rfl) ?_)
  refine wnil ?_
  refine thenN ?_
  refine wleave ?_
  refine wret1 Try.results11 (tellT (v := .bool false) rfl rfl) ?_
  exact ⟨_, _, rfl, isI, hS.new0⟩

set_option maxRecDepth 100000 in
set_option maxHeartbeats 16000000 in
theorem wssign {x y s : Int} {bA bB : Bool} {qA qB : Option Addr} {nA kA nB kB : Nat} {w : World} (hzA : Zr w bA qA nA kA x 67108864) (hzB : Zr w bB qB nB kB y 67108864) (hy : y ≠ 0) (hs : Hid (x.sign * y.sign = s)) :
    Calls Try.prog 12 #[.agg #[.bool bA, .slice qA nA kA, .bool bB, .slice qB nB kB]] w (Ret (Is (.int .i64 s)) w) := by
  have hS := Sep.init w
  refine went Try.func12 rfl (n := 10) rfl rfl ?_
  refine wseq ?_
  refine wreg ?_
  refine wl rfl (obox [.bool bA, .slice qA nA kA, .bool bB, .slice qB nB kB] hS rfl rfl (ev (v := .agg #[.bool bA, .slice qA nA kA, .bool bB, .slice qB nB kB]) rfl rfl) rfl ?_)
  clear hS; intro g1 w2 hS
  refine wl rfl (oassign (v := .int .i64 0) rfl rfl (evc (v := .int .i64 0)) ?_)
  refine wnil ?_
  refine thenN ?_
  refine wseq ?_
  obtain ⟨s1, hs1⟩ : ∃ z : Int, Hid ((x : Int).sign = z) := ⟨_, rfl⟩
  obtain ⟨s2, hs2⟩ : ∃ z : Int, Hid ((y : Int).sign = z) := ⟨_, rfl⟩
  refine wstage 8 [3, 4, 5, 6, 7, 8, 9, 2] [[], [0], [1, 0], [], [3], [4, 0, 1, 2, 3], [2, 5, 0, 1, 3, 4], [6, 0, 1, 2, 3, 4, 5]] [[], [], [], [], [], [], [], []] [] [] (fun i9 => ([fun _ => Is (.pointer (some ⟨g1, 0, none⟩)), fun _ => Is (.agg #[.bool bA, .slice qA nA kA]), fun _ => Is (.int .i64 s1), fun _ => Is (.pointer (some ⟨g1, 2, none⟩)), fun _ => Is (.agg #[.bool bB, .slice qB nB kB]), fun _ => Is (.int .i64 s2), fun _ => Is (.int .i64 s), fun _ => Is (.int .i64 s)] : List (List Value → Tell)).getD i9 (fun _ _ _ => False)) (heldNil) (fun d _ _ _ _ h => (by cases d <;> exact h)) (by kernel_rfl) (by kernel_rfl) (by kernel_rfl) hS ?_ ?_
  ·
    refine stepsCons rfl ?_ ?_
    · intro Q f' w' ρ S ho hT hS hB
      exact .inl ⟨want_none rfl, ofieldAddr (g := g1) (off := 0) 0 rfl rfl (ev (v := .pointer (some ⟨g1, 0, none⟩)) rfl (ho 1 rfl)) Try.runUnderlying27 rfl Try.sizeOf25 rfl ⟨_, _, rfl, isI, New.same _⟩⟩
    refine stepsCons rfl ?_ ?_
    · intro Q f' w' ρ S ho hT hS hB
      obtain ⟨hv0, hr0⟩ := (hT 0 3 rfl rfl : (Is (.pointer (some ⟨g1, 0, none⟩))) (f' 3) (ρ 0))
      obtain hS := hS.flat1 hr0
      exact .inl ⟨want_none rfl, oload (vs := [.bool bA, .slice qA nA kA]) aggZ hS 0 rfl rfl (ev rfl hv0) rfl rfl rfl ⟨_, _, rfl, isI, New.same _⟩⟩
    refine stepsCons rfl ?_ ?_
    · intro Q f' w' ρ S ho hT hS hB
      obtain ⟨hv1, hr1⟩ := (hT 1 4 rfl rfl : (Is (.agg #[.bool bA, .slice qA nA kA])) (f' 4) (ρ 1))
      obtain hS := hS.flat1 hr1
      refine .inl ⟨want_none rfl, ocall rfl rfl Try.call57 rfl (wqsign ((hzA.at hS).mono (by omega)) hs1) (args1 (ev rfl hv1)) ?_⟩
      rintro _ w9 ⟨_, _, rfl, hTT, hN⟩
      exact ⟨_, rfl, _, _, rfl, hTT, hN⟩
    refine stepsCons rfl ?_ ?_
    · intro Q f' w' ρ S ho hT hS hB
      exact .inl ⟨want_none rfl, ofieldAddr (g := g1) (off := 0) 2 rfl rfl (ev (v := .pointer (some ⟨g1, 0, none⟩)) rfl (ho 1 rfl)) Try.runUnderlying27 rfl Try.sizeOf25 rfl ⟨_, _, rfl, isI, New.same _⟩⟩
    refine stepsCons rfl ?_ ?_
    · intro Q f' w' ρ S ho hT hS hB
      obtain ⟨hv3, hr3⟩ := (hT 3 6 rfl rfl : (Is (.pointer (some ⟨g1, 2, none⟩))) (f' 6) (ρ 3))
      obtain hS := hS.flat1 hr3
      exact .inl ⟨want_none rfl, oload (vs := [.bool bB, .slice qB nB kB]) aggZ hS 0 rfl rfl (ev rfl hv3) rfl rfl rfl ⟨_, _, rfl, isI, New.same _⟩⟩
    refine stepsCons rfl ?_ ?_
    · intro Q f' w' ρ S ho hT hS hB
      obtain ⟨hv4, hr4⟩ := (hT 4 7 rfl rfl : (Is (.agg #[.bool bB, .slice qB nB kB])) (f' 7) (ρ 4))
      obtain hS := hS.flat1 hr4
      refine .inl ⟨want_none rfl, ocall rfl rfl Try.call57 rfl (wqsign ((hzB.at hS).mono (by omega)) hs2) (args1 (ev rfl hv4)) ?_⟩
      rintro _ w9 ⟨_, _, rfl, hTT, hN⟩
      exact ⟨_, rfl, _, _, rfl, hTT, hN⟩
    refine stepsCons rfl ?_ ?_
    · intro Q f' w' ρ S ho hT hS hB
      obtain ⟨hv2, hr2⟩ := (hT 2 5 rfl rfl : (Is (.int .i64 s1)) (f' 5) (ρ 2))
      obtain ⟨hv5, hr5⟩ := (hT 5 8 rfl rfl : (Is (.int .i64 s2)) (f' 8) (ρ 5))
      obtain hS := hS.flat2 hr2 hr5
      exact .inl ⟨want_none rfl, obin (u := .int .i64 s1) (v := .int .i64 s2) (z := .int .i64 s) rfl rfl (ev (v := .int .i64 s1) rfl hv2) (ev (v := .int .i64 s2) rfl hv5) (bin_mul (sgn_wrap hs hs1 hs2)) ⟨_, _, rfl, isI, New.same _⟩⟩
    refine stepsCons rfl ?_ ?_
    · intro Q f' w' ρ S ho hT hS hB
      obtain ⟨hv6, hr6⟩ := (hT 6 9 rfl rfl : (Is (.int .i64 s)) (f' 9) (ρ 6))
      obtain hS := hS.flat1 hr6
      exact .inl ⟨want_none rfl, oassign (v := .int .i64 s) rfl rfl (ev (v := .int .i64 s) rfl hv6) ⟨_, _, rfl, isI, New.same _⟩⟩
    exact stepsNil
  ·
    intro vs ρ w3 f' hf hT hS
    obtain ⟨hv0, hr0⟩ := (hT 0 (by decide) : (Is (.pointer (some ⟨g1, 0, none⟩))) (vs 0) (ρ 0))
    obtain ⟨hv1, hr1⟩ := (hT 1 (by decide) : (Is (.agg #[.bool bA, .slice qA nA kA])) (vs 1) (ρ 1))
    obtain ⟨hv2, hr2⟩ := (hT 2 (by decide) : (Is (.int .i64 s1)) (vs 2) (ρ 2))
    obtain ⟨hv3, hr3⟩ := (hT 3 (by decide) : (Is (.pointer (some ⟨g1, 2, none⟩))) (vs 3) (ρ 3))
    obtain ⟨hv4, hr4⟩ := (hT 4 (by decide) : (Is (.agg #[.bool bB, .slice qB nB kB])) (vs 4) (ρ 4))
    obtain ⟨hv5, hr5⟩ := (hT 5 (by decide) : (Is (.int .i64 s2)) (vs 5) (ρ 5))
    obtain ⟨hv6, hr6⟩ := (hT 6 (by decide) : (Is (.int .i64 s)) (vs 6) (ρ 6))
    obtain ⟨hv7, hr7⟩ := (hT 7 (by decide) : (Is (.int .i64 s)) (vs 7) (ρ 7))
    simp only [pool, if_true, hr0, hr1, hr2, hr3, hr4, hr5, hr6, hr7, List.nil_append, List.cons_append, List.append_nil] at hS
    simp only [layf, hv0, hv1, hv2, hv3, hv4, hv5, hv6, hv7] at hf
    subst hf; clear hT hv0 hv1 hv2 hv3 hv4 hv5 hv6 hv7 hr0 hr1 hr2 hr3 hr4 hr5 hr6 hr7
    refine wdone rfl ?_
    refine thenN ?_
    refine wleave ?_
    refine wret1 Try.results12 (tellT (v := .int .i64 s) rfl rfl) ?_
    exact ⟨_, _, rfl, isI, hS.new0⟩

set_option maxRecDepth 100000 in
set_option maxHeartbeats 16000000 in
theorem wscmp {x y u v s : Int} {bA bB bC bD : Bool} {qA qB qC qD : Option Addr} {nA kA nB kB nC kC nD kD : Nat} {w : World} (hzA : Zr w bA qA nA kA x 16777216) (hzB : Zr w bB qB nB kB y 16777216) (hzC : Zr w bC qC nC kC u 16777216) (hzD : Zr w bD qD nD kD v 16777216) (hy : y ≠ 0) (hv : v ≠ 0) (hs : Hid (cmpQ x y u v = s)) :
    Calls Try.prog 50 #[.agg #[.bool bA, .slice qA nA kA, .bool bB, .slice qB nB kB], .agg #[.bool bC, .slice qC nC kC, .bool bD, .slice qD nD kD]] w (Ret (Is (.int .i64 s)) w) := by
  have hS := Sep.init w
  refine went Try.func50 rfl (n := 9) rfl rfl ?_
  refine wseq ?_
  refine wreg ?_
  refine wl rfl (obox [.bool bA, .slice qA nA kA, .bool bB, .slice qB nB kB] hS rfl rfl (ev (v := .agg #[.bool bA, .slice qA nA kA, .bool bB, .slice qB nB kB]) rfl rfl) rfl ?_)
  clear hS; intro g1 w2 hS
  refine wl rfl (obox [.bool bC, .slice qC nC kC, .bool bD, .slice qD nD kD] hS rfl rfl (ev (v := .agg #[.bool bC, .slice qC nC kC, .bool bD, .slice qD nD kD]) rfl rfl) rfl ?_)
  clear hS; intro g3 w4 hS
  refine wl rfl (oassign (v := .int .i64 0) rfl rfl (evc (v := .int .i64 0)) ?_)
  refine wnil ?_
  refine thenN ?_
  refine wseq ?_
  refine wreg ?_
  refine wl rfl (oload (vs := [.bool bA, .slice qA nA kA, .bool bB, .slice qB nB kB]) aggR hS 1 rfl rfl (ev rfl rfl) rfl rfl rfl ?_)
  refine wl rfl (oload (vs := [.bool bC, .slice qC nC kC, .bool bD, .slice qD nD kD]) aggR hS 0 rfl rfl (ev rfl rfl) rfl rfl rfl ?_)
  obtain ⟨z1, hz1⟩ : ∃ z : Int, Hid (RN (x * v - u * y) (y * v) = z) := ⟨_, rfl⟩
  have hk1 : Wd z1 33554433 := Wd.rn (Wd.sub (m := 33554433) (Wd.mul (m := 33554432) hzA.wd hzD.wd rfl (by omega)) (Wd.mul (m := 33554432) hzC.wd hzB.wd rfl (by omega)) rfl (by omega)) hz1
  obtain ⟨z2, hz2⟩ : ∃ z : Int, Hid (RD (x * v - u * y) (y * v) = z) := ⟨_, rfl⟩
  have hk2 : Wd z2 33554432 := Wd.rd (Wd.mul (m := 33554432) hzB.wd hzD.wd rfl (by omega)) hz2
  refine wl rfl (ocall rfl rfl Try.call35 rfl (wssub (hzA.at hS) (hzB.at hS) (hzC.at hS) (hzD.at hS) (hy) (hv) hz1 hz2) (args2 (ev rfl rfl) (ev rfl rfl)) ?_)
  rintro _ w5 ⟨_, _, rfl, ⟨p1, n1, c1, p2, n2, c2, rfl, rfl⟩, hN⟩
  refine ⟨_, rfl, ?_⟩
  replace hS := hS.news hN; clear hN
  obtain ⟨s3, hs3⟩ : ∃ z : Int, Hid ((z1 : Int).sign * (z2 : Int).sign = z) := ⟨_, rfl⟩
  refine wl rfl (ocall rfl rfl Try.call12 rfl (wssign (((hS.slm 0 rfl).zr hk1).mono (by omega)) (((hS.slm 1 rfl).zr hk2).mono (by omega)) (by rw [← hz2.out]; have := RD_pos (x := x * v - u * y) (ne_mul hy hv); omega) hs3) (args1 (ev rfl rfl)) ?_)
  rintro _ w6 ⟨_, _, rfl, ⟨rfl, rfl⟩, hN⟩
  refine ⟨_, rfl, ?_⟩
  replace hS := hS.news hN; clear hN
  refine wl rfl (oassign (v := .int .i64 s3) rfl rfl (ev (v := .int .i64 s3) rfl rfl) ?_)
  refine wnil ?_
  refine thenN ?_
  refine wleave ?_
  refine wret1 Try.results50 (tellT (v := .int .i64 s3) rfl rfl) ?_
  obtain rfl : s3 = s := by rw [← hs3.out, ← hz1.out, ← hz2.out]; exact (sub_cmp hy hv).trans hs.out
  exact ⟨_, _, rfl, isI, hS.new0⟩

set_option maxRecDepth 100000 in
set_option maxHeartbeats 16000000 in
theorem wsfloor {x y z : Int} {bA bB : Bool} {qA qB : Option Addr} {nA kA nB kB : Nat} {w : World} (hzA : Zr w bA qA nA kA x 16777216) (hzB : Zr w bB qB nB kB y 16777216) (hy : y ≠ 0) (hz : Hid (RN x y / RD x y = z)) :
    Calls Try.prog 49 #[.agg #[.bool bA, .slice qA nA kA, .bool bB, .slice qB nB kB]] w (Ret (Zt z) w) := by
  have hS := Sep.init w
  refine went Try.func49 rfl (n := 16) rfl rfl ?_
  refine wseq ?_
  refine wreg ?_
  refine wl rfl (obox [.bool bA, .slice qA nA kA, .bool bB, .slice qB nB kB] hS rfl rfl (ev (v := .agg #[.bool bA, .slice qA nA kA, .bool bB, .slice qB nB kB]) rfl rfl) rfl ?_)
  clear hS; intro g1 w2 hS
  refine wl rfl (oalloc [.bool false, .slice none 0 0] hS rfl rfl Try.zeroValue25 rfl ?_)
  clear hS; intro g3 w4 hS
  refine wnil ?_
  refine thenN ?_
  refine wseq ?_
  refine wreg ?_
  refine wl rfl (oload (vs := [.bool bA, .slice qA nA kA, .bool bB, .slice qB nB kB]) aggR hS 1 rfl rfl (ev rfl rfl) rfl rfl rfl ?_)
  obtain ⟨z1, hz1⟩ : ∃ z : Int, Hid (RN x y = z) := ⟨_, rfl⟩
  have hk1 : Wd z1 16777216 := Wd.rn hzA.wd hz1
  obtain ⟨z2, hz2⟩ : ∃ z : Int, Hid (RD x y = z) := ⟨_, rfl⟩
  have hk2 : Wd z2 16777216 := Wd.rd hzB.wd hz2
  refine wl rfl (ocall rfl rfl Try.call37 rfl ((wsnorm ((hzA.at hS).mono (by omega)) ((hzB.at hS).mono (by omega)) (hy) hz1 hz2)) (args1 (ev rfl rfl)) ?_)
  rintro _ w5 ⟨_, _, rfl, ⟨p1, n1, c1, p2, n2, c2, rfl, rfl⟩, hN⟩
  refine ⟨_, rfl, ?_⟩
  replace hS := hS.news hN; clear hN
  refine wl rfl (ostore [.bool (ng z1), .slice p1 n1 c1, .bool (ng z2), .slice p2 n2 c2] [.bool (ng z1), .slice p1 n1 c1, .bool (ng z2), .slice p2 n2 c2] Try.sizeOf27 hS 3 rfl rfl (ev rfl rfl) (ev (v := .agg #[.bool (ng z1), .slice p1 n1 c1, .bool (ng z2), .slice p2 n2 c2]) rfl rfl) rfl rfl rfl rfl rfl rfl ?_)
  clear hS; intro w6 hS
  refine wnil ?_
  refine thenN ?_
  refine wseq ?_
  refine wreg ?_
  refine wl rfl (ofieldAddr (g := g1) (off := 0) 0 rfl rfl (ev (v := .pointer (some ⟨g1, 0, none⟩)) rfl rfl) Try.runUnderlying27 rfl Try.sizeOf25 rfl ?_)
  refine wl rfl (oload (vs := [.bool (ng z1), .slice p1 n1 c1]) aggZ hS 3 rfl rfl (ev rfl rfl) rfl rfl rfl ?_)
  refine wl rfl (ofieldAddr (g := g1) (off := 0) 2 rfl rfl (ev (v := .pointer (some ⟨g1, 0, none⟩)) rfl rfl) Try.runUnderlying27 rfl Try.sizeOf25 rfl ?_)
  refine wl rfl (oload (vs := [.bool (ng z2), .slice p2 n2 c2]) aggZ hS 3 rfl rfl (ev rfl rfl) rfl rfl rfl ?_)
  obtain ⟨z3, hz3⟩ : ∃ z : Int, Hid (z1 / z2 = z) := ⟨_, rfl⟩
  have hk3 : Wd z3 16777216 := Wd.ediv hk1 hz3
  obtain ⟨z4, hz4⟩ : ∃ z : Int, Hid (z1 % z2 = z) := ⟨_, rfl⟩
  have hk4 : Wd z4 16777216 := Wd.emod hk2 (by rw [← hz2.out]; have := RD_pos (x := x) hy; omega) hz4
  refine wl rfl (ocall rfl rfl Try.call96 rfl (wqeuclid (((hS.slm 0 rfl).zr hk1).mono (by omega)) (((hS.slm 1 rfl).zr hk2).mono (by omega)) (by rw [← hz2.out]; have := RD_pos (x := x) hy; omega) hz3 hz4) (args2 (ev rfl rfl) (ev rfl rfl)) ?_)
  rintro _ w7 ⟨_, _, rfl, ⟨p3, n3, c3, p4, n4, c4, rfl, rfl⟩, hN⟩
  refine ⟨_, rfl, ?_⟩
  replace hS := hS.news hN; clear hN
  refine wl rfl (omove (v := .tuple #[.agg #[.bool (ng z3), .slice p3 n3 c3], .agg #[.bool (ng z4), .slice p4 n4 c4]]) rfl rfl (ev (v := .tuple #[.agg #[.bool (ng z3), .slice p3 n3 c3], .agg #[.bool (ng z4), .slice p4 n4 c4]]) rfl rfl) ?_)
  refine wl rfl (oextract (vs := [.agg #[.bool (ng z3), .slice p3 n3 c3], .agg #[.bool (ng z4), .slice p4 n4 c4]]) (v := .agg #[.bool (ng z3), .slice p3 n3 c3]) rfl rfl (ev (v := .tuple #[.agg #[.bool (ng z3), .slice p3 n3 c3], .agg #[.bool (ng z4), .slice p4 n4 c4]]) rfl rfl) rfl ?_)
  refine wl rfl (oextract (vs := [.agg #[.bool (ng z3), .slice p3 n3 c3], .agg #[.bool (ng z4), .slice p4 n4 c4]]) (v := .agg #[.bool (ng z4), .slice p4 n4 c4]) rfl rfl (ev (v := .tuple #[.agg #[.bool (ng z3), .slice p3 n3 c3], .agg #[.bool (ng z4), .slice p4 n4 c4]]) rfl rfl) rfl ?_)
  refine wl rfl (oalloc [.bool false, .slice none 0 0] hS rfl rfl Try.zeroValue25 rfl ?_)
  clear hS; intro g8 w9 hS
  refine wl rfl (oalloc [.bool false, .slice none 0 0] hS rfl rfl Try.zeroValue25 rfl ?_)
  clear hS; intro g10 w11 hS
  refine wl rfl (ostore [.bool (ng z3), .slice p3 n3 c3] [.bool (ng z3), .slice p3 n3 c3] Try.sizeOf25 hS 1 rfl rfl (ev rfl rfl) (ev (v := .agg #[.bool (ng z3), .slice p3 n3 c3]) rfl rfl) rfl rfl rfl rfl rfl rfl ?_)
  clear hS; intro w12 hS
  refine wl rfl (ostore [.bool (ng z4), .slice p4 n4 c4] [.bool (ng z4), .slice p4 n4 c4] Try.sizeOf25 hS 0 rfl rfl (ev rfl rfl) (ev (v := .agg #[.bool (ng z4), .slice p4 n4 c4]) rfl rfl) rfl rfl rfl rfl rfl rfl ?_)
  clear hS; intro w13 hS
  refine wnil ?_
  refine thenN ?_
  refine wseq ?_
  refine wreg ?_
  refine wl rfl (oload (vs := [.bool (ng z3), .slice p3 n3 c3]) aggZ hS 1 rfl rfl (ev rfl rfl) rfl rfl rfl ?_)
  refine wl rfl (ostore [.bool (ng z3), .slice p3 n3 c3] [.bool (ng z3), .slice p3 n3 c3] Try.sizeOf25 hS 6 rfl rfl (ev rfl rfl) (ev (v := .agg #[.bool (ng z3), .slice p3 n3 c3]) rfl rfl) rfl rfl rfl rfl rfl rfl ?_)
  clear hS; intro w14 hS
  refine wnil ?_
  refine thenN ?_
  refine wleave ?_
  refine wret1 Try.results49 (tellC (cs := [.bool (ng z3), .slice p3 n3 c3]) aggZ hS 6 rfl rfl rfl rfl) ?_
  obtain rfl : z3 = z := by rw [← hz3.out, ← hz1.out, ← hz2.out]; exact hz.out
  exact ⟨_, _, rfl, ⟨_, _, _, rfl, rfl⟩, hS.new1 2 rfl⟩

end Go.Proofs.Ytoinfkimlhhmpaa
