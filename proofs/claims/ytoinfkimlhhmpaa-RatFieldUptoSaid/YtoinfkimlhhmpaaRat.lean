
/-
  Fractions: what is told of them; Make and Norm.
-/
import Derived.Test.YtoinfkimlhhmpaaRatNum
import Derived.Test.YtoinfkimlhhmpaaSlc
set_option linter.unusedVariables false
set_option linter.unusedSimpArgs false
namespace Go.Proofs.Ytoinfkimlhhmpaa
open Go.RowKit

theorem aggR : Agg Try.prog 27 4 := ⟨Try.isAgg27, Try.sizeOf27⟩
/-- A fraction in two rows; with an error's number. -/
def Rrt (x y : Int) : Tell := fun v r => ∃ p n c q m d, v = .agg #[.bool (ng x), .slice p n c, .bool (ng y), .slice q m d] ∧ r = [.rowm p n c (lim x.natAbs), .rowm q m d (lim y.natAbs)]
def RRt (x y : Int) (E : Int) : Tell := fun v r => ∃ p n c q m d, v = .tuple #[.agg #[.bool (ng x), .slice p n c, .bool (ng y), .slice q m d], .int .i64 E] ∧ r = [.rowm p n c (lim x.natAbs), .rowm q m d (lim y.natAbs)]
def ZEm (z : Int) (E : Int) : Tell := fun v r => ∃ p n c, v = .tuple #[.agg #[.bool (ng z), .slice p n c], .int .i64 E] ∧ r = [.rowm p n c (lim z.natAbs)]
def ZBm (z : Int) (E : Bool) : Tell := fun v r => ∃ p n c, v = .tuple #[.agg #[.bool (ng z), .slice p n c], .bool E] ∧ r = [.rowm p n c (lim z.natAbs)]
theorem ZEt.m {z E : Int} {w : World} (e : Ending) (w' : World) (h : Ret (ZEt z E) w e w') : Ret (ZEm z E) w e w' := by
  obtain ⟨_, _, rfl, ⟨p, n, c, rfl, rfl⟩, hN⟩ := h
  exact ⟨_, _, rfl, ⟨p, n, c, rfl, rfl⟩, New.one hN.below (show Fr 0 w' p n c (lim z.natAbs) from hN.holds (.row p n c (lim z.natAbs)) List.mem_cons_self) (fun g hg => hN.high (.row p n c (lim z.natAbs)) List.mem_cons_self g hg)⟩
theorem ZBt.m {z : Int} {E : Bool} {w : World} (e : Ending) (w' : World) (h : Ret (ZBt z E) w e w') : Ret (ZBm z E) w e w' := by
  obtain ⟨_, _, rfl, ⟨p, n, c, rfl, rfl⟩, hN⟩ := h
  exact ⟨_, _, rfl, ⟨p, n, c, rfl, rfl⟩, New.one hN.below (show Fr 0 w' p n c (lim z.natAbs) from hN.holds (.row p n c (lim z.natAbs)) List.mem_cons_self) (fun g hg => hN.high (.row p n c (lim z.natAbs)) List.mem_cons_self g hg)⟩
/-- What is one's own at the end, as new. -/
theorem Sep.newM {R S : List Res} {w w' : World} (h : Sep w R w') (ks : List Nat) (hn : ks.Nodup) (he : ks.map (fun k => R[k]?) = S.map some) (ha : S.all (fun r => !r.arg) = true) : New w S w' := by
  have h2 := h.pick ks hn he
  exact ⟨h2.below, h2.holds, fun r hr g hg => h2.low r hr (by have := List.all_eq_true.1 ha r hr; simpa using this) g hg, h2.apart⟩
theorem Wd.rn {x y z : Int} {k : Nat} (hx : Wd x k) (hz : Hid (RN x y = z)) : Wd z k := by
  have hz' := hz.out; subst hz'
  exact hx.abs (RN_abs x y)
theorem Wd.rd {x y z : Int} {k : Nat} (hy : Wd y k) (hz : Hid (RD x y = z)) : Wd z k := by
  have hz' := hz.out; subst hz'
  exact hy.abs (RD_abs x y)
theorem sign_pos {y s : Int} (h : Hid (y.sign = s)) (hy : 0 ≤ y) : ¬ s < 0 := by
  rw [← h.out]
  rcases Int.lt_or_eq_of_le hy with h1 | h1
  · rw [Int.sign_eq_one_of_pos h1]; decide
  · rw [← h1]; decide
theorem sign_negl {y s : Int} (h : Hid (y.sign = s)) (hy : y < 0) : s < 0 := by
  rw [← h.out, Int.sign_eq_neg_one_of_neg hy]; decide
set_option maxRecDepth 100000 in
set_option maxHeartbeats 16000000 in
theorem wrmake {z t : Int} {b b2 : Bool} {p q : Option Addr} {n m c d : Nat} {x y : Int} {w : World} (hx : Zr w b p n c x 67108864) (hy : Zr w b2 q m d y 67108864) (h0 : y ≠ 0) (hz : Hid (RN x y = z)) (ht : Hid (RD x y = t)) :
    Calls Try.prog 42 #[.agg #[.bool b, .slice p n c], .agg #[.bool b2, .slice q m d]] w (Ret (RRt z t 0) w) := by
  have hS := Sep.init w
  refine went Try.func42 rfl (n := 39) rfl rfl ?_
  refine wseq ?_
  refine wreg ?_
  refine wl rfl (obox [.bool b, .slice p n c] hS rfl rfl (ev (v := .agg #[.bool b, .slice p n c]) rfl rfl) rfl ?_)
  clear hS; intro g1 w2 hS
  refine wl rfl (obox [.bool b2, .slice q m d] hS rfl rfl (ev (v := .agg #[.bool b2, .slice q m d]) rfl rfl) rfl ?_)
  clear hS; intro g3 w4 hS
  refine wl rfl (oalloc [.bool false, .slice none 0 0, .bool false, .slice none 0 0] hS rfl rfl Try.zeroValue27 rfl ?_)
  clear hS; intro g5 w6 hS
  refine wl rfl (oassign (v := .int .i64 0) rfl rfl (evc (v := .int .i64 0)) ?_)
  refine wnil ?_
  refine thenN ?_
  refine wseq ?_
  refine wseq ?_
  refine wreg ?_
  refine wl rfl (oload (vs := [.bool b2, .slice q m d]) aggZ hS 1 rfl rfl (ev rfl rfl) rfl rfl rfl ?_)
  obtain ⟨s1, hs1⟩ : ∃ z : Int, Hid ((y : Int).sign = z) := ⟨_, rfl⟩
  refine wl rfl (ocall rfl rfl Try.call55 rfl (wzsign ((hy.at hS).mono (by omega)) hs1) (args1 (ev rfl rfl)) ?_)
  rintro _ w7 ⟨_, _, rfl, ⟨rfl, rfl⟩, hN⟩
  refine ⟨_, rfl, ?_⟩
  replace hS := hS.news hN; clear hN
  refine wl rfl (obin (u := .int .i64 s1) (v := .int .i64 0) (z := .bool false) rfl rfl (ev (v := .int .i64 s1) rfl rfl) (evc (v := .int .i64 0)) (bin_eql (sign_ne hs1 h0)) ?_)
  refine wnil ?_
  refine thenN ?_
  refine wF (ev (v := .bool false) rfl rfl) ?_
  refine wskip ?_
  refine thenN ?_
  refine wseq ?_
  refine wreg ?_
  refine wl rfl (oload (vs := [.bool b, .slice p n c]) aggZ hS 2 rfl rfl (ev rfl rfl) rfl rfl rfl ?_)
  refine wl rfl (oload (vs := [.bool b2, .slice q m d]) aggZ hS 1 rfl rfl (ev rfl rfl) rfl rfl rfl ?_)
  refine wl rfl (obslice (ps := #[(0, .agg #[.bool b, .slice p n c]), (1, .agg #[.bool b2, .slice q m d])]) (z := .agg #[.bool false, .slice none 0 0]) [.bool b, .slice p n c, .bool b2, .slice q m d] hS rfl rfl Try.runUnderlying40 Try.sizeOf25 Try.zeroValue25 (parts2 (ev (v := .agg #[.bool b, .slice p n c]) rfl rfl) (ev (v := .agg #[.bool b2, .slice q m d]) rfl rfl)) rfl (by decide) fill2 ?_)
  clear hS; intro g8 w9 hS
  obtain ⟨z2, hz2⟩ : ∃ z : Int, Hid ((Int.gcd x y : Int) = z) := ⟨_, rfl⟩
  have hk2 : Wd z2 67108864 := Wd.gcd hx.wd hy.wd hz2 (by omega)
  refine wl rfl (ocall rfl rfl Try.call89 rfl ((wzGcd_two (hS.blkAt 0 rfl) (hx.at hS) (hy.at hS) hx.wd hy.wd hz2)) (args1 (ev rfl rfl)) ?_)
  rintro _ w10 ⟨_, _, rfl, ⟨p2, n2, c2, rfl, rfl⟩, hN⟩
  refine ⟨_, rfl, ?_⟩
  replace hS := hS.news hN; clear hN
  refine wl rfl (oalloc [.bool false, .slice none 0 0] hS rfl rfl Try.zeroValue25 rfl ?_)
  clear hS; intro g11 w12 hS
  refine wl rfl (ostore [.bool (ng z2), .slice p2 n2 c2] [.bool (ng z2), .slice p2 n2 c2] Try.sizeOf25 hS 0 rfl rfl (ev rfl rfl) (ev (v := .agg #[.bool (ng z2), .slice p2 n2 c2]) rfl rfl) rfl rfl rfl rfl rfl rfl ?_)
  clear hS; intro w13 hS
  refine wnil ?_
  refine thenN ?_
  refine wseq ?_
  refine wseq ?_
  refine wreg ?_
  refine wl rfl (oload (vs := [.bool b2, .slice q m d]) aggZ hS 4 rfl rfl (ev rfl rfl) rfl rfl rfl ?_)
  obtain ⟨s3, hs3⟩ : ∃ z : Int, Hid ((y : Int).sign = z) := ⟨_, rfl⟩
  refine wl rfl (ocall rfl rfl Try.call55 rfl (wzsign ((hy.at hS).mono (by omega)) hs3) (args1 (ev rfl rfl)) ?_)
  rintro _ w14 ⟨_, _, rfl, ⟨rfl, rfl⟩, hN⟩
  refine ⟨_, rfl, ?_⟩
  replace hS := hS.news hN; clear hN
  by_cases hy0 : y < 0
  ·
    refine wl rfl (obin (u := .int .i64 s3) (v := .int .i64 0) (z := .bool true) rfl rfl (ev (v := .int .i64 s3) rfl rfl) (evc (v := .int .i64 0)) (bin_lss (decide_eq_true (sign_negl hs3 hy0))) ?_)
    refine wnil ?_
    refine thenN ?_
    refine wT (ev (v := .bool true) rfl rfl) ?_
    refine wreg ?_
    refine wl rfl (oload (vs := [.bool (ng z2), .slice p2 n2 c2]) aggZ hS 0 rfl rfl (ev rfl rfl) rfl rfl rfl ?_)
    obtain ⟨z4, hz4⟩ : ∃ z : Int, Hid (-z2 = z) := ⟨_, rfl⟩
    have hk4 : Wd z4 67108864 := Wd.neg hk2 hz4
    refine wl rfl (ocall rfl rfl Try.call75 rfl (wzneg (((hS.sl 1 rfl).zr hk2).mono (by omega)) hz4) (args1 (ev rfl rfl)) ?_)
    rintro _ w15 ⟨_, _, rfl, ⟨p4, n4, c4, rfl, rfl⟩, hN⟩
    refine ⟨_, rfl, ?_⟩
    replace hS := hS.news hN; clear hN
    refine wl rfl (ostore [.bool (ng z4), .slice p4 n4 c4] [.bool (ng z4), .slice p4 n4 c4] Try.sizeOf25 hS 1 rfl rfl (ev rfl rfl) (ev (v := .agg #[.bool (ng z4), .slice p4 n4 c4]) rfl rfl) rfl rfl rfl rfl rfl rfl ?_)
    clear hS; intro w16 hS
    refine wnil ?_
    refine thenN ?_
    refine wseq ?_
    refine wreg ?_
    refine wl rfl (oload (vs := [.bool b, .slice p n c]) aggZ hS 6 rfl rfl (ev rfl rfl) rfl rfl rfl ?_)
    refine wl rfl (oload (vs := [.bool (ng z4), .slice p4 n4 c4]) aggZ hS 1 rfl rfl (ev rfl rfl) rfl rfl rfl ?_)
    obtain ⟨z5, hz5⟩ : ∃ z : Int, Hid (Int.tdiv x z4 = z) := ⟨_, rfl⟩
    have hk5 : Wd z5 67108864 := Wd.tdiv hx.wd hz5
    refine wl rfl (ocall rfl rfl Try.call66 rfl ((wzexact ((hx.at hS).mono (by omega)) (((hS.sl 0 rfl).zr hk4).mono (by omega)) (by have := gcd_ne h0 hz2.out; have := hz4.out; omega) (neg_mod (gcd_mod1 hz2.out) hz4.out) hz5).mono ZEt.m) (args2 (ev rfl rfl) (ev rfl rfl)) ?_)
    rintro _ w17 ⟨_, _, rfl, ⟨p5, n5, c5, rfl, rfl⟩, hN⟩
    refine ⟨_, rfl, ?_⟩
    replace hS := hS.news hN; clear hN
    refine wl rfl (omove (v := .tuple #[.agg #[.bool (ng z5), .slice p5 n5 c5], .int .i64 0]) rfl rfl (ev (v := .tuple #[.agg #[.bool (ng z5), .slice p5 n5 c5], .int .i64 0]) rfl rfl) ?_)
    refine wl rfl (oextract (vs := [.agg #[.bool (ng z5), .slice p5 n5 c5], .int .i64 0]) (v := .agg #[.bool (ng z5), .slice p5 n5 c5]) rfl rfl (ev (v := .tuple #[.agg #[.bool (ng z5), .slice p5 n5 c5], .int .i64 0]) rfl rfl) rfl ?_)
    refine wl rfl (oextract (vs := [.agg #[.bool (ng z5), .slice p5 n5 c5], .int .i64 0]) (v := .int .i64 0) rfl rfl (ev (v := .tuple #[.agg #[.bool (ng z5), .slice p5 n5 c5], .int .i64 0]) rfl rfl) rfl ?_)
    refine wl rfl (oalloc [.bool false, .slice none 0 0] hS rfl rfl Try.zeroValue25 rfl ?_)
    clear hS; intro g18 w19 hS
    refine wl rfl (ostore [.bool (ng z5), .slice p5 n5 c5] [.bool (ng z5), .slice p5 n5 c5] Try.sizeOf25 hS 0 rfl rfl (ev rfl rfl) (ev (v := .agg #[.bool (ng z5), .slice p5 n5 c5]) rfl rfl) rfl rfl rfl rfl rfl rfl ?_)
    clear hS; intro w20 hS
    refine wl rfl (oassign (v := .int .i64 0) rfl rfl (ev (v := .int .i64 0) rfl rfl) ?_)
    refine wnil ?_
    refine thenN ?_
    refine wseq ?_
    refine wreg ?_
    refine wl rfl (oload (vs := [.bool b2, .slice q m d]) aggZ hS 7 rfl rfl (ev rfl rfl) rfl rfl rfl ?_)
    refine wl rfl (oload (vs := [.bool (ng z4), .slice p4 n4 c4]) aggZ hS 3 rfl rfl (ev rfl rfl) rfl rfl rfl ?_)
    obtain ⟨z6, hz6⟩ : ∃ z : Int, Hid (Int.tdiv y z4 = z) := ⟨_, rfl⟩
    have hk6 : Wd z6 67108864 := Wd.tdiv hy.wd hz6
    refine wl rfl (ocall rfl rfl Try.call66 rfl ((wzexact ((hy.at hS).mono (by omega)) (((hS.sl 2 rfl).zr hk4).mono (by omega)) (by have := gcd_ne h0 hz2.out; have := hz4.out; omega) (neg_mod (gcd_mod2 hz2.out) hz4.out) hz6).mono ZEt.m) (args2 (ev rfl rfl) (ev rfl rfl)) ?_)
    rintro _ w21 ⟨_, _, rfl, ⟨p6, n6, c6, rfl, rfl⟩, hN⟩
    refine ⟨_, rfl, ?_⟩
    replace hS := hS.news hN; clear hN
    refine wl rfl (omove (v := .tuple #[.agg #[.bool (ng z6), .slice p6 n6 c6], .int .i64 0]) rfl rfl (ev (v := .tuple #[.agg #[.bool (ng z6), .slice p6 n6 c6], .int .i64 0]) rfl rfl) ?_)
    refine wl rfl (oextract (vs := [.agg #[.bool (ng z6), .slice p6 n6 c6], .int .i64 0]) (v := .agg #[.bool (ng z6), .slice p6 n6 c6]) rfl rfl (ev (v := .tuple #[.agg #[.bool (ng z6), .slice p6 n6 c6], .int .i64 0]) rfl rfl) rfl ?_)
    refine wl rfl (oextract (vs := [.agg #[.bool (ng z6), .slice p6 n6 c6], .int .i64 0]) (v := .int .i64 0) rfl rfl (ev (v := .tuple #[.agg #[.bool (ng z6), .slice p6 n6 c6], .int .i64 0]) rfl rfl) rfl ?_)
    refine wl rfl (oalloc [.bool false, .slice none 0 0] hS rfl rfl Try.zeroValue25 rfl ?_)
    clear hS; intro g22 w23 hS
    refine wl rfl (ostore [.bool (ng z6), .slice p6 n6 c6] [.bool (ng z6), .slice p6 n6 c6] Try.sizeOf25 hS 0 rfl rfl (ev rfl rfl) (ev (v := .agg #[.bool (ng z6), .slice p6 n6 c6]) rfl rfl) rfl rfl rfl rfl rfl rfl ?_)
    clear hS; intro w24 hS
    refine wl rfl (oassign (v := .int .i64 0) rfl rfl (ev (v := .int .i64 0) rfl rfl) ?_)
    refine wnil ?_
    refine thenN ?_
    refine wseq ?_
    refine wreg ?_
    refine wl rfl (oload (vs := [.bool (ng z5), .slice p5 n5 c5]) aggZ hS 2 rfl rfl (ev rfl rfl) rfl rfl rfl ?_)
    refine wl rfl (oload (vs := [.bool (ng z6), .slice p6 n6 c6]) aggZ hS 0 rfl rfl (ev rfl rfl) rfl rfl rfl ?_)
    refine wl rfl (obuild (ps := #[(0, .agg #[.bool (ng z5), .slice p5 n5 c5]), (1, .agg #[.bool (ng z6), .slice p6 n6 c6])]) (v := .agg #[.bool (ng z5), .slice p5 n5 c5, .bool (ng z6), .slice p6 n6 c6]) rfl rfl (parts2 (ev (v := .agg #[.bool (ng z5), .slice p5 n5 c5]) rfl rfl) (ev (v := .agg #[.bool (ng z6), .slice p6 n6 c6]) rfl rfl)) (fun w => by simp [go_sem, Instr.build, Instr.fill]) ?_)
    refine wl rfl (ostore [.bool (ng z5), .slice p5 n5 c5, .bool (ng z6), .slice p6 n6 c6] [.bool (ng z5), .slice p5 n5 c5, .bool (ng z6), .slice p6 n6 c6] Try.sizeOf27 hS 8 rfl rfl (ev rfl rfl) (ev (v := .agg #[.bool (ng z5), .slice p5 n5 c5, .bool (ng z6), .slice p6 n6 c6]) rfl rfl) rfl rfl rfl rfl rfl rfl ?_)
    clear hS; intro w25 hS
    refine wl rfl (oassign (v := .int .i64 0) rfl rfl (evc (v := .int .i64 0)) ?_)
    refine wnil ?_
    refine thenN ?_
    refine wleave ?_
    refine wret2 Try.results42 (tellC (cs := [.bool (ng z5), .slice p5 n5 c5, .bool (ng z6), .slice p6 n6 c6]) aggR hS 8 rfl rfl rfl rfl) (tellT (v := .int .i64 0) rfl rfl) ?_
    obtain rfl : z5 = z := (RN_ofN hy0 hz2.out hz4.out hz5.out).symm.trans hz.out
    obtain rfl : z6 = t := (RD_ofN hy0 hz2.out hz4.out hz6.out).symm.trans ht.out
    exact ⟨_, _, rfl, ⟨_, _, _, _, _, _, rfl, rfl⟩, hS.newM [3, 1] (by decide) rfl rfl⟩
  ·
    refine wl rfl (obin (u := .int .i64 s3) (v := .int .i64 0) (z := .bool false) rfl rfl (ev (v := .int .i64 s3) rfl rfl) (evc (v := .int .i64 0)) (bin_lss (decide_eq_false (sign_pos hs3 (by omega)))) ?_)
    refine wnil ?_
    refine thenN ?_
    refine wF (ev (v := .bool false) rfl rfl) ?_
    refine wskip ?_
    refine thenN ?_
    refine wseq ?_
    refine wreg ?_
    refine wl rfl (oload (vs := [.bool b, .slice p n c]) aggZ hS 5 rfl rfl (ev rfl rfl) rfl rfl rfl ?_)
    refine wl rfl (oload (vs := [.bool (ng z2), .slice p2 n2 c2]) aggZ hS 0 rfl rfl (ev rfl rfl) rfl rfl rfl ?_)
    obtain ⟨z4, hz4⟩ : ∃ z : Int, Hid (Int.tdiv x z2 = z) := ⟨_, rfl⟩
    have hk4 : Wd z4 67108864 := Wd.tdiv hx.wd hz4
    refine wl rfl (ocall rfl rfl Try.call66 rfl ((wzexact ((hx.at hS).mono (by omega)) (((hS.sl 1 rfl).zr hk2).mono (by omega)) (gcd_ne h0 hz2.out) (gcd_mod1 hz2.out) hz4).mono ZEt.m) (args2 (ev rfl rfl) (ev rfl rfl)) ?_)
    rintro _ w15 ⟨_, _, rfl, ⟨p4, n4, c4, rfl, rfl⟩, hN⟩
    refine ⟨_, rfl, ?_⟩
    replace hS := hS.news hN; clear hN
    refine wl rfl (omove (v := .tuple #[.agg #[.bool (ng z4), .slice p4 n4 c4], .int .i64 0]) rfl rfl (ev (v := .tuple #[.agg #[.bool (ng z4), .slice p4 n4 c4], .int .i64 0]) rfl rfl) ?_)
    refine wl rfl (oextract (vs := [.agg #[.bool (ng z4), .slice p4 n4 c4], .int .i64 0]) (v := .agg #[.bool (ng z4), .slice p4 n4 c4]) rfl rfl (ev (v := .tuple #[.agg #[.bool (ng z4), .slice p4 n4 c4], .int .i64 0]) rfl rfl) rfl ?_)
    refine wl rfl (oextract (vs := [.agg #[.bool (ng z4), .slice p4 n4 c4], .int .i64 0]) (v := .int .i64 0) rfl rfl (ev (v := .tuple #[.agg #[.bool (ng z4), .slice p4 n4 c4], .int .i64 0]) rfl rfl) rfl ?_)
    refine wl rfl (oalloc [.bool false, .slice none 0 0] hS rfl rfl Try.zeroValue25 rfl ?_)
    clear hS; intro g16 w17 hS
    refine wl rfl (ostore [.bool (ng z4), .slice p4 n4 c4] [.bool (ng z4), .slice p4 n4 c4] Try.sizeOf25 hS 0 rfl rfl (ev rfl rfl) (ev (v := .agg #[.bool (ng z4), .slice p4 n4 c4]) rfl rfl) rfl rfl rfl rfl rfl rfl ?_)
    clear hS; intro w18 hS
    refine wl rfl (oassign (v := .int .i64 0) rfl rfl (ev (v := .int .i64 0) rfl rfl) ?_)
    refine wnil ?_
    refine thenN ?_
    refine wseq ?_
    refine wreg ?_
    refine wl rfl (oload (vs := [.bool b2, .slice q m d]) aggZ hS 6 rfl rfl (ev rfl rfl) rfl rfl rfl ?_)
    refine wl rfl (oload (vs := [.bool (ng z2), .slice p2 n2 c2]) aggZ hS 2 rfl rfl (ev rfl rfl) rfl rfl rfl ?_)
    obtain ⟨z5, hz5⟩ : ∃ z : Int, Hid (Int.tdiv y z2 = z) := ⟨_, rfl⟩
    have hk5 : Wd z5 67108864 := Wd.tdiv hy.wd hz5
    refine wl rfl (ocall rfl rfl Try.call66 rfl ((wzexact ((hy.at hS).mono (by omega)) (((hS.sl 3 rfl).zr hk2).mono (by omega)) (gcd_ne h0 hz2.out) (gcd_mod2 hz2.out) hz5).mono ZEt.m) (args2 (ev rfl rfl) (ev rfl rfl)) ?_)
    rintro _ w19 ⟨_, _, rfl, ⟨p5, n5, c5, rfl, rfl⟩, hN⟩
    refine ⟨_, rfl, ?_⟩
    replace hS := hS.news hN; clear hN
    refine wl rfl (omove (v := .tuple #[.agg #[.bool (ng z5), .slice p5 n5 c5], .int .i64 0]) rfl rfl (ev (v := .tuple #[.agg #[.bool (ng z5), .slice p5 n5 c5], .int .i64 0]) rfl rfl) ?_)
    refine wl rfl (oextract (vs := [.agg #[.bool (ng z5), .slice p5 n5 c5], .int .i64 0]) (v := .agg #[.bool (ng z5), .slice p5 n5 c5]) rfl rfl (ev (v := .tuple #[.agg #[.bool (ng z5), .slice p5 n5 c5], .int .i64 0]) rfl rfl) rfl ?_)
    refine wl rfl (oextract (vs := [.agg #[.bool (ng z5), .slice p5 n5 c5], .int .i64 0]) (v := .int .i64 0) rfl rfl (ev (v := .tuple #[.agg #[.bool (ng z5), .slice p5 n5 c5], .int .i64 0]) rfl rfl) rfl ?_)
    refine wl rfl (oalloc [.bool false, .slice none 0 0] hS rfl rfl Try.zeroValue25 rfl ?_)
    clear hS; intro g20 w21 hS
    refine wl rfl (ostore [.bool (ng z5), .slice p5 n5 c5] [.bool (ng z5), .slice p5 n5 c5] Try.sizeOf25 hS 0 rfl rfl (ev rfl rfl) (ev (v := .agg #[.bool (ng z5), .slice p5 n5 c5]) rfl rfl) rfl rfl rfl rfl rfl rfl ?_)
    clear hS; intro w22 hS
    refine wl rfl (oassign (v := .int .i64 0) rfl rfl (ev (v := .int .i64 0) rfl rfl) ?_)
    refine wnil ?_
    refine thenN ?_
    refine wseq ?_
    refine wreg ?_
    refine wl rfl (oload (vs := [.bool (ng z4), .slice p4 n4 c4]) aggZ hS 2 rfl rfl (ev rfl rfl) rfl rfl rfl ?_)
    refine wl rfl (oload (vs := [.bool (ng z5), .slice p5 n5 c5]) aggZ hS 0 rfl rfl (ev rfl rfl) rfl rfl rfl ?_)
    refine wl rfl (obuild (ps := #[(0, .agg #[.bool (ng z4), .slice p4 n4 c4]), (1, .agg #[.bool (ng z5), .slice p5 n5 c5])]) (v := .agg #[.bool (ng z4), .slice p4 n4 c4, .bool (ng z5), .slice p5 n5 c5]) rfl rfl (parts2 (ev (v := .agg #[.bool (ng z4), .slice p4 n4 c4]) rfl rfl) (ev (v := .agg #[.bool (ng z5), .slice p5 n5 c5]) rfl rfl)) (fun w => by simp [go_sem, Instr.build, Instr.fill]) ?_)
    refine wl rfl (ostore [.bool (ng z4), .slice p4 n4 c4, .bool (ng z5), .slice p5 n5 c5] [.bool (ng z4), .slice p4 n4 c4, .bool (ng z5), .slice p5 n5 c5] Try.sizeOf27 hS 7 rfl rfl (ev rfl rfl) (ev (v := .agg #[.bool (ng z4), .slice p4 n4 c4, .bool (ng z5), .slice p5 n5 c5]) rfl rfl) rfl rfl rfl rfl rfl rfl ?_)
    clear hS; intro w23 hS
    refine wl rfl (oassign (v := .int .i64 0) rfl rfl (evc (v := .int .i64 0)) ?_)
    refine wnil ?_
    refine thenN ?_
    refine wleave ?_
    refine wret2 Try.results42 (tellC (cs := [.bool (ng z4), .slice p4 n4 c4, .bool (ng z5), .slice p5 n5 c5]) aggR hS 7 rfl rfl rfl rfl) (tellT (v := .int .i64 0) rfl rfl) ?_
    obtain rfl : z4 = z := (RN_of (by omega) hz2.out hz4.out).symm.trans hz.out
    obtain rfl : z5 = t := (RD_of (by omega) hz2.out hz5.out).symm.trans ht.out
    exact ⟨_, _, rfl, ⟨_, _, _, _, _, _, rfl, rfl⟩, hS.newM [3, 1] (by decide) rfl rfl⟩

set_option maxRecDepth 100000 in
set_option maxHeartbeats 16000000 in
theorem wrmake0 {b b2 : Bool} {p q : Option Addr} {n m c d : Nat} {x y : Int} {w : World} (hx : Zr w b p n c x 67108864) (hy : Zr w b2 q m d y 67108864) (h0 : y = 0) :
    Calls Try.prog 42 #[.agg #[.bool b, .slice p n c], .agg #[.bool b2, .slice q m d]] w (Ret (Is (.tuple #[.agg #[.bool false, .slice none 0 0, .bool false, .slice none 0 0], .int .i64 6])) w) := by
  have hS := Sep.init w
  refine went Try.func42 rfl (n := 39) rfl rfl ?_
  refine wseq ?_
  refine wreg ?_
  refine wl rfl (obox [.bool b, .slice p n c] hS rfl rfl (ev (v := .agg #[.bool b, .slice p n c]) rfl rfl) rfl ?_)
  clear hS; intro g1 w2 hS
  refine wl rfl (obox [.bool b2, .slice q m d] hS rfl rfl (ev (v := .agg #[.bool b2, .slice q m d]) rfl rfl) rfl ?_)
  clear hS; intro g3 w4 hS
  refine wl rfl (oalloc [.bool false, .slice none 0 0, .bool false, .slice none 0 0] hS rfl rfl Try.zeroValue27 rfl ?_)
  clear hS; intro g5 w6 hS
  refine wl rfl (oassign (v := .int .i64 0) rfl rfl (evc (v := .int .i64 0)) ?_)
  refine wnil ?_
  refine thenN ?_
  refine wseq ?_
  refine wseq ?_
  refine wreg ?_
  refine wl rfl (oload (vs := [.bool b2, .slice q m d]) aggZ hS 1 rfl rfl (ev rfl rfl) rfl rfl rfl ?_)
  obtain ⟨s1, hs1⟩ : ∃ z : Int, Hid ((y : Int).sign = z) := ⟨_, rfl⟩
  refine wl rfl (ocall rfl rfl Try.call55 rfl (wzsign ((hy.at hS).mono (by omega)) hs1) (args1 (ev rfl rfl)) ?_)
  rintro _ w7 ⟨_, _, rfl, ⟨rfl, rfl⟩, hN⟩
  refine ⟨_, rfl, ?_⟩
  replace hS := hS.news hN; clear hN
  refine wl rfl (obin (u := .int .i64 s1) (v := .int .i64 0) (z := .bool true) rfl rfl (ev (v := .int .i64 s1) rfl rfl) (evc (v := .int .i64 0)) (bin_eql (sign_eq hs1 h0)) ?_)
  refine wnil ?_
  refine thenN ?_
  refine wT (ev (v := .bool true) rfl rfl) ?_
  refine wseq ?_
  refine wreg ?_
  refine wl rfl (obuild (ps := #[]) (v := .agg #[.bool false, .slice none 0 0, .bool false, .slice none 0 0]) rfl rfl (parts0) (fun w => by simp [go_sem, Instr.build, Instr.fill]) ?_)
  refine wl rfl (ostore [.bool false, .slice none 0 0, .bool false, .slice none 0 0] [.bool false, .slice none 0 0, .bool false, .slice none 0 0] Try.sizeOf27 hS 0 rfl rfl (ev rfl rfl) (ev (v := .agg #[.bool false, .slice none 0 0, .bool false, .slice none 0 0]) rfl rfl) rfl rfl rfl rfl rfl rfl ?_)
  clear hS; intro w8 hS
  refine wl rfl (oassign (v := .int .i64 6) rfl rfl (evc (v := .int .i64 6)) ?_)
  refine wnil ?_
  refine thenN ?_
  refine wleave ?_
  refine thenR ?_
  refine wret2 Try.results42 (tellC (cs := [.bool false, .slice none 0 0, .bool false, .slice none 0 0]) aggR hS 0 rfl rfl rfl rfl) (tellT (v := .int .i64 6) rfl rfl) ?_
  exact ⟨_, _, rfl, isI, hS.new0⟩

set_option maxRecDepth 100000 in
set_option maxHeartbeats 16000000 in
theorem wrnorm {z t : Int} {b b2 : Bool} {p q : Option Addr} {n m c d : Nat} {x y : Int} {w : World} (hx : Zr w b p n c x 67108864) (hy : Zr w b2 q m d y 67108864) (h0 : y ≠ 0) (hz : Hid (RN x y = z)) (ht : Hid (RD x y = t)) :
    Calls Try.prog 43 #[.agg #[.bool b, .slice p n c, .bool b2, .slice q m d]] w (Ret (RRt z t 0) w) := by
  have hS := Sep.init w
  refine went Try.func43 rfl (n := 11) rfl rfl ?_
  refine wseq ?_
  refine wreg ?_
  refine wl rfl (obox [.bool b, .slice p n c, .bool b2, .slice q m d] hS rfl rfl (ev (v := .agg #[.bool b, .slice p n c, .bool b2, .slice q m d]) rfl rfl) rfl ?_)
  clear hS; intro g1 w2 hS
  refine wl rfl (oalloc [.bool false, .slice none 0 0, .bool false, .slice none 0 0] hS rfl rfl Try.zeroValue27 rfl ?_)
  clear hS; intro g3 w4 hS
  refine wl rfl (oassign (v := .int .i64 0) rfl rfl (evc (v := .int .i64 0)) ?_)
  refine wnil ?_
  refine thenN ?_
  refine wseq ?_
  refine wreg ?_
  refine wl rfl (ofieldAddr (g := g1) (off := 0) 0 rfl rfl (ev (v := .pointer (some ⟨g1, 0, none⟩)) rfl rfl) Try.runUnderlying27 rfl Try.sizeOf25 rfl ?_)
  refine wl rfl (oload (vs := [.bool b, .slice p n c]) aggZ hS 1 rfl rfl (ev rfl rfl) rfl rfl rfl ?_)
  refine wl rfl (ofieldAddr (g := g1) (off := 0) 2 rfl rfl (ev (v := .pointer (some ⟨g1, 0, none⟩)) rfl rfl) Try.runUnderlying27 rfl Try.sizeOf25 rfl ?_)
  refine wl rfl (oload (vs := [.bool b2, .slice q m d]) aggZ hS 1 rfl rfl (ev rfl rfl) rfl rfl rfl ?_)
  obtain ⟨z1, hz1⟩ : ∃ z : Int, Hid (RN x y = z) := ⟨_, rfl⟩
  have hk1 : Wd z1 67108864 := Wd.rn hx.wd hz1
  obtain ⟨z2, hz2⟩ : ∃ z : Int, Hid (RD x y = z) := ⟨_, rfl⟩
  have hk2 : Wd z2 67108864 := Wd.rd hy.wd hz2
  refine wl rfl (ocall rfl rfl Try.call42 rfl (wrmake (hx.at hS) (hy.at hS) (h0) hz1 hz2) (args2 (ev rfl rfl) (ev rfl rfl)) ?_)
  rintro _ w5 ⟨_, _, rfl, ⟨p1, n1, c1, p2, n2, c2, rfl, rfl⟩, hN⟩
  refine ⟨_, rfl, ?_⟩
  replace hS := hS.news hN; clear hN
  refine wl rfl (oextract (vs := [.agg #[.bool (ng z1), .slice p1 n1 c1, .bool (ng z2), .slice p2 n2 c2], .int .i64 0]) (v := .agg #[.bool (ng z1), .slice p1 n1 c1, .bool (ng z2), .slice p2 n2 c2]) rfl rfl (ev (v := .tuple #[.agg #[.bool (ng z1), .slice p1 n1 c1, .bool (ng z2), .slice p2 n2 c2], .int .i64 0]) rfl rfl) rfl ?_)
  refine wl rfl (oextract (vs := [.agg #[.bool (ng z1), .slice p1 n1 c1, .bool (ng z2), .slice p2 n2 c2], .int .i64 0]) (v := .int .i64 0) rfl rfl (ev (v := .tuple #[.agg #[.bool (ng z1), .slice p1 n1 c1, .bool (ng z2), .slice p2 n2 c2], .int .i64 0]) rfl rfl) rfl ?_)
  refine wl rfl (ostore [.bool (ng z1), .slice p1 n1 c1, .bool (ng z2), .slice p2 n2 c2] [.bool (ng z1), .slice p1 n1 c1, .bool (ng z2), .slice p2 n2 c2] Try.sizeOf27 hS 2 rfl rfl (ev rfl rfl) (ev (v := .agg #[.bool (ng z1), .slice p1 n1 c1, .bool (ng z2), .slice p2 n2 c2]) rfl rfl) rfl rfl rfl rfl rfl rfl ?_)
  clear hS; intro w6 hS
  refine wl rfl (oassign (v := .int .i64 0) rfl rfl (ev (v := .int .i64 0) rfl rfl) ?_)
  refine wnil ?_
  refine thenN ?_
  refine wleave ?_
  refine wret2 Try.results43 (tellC (cs := [.bool (ng z1), .slice p1 n1 c1, .bool (ng z2), .slice p2 n2 c2]) aggR hS 2 rfl rfl rfl rfl) (tellT (v := .int .i64 0) rfl rfl) ?_
  obtain rfl : z1 = z := hz1.out.symm.trans hz.out
  obtain rfl : z2 = t := hz2.out.symm.trans ht.out
  exact ⟨_, _, rfl, ⟨_, _, _, _, _, _, rfl, rfl⟩, hS.newM [0, 1] (by decide) rfl rfl⟩

set_option maxRecDepth 100000 in
set_option maxHeartbeats 16000000 in
theorem wrnorm0 {b b2 : Bool} {p q : Option Addr} {n m c d : Nat} {x y : Int} {w : World} (hx : Zr w b p n c x 67108864) (hy : Zr w b2 q m d y 67108864) (h0 : y = 0) :
    Calls Try.prog 43 #[.agg #[.bool b, .slice p n c, .bool b2, .slice q m d]] w (Ret (Is (.tuple #[.agg #[.bool false, .slice none 0 0, .bool false, .slice none 0 0], .int .i64 6])) w) := by
  have hS := Sep.init w
  refine went Try.func43 rfl (n := 11) rfl rfl ?_
  refine wseq ?_
  refine wreg ?_
  refine wl rfl (obox [.bool b, .slice p n c, .bool b2, .slice q m d] hS rfl rfl (ev (v := .agg #[.bool b, .slice p n c, .bool b2, .slice q m d]) rfl rfl) rfl ?_)
  clear hS; intro g1 w2 hS
  refine wl rfl (oalloc [.bool false, .slice none 0 0, .bool false, .slice none 0 0] hS rfl rfl Try.zeroValue27 rfl ?_)
  clear hS; intro g3 w4 hS
  refine wl rfl (oassign (v := .int .i64 0) rfl rfl (evc (v := .int .i64 0)) ?_)
  refine wnil ?_
  refine thenN ?_
  refine wseq ?_
  refine wreg ?_
  refine wl rfl (ofieldAddr (g := g1) (off := 0) 0 rfl rfl (ev (v := .pointer (some ⟨g1, 0, none⟩)) rfl rfl) Try.runUnderlying27 rfl Try.sizeOf25 rfl ?_)
  refine wl rfl (oload (vs := [.bool b, .slice p n c]) aggZ hS 1 rfl rfl (ev rfl rfl) rfl rfl rfl ?_)
  refine wl rfl (ofieldAddr (g := g1) (off := 0) 2 rfl rfl (ev (v := .pointer (some ⟨g1, 0, none⟩)) rfl rfl) Try.runUnderlying27 rfl Try.sizeOf25 rfl ?_)
  refine wl rfl (oload (vs := [.bool b2, .slice q m d]) aggZ hS 1 rfl rfl (ev rfl rfl) rfl rfl rfl ?_)
  refine wl rfl (ocall rfl rfl Try.call42 rfl (wrmake0 (hx.at hS) (hy.at hS) (h0)) (args2 (ev rfl rfl) (ev rfl rfl)) ?_)
  rintro _ w5 ⟨_, _, rfl, ⟨rfl, rfl⟩, hN⟩
  refine ⟨_, rfl, ?_⟩
  replace hS := hS.news hN; clear hN
  refine wl rfl (oextract (vs := [.agg #[.bool false, .slice none 0 0, .bool false, .slice none 0 0], .int .i64 6]) (v := .agg #[.bool false, .slice none 0 0, .bool false, .slice none 0 0]) rfl rfl (ev (v := .tuple #[.agg #[.bool false, .slice none 0 0, .bool false, .slice none 0 0], .int .i64 6]) rfl rfl) rfl ?_)
  refine wl rfl (oextract (vs := [.agg #[.bool false, .slice none 0 0, .bool false, .slice none 0 0], .int .i64 6]) (v := .int .i64 6) rfl rfl (ev (v := .tuple #[.agg #[.bool false, .slice none 0 0, .bool false, .slice none 0 0], .int .i64 6]) rfl rfl) rfl ?_)
  refine wl rfl (ostore [.bool false, .slice none 0 0, .bool false, .slice none 0 0] [.bool false, .slice none 0 0, .bool false, .slice none 0 0] Try.sizeOf27 hS 0 rfl rfl (ev rfl rfl) (ev (v := .agg #[.bool false, .slice none 0 0, .bool false, .slice none 0 0]) rfl rfl) rfl rfl rfl rfl rfl rfl ?_)
  clear hS; intro w6 hS
  refine wl rfl (oassign (v := .int .i64 6) rfl rfl (ev (v := .int .i64 6) rfl rfl) ?_)
  refine wnil ?_
  refine thenN ?_
  refine wleave ?_
  refine wret2 Try.results43 (tellC (cs := [.bool false, .slice none 0 0, .bool false, .slice none 0 0]) aggR hS 0 rfl rfl rfl rfl) (tellT (v := .int .i64 6) rfl rfl) ?_
  exact ⟨_, _, rfl, isI, hS.new0⟩

end Go.Proofs.Ytoinfkimlhhmpaa
