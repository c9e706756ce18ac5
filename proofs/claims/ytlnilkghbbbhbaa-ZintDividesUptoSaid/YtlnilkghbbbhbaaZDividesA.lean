
/-
  The walk of similelaw03.ZintDivides.
-/
import Derived.Test.YtlnilkghbbbhbaaZDiv
set_option linter.unusedVariables false
set_option linter.unusedSimpArgs false
namespace Go.Proofs.Ytlnilkghbbbhbaa
open Go.RowKit

set_option maxRecDepth 100000 in
set_option maxHeartbeats 16000000 in
theorem zdivides_0z {b b2 : Bool} {p q : Option Addr} {n m c d : Nat} {xs ys : List Nat} {w : World} (hx : Sl w p n c xs) (hy : Sl w q m d ys) (hn : n ≤ 1048576) (hm : m ≤ 1048576) {PP : Nat} (hP : PP < 4294967296) (hy9 : zv b2 (val ys) = 0) (hP0 : PP = 0) :
    Calls Try.prog 5 #[.agg #[.bool b, .slice p n c], .agg #[.bool b2, .slice q m d], .int .u32 (PP : Int)] w (Ret (Is (.bool true)) w) := by
  obtain ⟨x, hex⟩ : ∃ x : Int, zv b (val xs) = x := ⟨_, rfl⟩
  obtain ⟨y, hey⟩ : ∃ y : Int, zv b2 (val ys) = y := ⟨_, rfl⟩
  have hzx : Zr w b p n c x 1048576 := ⟨xs, hx, hex, hn⟩
  have hzy : Zr w b2 q m d y 1048576 := ⟨ys, hy, hey, hm⟩
  have hS := Sep.init w
  refine went Try.func5 rfl (n := 216) rfl rfl ?_
  refine wseq ?_
  refine wreg ?_
  refine wl rfl (obox [.bool b, .slice p n c] hS rfl rfl (ev (v := .agg #[.bool b, .slice p n c]) rfl rfl) rfl ?_)
  clear hS; intro g1 w2 hS
  refine wl rfl (obox [.bool b2, .slice q m d] hS rfl rfl (ev (v := .agg #[.bool b2, .slice q m d]) rfl rfl) rfl ?_)
  clear hS; intro g3 w4 hS
  refine wl rfl (oassign (v := .bool false) rfl rfl (evc (v := .bool false)) ?_)
  refine wnil ?_
  refine thenN ?_
  refine wseq ?_
  refine wreg ?_
  refine wl rfl (oload (vs := [.bool b, .slice p n c]) aggZ hS 1 rfl rfl (ev rfl rfl) rfl rfl rfl ?_)
  refine wl rfl (oload (vs := [.bool b2, .slice q m d]) aggZ hS 0 rfl rfl (ev rfl rfl) rfl rfl rfl ?_)
  have h0 : y = 0 := by rw [← hey]; exact hy9
  have hk1 : Wd 0 2 := Wd.i64 (by omega) (by omega)
  have hk2 : Wd 0 2 := Wd.i64 (by omega) (by omega)
  refine wl rfl (ocall rfl rfl Try.call32 rfl (wzeuclid0 ((hzx.at hS).mono (by omega)) ((hzy.at hS).mono (by omega)) (h0)) (args2 (ev rfl rfl) (ev rfl rfl)) ?_)
  rintro _ w5 ⟨_, _, rfl, ⟨p1, n1, c1, p2, n2, c2, rfl, rfl⟩, hN⟩
  refine ⟨_, rfl, ?_⟩
  replace hS := hS.news hN; clear hN
  refine wl rfl (omove (v := .tuple #[.agg #[.bool (ng 0), .slice p1 n1 c1], .agg #[.bool (ng 0), .slice p2 n2 c2], .int .i64 5]) rfl rfl (ev (v := .tuple #[.agg #[.bool (ng 0), .slice p1 n1 c1], .agg #[.bool (ng 0), .slice p2 n2 c2], .int .i64 5]) rfl rfl) ?_)
  refine wl rfl (oextract (vs := [.agg #[.bool (ng 0), .slice p1 n1 c1], .agg #[.bool (ng 0), .slice p2 n2 c2], .int .i64 5]) (v := .agg #[.bool (ng 0), .slice p1 n1 c1]) rfl rfl (ev (v := .tuple #[.agg #[.bool (ng 0), .slice p1 n1 c1], .agg #[.bool (ng 0), .slice p2 n2 c2], .int .i64 5]) rfl rfl) rfl ?_)
  refine wl rfl (oextract (vs := [.agg #[.bool (ng 0), .slice p1 n1 c1], .agg #[.bool (ng 0), .slice p2 n2 c2], .int .i64 5]) (v := .agg #[.bool (ng 0), .slice p2 n2 c2]) rfl rfl (ev (v := .tuple #[.agg #[.bool (ng 0), .slice p1 n1 c1], .agg #[.bool (ng 0), .slice p2 n2 c2], .int .i64 5]) rfl rfl) rfl ?_)
  refine wl rfl (oextract (vs := [.agg #[.bool (ng 0), .slice p1 n1 c1], .agg #[.bool (ng 0), .slice p2 n2 c2], .int .i64 5]) (v := .int .i64 5) rfl rfl (ev (v := .tuple #[.agg #[.bool (ng 0), .slice p1 n1 c1], .agg #[.bool (ng 0), .slice p2 n2 c2], .int .i64 5]) rfl rfl) rfl ?_)
  refine wl rfl (oalloc [.bool false, .slice none 0 0] hS rfl rfl Try.zeroValue25 rfl ?_)
  clear hS; intro g6 w7 hS
  refine wl rfl (oalloc [.bool false, .slice none 0 0] hS rfl rfl Try.zeroValue25 rfl ?_)
  clear hS; intro g8 w9 hS
  refine wl rfl (ostore [.bool (ng 0), .slice p1 n1 c1] [.bool (ng 0), .slice p1 n1 c1] Try.sizeOf25 hS 1 rfl rfl (ev rfl rfl) (ev (v := .agg #[.bool (ng 0), .slice p1 n1 c1]) rfl rfl) rfl rfl rfl rfl rfl rfl ?_)
  clear hS; intro w10 hS
  refine wl rfl (ostore [.bool (ng 0), .slice p2 n2 c2] [.bool (ng 0), .slice p2 n2 c2] Try.sizeOf25 hS 0 rfl rfl (ev rfl rfl) (ev (v := .agg #[.bool (ng 0), .slice p2 n2 c2]) rfl rfl) rfl rfl rfl rfl rfl rfl ?_)
  clear hS; intro w11 hS
  refine wl rfl (oassign (v := .int .i64 5) rfl rfl (ev (v := .int .i64 5) rfl rfl) ?_)
  refine wnil ?_
  refine thenN ?_
  refine wseq ?_
  refine wreg ?_
  refine wl rfl (oload (vs := [.bool b, .slice p n c]) aggZ hS 5 rfl rfl (ev rfl rfl) rfl rfl rfl ?_)
  refine wl rfl (oload (vs := [.bool b2, .slice q m d]) aggZ hS 4 rfl rfl (ev rfl rfl) rfl rfl rfl ?_)
  have hk3 : Wd 0 2 := Wd.i64 (by omega) (by omega)
  have hk4 : Wd 0 2 := Wd.i64 (by omega) (by omega)
  refine wl rfl (ocall rfl rfl Try.call33 rfl (wztrunc0 ((hzx.at hS).mono (by omega)) ((hzy.at hS).mono (by omega)) (h0)) (args2 (ev rfl rfl) (ev rfl rfl)) ?_)
  rintro _ w12 ⟨_, _, rfl, ⟨p3, n3, c3, p4, n4, c4, rfl, rfl⟩, hN⟩
  refine ⟨_, rfl, ?_⟩
  replace hS := hS.news hN; clear hN
  refine wl rfl (omove (v := .tuple #[.agg #[.bool (ng 0), .slice p3 n3 c3], .agg #[.bool (ng 0), .slice p4 n4 c4], .int .i64 5]) rfl rfl (ev (v := .tuple #[.agg #[.bool (ng 0), .slice p3 n3 c3], .agg #[.bool (ng 0), .slice p4 n4 c4], .int .i64 5]) rfl rfl) ?_)
  refine wl rfl (oextract (vs := [.agg #[.bool (ng 0), .slice p3 n3 c3], .agg #[.bool (ng 0), .slice p4 n4 c4], .int .i64 5]) (v := .agg #[.bool (ng 0), .slice p3 n3 c3]) rfl rfl (ev (v := .tuple #[.agg #[.bool (ng 0), .slice p3 n3 c3], .agg #[.bool (ng 0), .slice p4 n4 c4], .int .i64 5]) rfl rfl) rfl ?_)
  refine wl rfl (oextract (vs := [.agg #[.bool (ng 0), .slice p3 n3 c3], .agg #[.bool (ng 0), .slice p4 n4 c4], .int .i64 5]) (v := .agg #[.bool (ng 0), .slice p4 n4 c4]) rfl rfl (ev (v := .tuple #[.agg #[.bool (ng 0), .slice p3 n3 c3], .agg #[.bool (ng 0), .slice p4 n4 c4], .int .i64 5]) rfl rfl) rfl ?_)
  refine wl rfl (oextract (vs := [.agg #[.bool (ng 0), .slice p3 n3 c3], .agg #[.bool (ng 0), .slice p4 n4 c4], .int .i64 5]) (v := .int .i64 5) rfl rfl (ev (v := .tuple #[.agg #[.bool (ng 0), .slice p3 n3 c3], .agg #[.bool (ng 0), .slice p4 n4 c4], .int .i64 5]) rfl rfl) rfl ?_)
  refine wl rfl (oalloc [.bool false, .slice none 0 0] hS rfl rfl Try.zeroValue25 rfl ?_)
  clear hS; intro g13 w14 hS
  refine wl rfl (oalloc [.bool false, .slice none 0 0] hS rfl rfl Try.zeroValue25 rfl ?_)
  clear hS; intro g15 w16 hS
  refine wl rfl (ostore [.bool (ng 0), .slice p3 n3 c3] [.bool (ng 0), .slice p3 n3 c3] Try.sizeOf25 hS 1 rfl rfl (ev rfl rfl) (ev (v := .agg #[.bool (ng 0), .slice p3 n3 c3]) rfl rfl) rfl rfl rfl rfl rfl rfl ?_)
  clear hS; intro w17 hS
  refine wl rfl (ostore [.bool (ng 0), .slice p4 n4 c4] [.bool (ng 0), .slice p4 n4 c4] Try.sizeOf25 hS 0 rfl rfl (ev rfl rfl) (ev (v := .agg #[.bool (ng 0), .slice p4 n4 c4]) rfl rfl) rfl rfl rfl rfl rfl rfl ?_)
  clear hS; intro w18 hS
  refine wl rfl (oassign (v := .int .i64 5) rfl rfl (ev (v := .int .i64 5) rfl rfl) ?_)
  refine wnil ?_
  refine thenN ?_
  refine wseq ?_
  refine wreg ?_
  refine wl rfl (oload (vs := [.bool b, .slice p n c]) aggZ hS 9 rfl rfl (ev rfl rfl) rfl rfl rfl ?_)
  refine wl rfl (oload (vs := [.bool b2, .slice q m d]) aggZ hS 8 rfl rfl (ev rfl rfl) rfl rfl rfl ?_)
  have hk5 : Wd 0 2 := Wd.i64 (by omega) (by omega)
  refine wl rfl (ocall rfl rfl Try.call34 rfl (wzexact0 ((hzx.at hS).mono (by omega)) ((hzy.at hS).mono (by omega)) (h0)) (args2 (ev rfl rfl) (ev rfl rfl)) ?_)
  rintro _ w19 ⟨_, _, rfl, ⟨p5, n5, c5, rfl, rfl⟩, hN⟩
  refine ⟨_, rfl, ?_⟩
  replace hS := hS.news hN; clear hN
  refine wl rfl (omove (v := .tuple #[.agg #[.bool (ng 0), .slice p5 n5 c5], .int .i64 5]) rfl rfl (ev (v := .tuple #[.agg #[.bool (ng 0), .slice p5 n5 c5], .int .i64 5]) rfl rfl) ?_)
  refine wl rfl (oextract (vs := [.agg #[.bool (ng 0), .slice p5 n5 c5], .int .i64 5]) (v := .agg #[.bool (ng 0), .slice p5 n5 c5]) rfl rfl (ev (v := .tuple #[.agg #[.bool (ng 0), .slice p5 n5 c5], .int .i64 5]) rfl rfl) rfl ?_)
  refine wl rfl (oextract (vs := [.agg #[.bool (ng 0), .slice p5 n5 c5], .int .i64 5]) (v := .int .i64 5) rfl rfl (ev (v := .tuple #[.agg #[.bool (ng 0), .slice p5 n5 c5], .int .i64 5]) rfl rfl) rfl ?_)
  refine wl rfl (oalloc [.bool false, .slice none 0 0] hS rfl rfl Try.zeroValue25 rfl ?_)
  clear hS; intro g20 w21 hS
  refine wl rfl (ostore [.bool (ng 0), .slice p5 n5 c5] [.bool (ng 0), .slice p5 n5 c5] Try.sizeOf25 hS 0 rfl rfl (ev rfl rfl) (ev (v := .agg #[.bool (ng 0), .slice p5 n5 c5]) rfl rfl) rfl rfl rfl rfl rfl rfl ?_)
  clear hS; intro w22 hS
  refine wl rfl (oassign (v := .int .i64 5) rfl rfl (ev (v := .int .i64 5) rfl rfl) ?_)
  refine wnil ?_
  refine thenN ?_
  refine wseq ?_
  refine wreg ?_
  refine wl rfl (oload (vs := [.bool b, .slice p n c]) aggZ hS 11 rfl rfl (ev rfl rfl) rfl rfl rfl ?_)
  refine wl rfl (oload (vs := [.bool b2, .slice q m d]) aggZ hS 10 rfl rfl (ev rfl rfl) rfl rfl rfl ?_)
  have hk6 : Wd 0 2 := Wd.i64 (by omega) (by omega)
  refine wl rfl (ocall rfl rfl Try.call35 rfl (wznear0 ((hzx.at hS).mono (by omega)) ((hzy.at hS).mono (by omega)) (h0)) (args2 (ev rfl rfl) (ev rfl rfl)) ?_)
  rintro _ w23 ⟨_, _, rfl, ⟨p6, n6, c6, rfl, rfl⟩, hN⟩
  refine ⟨_, rfl, ?_⟩
  replace hS := hS.news hN; clear hN
  refine wl rfl (omove (v := .tuple #[.agg #[.bool (ng 0), .slice p6 n6 c6], .int .i64 5]) rfl rfl (ev (v := .tuple #[.agg #[.bool (ng 0), .slice p6 n6 c6], .int .i64 5]) rfl rfl) ?_)
  refine wl rfl (oextract (vs := [.agg #[.bool (ng 0), .slice p6 n6 c6], .int .i64 5]) (v := .agg #[.bool (ng 0), .slice p6 n6 c6]) rfl rfl (ev (v := .tuple #[.agg #[.bool (ng 0), .slice p6 n6 c6], .int .i64 5]) rfl rfl) rfl ?_)
  refine wl rfl (oextract (vs := [.agg #[.bool (ng 0), .slice p6 n6 c6], .int .i64 5]) (v := .int .i64 5) rfl rfl (ev (v := .tuple #[.agg #[.bool (ng 0), .slice p6 n6 c6], .int .i64 5]) rfl rfl) rfl ?_)
  refine wl rfl (oalloc [.bool false, .slice none 0 0] hS rfl rfl Try.zeroValue25 rfl ?_)
  clear hS; intro g24 w25 hS
  refine wl rfl (ostore [.bool (ng 0), .slice p6 n6 c6] [.bool (ng 0), .slice p6 n6 c6] Try.sizeOf25 hS 0 rfl rfl (ev rfl rfl) (ev (v := .agg #[.bool (ng 0), .slice p6 n6 c6]) rfl rfl) rfl rfl rfl rfl rfl rfl ?_)
  clear hS; intro w26 hS
  refine wl rfl (oassign (v := .int .i64 5) rfl rfl (ev (v := .int .i64 5) rfl rfl) ?_)
  refine wnil ?_
  refine thenN ?_
  refine wseq ?_
  refine wreg ?_
  refine wl rfl (oload (vs := [.bool b, .slice p n c]) aggZ hS 13 rfl rfl (ev rfl rfl) rfl rfl rfl ?_)
  refine wl rfl (omove (v := .int .u32 ((PP : Int))) rfl rfl (ev (v := .int .u32 ((PP : Int))) rfl rfl) ?_)
  refine wl rfl (ocall rfl rfl Try.call36 rfl (wzmod0 ((hzx.at hS).mono (by omega)) (hP) (hP0)) (args2 (ev rfl rfl) (ev rfl rfl)) ?_)
  rintro _ w27 ⟨_, _, rfl, ⟨rfl, rfl⟩, hN⟩
  refine ⟨_, rfl, ?_⟩
  replace hS := hS.news hN; clear hN
  refine wl rfl (omove (v := .tuple #[.int .u32 0, .int .i64 1]) rfl rfl (ev (v := .tuple #[.int .u32 0, .int .i64 1]) rfl rfl) ?_)
  refine wl rfl (oextract (vs := [.int .u32 0, .int .i64 1]) (v := .int .u32 0) rfl rfl (ev (v := .tuple #[.int .u32 0, .int .i64 1]) rfl rfl) rfl ?_)
  refine wl rfl (oextract (vs := [.int .u32 0, .int .i64 1]) (v := .int .i64 1) rfl rfl (ev (v := .tuple #[.int .u32 0, .int .i64 1]) rfl rfl) rfl ?_)
  refine wl rfl (oassign (v := .int .u32 0) rfl rfl (ev (v := .int .u32 0) rfl rfl) ?_)
  refine wl rfl (oassign (v := .int .i64 1) rfl rfl (ev (v := .int .i64 1) rfl rfl) ?_)
  refine wnil ?_
  refine thenN ?_
  refine wseq ?_
  refine wseq ?_
  refine wreg ?_
  refine wl rfl (omove (v := .int .u32 ((PP : Int))) rfl rfl (ev (v := .int .u32 ((PP : Int))) rfl rfl) ?_)
  refine wl rfl (obin (u := .int .u32 ((PP : Int))) (v := .int .u32 0) (z := .bool true) rfl rfl (ev (v := .int .u32 ((PP : Int))) rfl rfl) (evc (v := .int .u32 0)) (bin_eql (eqT (by omega))) ?_)
  refine wl rfl (omove (v := .bool true) rfl rfl (ev (v := .bool true) rfl rfl) ?_)
  refine wlOn (e := 60) rfl rfl rfl rfl (omove (v := .int .i64 1) rfl rfl (ev (v := .int .i64 1) rfl rfl) ?_)
  refine wlOn (e := 60) rfl rfl rfl rfl (obin (u := .int .i64 1) (v := .int .i64 1) (z := .bool false) rfl rfl (ev (v := .int .i64 1) rfl rfl) (evc (v := .int .i64 1)) (bin_neq (by decide)) ?_)
  refine wlOn (e := 60) rfl rfl rfl rfl (omove (v := .bool false) rfl rfl (ev (v := .bool false) rfl rfl) ?_)
  refine wlOn (e := 63) rfl rfl rfl rfl (omove (v := .int .u32 0) rfl rfl (ev (v := .int .u32 0) rfl rfl) ?_)
  refine wlOn (e := 63) rfl rfl rfl rfl (obin (u := .int .u32 0) (v := .int .u32 0) (z := .bool false) rfl rfl (ev (v := .int .u32 0) rfl rfl) (evc (v := .int .u32 0)) (bin_neq (by decide)) ?_)
  refine wlOn (e := 60) rfl rfl rfl rfl (opick (b := false) (v := .bool false) rfl rfl (ev (v := .bool false) rfl rfl) (ev (v := .bool false) rfl rfl) ?_)
  refine wl rfl (opick (b := true) (v := .bool false) rfl rfl (ev (v := .bool true) rfl rfl) (ev (v := .bool false) rfl rfl) ?_)
  refine wl rfl (omove (v := .bool false) rfl rfl (ev (v := .bool false) rfl rfl) ?_)
  refine wlOn (e := 68) rfl rfl rfl rfl (omove (v := .int .u32 ((PP : Int))) rfl rfl (ev (v := .int .u32 ((PP : Int))) rfl rfl) ?_)
  refine wlOn (e := 68) rfl rfl rfl rfl (obin (u := .int .u32 ((PP : Int))) (v := .int .u32 0) (z := .bool false) rfl rfl (ev (v := .int .u32 ((PP : Int))) rfl rfl) (evc (v := .int .u32 0)) (bin_neq (neF (by omega))) ?_)
  refine wlOn (e := 68) rfl rfl rfl rfl (omove (v := .bool false) rfl rfl (ev (v := .bool false) rfl rfl) ?_)
  refine wlOff (e := 71) (d := 72) (b' := false) rfl rfl rfl rfl rfl rfl ?_
  refine wlOff (e := 71) (d := 73) (b' := false) rfl rfl rfl rfl rfl rfl ?_
  refine wlOff (e := 71) (d := 74) (b' := false) rfl rfl rfl rfl rfl rfl ?_
  refine wlUndef (e := 74) (d := 75) rfl rfl rfl rfl rfl ?_
  refine wlUndef (e := 74) (d := 76) rfl rfl rfl rfl rfl ?_
  refine wlUndef (e := 74) (d := 77) rfl rfl rfl rfl rfl ?_
  refine wlUndef (e := 74) (d := 78) rfl rfl rfl rfl rfl ?_
  refine wlUndef (e := 74) (d := 79) rfl rfl rfl rfl rfl ?_
  refine wlOff (e := 71) (d := 80) (b' := false) rfl rfl rfl rfl rfl rfl ?_
  refine wlOn (e := 68) rfl rfl rfl rfl (opick (b := false) (v := .bool false) rfl rfl (ev (v := .bool false) rfl rfl) (evc (v := .bool false)) ?_)
  refine wl rfl (opick (b := false) (v := .bool false) rfl rfl (ev (v := .bool false) rfl rfl) (ev (v := .bool false) rfl rfl) ?_)
  refine wnil ?_
  refine thenN ?_
  refine wF (ev (v := .bool false) rfl rfl) ?_
  refine wskip ?_
  refine thenN ?_
  refine wseq ?_
  refine wseq ?_
  refine wreg ?_
  refine wl rfl (oload (vs := [.bool b2, .slice q m d]) aggZ hS 12 rfl rfl (ev rfl rfl) rfl rfl rfl ?_)
  obtain ⟨s7, hs7⟩ : ∃ z : Int, Hid ((y : Int).sign = z) := ⟨_, rfl⟩
  refine wl rfl (ocall rfl rfl Try.call26 rfl (wqsign ((hzy.at hS).mono (by omega)) hs7) (args1 (ev rfl rfl)) ?_)
  rintro _ w28 ⟨_, _, rfl, ⟨rfl, rfl⟩, hN⟩
  refine ⟨_, rfl, ?_⟩
  replace hS := hS.news hN; clear hN
  refine wl rfl (obin (u := .int .i64 s7) (v := .int .i64 0) (z := .bool true) rfl rfl (ev (v := .int .i64 s7) rfl rfl) (evc (v := .int .i64 0)) (bin_eql (sign_eq hs7 h0)) ?_)
  refine wnil ?_
  refine thenN ?_
  refine wT (ev (v := .bool true) rfl rfl) ?_
  refine wseq ?_
  refine wreg ?_
  refine wl rfl (obuild (ps := #[]) (v := .agg #[.bool false, .slice none 0 0]) rfl rfl (parts0) (fun w => by simp [go_sem, Instr.build, Instr.fill]) ?_)
  refine wl rfl (oalloc [.bool false, .slice none 0 0] hS rfl rfl Try.zeroValue25 rfl ?_)
  clear hS; intro g29 w30 hS
  refine wl rfl (ostore [.bool false, .slice none 0 0] [.bool false, .slice none 0 0] Try.sizeOf25 hS 0 rfl rfl (ev rfl rfl) (ev (v := .agg #[.bool false, .slice none 0 0]) rfl rfl) rfl rfl rfl rfl rfl rfl ?_)
  clear hS; intro w31 hS
  refine wnil ?_
  refine thenN ?_
  refine wseq ?_
  refine wreg ?_
  refine wl rfl (omove (v := .int .i64 5) rfl rfl (ev (v := .int .i64 5) rfl rfl) ?_)
  refine wl rfl (obin (u := .int .i64 5) (v := .int .i64 5) (z := .bool true) rfl rfl (ev (v := .int .i64 5) rfl rfl) (evc (v := .int .i64 5)) (bin_eql (by decide)) ?_)
  refine wl rfl (omove (v := .bool true) rfl rfl (ev (v := .bool true) rfl rfl) ?_)
  refine wlOn (e := 89) rfl rfl rfl rfl (omove (v := .int .i64 5) rfl rfl (ev (v := .int .i64 5) rfl rfl) ?_)
  refine wlOn (e := 89) rfl rfl rfl rfl (obin (u := .int .i64 5) (v := .int .i64 5) (z := .bool true) rfl rfl (ev (v := .int .i64 5) rfl rfl) (evc (v := .int .i64 5)) (bin_eql (by decide)) ?_)
  refine wl rfl (opick (b := true) (v := .bool true) rfl rfl (ev (v := .bool true) rfl rfl) (ev (v := .bool true) rfl rfl) ?_)
  refine wl rfl (omove (v := .bool true) rfl rfl (ev (v := .bool true) rfl rfl) ?_)
  refine wlOn (e := 93) rfl rfl rfl rfl (omove (v := .int .i64 5) rfl rfl (ev (v := .int .i64 5) rfl rfl) ?_)
  refine wlOn (e := 93) rfl rfl rfl rfl (obin (u := .int .i64 5) (v := .int .i64 5) (z := .bool true) rfl rfl (ev (v := .int .i64 5) rfl rfl) (evc (v := .int .i64 5)) (bin_eql (by decide)) ?_)
  refine wl rfl (opick (b := true) (v := .bool true) rfl rfl (ev (v := .bool true) rfl rfl) (ev (v := .bool true) rfl rfl) ?_)
  refine wl rfl (omove (v := .bool true) rfl rfl (ev (v := .bool true) rfl rfl) ?_)
  refine wlOn (e := 97) rfl rfl rfl rfl (omove (v := .int .i64 5) rfl rfl (ev (v := .int .i64 5) rfl rfl) ?_)
  refine wlOn (e := 97) rfl rfl rfl rfl (obin (u := .int .i64 5) (v := .int .i64 5) (z := .bool true) rfl rfl (ev (v := .int .i64 5) rfl rfl) (evc (v := .int .i64 5)) (bin_eql (by decide)) ?_)
  refine wl rfl (opick (b := true) (v := .bool true) rfl rfl (ev (v := .bool true) rfl rfl) (ev (v := .bool true) rfl rfl) ?_)
  refine wl rfl (omove (v := .bool true) rfl rfl (ev (v := .bool true) rfl rfl) ?_)
  refine wlOn (e := 101) rfl rfl rfl rfl (oload (vs := [.bool (ng 0), .slice p1 n1 c1]) aggZ hS 10 rfl rfl (ev rfl rfl) rfl rfl rfl ?_)
  refine wlOn (e := 101) rfl rfl rfl rfl (oload (vs := [.bool false, .slice none 0 0]) aggZ hS 0 rfl rfl (ev rfl rfl) rfl rfl rfl ?_)
  refine wlOn (e := 101) rfl rfl rfl rfl (ocall rfl rfl Try.call13 rfl (wlsame (x := 0) (y := 0) (hS.sl 11 rfl) (Sl.nil _) (rfl)) (args2 (ev rfl rfl) (ev rfl rfl)) ?_)
  rintro _ w32 ⟨_, _, rfl, ⟨rfl, rfl⟩, hN⟩
  refine ⟨_, rfl, ?_⟩
  replace hS := hS.news hN; clear hN
  refine wl rfl (opick (b := true) (v := .bool true) rfl rfl (ev (v := .bool true) rfl rfl) (ev (v := .bool true) rfl rfl) ?_)
  refine wl rfl (omove (v := .bool true) rfl rfl (ev (v := .bool true) rfl rfl) ?_)
  refine wlOn (e := 106) rfl rfl rfl rfl (oload (vs := [.bool (ng 0), .slice p2 n2 c2]) aggZ hS 9 rfl rfl (ev rfl rfl) rfl rfl rfl ?_)
  refine wlOn (e := 106) rfl rfl rfl rfl (oload (vs := [.bool false, .slice none 0 0]) aggZ hS 0 rfl rfl (ev rfl rfl) rfl rfl rfl ?_)
  refine wlOn (e := 106) rfl rfl rfl rfl (ocall rfl rfl Try.call13 rfl (wlsame (x := 0) (y := 0) (hS.sl 12 rfl) (Sl.nil _) (rfl)) (args2 (ev rfl rfl) (ev rfl rfl)) ?_)
  rintro _ w33 ⟨_, _, rfl, ⟨rfl, rfl⟩, hN⟩
  refine ⟨_, rfl, ?_⟩
  replace hS := hS.news hN; clear hN
  refine wl rfl (opick (b := true) (v := .bool true) rfl rfl (ev (v := .bool true) rfl rfl) (ev (v := .bool true) rfl rfl) ?_)
  refine wl rfl (omove (v := .bool true) rfl rfl (ev (v := .bool true) rfl rfl) ?_)
  refine wlOn (e := 111) rfl rfl rfl rfl (oload (vs := [.bool (ng 0), .slice p3 n3 c3]) aggZ hS 6 rfl rfl (ev rfl rfl) rfl rfl rfl ?_)
  refine wlOn (e := 111) rfl rfl rfl rfl (oload (vs := [.bool false, .slice none 0 0]) aggZ hS 0 rfl rfl (ev rfl rfl) rfl rfl rfl ?_)
  refine wlOn (e := 111) rfl rfl rfl rfl (ocall rfl rfl Try.call13 rfl (wlsame (x := 0) (y := 0) (hS.sl 7 rfl) (Sl.nil _) (rfl)) (args2 (ev rfl rfl) (ev rfl rfl)) ?_)
  rintro _ w34 ⟨_, _, rfl, ⟨rfl, rfl⟩, hN⟩
  refine ⟨_, rfl, ?_⟩
  replace hS := hS.news hN; clear hN
  refine wl rfl (opick (b := true) (v := .bool true) rfl rfl (ev (v := .bool true) rfl rfl) (ev (v := .bool true) rfl rfl) ?_)
  refine wl rfl (omove (v := .bool true) rfl rfl (ev (v := .bool true) rfl rfl) ?_)
  refine wlOn (e := 116) rfl rfl rfl rfl (oload (vs := [.bool (ng 0), .slice p4 n4 c4]) aggZ hS 5 rfl rfl (ev rfl rfl) rfl rfl rfl ?_)
  refine wlOn (e := 116) rfl rfl rfl rfl (oload (vs := [.bool false, .slice none 0 0]) aggZ hS 0 rfl rfl (ev rfl rfl) rfl rfl rfl ?_)
  refine wlOn (e := 116) rfl rfl rfl rfl (ocall rfl rfl Try.call13 rfl (wlsame (x := 0) (y := 0) (hS.sl 8 rfl) (Sl.nil _) (rfl)) (args2 (ev rfl rfl) (ev rfl rfl)) ?_)
  rintro _ w35 ⟨_, _, rfl, ⟨rfl, rfl⟩, hN⟩
  refine ⟨_, rfl, ?_⟩
  replace hS := hS.news hN; clear hN
  refine wl rfl (opick (b := true) (v := .bool true) rfl rfl (ev (v := .bool true) rfl rfl) (ev (v := .bool true) rfl rfl) ?_)
  refine wl rfl (omove (v := .bool true) rfl rfl (ev (v := .bool true) rfl rfl) ?_)
  refine wlOn (e := 121) rfl rfl rfl rfl (oload (vs := [.bool (ng 0), .slice p5 n5 c5]) aggZ hS 3 rfl rfl (ev rfl rfl) rfl rfl rfl ?_)
  refine wlOn (e := 121) rfl rfl rfl rfl (oload (vs := [.bool false, .slice none 0 0]) aggZ hS 0 rfl rfl (ev rfl rfl) rfl rfl rfl ?_)
  refine wlOn (e := 121) rfl rfl rfl rfl (ocall rfl rfl Try.call13 rfl (wlsame (x := 0) (y := 0) (hS.sl 4 rfl) (Sl.nil _) (rfl)) (args2 (ev rfl rfl) (ev rfl rfl)) ?_)
  rintro _ w36 ⟨_, _, rfl, ⟨rfl, rfl⟩, hN⟩
  refine ⟨_, rfl, ?_⟩
  replace hS := hS.news hN; clear hN
  refine wl rfl (opick (b := true) (v := .bool true) rfl rfl (ev (v := .bool true) rfl rfl) (ev (v := .bool true) rfl rfl) ?_)
  refine wl rfl (omove (v := .bool true) rfl rfl (ev (v := .bool true) rfl rfl) ?_)
  refine wlOn (e := 126) rfl rfl rfl rfl (oload (vs := [.bool (ng 0), .slice p6 n6 c6]) aggZ hS 1 rfl rfl (ev rfl rfl) rfl rfl rfl ?_)
  refine wlOn (e := 126) rfl rfl rfl rfl (oload (vs := [.bool false, .slice none 0 0]) aggZ hS 0 rfl rfl (ev rfl rfl) rfl rfl rfl ?_)
  refine wlOn (e := 126) rfl rfl rfl rfl (ocall rfl rfl Try.call13 rfl (wlsame (x := 0) (y := 0) (hS.sl 2 rfl) (Sl.nil _) (rfl)) (args2 (ev rfl rfl) (ev rfl rfl)) ?_)
  rintro _ w37 ⟨_, _, rfl, ⟨rfl, rfl⟩, hN⟩
  refine ⟨_, rfl, ?_⟩
  replace hS := hS.news hN; clear hN
  refine wl rfl (opick (b := true) (v := .bool true) rfl rfl (ev (v := .bool true) rfl rfl) (ev (v := .bool true) rfl rfl) ?_)
  refine wl rfl (omove (v := .bool true) rfl rfl (ev (v := .bool true) rfl rfl) ?_)
  refine wlOn (e := 131) rfl rfl rfl rfl (ocall rfl rfl Try.call19 rfl (wllives) (args0 ) ?_)
  rintro _ w38 ⟨_, _, rfl, ⟨rfl, rfl⟩, hN⟩
  refine ⟨_, rfl, ?_⟩
  replace hS := hS.news hN; clear hN
  refine wl rfl (opick (b := true) (v := .bool true) rfl rfl (ev (v := .bool true) rfl rfl) (ev (v := .bool true) rfl rfl) ?_)
  refine wl rfl (oassign (v := .bool true) rfl rfl (ev (v := .bool true) rfl rfl) ?_)
  refine wnil ?_
  refine thenN ?_
  refine wleave ?_
  refine thenR ?_
  refine wret1 Try.results5 (tellT (v := .bool true) rfl rfl) ?_
  exact ⟨_, _, rfl, isI, hS.new0⟩

set_option maxRecDepth 100000 in
set_option maxHeartbeats 16000000 in
theorem zdivides_yz {b b2 : Bool} {p q : Option Addr} {n m c d : Nat} {xs ys : List Nat} {w : World} (hx : Sl w p n c xs) (hy : Sl w q m d ys) (hn : n ≤ 1048576) (hm : m ≤ 1048576) {PP : Nat} (hP : PP < 4294967296) (hy9 : zv b2 (val ys) ≠ 0) (h9 : (zv b (val xs)).tmod (zv b2 (val ys)) = 0) (hP0 : PP = 0) :
    Calls Try.prog 5 #[.agg #[.bool b, .slice p n c], .agg #[.bool b2, .slice q m d], .int .u32 (PP : Int)] w (Ret (Is (.bool true)) w) := by
  obtain ⟨x, hex⟩ : ∃ x : Int, zv b (val xs) = x := ⟨_, rfl⟩
  obtain ⟨y, hey⟩ : ∃ y : Int, zv b2 (val ys) = y := ⟨_, rfl⟩
  have hzx : Zr w b p n c x 1048576 := ⟨xs, hx, hex, hn⟩
  have hzy : Zr w b2 q m d y 1048576 := ⟨ys, hy, hey, hm⟩
  have hS := Sep.init w
  refine went Try.func5 rfl (n := 216) rfl rfl ?_
  refine wseq ?_
  refine wreg ?_
  refine wl rfl (obox [.bool b, .slice p n c] hS rfl rfl (ev (v := .agg #[.bool b, .slice p n c]) rfl rfl) rfl ?_)
  clear hS; intro g1 w2 hS
  refine wl rfl (obox [.bool b2, .slice q m d] hS rfl rfl (ev (v := .agg #[.bool b2, .slice q m d]) rfl rfl) rfl ?_)
  clear hS; intro g3 w4 hS
  refine wl rfl (oassign (v := .bool false) rfl rfl (evc (v := .bool false)) ?_)
  refine wnil ?_
  refine thenN ?_
  refine wseq ?_
  refine wreg ?_
  refine wl rfl (oload (vs := [.bool b, .slice p n c]) aggZ hS 1 rfl rfl (ev rfl rfl) rfl rfl rfl ?_)
  refine wl rfl (oload (vs := [.bool b2, .slice q m d]) aggZ hS 0 rfl rfl (ev rfl rfl) rfl rfl rfl ?_)
  have h0 : y ≠ 0 := by rw [← hey]; exact hy9
  have h5 : x.tmod y = 0 := by rw [← hex, ← hey]; exact h9
  obtain ⟨z1, hz1⟩ : ∃ z : Int, Hid (x / y = z) := ⟨_, rfl⟩
  have hk1 : Wd z1 1048576 := Wd.ediv hzx.wd hz1
  obtain ⟨z2, hz2⟩ : ∃ z : Int, Hid (x % y = z) := ⟨_, rfl⟩
  have hk2 : Wd z2 1048576 := Wd.emod hzy.wd (h0) hz2
  refine wl rfl (ocall rfl rfl Try.call32 rfl (wzeuclid ((hzx.at hS).mono (by omega)) ((hzy.at hS).mono (by omega)) (h0) hz1 hz2) (args2 (ev rfl rfl) (ev rfl rfl)) ?_)
  rintro _ w5 ⟨_, _, rfl, ⟨p1, n1, c1, p2, n2, c2, rfl, rfl⟩, hN⟩
  refine ⟨_, rfl, ?_⟩
  replace hS := hS.news hN; clear hN
  refine wl rfl (omove (v := .tuple #[.agg #[.bool (ng z1), .slice p1 n1 c1], .agg #[.bool (ng z2), .slice p2 n2 c2], .int .i64 0]) rfl rfl (ev (v := .tuple #[.agg #[.bool (ng z1), .slice p1 n1 c1], .agg #[.bool (ng z2), .slice p2 n2 c2], .int .i64 0]) rfl rfl) ?_)
  refine wl rfl (oextract (vs := [.agg #[.bool (ng z1), .slice p1 n1 c1], .agg #[.bool (ng z2), .slice p2 n2 c2], .int .i64 0]) (v := .agg #[.bool (ng z1), .slice p1 n1 c1]) rfl rfl (ev (v := .tuple #[.agg #[.bool (ng z1), .slice p1 n1 c1], .agg #[.bool (ng z2), .slice p2 n2 c2], .int .i64 0]) rfl rfl) rfl ?_)
  refine wl rfl (oextract (vs := [.agg #[.bool (ng z1), .slice p1 n1 c1], .agg #[.bool (ng z2), .slice p2 n2 c2], .int .i64 0]) (v := .agg #[.bool (ng z2), .slice p2 n2 c2]) rfl rfl (ev (v := .tuple #[.agg #[.bool (ng z1), .slice p1 n1 c1], .agg #[.bool (ng z2), .slice p2 n2 c2], .int .i64 0]) rfl rfl) rfl ?_)
  refine wl rfl (oextract (vs := [.agg #[.bool (ng z1), .slice p1 n1 c1], .agg #[.bool (ng z2), .slice p2 n2 c2], .int .i64 0]) (v := .int .i64 0) rfl rfl (ev (v := .tuple #[.agg #[.bool (ng z1), .slice p1 n1 c1], .agg #[.bool (ng z2), .slice p2 n2 c2], .int .i64 0]) rfl rfl) rfl ?_)
  refine wl rfl (oalloc [.bool false, .slice none 0 0] hS rfl rfl Try.zeroValue25 rfl ?_)
  clear hS; intro g6 w7 hS
  refine wl rfl (oalloc [.bool false, .slice none 0 0] hS rfl rfl Try.zeroValue25 rfl ?_)
  clear hS; intro g8 w9 hS
  refine wl rfl (ostore [.bool (ng z1), .slice p1 n1 c1] [.bool (ng z1), .slice p1 n1 c1] Try.sizeOf25 hS 1 rfl rfl (ev rfl rfl) (ev (v := .agg #[.bool (ng z1), .slice p1 n1 c1]) rfl rfl) rfl rfl rfl rfl rfl rfl ?_)
  clear hS; intro w10 hS
  refine wl rfl (ostore [.bool (ng z2), .slice p2 n2 c2] [.bool (ng z2), .slice p2 n2 c2] Try.sizeOf25 hS 0 rfl rfl (ev rfl rfl) (ev (v := .agg #[.bool (ng z2), .slice p2 n2 c2]) rfl rfl) rfl rfl rfl rfl rfl rfl ?_)
  clear hS; intro w11 hS
  refine wl rfl (oassign (v := .int .i64 0) rfl rfl (ev (v := .int .i64 0) rfl rfl) ?_)
  refine wnil ?_
  refine thenN ?_
  refine wseq ?_
  refine wreg ?_
  refine wl rfl (oload (vs := [.bool b, .slice p n c]) aggZ hS 5 rfl rfl (ev rfl rfl) rfl rfl rfl ?_)
  refine wl rfl (oload (vs := [.bool b2, .slice q m d]) aggZ hS 4 rfl rfl (ev rfl rfl) rfl rfl rfl ?_)
  obtain ⟨z3, hz3⟩ : ∃ z : Int, Hid (Int.tdiv x y = z) := ⟨_, rfl⟩
  have hk3 : Wd z3 1048576 := Wd.tdiv hzx.wd hz3
  obtain ⟨z4, hz4⟩ : ∃ z : Int, Hid (Int.tmod x y = z) := ⟨_, rfl⟩
  have hk4 : Wd z4 1048576 := Wd.tmod hzx.wd hz4
  refine wl rfl (ocall rfl rfl Try.call33 rfl (wztrunc ((hzx.at hS).mono (by omega)) ((hzy.at hS).mono (by omega)) (h0) hz3 hz4) (args2 (ev rfl rfl) (ev rfl rfl)) ?_)
  rintro _ w12 ⟨_, _, rfl, ⟨p3, n3, c3, p4, n4, c4, rfl, rfl⟩, hN⟩
  refine ⟨_, rfl, ?_⟩
  replace hS := hS.news hN; clear hN
  refine wl rfl (omove (v := .tuple #[.agg #[.bool (ng z3), .slice p3 n3 c3], .agg #[.bool (ng z4), .slice p4 n4 c4], .int .i64 0]) rfl rfl (ev (v := .tuple #[.agg #[.bool (ng z3), .slice p3 n3 c3], .agg #[.bool (ng z4), .slice p4 n4 c4], .int .i64 0]) rfl rfl) ?_)
  refine wl rfl (oextract (vs := [.agg #[.bool (ng z3), .slice p3 n3 c3], .agg #[.bool (ng z4), .slice p4 n4 c4], .int .i64 0]) (v := .agg #[.bool (ng z3), .slice p3 n3 c3]) rfl rfl (ev (v := .tuple #[.agg #[.bool (ng z3), .slice p3 n3 c3], .agg #[.bool (ng z4), .slice p4 n4 c4], .int .i64 0]) rfl rfl) rfl ?_)
  refine wl rfl (oextract (vs := [.agg #[.bool (ng z3), .slice p3 n3 c3], .agg #[.bool (ng z4), .slice p4 n4 c4], .int .i64 0]) (v := .agg #[.bool (ng z4), .slice p4 n4 c4]) rfl rfl (ev (v := .tuple #[.agg #[.bool (ng z3), .slice p3 n3 c3], .agg #[.bool (ng z4), .slice p4 n4 c4], .int .i64 0]) rfl rfl) rfl ?_)
  refine wl rfl (oextract (vs := [.agg #[.bool (ng z3), .slice p3 n3 c3], .agg #[.bool (ng z4), .slice p4 n4 c4], .int .i64 0]) (v := .int .i64 0) rfl rfl (ev (v := .tuple #[.agg #[.bool (ng z3), .slice p3 n3 c3], .agg #[.bool (ng z4), .slice p4 n4 c4], .int .i64 0]) rfl rfl) rfl ?_)
  refine wl rfl (oalloc [.bool false, .slice none 0 0] hS rfl rfl Try.zeroValue25 rfl ?_)
  clear hS; intro g13 w14 hS
  refine wl rfl (oalloc [.bool false, .slice none 0 0] hS rfl rfl Try.zeroValue25 rfl ?_)
  clear hS; intro g15 w16 hS
  refine wl rfl (ostore [.bool (ng z3), .slice p3 n3 c3] [.bool (ng z3), .slice p3 n3 c3] Try.sizeOf25 hS 1 rfl rfl (ev rfl rfl) (ev (v := .agg #[.bool (ng z3), .slice p3 n3 c3]) rfl rfl) rfl rfl rfl rfl rfl rfl ?_)
  clear hS; intro w17 hS
  refine wl rfl (ostore [.bool (ng z4), .slice p4 n4 c4] [.bool (ng z4), .slice p4 n4 c4] Try.sizeOf25 hS 0 rfl rfl (ev rfl rfl) (ev (v := .agg #[.bool (ng z4), .slice p4 n4 c4]) rfl rfl) rfl rfl rfl rfl rfl rfl ?_)
  clear hS; intro w18 hS
  refine wl rfl (oassign (v := .int .i64 0) rfl rfl (ev (v := .int .i64 0) rfl rfl) ?_)
  refine wnil ?_
  refine thenN ?_
  refine wseq ?_
  refine wreg ?_
  refine wl rfl (oload (vs := [.bool b, .slice p n c]) aggZ hS 9 rfl rfl (ev rfl rfl) rfl rfl rfl ?_)
  refine wl rfl (oload (vs := [.bool b2, .slice q m d]) aggZ hS 8 rfl rfl (ev rfl rfl) rfl rfl rfl ?_)
  obtain ⟨z5, hz5⟩ : ∃ z : Int, Hid (Int.tdiv x y = z) := ⟨_, rfl⟩
  have hk5 : Wd z5 1048576 := Wd.tdiv hzx.wd hz5
  refine wl rfl (ocall rfl rfl Try.call34 rfl (wzexact ((hzx.at hS).mono (by omega)) ((hzy.at hS).mono (by omega)) (h0) (h5) hz5) (args2 (ev rfl rfl) (ev rfl rfl)) ?_)
  rintro _ w19 ⟨_, _, rfl, ⟨p5, n5, c5, rfl, rfl⟩, hN⟩
  refine ⟨_, rfl, ?_⟩
  replace hS := hS.news hN; clear hN
  refine wl rfl (omove (v := .tuple #[.agg #[.bool (ng z5), .slice p5 n5 c5], .int .i64 0]) rfl rfl (ev (v := .tuple #[.agg #[.bool (ng z5), .slice p5 n5 c5], .int .i64 0]) rfl rfl) ?_)
  refine wl rfl (oextract (vs := [.agg #[.bool (ng z5), .slice p5 n5 c5], .int .i64 0]) (v := .agg #[.bool (ng z5), .slice p5 n5 c5]) rfl rfl (ev (v := .tuple #[.agg #[.bool (ng z5), .slice p5 n5 c5], .int .i64 0]) rfl rfl) rfl ?_)
  refine wl rfl (oextract (vs := [.agg #[.bool (ng z5), .slice p5 n5 c5], .int .i64 0]) (v := .int .i64 0) rfl rfl (ev (v := .tuple #[.agg #[.bool (ng z5), .slice p5 n5 c5], .int .i64 0]) rfl rfl) rfl ?_)
  refine wl rfl (oalloc [.bool false, .slice none 0 0] hS rfl rfl Try.zeroValue25 rfl ?_)
  clear hS; intro g20 w21 hS
  refine wl rfl (ostore [.bool (ng z5), .slice p5 n5 c5] [.bool (ng z5), .slice p5 n5 c5] Try.sizeOf25 hS 0 rfl rfl (ev rfl rfl) (ev (v := .agg #[.bool (ng z5), .slice p5 n5 c5]) rfl rfl) rfl rfl rfl rfl rfl rfl ?_)
  clear hS; intro w22 hS
  refine wl rfl (oassign (v := .int .i64 0) rfl rfl (ev (v := .int .i64 0) rfl rfl) ?_)
  refine wnil ?_
  refine thenN ?_
  refine wseq ?_
  refine wreg ?_
  refine wl rfl (oload (vs := [.bool b, .slice p n c]) aggZ hS 11 rfl rfl (ev rfl rfl) rfl rfl rfl ?_)
  refine wl rfl (oload (vs := [.bool b2, .slice q m d]) aggZ hS 10 rfl rfl (ev rfl rfl) rfl rfl rfl ?_)
  obtain ⟨z6, hz6⟩ : ∃ z : Int, Hid (nearZ x y = z) := ⟨_, rfl⟩
  have hk6 : Wd z6 1048577 := Wd.near hzx.wd hz6
  refine wl rfl (ocall rfl rfl Try.call35 rfl (wznear ((hzx.at hS).mono (by omega)) ((hzy.at hS).mono (by omega)) (h0) hz6) (args2 (ev rfl rfl) (ev rfl rfl)) ?_)
  rintro _ w23 ⟨_, _, rfl, ⟨p6, n6, c6, rfl, rfl⟩, hN⟩
  refine ⟨_, rfl, ?_⟩
  replace hS := hS.news hN; clear hN
  refine wl rfl (omove (v := .tuple #[.agg #[.bool (ng z6), .slice p6 n6 c6], .int .i64 0]) rfl rfl (ev (v := .tuple #[.agg #[.bool (ng z6), .slice p6 n6 c6], .int .i64 0]) rfl rfl) ?_)
  refine wl rfl (oextract (vs := [.agg #[.bool (ng z6), .slice p6 n6 c6], .int .i64 0]) (v := .agg #[.bool (ng z6), .slice p6 n6 c6]) rfl rfl (ev (v := .tuple #[.agg #[.bool (ng z6), .slice p6 n6 c6], .int .i64 0]) rfl rfl) rfl ?_)
  refine wl rfl (oextract (vs := [.agg #[.bool (ng z6), .slice p6 n6 c6], .int .i64 0]) (v := .int .i64 0) rfl rfl (ev (v := .tuple #[.agg #[.bool (ng z6), .slice p6 n6 c6], .int .i64 0]) rfl rfl) rfl ?_)
  refine wl rfl (oalloc [.bool false, .slice none 0 0] hS rfl rfl Try.zeroValue25 rfl ?_)
  clear hS; intro g24 w25 hS
  refine wl rfl (ostore [.bool (ng z6), .slice p6 n6 c6] [.bool (ng z6), .slice p6 n6 c6] Try.sizeOf25 hS 0 rfl rfl (ev rfl rfl) (ev (v := .agg #[.bool (ng z6), .slice p6 n6 c6]) rfl rfl) rfl rfl rfl rfl rfl rfl ?_)
  clear hS; intro w26 hS
  refine wl rfl (oassign (v := .int .i64 0) rfl rfl (ev (v := .int .i64 0) rfl rfl) ?_)
  refine wnil ?_
  refine thenN ?_
  refine wseq ?_
  refine wreg ?_
  refine wl rfl (oload (vs := [.bool b, .slice p n c]) aggZ hS 13 rfl rfl (ev rfl rfl) rfl rfl rfl ?_)
  refine wl rfl (omove (v := .int .u32 ((PP : Int))) rfl rfl (ev (v := .int .u32 ((PP : Int))) rfl rfl) ?_)
  refine wl rfl (ocall rfl rfl Try.call36 rfl (wzmod0 ((hzx.at hS).mono (by omega)) (hP) (hP0)) (args2 (ev rfl rfl) (ev rfl rfl)) ?_)
  rintro _ w27 ⟨_, _, rfl, ⟨rfl, rfl⟩, hN⟩
  refine ⟨_, rfl, ?_⟩
  replace hS := hS.news hN; clear hN
  refine wl rfl (omove (v := .tuple #[.int .u32 0, .int .i64 1]) rfl rfl (ev (v := .tuple #[.int .u32 0, .int .i64 1]) rfl rfl) ?_)
  refine wl rfl (oextract (vs := [.int .u32 0, .int .i64 1]) (v := .int .u32 0) rfl rfl (ev (v := .tuple #[.int .u32 0, .int .i64 1]) rfl rfl) rfl ?_)
  refine wl rfl (oextract (vs := [.int .u32 0, .int .i64 1]) (v := .int .i64 1) rfl rfl (ev (v := .tuple #[.int .u32 0, .int .i64 1]) rfl rfl) rfl ?_)
  refine wl rfl (oassign (v := .int .u32 0) rfl rfl (ev (v := .int .u32 0) rfl rfl) ?_)
  refine wl rfl (oassign (v := .int .i64 1) rfl rfl (ev (v := .int .i64 1) rfl rfl) ?_)
  refine wnil ?_
  refine thenN ?_
  refine wseq ?_
  refine wseq ?_
  refine wreg ?_
  refine wl rfl (omove (v := .int .u32 ((PP : Int))) rfl rfl (ev (v := .int .u32 ((PP : Int))) rfl rfl) ?_)
  refine wl rfl (obin (u := .int .u32 ((PP : Int))) (v := .int .u32 0) (z := .bool true) rfl rfl (ev (v := .int .u32 ((PP : Int))) rfl rfl) (evc (v := .int .u32 0)) (bin_eql (eqT (by omega))) ?_)
  refine wl rfl (omove (v := .bool true) rfl rfl (ev (v := .bool true) rfl rfl) ?_)
  refine wlOn (e := 60) rfl rfl rfl rfl (omove (v := .int .i64 1) rfl rfl (ev (v := .int .i64 1) rfl rfl) ?_)
  refine wlOn (e := 60) rfl rfl rfl rfl (obin (u := .int .i64 1) (v := .int .i64 1) (z := .bool false) rfl rfl (ev (v := .int .i64 1) rfl rfl) (evc (v := .int .i64 1)) (bin_neq (by decide)) ?_)
  refine wlOn (e := 60) rfl rfl rfl rfl (omove (v := .bool false) rfl rfl (ev (v := .bool false) rfl rfl) ?_)
  refine wlOn (e := 63) rfl rfl rfl rfl (omove (v := .int .u32 0) rfl rfl (ev (v := .int .u32 0) rfl rfl) ?_)
  refine wlOn (e := 63) rfl rfl rfl rfl (obin (u := .int .u32 0) (v := .int .u32 0) (z := .bool false) rfl rfl (ev (v := .int .u32 0) rfl rfl) (evc (v := .int .u32 0)) (bin_neq (by decide)) ?_)
  refine wlOn (e := 60) rfl rfl rfl rfl (opick (b := false) (v := .bool false) rfl rfl (ev (v := .bool false) rfl rfl) (ev (v := .bool false) rfl rfl) ?_)
  refine wl rfl (opick (b := true) (v := .bool false) rfl rfl (ev (v := .bool true) rfl rfl) (ev (v := .bool false) rfl rfl) ?_)
  refine wl rfl (omove (v := .bool false) rfl rfl (ev (v := .bool false) rfl rfl) ?_)
  refine wlOn (e := 68) rfl rfl rfl rfl (omove (v := .int .u32 ((PP : Int))) rfl rfl (ev (v := .int .u32 ((PP : Int))) rfl rfl) ?_)
  refine wlOn (e := 68) rfl rfl rfl rfl (obin (u := .int .u32 ((PP : Int))) (v := .int .u32 0) (z := .bool false) rfl rfl (ev (v := .int .u32 ((PP : Int))) rfl rfl) (evc (v := .int .u32 0)) (bin_neq (neF (by omega))) ?_)
  refine wlOn (e := 68) rfl rfl rfl rfl (omove (v := .bool false) rfl rfl (ev (v := .bool false) rfl rfl) ?_)
  refine wlOff (e := 71) (d := 72) (b' := false) rfl rfl rfl rfl rfl rfl ?_
  refine wlOff (e := 71) (d := 73) (b' := false) rfl rfl rfl rfl rfl rfl ?_
  refine wlOff (e := 71) (d := 74) (b' := false) rfl rfl rfl rfl rfl rfl ?_
  refine wlUndef (e := 74) (d := 75) rfl rfl rfl rfl rfl ?_
  refine wlUndef (e := 74) (d := 76) rfl rfl rfl rfl rfl ?_
  refine wlUndef (e := 74) (d := 77) rfl rfl rfl rfl rfl ?_
  refine wlUndef (e := 74) (d := 78) rfl rfl rfl rfl rfl ?_
  refine wlUndef (e := 74) (d := 79) rfl rfl rfl rfl rfl ?_
  refine wlOff (e := 71) (d := 80) (b' := false) rfl rfl rfl rfl rfl rfl ?_
  refine wlOn (e := 68) rfl rfl rfl rfl (opick (b := false) (v := .bool false) rfl rfl (ev (v := .bool false) rfl rfl) (evc (v := .bool false)) ?_)
  refine wl rfl (opick (b := false) (v := .bool false) rfl rfl (ev (v := .bool false) rfl rfl) (ev (v := .bool false) rfl rfl) ?_)
  refine wnil ?_
  refine thenN ?_
  refine wF (ev (v := .bool false) rfl rfl) ?_
  refine wskip ?_
  refine thenN ?_
  refine wseq ?_
  refine wseq ?_
  refine wreg ?_
  refine wl rfl (oload (vs := [.bool b2, .slice q m d]) aggZ hS 12 rfl rfl (ev rfl rfl) rfl rfl rfl ?_)
  obtain ⟨s7, hs7⟩ : ∃ z : Int, Hid ((y : Int).sign = z) := ⟨_, rfl⟩
  refine wl rfl (ocall rfl rfl Try.call26 rfl (wqsign ((hzy.at hS).mono (by omega)) hs7) (args1 (ev rfl rfl)) ?_)
  rintro _ w28 ⟨_, _, rfl, ⟨rfl, rfl⟩, hN⟩
  refine ⟨_, rfl, ?_⟩
  replace hS := hS.news hN; clear hN
  refine wl rfl (obin (u := .int .i64 s7) (v := .int .i64 0) (z := .bool false) rfl rfl (ev (v := .int .i64 s7) rfl rfl) (evc (v := .int .i64 0)) (bin_eql (sign_ne hs7 h0)) ?_)
  refine wnil ?_
  refine thenN ?_
  refine wF (ev (v := .bool false) rfl rfl) ?_
  refine wskip ?_
  refine thenN ?_
  refine wseq ?_
  refine wreg ?_
  refine wl rfl (oload (vs := [.bool b, .slice p n c]) aggZ hS 13 rfl rfl (ev rfl rfl) rfl rfl rfl ?_)
  refine wl rfl (oload (vs := [.bool b2, .slice q m d]) aggZ hS 12 rfl rfl (ev rfl rfl) rfl rfl rfl ?_)
  obtain ⟨z8, hz8⟩ : ∃ z : Int, Hid (x / y = z) := ⟨_, rfl⟩
  have hk8 : Wd z8 1048576 := Wd.ediv hzx.wd hz8
  obtain ⟨z9, hz9⟩ : ∃ z : Int, Hid (x % y = z) := ⟨_, rfl⟩
  have hk9 : Wd z9 1048576 := Wd.emod hzy.wd (h0) hz9
  refine wl rfl (ocall rfl rfl Try.call38 rfl (wqeuclid ((hzx.at hS).mono (by omega)) ((hzy.at hS).mono (by omega)) (h0) hz8 hz9) (args2 (ev rfl rfl) (ev rfl rfl)) ?_)
  rintro _ w29 ⟨_, _, rfl, ⟨p8, n8, c8, p9, n9, c9, rfl, rfl⟩, hN⟩
  refine ⟨_, rfl, ?_⟩
  replace hS := hS.news hN; clear hN
  refine wl rfl (omove (v := .tuple #[.agg #[.bool (ng z8), .slice p8 n8 c8], .agg #[.bool (ng z9), .slice p9 n9 c9]]) rfl rfl (ev (v := .tuple #[.agg #[.bool (ng z8), .slice p8 n8 c8], .agg #[.bool (ng z9), .slice p9 n9 c9]]) rfl rfl) ?_)
  refine wl rfl (oextract (vs := [.agg #[.bool (ng z8), .slice p8 n8 c8], .agg #[.bool (ng z9), .slice p9 n9 c9]]) (v := .agg #[.bool (ng z8), .slice p8 n8 c8]) rfl rfl (ev (v := .tuple #[.agg #[.bool (ng z8), .slice p8 n8 c8], .agg #[.bool (ng z9), .slice p9 n9 c9]]) rfl rfl) rfl ?_)
  refine wl rfl (oextract (vs := [.agg #[.bool (ng z8), .slice p8 n8 c8], .agg #[.bool (ng z9), .slice p9 n9 c9]]) (v := .agg #[.bool (ng z9), .slice p9 n9 c9]) rfl rfl (ev (v := .tuple #[.agg #[.bool (ng z8), .slice p8 n8 c8], .agg #[.bool (ng z9), .slice p9 n9 c9]]) rfl rfl) rfl ?_)
  refine wl rfl (oalloc [.bool false, .slice none 0 0] hS rfl rfl Try.zeroValue25 rfl ?_)
  clear hS; intro g30 w31 hS
  refine wl rfl (oalloc [.bool false, .slice none 0 0] hS rfl rfl Try.zeroValue25 rfl ?_)
  clear hS; intro g32 w33 hS
  refine wl rfl (ostore [.bool (ng z8), .slice p8 n8 c8] [.bool (ng z8), .slice p8 n8 c8] Try.sizeOf25 hS 1 rfl rfl (ev rfl rfl) (ev (v := .agg #[.bool (ng z8), .slice p8 n8 c8]) rfl rfl) rfl rfl rfl rfl rfl rfl ?_)
  clear hS; intro w34 hS
  refine wl rfl (ostore [.bool (ng z9), .slice p9 n9 c9] [.bool (ng z9), .slice p9 n9 c9] Try.sizeOf25 hS 0 rfl rfl (ev rfl rfl) (ev (v := .agg #[.bool (ng z9), .slice p9 n9 c9]) rfl rfl) rfl rfl rfl rfl rfl rfl ?_)
  clear hS; intro w35 hS
  refine wnil ?_
  refine thenN ?_
  refine wseq ?_
  refine wreg ?_
  refine wl rfl (oload (vs := [.bool b, .slice p n c]) aggZ hS 17 rfl rfl (ev rfl rfl) rfl rfl rfl ?_)
  refine wl rfl (oload (vs := [.bool b2, .slice q m d]) aggZ hS 16 rfl rfl (ev rfl rfl) rfl rfl rfl ?_)
  obtain ⟨z10, hz10⟩ : ∃ z : Int, Hid (Int.tdiv x y = z) := ⟨_, rfl⟩
  have hk10 : Wd z10 1048576 := Wd.tdiv hzx.wd hz10
  obtain ⟨z11, hz11⟩ : ∃ z : Int, Hid (Int.tmod x y = z) := ⟨_, rfl⟩
  have hk11 : Wd z11 1048576 := Wd.tmod hzx.wd hz11
  refine wl rfl (ocall rfl rfl Try.call39 rfl (wqtrunc ((hzx.at hS).mono (by omega)) ((hzy.at hS).mono (by omega)) (h0) hz10 hz11) (args2 (ev rfl rfl) (ev rfl rfl)) ?_)
  rintro _ w36 ⟨_, _, rfl, ⟨p10, n10, c10, p11, n11, c11, rfl, rfl⟩, hN⟩
  refine ⟨_, rfl, ?_⟩
  replace hS := hS.news hN; clear hN
  refine wl rfl (omove (v := .tuple #[.agg #[.bool (ng z10), .slice p10 n10 c10], .agg #[.bool (ng z11), .slice p11 n11 c11]]) rfl rfl (ev (v := .tuple #[.agg #[.bool (ng z10), .slice p10 n10 c10], .agg #[.bool (ng z11), .slice p11 n11 c11]]) rfl rfl) ?_)
  refine wl rfl (oextract (vs := [.agg #[.bool (ng z10), .slice p10 n10 c10], .agg #[.bool (ng z11), .slice p11 n11 c11]]) (v := .agg #[.bool (ng z10), .slice p10 n10 c10]) rfl rfl (ev (v := .tuple #[.agg #[.bool (ng z10), .slice p10 n10 c10], .agg #[.bool (ng z11), .slice p11 n11 c11]]) rfl rfl) rfl ?_)
  refine wl rfl (oextract (vs := [.agg #[.bool (ng z10), .slice p10 n10 c10], .agg #[.bool (ng z11), .slice p11 n11 c11]]) (v := .agg #[.bool (ng z11), .slice p11 n11 c11]) rfl rfl (ev (v := .tuple #[.agg #[.bool (ng z10), .slice p10 n10 c10], .agg #[.bool (ng z11), .slice p11 n11 c11]]) rfl rfl) rfl ?_)
  refine wl rfl (oalloc [.bool false, .slice none 0 0] hS rfl rfl Try.zeroValue25 rfl ?_)
  clear hS; intro g37 w38 hS
  refine wl rfl (oalloc [.bool false, .slice none 0 0] hS rfl rfl Try.zeroValue25 rfl ?_)
  clear hS; intro g39 w40 hS
  refine wl rfl (ostore [.bool (ng z10), .slice p10 n10 c10] [.bool (ng z10), .slice p10 n10 c10] Try.sizeOf25 hS 1 rfl rfl (ev rfl rfl) (ev (v := .agg #[.bool (ng z10), .slice p10 n10 c10]) rfl rfl) rfl rfl rfl rfl rfl rfl ?_)
  clear hS; intro w41 hS
  refine wl rfl (ostore [.bool (ng z11), .slice p11 n11 c11] [.bool (ng z11), .slice p11 n11 c11] Try.sizeOf25 hS 0 rfl rfl (ev rfl rfl) (ev (v := .agg #[.bool (ng z11), .slice p11 n11 c11]) rfl rfl) rfl rfl rfl rfl rfl rfl ?_)
  clear hS; intro w42 hS
  refine wnil ?_
  refine thenN ?_
  refine wseq ?_
  refine wreg ?_
  refine wl rfl (oload (vs := [.bool b, .slice p n c]) aggZ hS 21 rfl rfl (ev rfl rfl) rfl rfl rfl ?_)
  refine wl rfl (oload (vs := [.bool b2, .slice q m d]) aggZ hS 20 rfl rfl (ev rfl rfl) rfl rfl rfl ?_)
  obtain ⟨z12, hz12⟩ : ∃ z : Int, Hid (Int.tdiv x y = z) := ⟨_, rfl⟩
  have hk12 : Wd z12 1048576 := Wd.tdiv hzx.wd hz12
  refine wl rfl (ocall rfl rfl Try.call40 rfl (wqexact ((hzx.at hS).mono (by omega)) ((hzy.at hS).mono (by omega)) (h0) (h5) hz12) (args2 (ev rfl rfl) (ev rfl rfl)) ?_)
  rintro _ w43 ⟨_, _, rfl, ⟨p12, n12, c12, rfl, rfl⟩, hN⟩
  refine ⟨_, rfl, ?_⟩
  replace hS := hS.news hN; clear hN
  refine wl rfl (omove (v := .tuple #[.agg #[.bool (ng z12), .slice p12 n12 c12], .bool true]) rfl rfl (ev (v := .tuple #[.agg #[.bool (ng z12), .slice p12 n12 c12], .bool true]) rfl rfl) ?_)
  refine wl rfl (oextract (vs := [.agg #[.bool (ng z12), .slice p12 n12 c12], .bool true]) (v := .agg #[.bool (ng z12), .slice p12 n12 c12]) rfl rfl (ev (v := .tuple #[.agg #[.bool (ng z12), .slice p12 n12 c12], .bool true]) rfl rfl) rfl ?_)
  refine wl rfl (oextract (vs := [.agg #[.bool (ng z12), .slice p12 n12 c12], .bool true]) (v := .bool true) rfl rfl (ev (v := .tuple #[.agg #[.bool (ng z12), .slice p12 n12 c12], .bool true]) rfl rfl) rfl ?_)
  refine wl rfl (oalloc [.bool false, .slice none 0 0] hS rfl rfl Try.zeroValue25 rfl ?_)
  clear hS; intro g44 w45 hS
  refine wl rfl (ostore [.bool (ng z12), .slice p12 n12 c12] [.bool (ng z12), .slice p12 n12 c12] Try.sizeOf25 hS 0 rfl rfl (ev rfl rfl) (ev (v := .agg #[.bool (ng z12), .slice p12 n12 c12]) rfl rfl) rfl rfl rfl rfl rfl rfl ?_)
  clear hS; intro w46 hS
  refine wl rfl (oassign (v := .bool true) rfl rfl (ev (v := .bool true) rfl rfl) ?_)
  refine wnil ?_
  refine thenN ?_
  refine wseq ?_
  refine wseq ?_
  obtain ⟨z13, hz13⟩ : ∃ z : Int, Hid (nearZ x y = z) := ⟨_, rfl⟩
  have hk13 : Wd z13 1048577 := Wd.near hzx.wd hz13
  refine wstage 42 [152, 153, 154, 155, 156, 157, 158, 159, 160, 161, 162, 163, 164, 165, 166, 167, 168, 169, 170, 171, 172, 173, 174, 175, 176, 177, 178, 179, 180, 181, 182, 183, 184, 185, 186, 187, 188, 189, 190, 191, 192, 193] [[], [0], [1, 0], [2, 0, 1], [2, 3, 0, 1], [2, 4, 0, 1, 3], [5, 0, 1, 2, 3, 4], [6, 0, 1, 2, 3, 4, 5], [6, 7, 0, 1, 2, 3, 4, 5], [6, 8, 0, 1, 2, 3, 4, 5, 7], [9, 0, 1, 2, 3, 4, 5, 6, 7, 8], [10, 0, 1, 2, 3, 4, 5, 6, 7, 8, 9], [10, 0, 1, 2, 3, 4, 5, 6, 7, 8, 9], [10, 11, 12, 0, 1, 2, 3, 4, 5, 6, 7, 8, 9], [10, 13, 0, 1, 2, 3, 4, 5, 6, 7, 8, 9, 11, 12], [10, 14, 0, 1, 2, 3, 4, 5, 6, 7, 8, 9, 11, 12, 13], [15, 0, 1, 2, 3, 4, 5, 6, 7, 8, 9, 10, 11, 12, 13, 14], [16, 0, 1, 2, 3, 4, 5, 6, 7, 8, 9, 10, 11, 12, 13, 14, 15], [16, 0, 1, 2, 3, 4, 5, 6, 7, 8, 9, 10, 11, 12, 13, 14, 15], [16, 17, 18, 0, 1, 2, 3, 4, 5, 6, 7, 8, 9, 10, 11, 12, 13, 14, 15], [16, 19, 0, 1, 2, 3, 4, 5, 6, 7, 8, 9, 10, 11, 12, 13, 14, 15, 17, 18], [16, 20, 0, 1, 2, 3, 4, 5, 6, 7, 8, 9, 10, 11, 12, 13, 14, 15, 17, 18, 19], [21, 0, 1, 2, 3, 4, 5, 6, 7, 8, 9, 10, 11, 12, 13, 14, 15, 16, 17, 18, 19, 20], [22, 0, 1, 2, 3, 4, 5, 6, 7, 8, 9, 10, 11, 12, 13, 14, 15, 16, 17, 18, 19, 20, 21], [22, 0, 1, 2, 3, 4, 5, 6, 7, 8, 9, 10, 11, 12, 13, 14, 15, 16, 17, 18, 19, 20, 21], [22, 23, 24, 0, 1, 2, 3, 4, 5, 6, 7, 8, 9, 10, 11, 12, 13, 14, 15, 16, 17, 18, 19, 20, 21], [22, 25, 0, 1, 2, 3, 4, 5, 6, 7, 8, 9, 10, 11, 12, 13, 14, 15, 16, 17, 18, 19, 20, 21, 23, 24], [22, 26, 0, 1, 2, 3, 4, 5, 6, 7, 8, 9, 10, 11, 12, 13, 14, 15, 16, 17, 18, 19, 20, 21, 23, 24, 25], [27, 0, 1, 2, 3, 4, 5, 6, 7, 8, 9, 10, 11, 12, 13, 14, 15, 16, 17, 18, 19, 20, 21, 22, 23, 24, 25, 26], [28, 0, 1, 2, 3, 4, 5, 6, 7, 8, 9, 10, 11, 12, 13, 14, 15, 16, 17, 18, 19, 20, 21, 22, 23, 24, 25, 26, 27], [28, 0, 1, 2, 3, 4, 5, 6, 7, 8, 9, 10, 11, 12, 13, 14, 15, 16, 17, 18, 19, 20, 21, 22, 23, 24, 25, 26, 27], [28, 29, 30, 0, 1, 2, 3, 4, 5, 6, 7, 8, 9, 10, 11, 12, 13, 14, 15, 16, 17, 18, 19, 20, 21, 22, 23, 24, 25, 26, 27], [28, 31, 0, 1, 2, 3, 4, 5, 6, 7, 8, 9, 10, 11, 12, 13, 14, 15, 16, 17, 18, 19, 20, 21, 22, 23, 24, 25, 26, 27, 29, 30], [28, 32, 0, 1, 2, 3, 4, 5, 6, 7, 8, 9, 10, 11, 12, 13, 14, 15, 16, 17, 18, 19, 20, 21, 22, 23, 24, 25, 26, 27, 29, 30, 31], [33, 0, 1, 2, 3, 4, 5, 6, 7, 8, 9, 10, 11, 12, 13, 14, 15, 16, 17, 18, 19, 20, 21, 22, 23, 24, 25, 26, 27, 28, 29, 30, 31, 32], [34, 0, 1, 2, 3, 4, 5, 6, 7, 8, 9, 10, 11, 12, 13, 14, 15, 16, 17, 18, 19, 20, 21, 22, 23, 24, 25, 26, 27, 28, 29, 30, 31, 32, 33], [34, 0, 1, 2, 3, 4, 5, 6, 7, 8, 9, 10, 11, 12, 13, 14, 15, 16, 17, 18, 19, 20, 21, 22, 23, 24, 25, 26, 27, 28, 29, 30, 31, 32, 33], [34, 0, 1, 2, 3, 4, 5, 6, 7, 8, 9, 10, 11, 12, 13, 14, 15, 16, 17, 18, 19, 20, 21, 22, 23, 24, 25, 26, 27, 28, 29, 30, 31, 32, 33], [34, 36, 37, 0, 1, 2, 3, 4, 5, 6, 7, 8, 9, 10, 11, 12, 13, 14, 15, 16, 17, 18, 19, 20, 21, 22, 23, 24, 25, 26, 27, 28, 29, 30, 31, 32, 33], [34, 35, 38, 0, 1, 2, 3, 4, 5, 6, 7, 8, 9, 10, 11, 12, 13, 14, 15, 16, 17, 18, 19, 20, 21, 22, 23, 24, 25, 26, 27, 28, 29, 30, 31, 32, 33, 36, 37], [34, 39, 0, 1, 2, 3, 4, 5, 6, 7, 8, 9, 10, 11, 12, 13, 14, 15, 16, 17, 18, 19, 20, 21, 22, 23, 24, 25, 26, 27, 28, 29, 30, 31, 32, 33, 35, 36, 37, 38], [34, 40, 0, 1, 2, 3, 4, 5, 6, 7, 8, 9, 10, 11, 12, 13, 14, 15, 16, 17, 18, 19, 20, 21, 22, 23, 24, 25, 26, 27, 28, 29, 30, 31, 32, 33, 35, 36, 37, 38, 39]] [[], [], [], [], [], [], [], [], [], [], [], [], [], [], [], [], [], [], [], [], [], [], [], [], [], [], [], [], [], [], [], [], [], [], [], [], [], [], [], [], [], []] [] (fun i => ([fun _ => Is (.int .i64 0), fun _ => Is (.bool false), fun _ => Is (.bool false), fun _ => Is (.int .i64 0), fun _ => Is (.bool false), fun _ => Is (.bool false), fun _ => Is (.bool false), fun _ => Is (.int .i64 0), fun _ => Is (.bool false), fun _ => Is (.bool false), fun _ => Is (.bool false), fun _ => Is (.agg #[.bool (ng z1), .slice p1 n1 c1]), fun _ => Is (.agg #[.bool (ng z8), .slice p8 n8 c8]), fun _ => Is (.bool true), fun _ => Is (.bool false), fun _ => Is (.bool false), fun _ => Is (.bool false), fun _ => Is (.agg #[.bool (ng z2), .slice p2 n2 c2]), fun _ => Is (.agg #[.bool (ng z9), .slice p9 n9 c9]), fun _ => Is (.bool true), fun _ => Is (.bool false), fun _ => Is (.bool false), fun _ => Is (.bool false), fun _ => Is (.agg #[.bool (ng z3), .slice p3 n3 c3]), fun _ => Is (.agg #[.bool (ng z10), .slice p10 n10 c10]), fun _ => Is (.bool true), fun _ => Is (.bool false), fun _ => Is (.bool false), fun _ => Is (.bool false), fun _ => Is (.agg #[.bool (ng z4), .slice p4 n4 c4]), fun _ => Is (.agg #[.bool (ng z11), .slice p11 n11 c11]), fun _ => Is (.bool true), fun _ => Is (.bool false), fun _ => Is (.bool false), fun _ => Is (.bool false), fun _ => Is (.agg #[.bool (ng z6), .slice p6 n6 c6]), fun _ => Is (.agg #[.bool b, .slice p n c]), fun _ => Is (.agg #[.bool b2, .slice q m d]), fun _ => Zt z13, fun _ => Is (.bool true), fun _ => Is (.bool false), fun _ => Is (.bool false)] : List (List Value → Tell)).getD i (fun _ _ _ => False)) (fun d _ _ _ _ h => (by cases d <;> exact h)) (by kernel_rfl) (by kernel_rfl) (by kernel_rfl) hS ?_ ?_
  ·
    refine stepsCons rfl ?_ ?_
    · intro Q f' w' ρ S ho hT hS
      exact .inl ⟨want_none rfl, omove (v := .int .i64 0) rfl rfl (ev (v := .int .i64 0) rfl (ho 9 rfl)) ⟨_, _, rfl, isI, New.same _⟩⟩
    refine stepsCons rfl ?_ ?_
    · intro Q f' w' ρ S ho hT hS
      obtain ⟨hv0, hr0⟩ := (hT 0 152 rfl rfl : (Is (.int .i64 0)) (f' 152) (ρ 0))
      obtain hS := hS.flat1 hr0
      exact .inl ⟨want_none rfl, obin (u := .int .i64 0) (v := .int .i64 0) (z := .bool false) rfl rfl (ev (v := .int .i64 0) rfl hv0) (evc (v := .int .i64 0)) (bin_neq (by decide)) ⟨_, _, rfl, isI, New.same _⟩⟩
    refine stepsCons rfl ?_ ?_
    · intro Q f' w' ρ S ho hT hS
      obtain ⟨hv1, hr1⟩ := (hT 1 153 rfl rfl : (Is (.bool false)) (f' 153) (ρ 1))
      obtain hS := hS.flat1 hr1
      exact .inl ⟨want_none rfl, omove (v := .bool false) rfl rfl (ev (v := .bool false) rfl hv1) ⟨_, _, rfl, isI, New.same _⟩⟩
    refine stepsCons rfl ?_ ?_
    · intro Q f' w' ρ S ho hT hS
      obtain ⟨hv2, hr2⟩ := (hT 2 154 rfl rfl : (Is (.bool false)) (f' 154) (ρ 2))
      obtain hS := hS.flat1 hr2
      exact .inl ⟨want_on (e := 154) rfl rfl rfl hv2, omove (v := .int .i64 0) rfl rfl (ev (v := .int .i64 0) rfl (ho 12 rfl)) ⟨_, _, rfl, isI, New.same _⟩⟩
    refine stepsCons rfl ?_ ?_
    · intro Q f' w' ρ S ho hT hS
      obtain ⟨hv2, hr2⟩ := (hT 2 154 rfl rfl : (Is (.bool false)) (f' 154) (ρ 2))
      obtain ⟨hv3, hr3⟩ := (hT 3 155 rfl rfl : (Is (.int .i64 0)) (f' 155) (ρ 3))
      obtain hS := hS.flat2 hr2 hr3
      exact .inl ⟨want_on (e := 154) rfl rfl rfl hv2, obin (u := .int .i64 0) (v := .int .i64 0) (z := .bool false) rfl rfl (ev (v := .int .i64 0) rfl hv3) (evc (v := .int .i64 0)) (bin_neq (by decide)) ⟨_, _, rfl, isI, New.same _⟩⟩
    refine stepsCons rfl ?_ ?_
    · intro Q f' w' ρ S ho hT hS
      obtain ⟨hv2, hr2⟩ := (hT 2 154 rfl rfl : (Is (.bool false)) (f' 154) (ρ 2))
      obtain ⟨hv4, hr4⟩ := (hT 4 156 rfl rfl : (Is (.bool false)) (f' 156) (ρ 4))
      obtain hS := hS.flat2 hr2 hr4
      exact .inl ⟨want_none rfl, opick (b := false) (v := .bool false) rfl rfl (ev (v := .bool false) rfl hv2) (ev (v := .bool false) rfl hv4) ⟨_, _, rfl, isI, New.same _⟩⟩
    refine stepsCons rfl ?_ ?_
    · intro Q f' w' ρ S ho hT hS
      obtain ⟨hv5, hr5⟩ := (hT 5 157 rfl rfl : (Is (.bool false)) (f' 157) (ρ 5))
      obtain hS := hS.flat1 hr5
      exact .inl ⟨want_none rfl, omove (v := .bool false) rfl rfl (ev (v := .bool false) rfl hv5) ⟨_, _, rfl, isI, New.same _⟩⟩
    refine stepsCons rfl ?_ ?_
    · intro Q f' w' ρ S ho hT hS
      obtain ⟨hv6, hr6⟩ := (hT 6 158 rfl rfl : (Is (.bool false)) (f' 158) (ρ 6))
      obtain hS := hS.flat1 hr6
      exact .inl ⟨want_on (e := 158) rfl rfl rfl hv6, omove (v := .int .i64 0) rfl rfl (ev (v := .int .i64 0) rfl (ho 16 rfl)) ⟨_, _, rfl, isI, New.same _⟩⟩
    refine stepsCons rfl ?_ ?_
    · intro Q f' w' ρ S ho hT hS
      obtain ⟨hv6, hr6⟩ := (hT 6 158 rfl rfl : (Is (.bool false)) (f' 158) (ρ 6))
      obtain ⟨hv7, hr7⟩ := (hT 7 159 rfl rfl : (Is (.int .i64 0)) (f' 159) (ρ 7))
      obtain hS := hS.flat2 hr6 hr7
      exact .inl ⟨want_on (e := 158) rfl rfl rfl hv6, obin (u := .int .i64 0) (v := .int .i64 0) (z := .bool false) rfl rfl (ev (v := .int .i64 0) rfl hv7) (evc (v := .int .i64 0)) (bin_neq (by decide)) ⟨_, _, rfl, isI, New.same _⟩⟩
    refine stepsCons rfl ?_ ?_
    · intro Q f' w' ρ S ho hT hS
      obtain ⟨hv6, hr6⟩ := (hT 6 158 rfl rfl : (Is (.bool false)) (f' 158) (ρ 6))
      obtain ⟨hv8, hr8⟩ := (hT 8 160 rfl rfl : (Is (.bool false)) (f' 160) (ρ 8))
      obtain hS := hS.flat2 hr6 hr8
      exact .inl ⟨want_none rfl, opick (b := false) (v := .bool false) rfl rfl (ev (v := .bool false) rfl hv6) (ev (v := .bool false) rfl hv8) ⟨_, _, rfl, isI, New.same _⟩⟩
    refine stepsCons rfl ?_ ?_
    · intro Q f' w' ρ S ho hT hS
      obtain ⟨hv9, hr9⟩ := (hT 9 161 rfl rfl : (Is (.bool false)) (f' 161) (ρ 9))
      obtain hS := hS.flat1 hr9
      exact .inl ⟨want_none rfl, omove (v := .bool false) rfl rfl (ev (v := .bool false) rfl hv9) ⟨_, _, rfl, isI, New.same _⟩⟩
    refine stepsCons rfl ?_ ?_
    · intro Q f' w' ρ S ho hT hS
      obtain ⟨hv10, hr10⟩ := (hT 10 162 rfl rfl : (Is (.bool false)) (f' 162) (ρ 10))
      obtain hS := hS.flat1 hr10
      exact .inl ⟨want_on (e := 162) rfl rfl rfl hv10, oload (vs := [.bool (ng z1), .slice p1 n1 c1]) aggZ hS 19 rfl rfl (ev rfl (ho 7 rfl)) rfl rfl rfl ⟨_, _, rfl, isI, New.same _⟩⟩
    refine stepsCons rfl ?_ ?_
    · intro Q f' w' ρ S ho hT hS
      obtain ⟨hv10, hr10⟩ := (hT 10 162 rfl rfl : (Is (.bool false)) (f' 162) (ρ 10))
      obtain hS := hS.flat1 hr10
      exact .inl ⟨want_on (e := 162) rfl rfl rfl hv10, oload (vs := [.bool (ng z8), .slice p8 n8 c8]) aggZ hS 7 rfl rfl (ev rfl (ho 20 rfl)) rfl rfl rfl ⟨_, _, rfl, isI, New.same _⟩⟩
    refine stepsCons rfl ?_ ?_
    · intro Q f' w' ρ S ho hT hS
      obtain ⟨hv10, hr10⟩ := (hT 10 162 rfl rfl : (Is (.bool false)) (f' 162) (ρ 10))
      obtain ⟨hv11, hr11⟩ := (hT 11 163 rfl rfl : (Is (.agg #[.bool (ng z1), .slice p1 n1 c1])) (f' 163) (ρ 11))
      obtain ⟨hv12, hr12⟩ := (hT 12 164 rfl rfl : (Is (.agg #[.bool (ng z8), .slice p8 n8 c8])) (f' 164) (ρ 12))
      obtain hS := hS.flat3 hr10 hr11 hr12
      refine .inl ⟨want_on (e := 162) rfl rfl rfl hv10, ocall rfl rfl Try.call13 rfl (wlsame (x := z1) (y := z8) (hS.sl 20 rfl) (hS.sl 8 rfl) ((hz1.out.symm).trans (hz8.out.symm).symm)) (args2 (ev rfl hv11) (ev rfl hv12)) ?_⟩
      rintro _ w9 ⟨_, _, rfl, hTT, hN⟩
      exact ⟨_, rfl, _, _, rfl, hTT, hN⟩
    refine stepsCons rfl ?_ ?_
    · intro Q f' w' ρ S ho hT hS
      obtain ⟨hv10, hr10⟩ := (hT 10 162 rfl rfl : (Is (.bool false)) (f' 162) (ρ 10))
      obtain ⟨hv13, hr13⟩ := (hT 13 165 rfl rfl : (Is (.bool true)) (f' 165) (ρ 13))
      obtain hS := hS.flat2 hr10 hr13
      exact .inl ⟨want_on (e := 162) rfl rfl rfl hv10, onot (b := true) rfl rfl (ev (v := .bool true) rfl hv13) ⟨_, _, rfl, isI, New.same _⟩⟩
    refine stepsCons rfl ?_ ?_
    · intro Q f' w' ρ S ho hT hS
      obtain ⟨hv10, hr10⟩ := (hT 10 162 rfl rfl : (Is (.bool false)) (f' 162) (ρ 10))
      obtain ⟨hv14, hr14⟩ := (hT 14 166 rfl rfl : (Is (.bool false)) (f' 166) (ρ 14))
      obtain hS := hS.flat2 hr10 hr14
      exact .inl ⟨want_none rfl, opick (b := false) (v := .bool false) rfl rfl (ev (v := .bool false) rfl hv10) (ev (v := .bool false) rfl hv14) ⟨_, _, rfl, isI, New.same _⟩⟩
    refine stepsCons rfl ?_ ?_
    · intro Q f' w' ρ S ho hT hS
      obtain ⟨hv15, hr15⟩ := (hT 15 167 rfl rfl : (Is (.bool false)) (f' 167) (ρ 15))
      obtain hS := hS.flat1 hr15
      exact .inl ⟨want_none rfl, omove (v := .bool false) rfl rfl (ev (v := .bool false) rfl hv15) ⟨_, _, rfl, isI, New.same _⟩⟩
    refine stepsCons rfl ?_ ?_
    · intro Q f' w' ρ S ho hT hS
      obtain ⟨hv16, hr16⟩ := (hT 16 168 rfl rfl : (Is (.bool false)) (f' 168) (ρ 16))
      obtain hS := hS.flat1 hr16
      exact .inl ⟨want_on (e := 168) rfl rfl rfl hv16, oload (vs := [.bool (ng z2), .slice p2 n2 c2]) aggZ hS 18 rfl rfl (ev rfl (ho 8 rfl)) rfl rfl rfl ⟨_, _, rfl, isI, New.same _⟩⟩
    refine stepsCons rfl ?_ ?_
    · intro Q f' w' ρ S ho hT hS
      obtain ⟨hv16, hr16⟩ := (hT 16 168 rfl rfl : (Is (.bool false)) (f' 168) (ρ 16))
      obtain hS := hS.flat1 hr16
      exact .inl ⟨want_on (e := 168) rfl rfl rfl hv16, oload (vs := [.bool (ng z9), .slice p9 n9 c9]) aggZ hS 6 rfl rfl (ev rfl (ho 21 rfl)) rfl rfl rfl ⟨_, _, rfl, isI, New.same _⟩⟩
    refine stepsCons rfl ?_ ?_
    · intro Q f' w' ρ S ho hT hS
      obtain ⟨hv16, hr16⟩ := (hT 16 168 rfl rfl : (Is (.bool false)) (f' 168) (ρ 16))
      obtain ⟨hv17, hr17⟩ := (hT 17 169 rfl rfl : (Is (.agg #[.bool (ng z2), .slice p2 n2 c2])) (f' 169) (ρ 17))
      obtain ⟨hv18, hr18⟩ := (hT 18 170 rfl rfl : (Is (.agg #[.bool (ng z9), .slice p9 n9 c9])) (f' 170) (ρ 18))
      obtain hS := hS.flat3 hr16 hr17 hr18
      refine .inl ⟨want_on (e := 168) rfl rfl rfl hv16, ocall rfl rfl Try.call13 rfl (wlsame (x := z2) (y := z9) (hS.sl 21 rfl) (hS.sl 9 rfl) ((hz2.out.symm).trans (hz9.out.symm).symm)) (args2 (ev rfl hv17) (ev rfl hv18)) ?_⟩
      rintro _ w9 ⟨_, _, rfl, hTT, hN⟩
      exact ⟨_, rfl, _, _, rfl, hTT, hN⟩
    refine stepsCons rfl ?_ ?_
    · intro Q f' w' ρ S ho hT hS
      obtain ⟨hv16, hr16⟩ := (hT 16 168 rfl rfl : (Is (.bool false)) (f' 168) (ρ 16))
      obtain ⟨hv19, hr19⟩ := (hT 19 171 rfl rfl : (Is (.bool true)) (f' 171) (ρ 19))
      obtain hS := hS.flat2 hr16 hr19
      exact .inl ⟨want_on (e := 168) rfl rfl rfl hv16, onot (b := true) rfl rfl (ev (v := .bool true) rfl hv19) ⟨_, _, rfl, isI, New.same _⟩⟩
    refine stepsCons rfl ?_ ?_
    · intro Q f' w' ρ S ho hT hS
      obtain ⟨hv16, hr16⟩ := (hT 16 168 rfl rfl : (Is (.bool false)) (f' 168) (ρ 16))
      obtain ⟨hv20, hr20⟩ := (hT 20 172 rfl rfl : (Is (.bool false)) (f' 172) (ρ 20))
      obtain hS := hS.flat2 hr16 hr20
      exact .inl ⟨want_none rfl, opick (b := false) (v := .bool false) rfl rfl (ev (v := .bool false) rfl hv16) (ev (v := .bool false) rfl hv20) ⟨_, _, rfl, isI, New.same _⟩⟩
    refine stepsCons rfl ?_ ?_
    · intro Q f' w' ρ S ho hT hS
      obtain ⟨hv21, hr21⟩ := (hT 21 173 rfl rfl : (Is (.bool false)) (f' 173) (ρ 21))
      obtain hS := hS.flat1 hr21
      exact .inl ⟨want_none rfl, omove (v := .bool false) rfl rfl (ev (v := .bool false) rfl hv21) ⟨_, _, rfl, isI, New.same _⟩⟩
    refine stepsCons rfl ?_ ?_
    · intro Q f' w' ρ S ho hT hS
      obtain ⟨hv22, hr22⟩ := (hT 22 174 rfl rfl : (Is (.bool false)) (f' 174) (ρ 22))
      obtain hS := hS.flat1 hr22
      exact .inl ⟨want_on (e := 174) rfl rfl rfl hv22, oload (vs := [.bool (ng z3), .slice p3 n3 c3]) aggZ hS 15 rfl rfl (ev rfl (ho 10 rfl)) rfl rfl rfl ⟨_, _, rfl, isI, New.same _⟩⟩
    refine stepsCons rfl ?_ ?_
    · intro Q f' w' ρ S ho hT hS
      obtain ⟨hv22, hr22⟩ := (hT 22 174 rfl rfl : (Is (.bool false)) (f' 174) (ρ 22))
      obtain hS := hS.flat1 hr22
      exact .inl ⟨want_on (e := 174) rfl rfl rfl hv22, oload (vs := [.bool (ng z10), .slice p10 n10 c10]) aggZ hS 3 rfl rfl (ev rfl (ho 22 rfl)) rfl rfl rfl ⟨_, _, rfl, isI, New.same _⟩⟩
    refine stepsCons rfl ?_ ?_
    · intro Q f' w' ρ S ho hT hS
      obtain ⟨hv22, hr22⟩ := (hT 22 174 rfl rfl : (Is (.bool false)) (f' 174) (ρ 22))
      obtain ⟨hv23, hr23⟩ := (hT 23 175 rfl rfl : (Is (.agg #[.bool (ng z3), .slice p3 n3 c3])) (f' 175) (ρ 23))
      obtain ⟨hv24, hr24⟩ := (hT 24 176 rfl rfl : (Is (.agg #[.bool (ng z10), .slice p10 n10 c10])) (f' 176) (ρ 24))
      obtain hS := hS.flat3 hr22 hr23 hr24
      refine .inl ⟨want_on (e := 174) rfl rfl rfl hv22, ocall rfl rfl Try.call13 rfl (wlsame (x := z3) (y := z10) (hS.sl 16 rfl) (hS.sl 4 rfl) ((hz3.out.symm).trans (hz10.out.symm).symm)) (args2 (ev rfl hv23) (ev rfl hv24)) ?_⟩
      rintro _ w9 ⟨_, _, rfl, hTT, hN⟩
      exact ⟨_, rfl, _, _, rfl, hTT, hN⟩
    refine stepsCons rfl ?_ ?_
    · intro Q f' w' ρ S ho hT hS
      obtain ⟨hv22, hr22⟩ := (hT 22 174 rfl rfl : (Is (.bool false)) (f' 174) (ρ 22))
      obtain ⟨hv25, hr25⟩ := (hT 25 177 rfl rfl : (Is (.bool true)) (f' 177) (ρ 25))
      obtain hS := hS.flat2 hr22 hr25
      exact .inl ⟨want_on (e := 174) rfl rfl rfl hv22, onot (b := true) rfl rfl (ev (v := .bool true) rfl hv25) ⟨_, _, rfl, isI, New.same _⟩⟩
    refine stepsCons rfl ?_ ?_
    · intro Q f' w' ρ S ho hT hS
      obtain ⟨hv22, hr22⟩ := (hT 22 174 rfl rfl : (Is (.bool false)) (f' 174) (ρ 22))
      obtain ⟨hv26, hr26⟩ := (hT 26 178 rfl rfl : (Is (.bool false)) (f' 178) (ρ 26))
      obtain hS := hS.flat2 hr22 hr26
      exact .inl ⟨want_none rfl, opick (b := false) (v := .bool false) rfl rfl (ev (v := .bool false) rfl hv22) (ev (v := .bool false) rfl hv26) ⟨_, _, rfl, isI, New.same _⟩⟩
    refine stepsCons rfl ?_ ?_
    · intro Q f' w' ρ S ho hT hS
      obtain ⟨hv27, hr27⟩ := (hT 27 179 rfl rfl : (Is (.bool false)) (f' 179) (ρ 27))
      obtain hS := hS.flat1 hr27
      exact .inl ⟨want_none rfl, omove (v := .bool false) rfl rfl (ev (v := .bool false) rfl hv27) ⟨_, _, rfl, isI, New.same _⟩⟩
    refine stepsCons rfl ?_ ?_
    · intro Q f' w' ρ S ho hT hS
      obtain ⟨hv28, hr28⟩ := (hT 28 180 rfl rfl : (Is (.bool false)) (f' 180) (ρ 28))
      obtain hS := hS.flat1 hr28
      exact .inl ⟨want_on (e := 180) rfl rfl rfl hv28, oload (vs := [.bool (ng z4), .slice p4 n4 c4]) aggZ hS 14 rfl rfl (ev rfl (ho 11 rfl)) rfl rfl rfl ⟨_, _, rfl, isI, New.same _⟩⟩
    refine stepsCons rfl ?_ ?_
    · intro Q f' w' ρ S ho hT hS
      obtain ⟨hv28, hr28⟩ := (hT 28 180 rfl rfl : (Is (.bool false)) (f' 180) (ρ 28))
      obtain hS := hS.flat1 hr28
      exact .inl ⟨want_on (e := 180) rfl rfl rfl hv28, oload (vs := [.bool (ng z11), .slice p11 n11 c11]) aggZ hS 2 rfl rfl (ev rfl (ho 23 rfl)) rfl rfl rfl ⟨_, _, rfl, isI, New.same _⟩⟩
    refine stepsCons rfl ?_ ?_
    · intro Q f' w' ρ S ho hT hS
      obtain ⟨hv28, hr28⟩ := (hT 28 180 rfl rfl : (Is (.bool false)) (f' 180) (ρ 28))
      obtain ⟨hv29, hr29⟩ := (hT 29 181 rfl rfl : (Is (.agg #[.bool (ng z4), .slice p4 n4 c4])) (f' 181) (ρ 29))
      obtain ⟨hv30, hr30⟩ := (hT 30 182 rfl rfl : (Is (.agg #[.bool (ng z11), .slice p11 n11 c11])) (f' 182) (ρ 30))
      obtain hS := hS.flat3 hr28 hr29 hr30
      refine .inl ⟨want_on (e := 180) rfl rfl rfl hv28, ocall rfl rfl Try.call13 rfl (wlsame (x := z4) (y := z11) (hS.sl 17 rfl) (hS.sl 5 rfl) ((hz4.out.symm).trans (hz11.out.symm).symm)) (args2 (ev rfl hv29) (ev rfl hv30)) ?_⟩
      rintro _ w9 ⟨_, _, rfl, hTT, hN⟩
      exact ⟨_, rfl, _, _, rfl, hTT, hN⟩
    refine stepsCons rfl ?_ ?_
    · intro Q f' w' ρ S ho hT hS
      obtain ⟨hv28, hr28⟩ := (hT 28 180 rfl rfl : (Is (.bool false)) (f' 180) (ρ 28))
      obtain ⟨hv31, hr31⟩ := (hT 31 183 rfl rfl : (Is (.bool true)) (f' 183) (ρ 31))
      obtain hS := hS.flat2 hr28 hr31
      exact .inl ⟨want_on (e := 180) rfl rfl rfl hv28, onot (b := true) rfl rfl (ev (v := .bool true) rfl hv31) ⟨_, _, rfl, isI, New.same _⟩⟩
    refine stepsCons rfl ?_ ?_
    · intro Q f' w' ρ S ho hT hS
      obtain ⟨hv28, hr28⟩ := (hT 28 180 rfl rfl : (Is (.bool false)) (f' 180) (ρ 28))
      obtain ⟨hv32, hr32⟩ := (hT 32 184 rfl rfl : (Is (.bool false)) (f' 184) (ρ 32))
      obtain hS := hS.flat2 hr28 hr32
      exact .inl ⟨want_none rfl, opick (b := false) (v := .bool false) rfl rfl (ev (v := .bool false) rfl hv28) (ev (v := .bool false) rfl hv32) ⟨_, _, rfl, isI, New.same _⟩⟩
    refine stepsCons rfl ?_ ?_
    · intro Q f' w' ρ S ho hT hS
      obtain ⟨hv33, hr33⟩ := (hT 33 185 rfl rfl : (Is (.bool false)) (f' 185) (ρ 33))
      obtain hS := hS.flat1 hr33
      exact .inl ⟨want_none rfl, omove (v := .bool false) rfl rfl (ev (v := .bool false) rfl hv33) ⟨_, _, rfl, isI, New.same _⟩⟩
    refine stepsCons rfl ?_ ?_
    · intro Q f' w' ρ S ho hT hS
      obtain ⟨hv34, hr34⟩ := (hT 34 186 rfl rfl : (Is (.bool false)) (f' 186) (ρ 34))
      obtain hS := hS.flat1 hr34
      exact .inl ⟨want_on (e := 186) rfl rfl rfl hv34, oload (vs := [.bool (ng z6), .slice p6 n6 c6]) aggZ hS 10 rfl rfl (ev rfl (ho 15 rfl)) rfl rfl rfl ⟨_, _, rfl, isI, New.same _⟩⟩
    refine stepsCons rfl ?_ ?_
    · intro Q f' w' ρ S ho hT hS
      obtain ⟨hv34, hr34⟩ := (hT 34 186 rfl rfl : (Is (.bool false)) (f' 186) (ρ 34))
      obtain hS := hS.flat1 hr34
      exact .inl ⟨want_on (e := 186) rfl rfl rfl hv34, oload (vs := [.bool b, .slice p n c]) aggZ hS 23 rfl rfl (ev rfl (ho 3 rfl)) rfl rfl rfl ⟨_, _, rfl, isI, New.same _⟩⟩
    refine stepsCons rfl ?_ ?_
    · intro Q f' w' ρ S ho hT hS
      obtain ⟨hv34, hr34⟩ := (hT 34 186 rfl rfl : (Is (.bool false)) (f' 186) (ρ 34))
      obtain hS := hS.flat1 hr34
      exact .inl ⟨want_on (e := 186) rfl rfl rfl hv34, oload (vs := [.bool b2, .slice q m d]) aggZ hS 22 rfl rfl (ev rfl (ho 4 rfl)) rfl rfl rfl ⟨_, _, rfl, isI, New.same _⟩⟩
    refine stepsCons rfl ?_ ?_
    · intro Q f' w' ρ S ho hT hS
      obtain ⟨hv34, hr34⟩ := (hT 34 186 rfl rfl : (Is (.bool false)) (f' 186) (ρ 34))
      obtain ⟨hv36, hr36⟩ := (hT 36 188 rfl rfl : (Is (.agg #[.bool b, .slice p n c])) (f' 188) (ρ 36))
      obtain ⟨hv37, hr37⟩ := (hT 37 189 rfl rfl : (Is (.agg #[.bool b2, .slice q m d])) (f' 189) (ρ 37))
      obtain hS := hS.flat3 hr34 hr36 hr37
      refine .inl ⟨want_on (e := 186) rfl rfl rfl hv34, ocall rfl rfl Try.call41 rfl (wqnear ((hzx.at hS).mono (by omega)) ((hzy.at hS).mono (by omega)) (h0) hz13) (args2 (ev rfl hv36) (ev rfl hv37)) ?_⟩
      rintro _ w9 ⟨_, _, rfl, hTT, hN⟩
      exact ⟨_, rfl, _, _, rfl, hTT, hN⟩
    refine stepsCons rfl ?_ ?_
    · intro Q f' w' ρ S ho hT hS
      obtain ⟨hv34, hr34⟩ := (hT 34 186 rfl rfl : (Is (.bool false)) (f' 186) (ρ 34))
      obtain ⟨hv35, hr35⟩ := (hT 35 187 rfl rfl : (Is (.agg #[.bool (ng z6), .slice p6 n6 c6])) (f' 187) (ρ 35))
      obtain ⟨p13, n13, c13, hv38, hr38⟩ := (hT 38 190 rfl rfl : (Zt z13) (f' 190) (ρ 38))
      obtain hS := hS.flat3 hr34 hr35 hr38
      refine .inl ⟨want_on (e := 186) rfl rfl rfl hv34, ocall rfl rfl Try.call13 rfl (wlsame (x := z6) (y := z13) (hS.sl 11 rfl) (hS.sl 24 rfl) ((hz6.out.symm).trans (hz13.out.symm).symm)) (args2 (ev rfl hv35) (ev rfl hv38)) ?_⟩
      rintro _ w9 ⟨_, _, rfl, hTT, hN⟩
      exact ⟨_, rfl, _, _, rfl, hTT, hN⟩
    refine stepsCons rfl ?_ ?_
    · intro Q f' w' ρ S ho hT hS
      obtain ⟨hv34, hr34⟩ := (hT 34 186 rfl rfl : (Is (.bool false)) (f' 186) (ρ 34))
      obtain ⟨hv39, hr39⟩ := (hT 39 191 rfl rfl : (Is (.bool true)) (f' 191) (ρ 39))
      obtain hS := hS.flat2 hr34 hr39
      exact .inl ⟨want_on (e := 186) rfl rfl rfl hv34, onot (b := true) rfl rfl (ev (v := .bool true) rfl hv39) ⟨_, _, rfl, isI, New.same _⟩⟩
    refine stepsCons rfl ?_ ?_
    · intro Q f' w' ρ S ho hT hS
      obtain ⟨hv34, hr34⟩ := (hT 34 186 rfl rfl : (Is (.bool false)) (f' 186) (ρ 34))
      obtain ⟨hv40, hr40⟩ := (hT 40 192 rfl rfl : (Is (.bool false)) (f' 192) (ρ 40))
      obtain hS := hS.flat2 hr34 hr40
      exact .inl ⟨want_none rfl, opick (b := false) (v := .bool false) rfl rfl (ev (v := .bool false) rfl hv34) (ev (v := .bool false) rfl hv40) ⟨_, _, rfl, isI, New.same _⟩⟩
    exact stepsNil
  ·
    intro vs ρ w47 f' hf hT hS
    obtain ⟨hv0, hr0⟩ := (hT 0 (by decide) : (Is (.int .i64 0)) (vs 0) (ρ 0))
    obtain ⟨hv1, hr1⟩ := (hT 1 (by decide) : (Is (.bool false)) (vs 1) (ρ 1))
    obtain ⟨hv2, hr2⟩ := (hT 2 (by decide) : (Is (.bool false)) (vs 2) (ρ 2))
    obtain ⟨hv3, hr3⟩ := (hT 3 (by decide) : (Is (.int .i64 0)) (vs 3) (ρ 3))
    obtain ⟨hv4, hr4⟩ := (hT 4 (by decide) : (Is (.bool false)) (vs 4) (ρ 4))
    obtain ⟨hv5, hr5⟩ := (hT 5 (by decide) : (Is (.bool false)) (vs 5) (ρ 5))
    obtain ⟨hv6, hr6⟩ := (hT 6 (by decide) : (Is (.bool false)) (vs 6) (ρ 6))
    obtain ⟨hv7, hr7⟩ := (hT 7 (by decide) : (Is (.int .i64 0)) (vs 7) (ρ 7))
    obtain ⟨hv8, hr8⟩ := (hT 8 (by decide) : (Is (.bool false)) (vs 8) (ρ 8))
    obtain ⟨hv9, hr9⟩ := (hT 9 (by decide) : (Is (.bool false)) (vs 9) (ρ 9))
    obtain ⟨hv10, hr10⟩ := (hT 10 (by decide) : (Is (.bool false)) (vs 10) (ρ 10))
    obtain ⟨hv11, hr11⟩ := (hT 11 (by decide) : (Is (.agg #[.bool (ng z1), .slice p1 n1 c1])) (vs 11) (ρ 11))
    obtain ⟨hv12, hr12⟩ := (hT 12 (by decide) : (Is (.agg #[.bool (ng z8), .slice p8 n8 c8])) (vs 12) (ρ 12))
    obtain ⟨hv13, hr13⟩ := (hT 13 (by decide) : (Is (.bool true)) (vs 13) (ρ 13))
    obtain ⟨hv14, hr14⟩ := (hT 14 (by decide) : (Is (.bool false)) (vs 14) (ρ 14))
    obtain ⟨hv15, hr15⟩ := (hT 15 (by decide) : (Is (.bool false)) (vs 15) (ρ 15))
    obtain ⟨hv16, hr16⟩ := (hT 16 (by decide) : (Is (.bool false)) (vs 16) (ρ 16))
    obtain ⟨hv17, hr17⟩ := (hT 17 (by decide) : (Is (.agg #[.bool (ng z2), .slice p2 n2 c2])) (vs 17) (ρ 17))
    obtain ⟨hv18, hr18⟩ := (hT 18 (by decide) : (Is (.agg #[.bool (ng z9), .slice p9 n9 c9])) (vs 18) (ρ 18))
    obtain ⟨hv19, hr19⟩ := (hT 19 (by decide) : (Is (.bool true)) (vs 19) (ρ 19))
    obtain ⟨hv20, hr20⟩ := (hT 20 (by decide) : (Is (.bool false)) (vs 20) (ρ 20))
    obtain ⟨hv21, hr21⟩ := (hT 21 (by decide) : (Is (.bool false)) (vs 21) (ρ 21))
    obtain ⟨hv22, hr22⟩ := (hT 22 (by decide) : (Is (.bool false)) (vs 22) (ρ 22))
    obtain ⟨hv23, hr23⟩ := (hT 23 (by decide) : (Is (.agg #[.bool (ng z3), .slice p3 n3 c3])) (vs 23) (ρ 23))
    obtain ⟨hv24, hr24⟩ := (hT 24 (by decide) : (Is (.agg #[.bool (ng z10), .slice p10 n10 c10])) (vs 24) (ρ 24))
    obtain ⟨hv25, hr25⟩ := (hT 25 (by decide) : (Is (.bool true)) (vs 25) (ρ 25))
    obtain ⟨hv26, hr26⟩ := (hT 26 (by decide) : (Is (.bool false)) (vs 26) (ρ 26))
    obtain ⟨hv27, hr27⟩ := (hT 27 (by decide) : (Is (.bool false)) (vs 27) (ρ 27))
    obtain ⟨hv28, hr28⟩ := (hT 28 (by decide) : (Is (.bool false)) (vs 28) (ρ 28))
    obtain ⟨hv29, hr29⟩ := (hT 29 (by decide) : (Is (.agg #[.bool (ng z4), .slice p4 n4 c4])) (vs 29) (ρ 29))
    obtain ⟨hv30, hr30⟩ := (hT 30 (by decide) : (Is (.agg #[.bool (ng z11), .slice p11 n11 c11])) (vs 30) (ρ 30))
    obtain ⟨hv31, hr31⟩ := (hT 31 (by decide) : (Is (.bool true)) (vs 31) (ρ 31))
    obtain ⟨hv32, hr32⟩ := (hT 32 (by decide) : (Is (.bool false)) (vs 32) (ρ 32))
    obtain ⟨hv33, hr33⟩ := (hT 33 (by decide) : (Is (.bool false)) (vs 33) (ρ 33))
    obtain ⟨hv34, hr34⟩ := (hT 34 (by decide) : (Is (.bool false)) (vs 34) (ρ 34))
    obtain ⟨hv35, hr35⟩ := (hT 35 (by decide) : (Is (.agg #[.bool (ng z6), .slice p6 n6 c6])) (vs 35) (ρ 35))
    obtain ⟨hv36, hr36⟩ := (hT 36 (by decide) : (Is (.agg #[.bool b, .slice p n c])) (vs 36) (ρ 36))
    obtain ⟨hv37, hr37⟩ := (hT 37 (by decide) : (Is (.agg #[.bool b2, .slice q m d])) (vs 37) (ρ 37))
    obtain ⟨p13, n13, c13, hv38, hr38⟩ := (hT 38 (by decide) : (Zt z13) (vs 38) (ρ 38))
    obtain ⟨hv39, hr39⟩ := (hT 39 (by decide) : (Is (.bool true)) (vs 39) (ρ 39))
    obtain ⟨hv40, hr40⟩ := (hT 40 (by decide) : (Is (.bool false)) (vs 40) (ρ 40))
    obtain ⟨hv41, hr41⟩ := (hT 41 (by decide) : (Is (.bool false)) (vs 41) (ρ 41))
    simp only [pool, if_true, hr0, hr1, hr2, hr3, hr4, hr5, hr6, hr7, hr8, hr9, hr10, hr11, hr12, hr13, hr14, hr15, hr16, hr17, hr18, hr19, hr20, hr21, hr22, hr23, hr24, hr25, hr26, hr27, hr28, hr29, hr30, hr31, hr32, hr33, hr34, hr35, hr36, hr37, hr38, hr39, hr40, hr41, List.nil_append, List.cons_append, List.append_nil] at hS
    simp only [layf, hv0, hv1, hv2, hv3, hv4, hv5, hv6, hv7, hv8, hv9, hv10, hv11, hv12, hv13, hv14, hv15, hv16, hv17, hv18, hv19, hv20, hv21, hv22, hv23, hv24, hv25, hv26, hv27, hv28, hv29, hv30, hv31, hv32, hv33, hv34, hv35, hv36, hv37, hv38, hv39, hv40, hv41] at hf
    subst hf; clear hT hv0 hv1 hv2 hv3 hv4 hv5 hv6 hv7 hv8 hv9 hv10 hv11 hv12 hv13 hv14 hv15 hv16 hv17 hv18 hv19 hv20 hv21 hv22 hv23 hv24 hv25 hv26 hv27 hv28 hv29 hv30 hv31 hv32 hv33 hv34 hv35 hv36 hv37 hv38 hv39 hv40 hv41 hr0 hr1 hr2 hr3 hr4 hr5 hr6 hr7 hr8 hr9 hr10 hr11 hr12 hr13 hr14 hr15 hr16 hr17 hr18 hr19 hr20 hr21 hr22 hr23 hr24 hr25 hr26 hr27 hr28 hr29 hr30 hr31 hr32 hr33 hr34 hr35 hr36 hr37 hr38 hr39 hr40 hr41
    refine wdone rfl ?_
    refine thenN ?_
    refine wF (ev (v := .bool false) rfl rfl) ?_
    refine wskip ?_
    refine thenN ?_
    refine wseq ?_
    refine wseq ?_
    refine wreg ?_
    refine wl rfl (omove (v := .bool true) rfl rfl (ev (v := .bool true) rfl rfl) ?_)
    refine wl rfl (onot (b := true) rfl rfl (ev (v := .bool true) rfl rfl) ?_)
    refine wnil ?_
    refine thenN ?_
    refine wF (ev (v := .bool false) rfl rfl) ?_
    refine wskip ?_
    refine thenN ?_
    refine wseq ?_
    refine wreg ?_
    refine wl rfl (omove (v := .int .i64 0) rfl rfl (ev (v := .int .i64 0) rfl rfl) ?_)
    refine wl rfl (obin (u := .int .i64 0) (v := .int .i64 0) (z := .bool true) rfl rfl (ev (v := .int .i64 0) rfl rfl) (evc (v := .int .i64 0)) (bin_eql (by decide)) ?_)
    refine wl rfl (omove (v := .bool true) rfl rfl (ev (v := .bool true) rfl rfl) ?_)
    refine wlOn (e := 208) rfl rfl rfl rfl (oload (vs := [.bool (ng z5), .slice p5 n5 c5]) aggZ hS 13 rfl rfl (ev rfl rfl) rfl rfl rfl ?_)
    refine wlOn (e := 208) rfl rfl rfl rfl (oload (vs := [.bool (ng z12), .slice p12 n12 c12]) aggZ hS 1 rfl rfl (ev rfl rfl) rfl rfl rfl ?_)
    refine wlOn (e := 208) rfl rfl rfl rfl (ocall rfl rfl Try.call13 rfl (wlsame (x := z5) (y := z12) (hS.sl 14 rfl) (hS.sl 2 rfl) ((hz5.out.symm).trans (hz12.out.symm).symm)) (args2 (ev rfl rfl) (ev rfl rfl)) ?_)
    rintro _ w48 ⟨_, _, rfl, ⟨rfl, rfl⟩, hN⟩
    refine ⟨_, rfl, ?_⟩
    replace hS := hS.news hN; clear hN
    refine wl rfl (opick (b := true) (v := .bool true) rfl rfl (ev (v := .bool true) rfl rfl) (ev (v := .bool true) rfl rfl) ?_)
    refine wl rfl (omove (v := .bool true) rfl rfl (ev (v := .bool true) rfl rfl) ?_)
    refine wlOn (e := 213) rfl rfl rfl rfl (ocall rfl rfl Try.call19 rfl (wllives) (args0 ) ?_)
    rintro _ w49 ⟨_, _, rfl, ⟨rfl, rfl⟩, hN⟩
    refine ⟨_, rfl, ?_⟩
    replace hS := hS.news hN; clear hN
    refine wl rfl (opick (b := true) (v := .bool true) rfl rfl (ev (v := .bool true) rfl rfl) (ev (v := .bool true) rfl rfl) ?_)
    refine wl rfl (oassign (v := .bool true) rfl rfl (ev (v := .bool true) rfl rfl) ?_)
    refine wnil ?_
    refine thenN ?_
    refine wleave ?_
    refine wret1 Try.results5 (tellT (v := .bool true) rfl rfl) ?_
    exact ⟨_, _, rfl, isI, hS.new0⟩

set_option maxRecDepth 100000 in
set_option maxHeartbeats 16000000 in
theorem zdivides_nz {b b2 : Bool} {p q : Option Addr} {n m c d : Nat} {xs ys : List Nat} {w : World} (hx : Sl w p n c xs) (hy : Sl w q m d ys) (hn : n ≤ 1048576) (hm : m ≤ 1048576) {PP : Nat} (hP : PP < 4294967296) (hy9 : zv b2 (val ys) ≠ 0) (h9 : (zv b (val xs)).tmod (zv b2 (val ys)) ≠ 0) (hP0 : PP = 0) :
    Calls Try.prog 5 #[.agg #[.bool b, .slice p n c], .agg #[.bool b2, .slice q m d], .int .u32 (PP : Int)] w (Ret (Is (.bool true)) w) := by
  obtain ⟨x, hex⟩ : ∃ x : Int, zv b (val xs) = x := ⟨_, rfl⟩
  obtain ⟨y, hey⟩ : ∃ y : Int, zv b2 (val ys) = y := ⟨_, rfl⟩
  have hzx : Zr w b p n c x 1048576 := ⟨xs, hx, hex, hn⟩
  have hzy : Zr w b2 q m d y 1048576 := ⟨ys, hy, hey, hm⟩
  have hS := Sep.init w
  refine went Try.func5 rfl (n := 216) rfl rfl ?_
  refine wseq ?_
  refine wreg ?_
  refine wl rfl (obox [.bool b, .slice p n c] hS rfl rfl (ev (v := .agg #[.bool b, .slice p n c]) rfl rfl) rfl ?_)
  clear hS; intro g1 w2 hS
  refine wl rfl (obox [.bool b2, .slice q m d] hS rfl rfl (ev (v := .agg #[.bool b2, .slice q m d]) rfl rfl) rfl ?_)
  clear hS; intro g3 w4 hS
  refine wl rfl (oassign (v := .bool false) rfl rfl (evc (v := .bool false)) ?_)
  refine wnil ?_
  refine thenN ?_
  refine wseq ?_
  refine wreg ?_
  refine wl rfl (oload (vs := [.bool b, .slice p n c]) aggZ hS 1 rfl rfl (ev rfl rfl) rfl rfl rfl ?_)
  refine wl rfl (oload (vs := [.bool b2, .slice q m d]) aggZ hS 0 rfl rfl (ev rfl rfl) rfl rfl rfl ?_)
  have h0 : y ≠ 0 := by rw [← hey]; exact hy9
  have h5 : x.tmod y ≠ 0 := by rw [← hex, ← hey]; exact h9
  obtain ⟨z1, hz1⟩ : ∃ z : Int, Hid (x / y = z) := ⟨_, rfl⟩
  have hk1 : Wd z1 1048576 := Wd.ediv hzx.wd hz1
  obtain ⟨z2, hz2⟩ : ∃ z : Int, Hid (x % y = z) := ⟨_, rfl⟩
  have hk2 : Wd z2 1048576 := Wd.emod hzy.wd (h0) hz2
  refine wl rfl (ocall rfl rfl Try.call32 rfl (wzeuclid ((hzx.at hS).mono (by omega)) ((hzy.at hS).mono (by omega)) (h0) hz1 hz2) (args2 (ev rfl rfl) (ev rfl rfl)) ?_)
  rintro _ w5 ⟨_, _, rfl, ⟨p1, n1, c1, p2, n2, c2, rfl, rfl⟩, hN⟩
  refine ⟨_, rfl, ?_⟩
  replace hS := hS.news hN; clear hN
  refine wl rfl (omove (v := .tuple #[.agg #[.bool (ng z1), .slice p1 n1 c1], .agg #[.bool (ng z2), .slice p2 n2 c2], .int .i64 0]) rfl rfl (ev (v := .tuple #[.agg #[.bool (ng z1), .slice p1 n1 c1], .agg #[.bool (ng z2), .slice p2 n2 c2], .int .i64 0]) rfl rfl) ?_)
  refine wl rfl (oextract (vs := [.agg #[.bool (ng z1), .slice p1 n1 c1], .agg #[.bool (ng z2), .slice p2 n2 c2], .int .i64 0]) (v := .agg #[.bool (ng z1), .slice p1 n1 c1]) rfl rfl (ev (v := .tuple #[.agg #[.bool (ng z1), .slice p1 n1 c1], .agg #[.bool (ng z2), .slice p2 n2 c2], .int .i64 0]) rfl rfl) rfl ?_)
  refine wl rfl (oextract (vs := [.agg #[.bool (ng z1), .slice p1 n1 c1], .agg #[.bool (ng z2), .slice p2 n2 c2], .int .i64 0]) (v := .agg #[.bool (ng z2), .slice p2 n2 c2]) rfl rfl (ev (v := .tuple #[.agg #[.bool (ng z1), .slice p1 n1 c1], .agg #[.bool (ng z2), .slice p2 n2 c2], .int .i64 0]) rfl rfl) rfl ?_)
  refine wl rfl (oextract (vs := [.agg #[.bool (ng z1), .slice p1 n1 c1], .agg #[.bool (ng z2), .slice p2 n2 c2], .int .i64 0]) (v := .int .i64 0) rfl rfl (ev (v := .tuple #[.agg #[.bool (ng z1), .slice p1 n1 c1], .agg #[.bool (ng z2), .slice p2 n2 c2], .int .i64 0]) rfl rfl) rfl ?_)
  refine wl rfl (oalloc [.bool false, .slice none 0 0] hS rfl rfl Try.zeroValue25 rfl ?_)
  clear hS; intro g6 w7 hS
  refine wl rfl (oalloc [.bool false, .slice none 0 0] hS rfl rfl Try.zeroValue25 rfl ?_)
  clear hS; intro g8 w9 hS
  refine wl rfl (ostore [.bool (ng z1), .slice p1 n1 c1] [.bool (ng z1), .slice p1 n1 c1] Try.sizeOf25 hS 1 rfl rfl (ev rfl rfl) (ev (v := .agg #[.bool (ng z1), .slice p1 n1 c1]) rfl rfl) rfl rfl rfl rfl rfl rfl ?_)
  clear hS; intro w10 hS
  refine wl rfl (ostore [.bool (ng z2), .slice p2 n2 c2] [.bool (ng z2), .slice p2 n2 c2] Try.sizeOf25 hS 0 rfl rfl (ev rfl rfl) (ev (v := .agg #[.bool (ng z2), .slice p2 n2 c2]) rfl rfl) rfl rfl rfl rfl rfl rfl ?_)
  clear hS; intro w11 hS
  refine wl rfl (oassign (v := .int .i64 0) rfl rfl (ev (v := .int .i64 0) rfl rfl) ?_)
  refine wnil ?_
  refine thenN ?_
  refine wseq ?_
  refine wreg ?_
  refine wl rfl (oload (vs := [.bool b, .slice p n c]) aggZ hS 5 rfl rfl (ev rfl rfl) rfl rfl rfl ?_)
  refine wl rfl (oload (vs := [.bool b2, .slice q m d]) aggZ hS 4 rfl rfl (ev rfl rfl) rfl rfl rfl ?_)
  obtain ⟨z3, hz3⟩ : ∃ z : Int, Hid (Int.tdiv x y = z) := ⟨_, rfl⟩
  have hk3 : Wd z3 1048576 := Wd.tdiv hzx.wd hz3
  obtain ⟨z4, hz4⟩ : ∃ z : Int, Hid (Int.tmod x y = z) := ⟨_, rfl⟩
  have hk4 : Wd z4 1048576 := Wd.tmod hzx.wd hz4
  refine wl rfl (ocall rfl rfl Try.call33 rfl (wztrunc ((hzx.at hS).mono (by omega)) ((hzy.at hS).mono (by omega)) (h0) hz3 hz4) (args2 (ev rfl rfl) (ev rfl rfl)) ?_)
  rintro _ w12 ⟨_, _, rfl, ⟨p3, n3, c3, p4, n4, c4, rfl, rfl⟩, hN⟩
  refine ⟨_, rfl, ?_⟩
  replace hS := hS.news hN; clear hN
  refine wl rfl (omove (v := .tuple #[.agg #[.bool (ng z3), .slice p3 n3 c3], .agg #[.bool (ng z4), .slice p4 n4 c4], .int .i64 0]) rfl rfl (ev (v := .tuple #[.agg #[.bool (ng z3), .slice p3 n3 c3], .agg #[.bool (ng z4), .slice p4 n4 c4], .int .i64 0]) rfl rfl) ?_)
  refine wl rfl (oextract (vs := [.agg #[.bool (ng z3), .slice p3 n3 c3], .agg #[.bool (ng z4), .slice p4 n4 c4], .int .i64 0]) (v := .agg #[.bool (ng z3), .slice p3 n3 c3]) rfl rfl (ev (v := .tuple #[.agg #[.bool (ng z3), .slice p3 n3 c3], .agg #[.bool (ng z4), .slice p4 n4 c4], .int .i64 0]) rfl rfl) rfl ?_)
  refine wl rfl (oextract (vs := [.agg #[.bool (ng z3), .slice p3 n3 c3], .agg #[.bool (ng z4), .slice p4 n4 c4], .int .i64 0]) (v := .agg #[.bool (ng z4), .slice p4 n4 c4]) rfl rfl (ev (v := .tuple #[.agg #[.bool (ng z3), .slice p3 n3 c3], .agg #[.bool (ng z4), .slice p4 n4 c4], .int .i64 0]) rfl rfl) rfl ?_)
  refine wl rfl (oextract (vs := [.agg #[.bool (ng z3), .slice p3 n3 c3], .agg #[.bool (ng z4), .slice p4 n4 c4], .int .i64 0]) (v := .int .i64 0) rfl rfl (ev (v := .tuple #[.agg #[.bool (ng z3), .slice p3 n3 c3], .agg #[.bool (ng z4), .slice p4 n4 c4], .int .i64 0]) rfl rfl) rfl ?_)
  refine wl rfl (oalloc [.bool false, .slice none 0 0] hS rfl rfl Try.zeroValue25 rfl ?_)
  clear hS; intro g13 w14 hS
  refine wl rfl (oalloc [.bool false, .slice none 0 0] hS rfl rfl Try.zeroValue25 rfl ?_)
  clear hS; intro g15 w16 hS
  refine wl rfl (ostore [.bool (ng z3), .slice p3 n3 c3] [.bool (ng z3), .slice p3 n3 c3] Try.sizeOf25 hS 1 rfl rfl (ev rfl rfl) (ev (v := .agg #[.bool (ng z3), .slice p3 n3 c3]) rfl rfl) rfl rfl rfl rfl rfl rfl ?_)
  clear hS; intro w17 hS
  refine wl rfl (ostore [.bool (ng z4), .slice p4 n4 c4] [.bool (ng z4), .slice p4 n4 c4] Try.sizeOf25 hS 0 rfl rfl (ev rfl rfl) (ev (v := .agg #[.bool (ng z4), .slice p4 n4 c4]) rfl rfl) rfl rfl rfl rfl rfl rfl ?_)
  clear hS; intro w18 hS
  refine wl rfl (oassign (v := .int .i64 0) rfl rfl (ev (v := .int .i64 0) rfl rfl) ?_)
  refine wnil ?_
  refine thenN ?_
  refine wseq ?_
  refine wreg ?_
  refine wl rfl (oload (vs := [.bool b, .slice p n c]) aggZ hS 9 rfl rfl (ev rfl rfl) rfl rfl rfl ?_)
  refine wl rfl (oload (vs := [.bool b2, .slice q m d]) aggZ hS 8 rfl rfl (ev rfl rfl) rfl rfl rfl ?_)
  have hk5 : Wd 0 2 := Wd.i64 (by omega) (by omega)
  refine wl rfl (ocall rfl rfl Try.call34 rfl (wzexactN ((hzx.at hS).mono (by omega)) ((hzy.at hS).mono (by omega)) (h0) (h5)) (args2 (ev rfl rfl) (ev rfl rfl)) ?_)
  rintro _ w19 ⟨_, _, rfl, ⟨p5, n5, c5, rfl, rfl⟩, hN⟩
  refine ⟨_, rfl, ?_⟩
  replace hS := hS.news hN; clear hN
  refine wl rfl (omove (v := .tuple #[.agg #[.bool (ng 0), .slice p5 n5 c5], .int .i64 30]) rfl rfl (ev (v := .tuple #[.agg #[.bool (ng 0), .slice p5 n5 c5], .int .i64 30]) rfl rfl) ?_)
  refine wl rfl (oextract (vs := [.agg #[.bool (ng 0), .slice p5 n5 c5], .int .i64 30]) (v := .agg #[.bool (ng 0), .slice p5 n5 c5]) rfl rfl (ev (v := .tuple #[.agg #[.bool (ng 0), .slice p5 n5 c5], .int .i64 30]) rfl rfl) rfl ?_)
  refine wl rfl (oextract (vs := [.agg #[.bool (ng 0), .slice p5 n5 c5], .int .i64 30]) (v := .int .i64 30) rfl rfl (ev (v := .tuple #[.agg #[.bool (ng 0), .slice p5 n5 c5], .int .i64 30]) rfl rfl) rfl ?_)
  refine wl rfl (oalloc [.bool false, .slice none 0 0] hS rfl rfl Try.zeroValue25 rfl ?_)
  clear hS; intro g20 w21 hS
  refine wl rfl (ostore [.bool (ng 0), .slice p5 n5 c5] [.bool (ng 0), .slice p5 n5 c5] Try.sizeOf25 hS 0 rfl rfl (ev rfl rfl) (ev (v := .agg #[.bool (ng 0), .slice p5 n5 c5]) rfl rfl) rfl rfl rfl rfl rfl rfl ?_)
  clear hS; intro w22 hS
  refine wl rfl (oassign (v := .int .i64 30) rfl rfl (ev (v := .int .i64 30) rfl rfl) ?_)
  refine wnil ?_
  refine thenN ?_
  refine wseq ?_
  refine wreg ?_
  refine wl rfl (oload (vs := [.bool b, .slice p n c]) aggZ hS 11 rfl rfl (ev rfl rfl) rfl rfl rfl ?_)
  refine wl rfl (oload (vs := [.bool b2, .slice q m d]) aggZ hS 10 rfl rfl (ev rfl rfl) rfl rfl rfl ?_)
  obtain ⟨z6, hz6⟩ : ∃ z : Int, Hid (nearZ x y = z) := ⟨_, rfl⟩
  have hk6 : Wd z6 1048577 := Wd.near hzx.wd hz6
  refine wl rfl (ocall rfl rfl Try.call35 rfl (wznear ((hzx.at hS).mono (by omega)) ((hzy.at hS).mono (by omega)) (h0) hz6) (args2 (ev rfl rfl) (ev rfl rfl)) ?_)
  rintro _ w23 ⟨_, _, rfl, ⟨p6, n6, c6, rfl, rfl⟩, hN⟩
  refine ⟨_, rfl, ?_⟩
  replace hS := hS.news hN; clear hN
  refine wl rfl (omove (v := .tuple #[.agg #[.bool (ng z6), .slice p6 n6 c6], .int .i64 0]) rfl rfl (ev (v := .tuple #[.agg #[.bool (ng z6), .slice p6 n6 c6], .int .i64 0]) rfl rfl) ?_)
  refine wl rfl (oextract (vs := [.agg #[.bool (ng z6), .slice p6 n6 c6], .int .i64 0]) (v := .agg #[.bool (ng z6), .slice p6 n6 c6]) rfl rfl (ev (v := .tuple #[.agg #[.bool (ng z6), .slice p6 n6 c6], .int .i64 0]) rfl rfl) rfl ?_)
  refine wl rfl (oextract (vs := [.agg #[.bool (ng z6), .slice p6 n6 c6], .int .i64 0]) (v := .int .i64 0) rfl rfl (ev (v := .tuple #[.agg #[.bool (ng z6), .slice p6 n6 c6], .int .i64 0]) rfl rfl) rfl ?_)
  refine wl rfl (oalloc [.bool false, .slice none 0 0] hS rfl rfl Try.zeroValue25 rfl ?_)
  clear hS; intro g24 w25 hS
  refine wl rfl (ostore [.bool (ng z6), .slice p6 n6 c6] [.bool (ng z6), .slice p6 n6 c6] Try.sizeOf25 hS 0 rfl rfl (ev rfl rfl) (ev (v := .agg #[.bool (ng z6), .slice p6 n6 c6]) rfl rfl) rfl rfl rfl rfl rfl rfl ?_)
  clear hS; intro w26 hS
  refine wl rfl (oassign (v := .int .i64 0) rfl rfl (ev (v := .int .i64 0) rfl rfl) ?_)
  refine wnil ?_
  refine thenN ?_
  refine wseq ?_
  refine wreg ?_
  refine wl rfl (oload (vs := [.bool b, .slice p n c]) aggZ hS 13 rfl rfl (ev rfl rfl) rfl rfl rfl ?_)
  refine wl rfl (omove (v := .int .u32 ((PP : Int))) rfl rfl (ev (v := .int .u32 ((PP : Int))) rfl rfl) ?_)
  refine wl rfl (ocall rfl rfl Try.call36 rfl (wzmod0 ((hzx.at hS).mono (by omega)) (hP) (hP0)) (args2 (ev rfl rfl) (ev rfl rfl)) ?_)
  rintro _ w27 ⟨_, _, rfl, ⟨rfl, rfl⟩, hN⟩
  refine ⟨_, rfl, ?_⟩
  replace hS := hS.news hN; clear hN
  refine wl rfl (omove (v := .tuple #[.int .u32 0, .int .i64 1]) rfl rfl (ev (v := .tuple #[.int .u32 0, .int .i64 1]) rfl rfl) ?_)
  refine wl rfl (oextract (vs := [.int .u32 0, .int .i64 1]) (v := .int .u32 0) rfl rfl (ev (v := .tuple #[.int .u32 0, .int .i64 1]) rfl rfl) rfl ?_)
  refine wl rfl (oextract (vs := [.int .u32 0, .int .i64 1]) (v := .int .i64 1) rfl rfl (ev (v := .tuple #[.int .u32 0, .int .i64 1]) rfl rfl) rfl ?_)
  refine wl rfl (oassign (v := .int .u32 0) rfl rfl (ev (v := .int .u32 0) rfl rfl) ?_)
  refine wl rfl (oassign (v := .int .i64 1) rfl rfl (ev (v := .int .i64 1) rfl rfl) ?_)
  refine wnil ?_
  refine thenN ?_
  refine wseq ?_
  refine wseq ?_
  refine wreg ?_
  refine wl rfl (omove (v := .int .u32 ((PP : Int))) rfl rfl (ev (v := .int .u32 ((PP : Int))) rfl rfl) ?_)
  refine wl rfl (obin (u := .int .u32 ((PP : Int))) (v := .int .u32 0) (z := .bool true) rfl rfl (ev (v := .int .u32 ((PP : Int))) rfl rfl) (evc (v := .int .u32 0)) (bin_eql (eqT (by omega))) ?_)
  refine wl rfl (omove (v := .bool true) rfl rfl (ev (v := .bool true) rfl rfl) ?_)
  refine wlOn (e := 60) rfl rfl rfl rfl (omove (v := .int .i64 1) rfl rfl (ev (v := .int .i64 1) rfl rfl) ?_)
  refine wlOn (e := 60) rfl rfl rfl rfl (obin (u := .int .i64 1) (v := .int .i64 1) (z := .bool false) rfl rfl (ev (v := .int .i64 1) rfl rfl) (evc (v := .int .i64 1)) (bin_neq (by decide)) ?_)
  refine wlOn (e := 60) rfl rfl rfl rfl (omove (v := .bool false) rfl rfl (ev (v := .bool false) rfl rfl) ?_)
  refine wlOn (e := 63) rfl rfl rfl rfl (omove (v := .int .u32 0) rfl rfl (ev (v := .int .u32 0) rfl rfl) ?_)
  refine wlOn (e := 63) rfl rfl rfl rfl (obin (u := .int .u32 0) (v := .int .u32 0) (z := .bool false) rfl rfl (ev (v := .int .u32 0) rfl rfl) (evc (v := .int .u32 0)) (bin_neq (by decide)) ?_)
  refine wlOn (e := 60) rfl rfl rfl rfl (opick (b := false) (v := .bool false) rfl rfl (ev (v := .bool false) rfl rfl) (ev (v := .bool false) rfl rfl) ?_)
  refine wl rfl (opick (b := true) (v := .bool false) rfl rfl (ev (v := .bool true) rfl rfl) (ev (v := .bool false) rfl rfl) ?_)
  refine wl rfl (omove (v := .bool false) rfl rfl (ev (v := .bool false) rfl rfl) ?_)
  refine wlOn (e := 68) rfl rfl rfl rfl (omove (v := .int .u32 ((PP : Int))) rfl rfl (ev (v := .int .u32 ((PP : Int))) rfl rfl) ?_)
  refine wlOn (e := 68) rfl rfl rfl rfl (obin (u := .int .u32 ((PP : Int))) (v := .int .u32 0) (z := .bool false) rfl rfl (ev (v := .int .u32 ((PP : Int))) rfl rfl) (evc (v := .int .u32 0)) (bin_neq (neF (by omega))) ?_)
  refine wlOn (e := 68) rfl rfl rfl rfl (omove (v := .bool false) rfl rfl (ev (v := .bool false) rfl rfl) ?_)
  refine wlOff (e := 71) (d := 72) (b' := false) rfl rfl rfl rfl rfl rfl ?_
  refine wlOff (e := 71) (d := 73) (b' := false) rfl rfl rfl rfl rfl rfl ?_
  refine wlOff (e := 71) (d := 74) (b' := false) rfl rfl rfl rfl rfl rfl ?_
  refine wlUndef (e := 74) (d := 75) rfl rfl rfl rfl rfl ?_
  refine wlUndef (e := 74) (d := 76) rfl rfl rfl rfl rfl ?_
  refine wlUndef (e := 74) (d := 77) rfl rfl rfl rfl rfl ?_
  refine wlUndef (e := 74) (d := 78) rfl rfl rfl rfl rfl ?_
  refine wlUndef (e := 74) (d := 79) rfl rfl rfl rfl rfl ?_
  refine wlOff (e := 71) (d := 80) (b' := false) rfl rfl rfl rfl rfl rfl ?_
  refine wlOn (e := 68) rfl rfl rfl rfl (opick (b := false) (v := .bool false) rfl rfl (ev (v := .bool false) rfl rfl) (evc (v := .bool false)) ?_)
  refine wl rfl (opick (b := false) (v := .bool false) rfl rfl (ev (v := .bool false) rfl rfl) (ev (v := .bool false) rfl rfl) ?_)
  refine wnil ?_
  refine thenN ?_
  refine wF (ev (v := .bool false) rfl rfl) ?_
  refine wskip ?_
  refine thenN ?_
  refine wseq ?_
  refine wseq ?_
  refine wreg ?_
  refine wl rfl (oload (vs := [.bool b2, .slice q m d]) aggZ hS 12 rfl rfl (ev rfl rfl) rfl rfl rfl ?_)
  obtain ⟨s7, hs7⟩ : ∃ z : Int, Hid ((y : Int).sign = z) := ⟨_, rfl⟩
  refine wl rfl (ocall rfl rfl Try.call26 rfl (wqsign ((hzy.at hS).mono (by omega)) hs7) (args1 (ev rfl rfl)) ?_)
  rintro _ w28 ⟨_, _, rfl, ⟨rfl, rfl⟩, hN⟩
  refine ⟨_, rfl, ?_⟩
  replace hS := hS.news hN; clear hN
  refine wl rfl (obin (u := .int .i64 s7) (v := .int .i64 0) (z := .bool false) rfl rfl (ev (v := .int .i64 s7) rfl rfl) (evc (v := .int .i64 0)) (bin_eql (sign_ne hs7 h0)) ?_)
  refine wnil ?_
  refine thenN ?_
  refine wF (ev (v := .bool false) rfl rfl) ?_
  refine wskip ?_
  refine thenN ?_
  refine wseq ?_
  refine wreg ?_
  refine wl rfl (oload (vs := [.bool b, .slice p n c]) aggZ hS 13 rfl rfl (ev rfl rfl) rfl rfl rfl ?_)
  refine wl rfl (oload (vs := [.bool b2, .slice q m d]) aggZ hS 12 rfl rfl (ev rfl rfl) rfl rfl rfl ?_)
  obtain ⟨z8, hz8⟩ : ∃ z : Int, Hid (x / y = z) := ⟨_, rfl⟩
  have hk8 : Wd z8 1048576 := Wd.ediv hzx.wd hz8
  obtain ⟨z9, hz9⟩ : ∃ z : Int, Hid (x % y = z) := ⟨_, rfl⟩
  have hk9 : Wd z9 1048576 := Wd.emod hzy.wd (h0) hz9
  refine wl rfl (ocall rfl rfl Try.call38 rfl (wqeuclid ((hzx.at hS).mono (by omega)) ((hzy.at hS).mono (by omega)) (h0) hz8 hz9) (args2 (ev rfl rfl) (ev rfl rfl)) ?_)
  rintro _ w29 ⟨_, _, rfl, ⟨p8, n8, c8, p9, n9, c9, rfl, rfl⟩, hN⟩
  refine ⟨_, rfl, ?_⟩
  replace hS := hS.news hN; clear hN
  refine wl rfl (omove (v := .tuple #[.agg #[.bool (ng z8), .slice p8 n8 c8], .agg #[.bool (ng z9), .slice p9 n9 c9]]) rfl rfl (ev (v := .tuple #[.agg #[.bool (ng z8), .slice p8 n8 c8], .agg #[.bool (ng z9), .slice p9 n9 c9]]) rfl rfl) ?_)
  refine wl rfl (oextract (vs := [.agg #[.bool (ng z8), .slice p8 n8 c8], .agg #[.bool (ng z9), .slice p9 n9 c9]]) (v := .agg #[.bool (ng z8), .slice p8 n8 c8]) rfl rfl (ev (v := .tuple #[.agg #[.bool (ng z8), .slice p8 n8 c8], .agg #[.bool (ng z9), .slice p9 n9 c9]]) rfl rfl) rfl ?_)
  refine wl rfl (oextract (vs := [.agg #[.bool (ng z8), .slice p8 n8 c8], .agg #[.bool (ng z9), .slice p9 n9 c9]]) (v := .agg #[.bool (ng z9), .slice p9 n9 c9]) rfl rfl (ev (v := .tuple #[.agg #[.bool (ng z8), .slice p8 n8 c8], .agg #[.bool (ng z9), .slice p9 n9 c9]]) rfl rfl) rfl ?_)
  refine wl rfl (oalloc [.bool false, .slice none 0 0] hS rfl rfl Try.zeroValue25 rfl ?_)
  clear hS; intro g30 w31 hS
  refine wl rfl (oalloc [.bool false, .slice none 0 0] hS rfl rfl Try.zeroValue25 rfl ?_)
  clear hS; intro g32 w33 hS
  refine wl rfl (ostore [.bool (ng z8), .slice p8 n8 c8] [.bool (ng z8), .slice p8 n8 c8] Try.sizeOf25 hS 1 rfl rfl (ev rfl rfl) (ev (v := .agg #[.bool (ng z8), .slice p8 n8 c8]) rfl rfl) rfl rfl rfl rfl rfl rfl ?_)
  clear hS; intro w34 hS
  refine wl rfl (ostore [.bool (ng z9), .slice p9 n9 c9] [.bool (ng z9), .slice p9 n9 c9] Try.sizeOf25 hS 0 rfl rfl (ev rfl rfl) (ev (v := .agg #[.bool (ng z9), .slice p9 n9 c9]) rfl rfl) rfl rfl rfl rfl rfl rfl ?_)
  clear hS; intro w35 hS
  refine wnil ?_
  refine thenN ?_
  refine wseq ?_
  refine wreg ?_
  refine wl rfl (oload (vs := [.bool b, .slice p n c]) aggZ hS 17 rfl rfl (ev rfl rfl) rfl rfl rfl ?_)
  refine wl rfl (oload (vs := [.bool b2, .slice q m d]) aggZ hS 16 rfl rfl (ev rfl rfl) rfl rfl rfl ?_)
  obtain ⟨z10, hz10⟩ : ∃ z : Int, Hid (Int.tdiv x y = z) := ⟨_, rfl⟩
  have hk10 : Wd z10 1048576 := Wd.tdiv hzx.wd hz10
  obtain ⟨z11, hz11⟩ : ∃ z : Int, Hid (Int.tmod x y = z) := ⟨_, rfl⟩
  have hk11 : Wd z11 1048576 := Wd.tmod hzx.wd hz11
  refine wl rfl (ocall rfl rfl Try.call39 rfl (wqtrunc ((hzx.at hS).mono (by omega)) ((hzy.at hS).mono (by omega)) (h0) hz10 hz11) (args2 (ev rfl rfl) (ev rfl rfl)) ?_)
  rintro _ w36 ⟨_, _, rfl, ⟨p10, n10, c10, p11, n11, c11, rfl, rfl⟩, hN⟩
  refine ⟨_, rfl, ?_⟩
  replace hS := hS.news hN; clear hN
  refine wl rfl (omove (v := .tuple #[.agg #[.bool (ng z10), .slice p10 n10 c10], .agg #[.bool (ng z11), .slice p11 n11 c11]]) rfl rfl (ev (v := .tuple #[.agg #[.bool (ng z10), .slice p10 n10 c10], .agg #[.bool (ng z11), .slice p11 n11 c11]]) rfl rfl) ?_)
  refine wl rfl (oextract (vs := [.agg #[.bool (ng z10), .slice p10 n10 c10], .agg #[.bool (ng z11), .slice p11 n11 c11]]) (v := .agg #[.bool (ng z10), .slice p10 n10 c10]) rfl rfl (ev (v := .tuple #[.agg #[.bool (ng z10), .slice p10 n10 c10], .agg #[.bool (ng z11), .slice p11 n11 c11]]) rfl rfl) rfl ?_)
  refine wl rfl (oextract (vs := [.agg #[.bool (ng z10), .slice p10 n10 c10], .agg #[.bool (ng z11), .slice p11 n11 c11]]) (v := .agg #[.bool (ng z11), .slice p11 n11 c11]) rfl rfl (ev (v := .tuple #[.agg #[.bool (ng z10), .slice p10 n10 c10], .agg #[.bool (ng z11), .slice p11 n11 c11]]) rfl rfl) rfl ?_)
  refine wl rfl (oalloc [.bool false, .slice none 0 0] hS rfl rfl Try.zeroValue25 rfl ?_)
  clear hS; intro g37 w38 hS
  refine wl rfl (oalloc [.bool false, .slice none 0 0] hS rfl rfl Try.zeroValue25 rfl ?_)
  clear hS; intro g39 w40 hS
  refine wl rfl (ostore [.bool (ng z10), .slice p10 n10 c10] [.bool (ng z10), .slice p10 n10 c10] Try.sizeOf25 hS 1 rfl rfl (ev rfl rfl) (ev (v := .agg #[.bool (ng z10), .slice p10 n10 c10]) rfl rfl) rfl rfl rfl rfl rfl rfl ?_)
  clear hS; intro w41 hS
  refine wl rfl (ostore [.bool (ng z11), .slice p11 n11 c11] [.bool (ng z11), .slice p11 n11 c11] Try.sizeOf25 hS 0 rfl rfl (ev rfl rfl) (ev (v := .agg #[.bool (ng z11), .slice p11 n11 c11]) rfl rfl) rfl rfl rfl rfl rfl rfl ?_)
  clear hS; intro w42 hS
  refine wnil ?_
  refine thenN ?_
  refine wseq ?_
  refine wreg ?_
  refine wl rfl (oload (vs := [.bool b, .slice p n c]) aggZ hS 21 rfl rfl (ev rfl rfl) rfl rfl rfl ?_)
  refine wl rfl (oload (vs := [.bool b2, .slice q m d]) aggZ hS 20 rfl rfl (ev rfl rfl) rfl rfl rfl ?_)
  have hk12 : Wd 0 2 := Wd.i64 (by omega) (by omega)
  refine wl rfl (ocall rfl rfl Try.call40 rfl (wqexactN ((hzx.at hS).mono (by omega)) ((hzy.at hS).mono (by omega)) (h0) (h5)) (args2 (ev rfl rfl) (ev rfl rfl)) ?_)
  rintro _ w43 ⟨_, _, rfl, ⟨p12, n12, c12, rfl, rfl⟩, hN⟩
  refine ⟨_, rfl, ?_⟩
  replace hS := hS.news hN; clear hN
  refine wl rfl (omove (v := .tuple #[.agg #[.bool (ng 0), .slice p12 n12 c12], .bool false]) rfl rfl (ev (v := .tuple #[.agg #[.bool (ng 0), .slice p12 n12 c12], .bool false]) rfl rfl) ?_)
  refine wl rfl (oextract (vs := [.agg #[.bool (ng 0), .slice p12 n12 c12], .bool false]) (v := .agg #[.bool (ng 0), .slice p12 n12 c12]) rfl rfl (ev (v := .tuple #[.agg #[.bool (ng 0), .slice p12 n12 c12], .bool false]) rfl rfl) rfl ?_)
  refine wl rfl (oextract (vs := [.agg #[.bool (ng 0), .slice p12 n12 c12], .bool false]) (v := .bool false) rfl rfl (ev (v := .tuple #[.agg #[.bool (ng 0), .slice p12 n12 c12], .bool false]) rfl rfl) rfl ?_)
  refine wl rfl (oalloc [.bool false, .slice none 0 0] hS rfl rfl Try.zeroValue25 rfl ?_)
  clear hS; intro g44 w45 hS
  refine wl rfl (ostore [.bool (ng 0), .slice p12 n12 c12] [.bool (ng 0), .slice p12 n12 c12] Try.sizeOf25 hS 0 rfl rfl (ev rfl rfl) (ev (v := .agg #[.bool (ng 0), .slice p12 n12 c12]) rfl rfl) rfl rfl rfl rfl rfl rfl ?_)
  clear hS; intro w46 hS
  refine wl rfl (oassign (v := .bool false) rfl rfl (ev (v := .bool false) rfl rfl) ?_)
  refine wnil ?_
  refine thenN ?_
  refine wseq ?_
  refine wseq ?_
  obtain ⟨z13, hz13⟩ : ∃ z : Int, Hid (nearZ x y = z) := ⟨_, rfl⟩
  have hk13 : Wd z13 1048577 := Wd.near hzx.wd hz13
  refine wstage 42 [152, 153, 154, 155, 156, 157, 158, 159, 160, 161, 162, 163, 164, 165, 166, 167, 168, 169, 170, 171, 172, 173, 174, 175, 176, 177, 178, 179, 180, 181, 182, 183, 184, 185, 186, 187, 188, 189, 190, 191, 192, 193] [[], [0], [1, 0], [2, 0, 1], [2, 3, 0, 1], [2, 4, 0, 1, 3], [5, 0, 1, 2, 3, 4], [6, 0, 1, 2, 3, 4, 5], [6, 7, 0, 1, 2, 3, 4, 5], [6, 8, 0, 1, 2, 3, 4, 5, 7], [9, 0, 1, 2, 3, 4, 5, 6, 7, 8], [10, 0, 1, 2, 3, 4, 5, 6, 7, 8, 9], [10, 0, 1, 2, 3, 4, 5, 6, 7, 8, 9], [10, 11, 12, 0, 1, 2, 3, 4, 5, 6, 7, 8, 9], [10, 13, 0, 1, 2, 3, 4, 5, 6, 7, 8, 9, 11, 12], [10, 14, 0, 1, 2, 3, 4, 5, 6, 7, 8, 9, 11, 12, 13], [15, 0, 1, 2, 3, 4, 5, 6, 7, 8, 9, 10, 11, 12, 13, 14], [16, 0, 1, 2, 3, 4, 5, 6, 7, 8, 9, 10, 11, 12, 13, 14, 15], [16, 0, 1, 2, 3, 4, 5, 6, 7, 8, 9, 10, 11, 12, 13, 14, 15], [16, 17, 18, 0, 1, 2, 3, 4, 5, 6, 7, 8, 9, 10, 11, 12, 13, 14, 15], [16, 19, 0, 1, 2, 3, 4, 5, 6, 7, 8, 9, 10, 11, 12, 13, 14, 15, 17, 18], [16, 20, 0, 1, 2, 3, 4, 5, 6, 7, 8, 9, 10, 11, 12, 13, 14, 15, 17, 18, 19], [21, 0, 1, 2, 3, 4, 5, 6, 7, 8, 9, 10, 11, 12, 13, 14, 15, 16, 17, 18, 19, 20], [22, 0, 1, 2, 3, 4, 5, 6, 7, 8, 9, 10, 11, 12, 13, 14, 15, 16, 17, 18, 19, 20, 21], [22, 0, 1, 2, 3, 4, 5, 6, 7, 8, 9, 10, 11, 12, 13, 14, 15, 16, 17, 18, 19, 20, 21], [22, 23, 24, 0, 1, 2, 3, 4, 5, 6, 7, 8, 9, 10, 11, 12, 13, 14, 15, 16, 17, 18, 19, 20, 21], [22, 25, 0, 1, 2, 3, 4, 5, 6, 7, 8, 9, 10, 11, 12, 13, 14, 15, 16, 17, 18, 19, 20, 21, 23, 24], [22, 26, 0, 1, 2, 3, 4, 5, 6, 7, 8, 9, 10, 11, 12, 13, 14, 15, 16, 17, 18, 19, 20, 21, 23, 24, 25], [27, 0, 1, 2, 3, 4, 5, 6, 7, 8, 9, 10, 11, 12, 13, 14, 15, 16, 17, 18, 19, 20, 21, 22, 23, 24, 25, 26], [28, 0, 1, 2, 3, 4, 5, 6, 7, 8, 9, 10, 11, 12, 13, 14, 15, 16, 17, 18, 19, 20, 21, 22, 23, 24, 25, 26, 27], [28, 0, 1, 2, 3, 4, 5, 6, 7, 8, 9, 10, 11, 12, 13, 14, 15, 16, 17, 18, 19, 20, 21, 22, 23, 24, 25, 26, 27], [28, 29, 30, 0, 1, 2, 3, 4, 5, 6, 7, 8, 9, 10, 11, 12, 13, 14, 15, 16, 17, 18, 19, 20, 21, 22, 23, 24, 25, 26, 27], [28, 31, 0, 1, 2, 3, 4, 5, 6, 7, 8, 9, 10, 11, 12, 13, 14, 15, 16, 17, 18, 19, 20, 21, 22, 23, 24, 25, 26, 27, 29, 30], [28, 32, 0, 1, 2, 3, 4, 5, 6, 7, 8, 9, 10, 11, 12, 13, 14, 15, 16, 17, 18, 19, 20, 21, 22, 23, 24, 25, 26, 27, 29, 30, 31], [33, 0, 1, 2, 3, 4, 5, 6, 7, 8, 9, 10, 11, 12, 13, 14, 15, 16, 17, 18, 19, 20, 21, 22, 23, 24, 25, 26, 27, 28, 29, 30, 31, 32], [34, 0, 1, 2, 3, 4, 5, 6, 7, 8, 9, 10, 11, 12, 13, 14, 15, 16, 17, 18, 19, 20, 21, 22, 23, 24, 25, 26, 27, 28, 29, 30, 31, 32, 33], [34, 0, 1, 2, 3, 4, 5, 6, 7, 8, 9, 10, 11, 12, 13, 14, 15, 16, 17, 18, 19, 20, 21, 22, 23, 24, 25, 26, 27, 28, 29, 30, 31, 32, 33], [34, 0, 1, 2, 3, 4, 5, 6, 7, 8, 9, 10, 11, 12, 13, 14, 15, 16, 17, 18, 19, 20, 21, 22, 23, 24, 25, 26, 27, 28, 29, 30, 31, 32, 33], [34, 36, 37, 0, 1, 2, 3, 4, 5, 6, 7, 8, 9, 10, 11, 12, 13, 14, 15, 16, 17, 18, 19, 20, 21, 22, 23, 24, 25, 26, 27, 28, 29, 30, 31, 32, 33], [34, 35, 38, 0, 1, 2, 3, 4, 5, 6, 7, 8, 9, 10, 11, 12, 13, 14, 15, 16, 17, 18, 19, 20, 21, 22, 23, 24, 25, 26, 27, 28, 29, 30, 31, 32, 33, 36, 37], [34, 39, 0, 1, 2, 3, 4, 5, 6, 7, 8, 9, 10, 11, 12, 13, 14, 15, 16, 17, 18, 19, 20, 21, 22, 23, 24, 25, 26, 27, 28, 29, 30, 31, 32, 33, 35, 36, 37, 38], [34, 40, 0, 1, 2, 3, 4, 5, 6, 7, 8, 9, 10, 11, 12, 13, 14, 15, 16, 17, 18, 19, 20, 21, 22, 23, 24, 25, 26, 27, 28, 29, 30, 31, 32, 33, 35, 36, 37, 38, 39]] [[], [], [], [], [], [], [], [], [], [], [], [], [], [], [], [], [], [], [], [], [], [], [], [], [], [], [], [], [], [], [], [], [], [], [], [], [], [], [], [], [], []] [] (fun i => ([fun _ => Is (.int .i64 0), fun _ => Is (.bool false), fun _ => Is (.bool false), fun _ => Is (.int .i64 0), fun _ => Is (.bool false), fun _ => Is (.bool false), fun _ => Is (.bool false), fun _ => Is (.int .i64 0), fun _ => Is (.bool false), fun _ => Is (.bool false), fun _ => Is (.bool false), fun _ => Is (.agg #[.bool (ng z1), .slice p1 n1 c1]), fun _ => Is (.agg #[.bool (ng z8), .slice p8 n8 c8]), fun _ => Is (.bool true), fun _ => Is (.bool false), fun _ => Is (.bool false), fun _ => Is (.bool false), fun _ => Is (.agg #[.bool (ng z2), .slice p2 n2 c2]), fun _ => Is (.agg #[.bool (ng z9), .slice p9 n9 c9]), fun _ => Is (.bool true), fun _ => Is (.bool false), fun _ => Is (.bool false), fun _ => Is (.bool false), fun _ => Is (.agg #[.bool (ng z3), .slice p3 n3 c3]), fun _ => Is (.agg #[.bool (ng z10), .slice p10 n10 c10]), fun _ => Is (.bool true), fun _ => Is (.bool false), fun _ => Is (.bool false), fun _ => Is (.bool false), fun _ => Is (.agg #[.bool (ng z4), .slice p4 n4 c4]), fun _ => Is (.agg #[.bool (ng z11), .slice p11 n11 c11]), fun _ => Is (.bool true), fun _ => Is (.bool false), fun _ => Is (.bool false), fun _ => Is (.bool false), fun _ => Is (.agg #[.bool (ng z6), .slice p6 n6 c6]), fun _ => Is (.agg #[.bool b, .slice p n c]), fun _ => Is (.agg #[.bool b2, .slice q m d]), fun _ => Zt z13, fun _ => Is (.bool true), fun _ => Is (.bool false), fun _ => Is (.bool false)] : List (List Value → Tell)).getD i (fun _ _ _ => False)) (fun d _ _ _ _ h => (by cases d <;> exact h)) (by kernel_rfl) (by kernel_rfl) (by kernel_rfl) hS ?_ ?_
  ·
    refine stepsCons rfl ?_ ?_
    · intro Q f' w' ρ S ho hT hS
      exact .inl ⟨want_none rfl, omove (v := .int .i64 0) rfl rfl (ev (v := .int .i64 0) rfl (ho 9 rfl)) ⟨_, _, rfl, isI, New.same _⟩⟩
    refine stepsCons rfl ?_ ?_
    · intro Q f' w' ρ S ho hT hS
      obtain ⟨hv0, hr0⟩ := (hT 0 152 rfl rfl : (Is (.int .i64 0)) (f' 152) (ρ 0))
      obtain hS := hS.flat1 hr0
      exact .inl ⟨want_none rfl, obin (u := .int .i64 0) (v := .int .i64 0) (z := .bool false) rfl rfl (ev (v := .int .i64 0) rfl hv0) (evc (v := .int .i64 0)) (bin_neq (by decide)) ⟨_, _, rfl, isI, New.same _⟩⟩
    refine stepsCons rfl ?_ ?_
    · intro Q f' w' ρ S ho hT hS
      obtain ⟨hv1, hr1⟩ := (hT 1 153 rfl rfl : (Is (.bool false)) (f' 153) (ρ 1))
      obtain hS := hS.flat1 hr1
      exact .inl ⟨want_none rfl, omove (v := .bool false) rfl rfl (ev (v := .bool false) rfl hv1) ⟨_, _, rfl, isI, New.same _⟩⟩
    refine stepsCons rfl ?_ ?_
    · intro Q f' w' ρ S ho hT hS
      obtain ⟨hv2, hr2⟩ := (hT 2 154 rfl rfl : (Is (.bool false)) (f' 154) (ρ 2))
      obtain hS := hS.flat1 hr2
      exact .inl ⟨want_on (e := 154) rfl rfl rfl hv2, omove (v := .int .i64 0) rfl rfl (ev (v := .int .i64 0) rfl (ho 12 rfl)) ⟨_, _, rfl, isI, New.same _⟩⟩
    refine stepsCons rfl ?_ ?_
    · intro Q f' w' ρ S ho hT hS
      obtain ⟨hv2, hr2⟩ := (hT 2 154 rfl rfl : (Is (.bool false)) (f' 154) (ρ 2))
      obtain ⟨hv3, hr3⟩ := (hT 3 155 rfl rfl : (Is (.int .i64 0)) (f' 155) (ρ 3))
      obtain hS := hS.flat2 hr2 hr3
      exact .inl ⟨want_on (e := 154) rfl rfl rfl hv2, obin (u := .int .i64 0) (v := .int .i64 0) (z := .bool false) rfl rfl (ev (v := .int .i64 0) rfl hv3) (evc (v := .int .i64 0)) (bin_neq (by decide)) ⟨_, _, rfl, isI, New.same _⟩⟩
    refine stepsCons rfl ?_ ?_
    · intro Q f' w' ρ S ho hT hS
      obtain ⟨hv2, hr2⟩ := (hT 2 154 rfl rfl : (Is (.bool false)) (f' 154) (ρ 2))
      obtain ⟨hv4, hr4⟩ := (hT 4 156 rfl rfl : (Is (.bool false)) (f' 156) (ρ 4))
      obtain hS := hS.flat2 hr2 hr4
      exact .inl ⟨want_none rfl, opick (b := false) (v := .bool false) rfl rfl (ev (v := .bool false) rfl hv2) (ev (v := .bool false) rfl hv4) ⟨_, _, rfl, isI, New.same _⟩⟩
    refine stepsCons rfl ?_ ?_
    · intro Q f' w' ρ S ho hT hS
      obtain ⟨hv5, hr5⟩ := (hT 5 157 rfl rfl : (Is (.bool false)) (f' 157) (ρ 5))
      obtain hS := hS.flat1 hr5
      exact .inl ⟨want_none rfl, omove (v := .bool false) rfl rfl (ev (v := .bool false) rfl hv5) ⟨_, _, rfl, isI, New.same _⟩⟩
    refine stepsCons rfl ?_ ?_
    · intro Q f' w' ρ S ho hT hS
      obtain ⟨hv6, hr6⟩ := (hT 6 158 rfl rfl : (Is (.bool false)) (f' 158) (ρ 6))
      obtain hS := hS.flat1 hr6
      exact .inl ⟨want_on (e := 158) rfl rfl rfl hv6, omove (v := .int .i64 0) rfl rfl (ev (v := .int .i64 0) rfl (ho 16 rfl)) ⟨_, _, rfl, isI, New.same _⟩⟩
    refine stepsCons rfl ?_ ?_
    · intro Q f' w' ρ S ho hT hS
      obtain ⟨hv6, hr6⟩ := (hT 6 158 rfl rfl : (Is (.bool false)) (f' 158) (ρ 6))
      obtain ⟨hv7, hr7⟩ := (hT 7 159 rfl rfl : (Is (.int .i64 0)) (f' 159) (ρ 7))
      obtain hS := hS.flat2 hr6 hr7
      exact .inl ⟨want_on (e := 158) rfl rfl rfl hv6, obin (u := .int .i64 0) (v := .int .i64 0) (z := .bool false) rfl rfl (ev (v := .int .i64 0) rfl hv7) (evc (v := .int .i64 0)) (bin_neq (by decide)) ⟨_, _, rfl, isI, New.same _⟩⟩
    refine stepsCons rfl ?_ ?_
    · intro Q f' w' ρ S ho hT hS
      obtain ⟨hv6, hr6⟩ := (hT 6 158 rfl rfl : (Is (.bool false)) (f' 158) (ρ 6))
      obtain ⟨hv8, hr8⟩ := (hT 8 160 rfl rfl : (Is (.bool false)) (f' 160) (ρ 8))
      obtain hS := hS.flat2 hr6 hr8
      exact .inl ⟨want_none rfl, opick (b := false) (v := .bool false) rfl rfl (ev (v := .bool false) rfl hv6) (ev (v := .bool false) rfl hv8) ⟨_, _, rfl, isI, New.same _⟩⟩
    refine stepsCons rfl ?_ ?_
    · intro Q f' w' ρ S ho hT hS
      obtain ⟨hv9, hr9⟩ := (hT 9 161 rfl rfl : (Is (.bool false)) (f' 161) (ρ 9))
      obtain hS := hS.flat1 hr9
      exact .inl ⟨want_none rfl, omove (v := .bool false) rfl rfl (ev (v := .bool false) rfl hv9) ⟨_, _, rfl, isI, New.same _⟩⟩
    refine stepsCons rfl ?_ ?_
    · intro Q f' w' ρ S ho hT hS
      obtain ⟨hv10, hr10⟩ := (hT 10 162 rfl rfl : (Is (.bool false)) (f' 162) (ρ 10))
      obtain hS := hS.flat1 hr10
      exact .inl ⟨want_on (e := 162) rfl rfl rfl hv10, oload (vs := [.bool (ng z1), .slice p1 n1 c1]) aggZ hS 19 rfl rfl (ev rfl (ho 7 rfl)) rfl rfl rfl ⟨_, _, rfl, isI, New.same _⟩⟩
    refine stepsCons rfl ?_ ?_
    · intro Q f' w' ρ S ho hT hS
      obtain ⟨hv10, hr10⟩ := (hT 10 162 rfl rfl : (Is (.bool false)) (f' 162) (ρ 10))
      obtain hS := hS.flat1 hr10
      exact .inl ⟨want_on (e := 162) rfl rfl rfl hv10, oload (vs := [.bool (ng z8), .slice p8 n8 c8]) aggZ hS 7 rfl rfl (ev rfl (ho 20 rfl)) rfl rfl rfl ⟨_, _, rfl, isI, New.same _⟩⟩
    refine stepsCons rfl ?_ ?_
    · intro Q f' w' ρ S ho hT hS
      obtain ⟨hv10, hr10⟩ := (hT 10 162 rfl rfl : (Is (.bool false)) (f' 162) (ρ 10))
      obtain ⟨hv11, hr11⟩ := (hT 11 163 rfl rfl : (Is (.agg #[.bool (ng z1), .slice p1 n1 c1])) (f' 163) (ρ 11))
      obtain ⟨hv12, hr12⟩ := (hT 12 164 rfl rfl : (Is (.agg #[.bool (ng z8), .slice p8 n8 c8])) (f' 164) (ρ 12))
      obtain hS := hS.flat3 hr10 hr11 hr12
      refine .inl ⟨want_on (e := 162) rfl rfl rfl hv10, ocall rfl rfl Try.call13 rfl (wlsame (x := z1) (y := z8) (hS.sl 20 rfl) (hS.sl 8 rfl) ((hz1.out.symm).trans (hz8.out.symm).symm)) (args2 (ev rfl hv11) (ev rfl hv12)) ?_⟩
      rintro _ w9 ⟨_, _, rfl, hTT, hN⟩
      exact ⟨_, rfl, _, _, rfl, hTT, hN⟩
    refine stepsCons rfl ?_ ?_
    · intro Q f' w' ρ S ho hT hS
      obtain ⟨hv10, hr10⟩ := (hT 10 162 rfl rfl : (Is (.bool false)) (f' 162) (ρ 10))
      obtain ⟨hv13, hr13⟩ := (hT 13 165 rfl rfl : (Is (.bool true)) (f' 165) (ρ 13))
      obtain hS := hS.flat2 hr10 hr13
      exact .inl ⟨want_on (e := 162) rfl rfl rfl hv10, onot (b := true) rfl rfl (ev (v := .bool true) rfl hv13) ⟨_, _, rfl, isI, New.same _⟩⟩
    refine stepsCons rfl ?_ ?_
    · intro Q f' w' ρ S ho hT hS
      obtain ⟨hv10, hr10⟩ := (hT 10 162 rfl rfl : (Is (.bool false)) (f' 162) (ρ 10))
      obtain ⟨hv14, hr14⟩ := (hT 14 166 rfl rfl : (Is (.bool false)) (f' 166) (ρ 14))
      obtain hS := hS.flat2 hr10 hr14
      exact .inl ⟨want_none rfl, opick (b := false) (v := .bool false) rfl rfl (ev (v := .bool false) rfl hv10) (ev (v := .bool false) rfl hv14) ⟨_, _, rfl, isI, New.same _⟩⟩
    refine stepsCons rfl ?_ ?_
    · intro Q f' w' ρ S ho hT hS
      obtain ⟨hv15, hr15⟩ := (hT 15 167 rfl rfl : (Is (.bool false)) (f' 167) (ρ 15))
      obtain hS := hS.flat1 hr15
      exact .inl ⟨want_none rfl, omove (v := .bool false) rfl rfl (ev (v := .bool false) rfl hv15) ⟨_, _, rfl, isI, New.same _⟩⟩
    refine stepsCons rfl ?_ ?_
    · intro Q f' w' ρ S ho hT hS
      obtain ⟨hv16, hr16⟩ := (hT 16 168 rfl rfl : (Is (.bool false)) (f' 168) (ρ 16))
      obtain hS := hS.flat1 hr16
      exact .inl ⟨want_on (e := 168) rfl rfl rfl hv16, oload (vs := [.bool (ng z2), .slice p2 n2 c2]) aggZ hS 18 rfl rfl (ev rfl (ho 8 rfl)) rfl rfl rfl ⟨_, _, rfl, isI, New.same _⟩⟩
    refine stepsCons rfl ?_ ?_
    · intro Q f' w' ρ S ho hT hS
      obtain ⟨hv16, hr16⟩ := (hT 16 168 rfl rfl : (Is (.bool false)) (f' 168) (ρ 16))
      obtain hS := hS.flat1 hr16
      exact .inl ⟨want_on (e := 168) rfl rfl rfl hv16, oload (vs := [.bool (ng z9), .slice p9 n9 c9]) aggZ hS 6 rfl rfl (ev rfl (ho 21 rfl)) rfl rfl rfl ⟨_, _, rfl, isI, New.same _⟩⟩
    refine stepsCons rfl ?_ ?_
    · intro Q f' w' ρ S ho hT hS
      obtain ⟨hv16, hr16⟩ := (hT 16 168 rfl rfl : (Is (.bool false)) (f' 168) (ρ 16))
      obtain ⟨hv17, hr17⟩ := (hT 17 169 rfl rfl : (Is (.agg #[.bool (ng z2), .slice p2 n2 c2])) (f' 169) (ρ 17))
      obtain ⟨hv18, hr18⟩ := (hT 18 170 rfl rfl : (Is (.agg #[.bool (ng z9), .slice p9 n9 c9])) (f' 170) (ρ 18))
      obtain hS := hS.flat3 hr16 hr17 hr18
      refine .inl ⟨want_on (e := 168) rfl rfl rfl hv16, ocall rfl rfl Try.call13 rfl (wlsame (x := z2) (y := z9) (hS.sl 21 rfl) (hS.sl 9 rfl) ((hz2.out.symm).trans (hz9.out.symm).symm)) (args2 (ev rfl hv17) (ev rfl hv18)) ?_⟩
      rintro _ w9 ⟨_, _, rfl, hTT, hN⟩
      exact ⟨_, rfl, _, _, rfl, hTT, hN⟩
    refine stepsCons rfl ?_ ?_
    · intro Q f' w' ρ S ho hT hS
      obtain ⟨hv16, hr16⟩ := (hT 16 168 rfl rfl : (Is (.bool false)) (f' 168) (ρ 16))
      obtain ⟨hv19, hr19⟩ := (hT 19 171 rfl rfl : (Is (.bool true)) (f' 171) (ρ 19))
      obtain hS := hS.flat2 hr16 hr19
      exact .inl ⟨want_on (e := 168) rfl rfl rfl hv16, onot (b := true) rfl rfl (ev (v := .bool true) rfl hv19) ⟨_, _, rfl, isI, New.same _⟩⟩
    refine stepsCons rfl ?_ ?_
    · intro Q f' w' ρ S ho hT hS
      obtain ⟨hv16, hr16⟩ := (hT 16 168 rfl rfl : (Is (.bool false)) (f' 168) (ρ 16))
      obtain ⟨hv20, hr20⟩ := (hT 20 172 rfl rfl : (Is (.bool false)) (f' 172) (ρ 20))
      obtain hS := hS.flat2 hr16 hr20
      exact .inl ⟨want_none rfl, opick (b := false) (v := .bool false) rfl rfl (ev (v := .bool false) rfl hv16) (ev (v := .bool false) rfl hv20) ⟨_, _, rfl, isI, New.same _⟩⟩
    refine stepsCons rfl ?_ ?_
    · intro Q f' w' ρ S ho hT hS
      obtain ⟨hv21, hr21⟩ := (hT 21 173 rfl rfl : (Is (.bool false)) (f' 173) (ρ 21))
      obtain hS := hS.flat1 hr21
      exact .inl ⟨want_none rfl, omove (v := .bool false) rfl rfl (ev (v := .bool false) rfl hv21) ⟨_, _, rfl, isI, New.same _⟩⟩
    refine stepsCons rfl ?_ ?_
    · intro Q f' w' ρ S ho hT hS
      obtain ⟨hv22, hr22⟩ := (hT 22 174 rfl rfl : (Is (.bool false)) (f' 174) (ρ 22))
      obtain hS := hS.flat1 hr22
      exact .inl ⟨want_on (e := 174) rfl rfl rfl hv22, oload (vs := [.bool (ng z3), .slice p3 n3 c3]) aggZ hS 15 rfl rfl (ev rfl (ho 10 rfl)) rfl rfl rfl ⟨_, _, rfl, isI, New.same _⟩⟩
    refine stepsCons rfl ?_ ?_
    · intro Q f' w' ρ S ho hT hS
      obtain ⟨hv22, hr22⟩ := (hT 22 174 rfl rfl : (Is (.bool false)) (f' 174) (ρ 22))
      obtain hS := hS.flat1 hr22
      exact .inl ⟨want_on (e := 174) rfl rfl rfl hv22, oload (vs := [.bool (ng z10), .slice p10 n10 c10]) aggZ hS 3 rfl rfl (ev rfl (ho 22 rfl)) rfl rfl rfl ⟨_, _, rfl, isI, New.same _⟩⟩
    refine stepsCons rfl ?_ ?_
    · intro Q f' w' ρ S ho hT hS
      obtain ⟨hv22, hr22⟩ := (hT 22 174 rfl rfl : (Is (.bool false)) (f' 174) (ρ 22))
      obtain ⟨hv23, hr23⟩ := (hT 23 175 rfl rfl : (Is (.agg #[.bool (ng z3), .slice p3 n3 c3])) (f' 175) (ρ 23))
      obtain ⟨hv24, hr24⟩ := (hT 24 176 rfl rfl : (Is (.agg #[.bool (ng z10), .slice p10 n10 c10])) (f' 176) (ρ 24))
      obtain hS := hS.flat3 hr22 hr23 hr24
      refine .inl ⟨want_on (e := 174) rfl rfl rfl hv22, ocall rfl rfl Try.call13 rfl (wlsame (x := z3) (y := z10) (hS.sl 16 rfl) (hS.sl 4 rfl) ((hz3.out.symm).trans (hz10.out.symm).symm)) (args2 (ev rfl hv23) (ev rfl hv24)) ?_⟩
      rintro _ w9 ⟨_, _, rfl, hTT, hN⟩
      exact ⟨_, rfl, _, _, rfl, hTT, hN⟩
    refine stepsCons rfl ?_ ?_
    · intro Q f' w' ρ S ho hT hS
      obtain ⟨hv22, hr22⟩ := (hT 22 174 rfl rfl : (Is (.bool false)) (f' 174) (ρ 22))
      obtain ⟨hv25, hr25⟩ := (hT 25 177 rfl rfl : (Is (.bool true)) (f' 177) (ρ 25))
      obtain hS := hS.flat2 hr22 hr25
      exact .inl ⟨want_on (e := 174) rfl rfl rfl hv22, onot (b := true) rfl rfl (ev (v := .bool true) rfl hv25) ⟨_, _, rfl, isI, New.same _⟩⟩
    refine stepsCons rfl ?_ ?_
    · intro Q f' w' ρ S ho hT hS
      obtain ⟨hv22, hr22⟩ := (hT 22 174 rfl rfl : (Is (.bool false)) (f' 174) (ρ 22))
      obtain ⟨hv26, hr26⟩ := (hT 26 178 rfl rfl : (Is (.bool false)) (f' 178) (ρ 26))
      obtain hS := hS.flat2 hr22 hr26
      exact .inl ⟨want_none rfl, opick (b := false) (v := .bool false) rfl rfl (ev (v := .bool false) rfl hv22) (ev (v := .bool false) rfl hv26) ⟨_, _, rfl, isI, New.same _⟩⟩
    refine stepsCons rfl ?_ ?_
    · intro Q f' w' ρ S ho hT hS
      obtain ⟨hv27, hr27⟩ := (hT 27 179 rfl rfl : (Is (.bool false)) (f' 179) (ρ 27))
      obtain hS := hS.flat1 hr27
      exact .inl ⟨want_none rfl, omove (v := .bool false) rfl rfl (ev (v := .bool false) rfl hv27) ⟨_, _, rfl, isI, New.same _⟩⟩
    refine stepsCons rfl ?_ ?_
    · intro Q f' w' ρ S ho hT hS
      obtain ⟨hv28, hr28⟩ := (hT 28 180 rfl rfl : (Is (.bool false)) (f' 180) (ρ 28))
      obtain hS := hS.flat1 hr28
      exact .inl ⟨want_on (e := 180) rfl rfl rfl hv28, oload (vs := [.bool (ng z4), .slice p4 n4 c4]) aggZ hS 14 rfl rfl (ev rfl (ho 11 rfl)) rfl rfl rfl ⟨_, _, rfl, isI, New.same _⟩⟩
    refine stepsCons rfl ?_ ?_
    · intro Q f' w' ρ S ho hT hS
      obtain ⟨hv28, hr28⟩ := (hT 28 180 rfl rfl : (Is (.bool false)) (f' 180) (ρ 28))
      obtain hS := hS.flat1 hr28
      exact .inl ⟨want_on (e := 180) rfl rfl rfl hv28, oload (vs := [.bool (ng z11), .slice p11 n11 c11]) aggZ hS 2 rfl rfl (ev rfl (ho 23 rfl)) rfl rfl rfl ⟨_, _, rfl, isI, New.same _⟩⟩
    refine stepsCons rfl ?_ ?_
    · intro Q f' w' ρ S ho hT hS
      obtain ⟨hv28, hr28⟩ := (hT 28 180 rfl rfl : (Is (.bool false)) (f' 180) (ρ 28))
      obtain ⟨hv29, hr29⟩ := (hT 29 181 rfl rfl : (Is (.agg #[.bool (ng z4), .slice p4 n4 c4])) (f' 181) (ρ 29))
      obtain ⟨hv30, hr30⟩ := (hT 30 182 rfl rfl : (Is (.agg #[.bool (ng z11), .slice p11 n11 c11])) (f' 182) (ρ 30))
      obtain hS := hS.flat3 hr28 hr29 hr30
      refine .inl ⟨want_on (e := 180) rfl rfl rfl hv28, ocall rfl rfl Try.call13 rfl (wlsame (x := z4) (y := z11) (hS.sl 17 rfl) (hS.sl 5 rfl) ((hz4.out.symm).trans (hz11.out.symm).symm)) (args2 (ev rfl hv29) (ev rfl hv30)) ?_⟩
      rintro _ w9 ⟨_, _, rfl, hTT, hN⟩
      exact ⟨_, rfl, _, _, rfl, hTT, hN⟩
    refine stepsCons rfl ?_ ?_
    · intro Q f' w' ρ S ho hT hS
      obtain ⟨hv28, hr28⟩ := (hT 28 180 rfl rfl : (Is (.bool false)) (f' 180) (ρ 28))
      obtain ⟨hv31, hr31⟩ := (hT 31 183 rfl rfl : (Is (.bool true)) (f' 183) (ρ 31))
      obtain hS := hS.flat2 hr28 hr31
      exact .inl ⟨want_on (e := 180) rfl rfl rfl hv28, onot (b := true) rfl rfl (ev (v := .bool true) rfl hv31) ⟨_, _, rfl, isI, New.same _⟩⟩
    refine stepsCons rfl ?_ ?_
    · intro Q f' w' ρ S ho hT hS
      obtain ⟨hv28, hr28⟩ := (hT 28 180 rfl rfl : (Is (.bool false)) (f' 180) (ρ 28))
      obtain ⟨hv32, hr32⟩ := (hT 32 184 rfl rfl : (Is (.bool false)) (f' 184) (ρ 32))
      obtain hS := hS.flat2 hr28 hr32
      exact .inl ⟨want_none rfl, opick (b := false) (v := .bool false) rfl rfl (ev (v := .bool false) rfl hv28) (ev (v := .bool false) rfl hv32) ⟨_, _, rfl, isI, New.same _⟩⟩
    refine stepsCons rfl ?_ ?_
    · intro Q f' w' ρ S ho hT hS
      obtain ⟨hv33, hr33⟩ := (hT 33 185 rfl rfl : (Is (.bool false)) (f' 185) (ρ 33))
      obtain hS := hS.flat1 hr33
      exact .inl ⟨want_none rfl, omove (v := .bool false) rfl rfl (ev (v := .bool false) rfl hv33) ⟨_, _, rfl, isI, New.same _⟩⟩
    refine stepsCons rfl ?_ ?_
    · intro Q f' w' ρ S ho hT hS
      obtain ⟨hv34, hr34⟩ := (hT 34 186 rfl rfl : (Is (.bool false)) (f' 186) (ρ 34))
      obtain hS := hS.flat1 hr34
      exact .inl ⟨want_on (e := 186) rfl rfl rfl hv34, oload (vs := [.bool (ng z6), .slice p6 n6 c6]) aggZ hS 10 rfl rfl (ev rfl (ho 15 rfl)) rfl rfl rfl ⟨_, _, rfl, isI, New.same _⟩⟩
    refine stepsCons rfl ?_ ?_
    · intro Q f' w' ρ S ho hT hS
      obtain ⟨hv34, hr34⟩ := (hT 34 186 rfl rfl : (Is (.bool false)) (f' 186) (ρ 34))
      obtain hS := hS.flat1 hr34
      exact .inl ⟨want_on (e := 186) rfl rfl rfl hv34, oload (vs := [.bool b, .slice p n c]) aggZ hS 23 rfl rfl (ev rfl (ho 3 rfl)) rfl rfl rfl ⟨_, _, rfl, isI, New.same _⟩⟩
    refine stepsCons rfl ?_ ?_
    · intro Q f' w' ρ S ho hT hS
      obtain ⟨hv34, hr34⟩ := (hT 34 186 rfl rfl : (Is (.bool false)) (f' 186) (ρ 34))
      obtain hS := hS.flat1 hr34
      exact .inl ⟨want_on (e := 186) rfl rfl rfl hv34, oload (vs := [.bool b2, .slice q m d]) aggZ hS 22 rfl rfl (ev rfl (ho 4 rfl)) rfl rfl rfl ⟨_, _, rfl, isI, New.same _⟩⟩
    refine stepsCons rfl ?_ ?_
    · intro Q f' w' ρ S ho hT hS
      obtain ⟨hv34, hr34⟩ := (hT 34 186 rfl rfl : (Is (.bool false)) (f' 186) (ρ 34))
      obtain ⟨hv36, hr36⟩ := (hT 36 188 rfl rfl : (Is (.agg #[.bool b, .slice p n c])) (f' 188) (ρ 36))
      obtain ⟨hv37, hr37⟩ := (hT 37 189 rfl rfl : (Is (.agg #[.bool b2, .slice q m d])) (f' 189) (ρ 37))
      obtain hS := hS.flat3 hr34 hr36 hr37
      refine .inl ⟨want_on (e := 186) rfl rfl rfl hv34, ocall rfl rfl Try.call41 rfl (wqnear ((hzx.at hS).mono (by omega)) ((hzy.at hS).mono (by omega)) (h0) hz13) (args2 (ev rfl hv36) (ev rfl hv37)) ?_⟩
      rintro _ w9 ⟨_, _, rfl, hTT, hN⟩
      exact ⟨_, rfl, _, _, rfl, hTT, hN⟩
    refine stepsCons rfl ?_ ?_
    · intro Q f' w' ρ S ho hT hS
      obtain ⟨hv34, hr34⟩ := (hT 34 186 rfl rfl : (Is (.bool false)) (f' 186) (ρ 34))
      obtain ⟨hv35, hr35⟩ := (hT 35 187 rfl rfl : (Is (.agg #[.bool (ng z6), .slice p6 n6 c6])) (f' 187) (ρ 35))
      obtain ⟨p13, n13, c13, hv38, hr38⟩ := (hT 38 190 rfl rfl : (Zt z13) (f' 190) (ρ 38))
      obtain hS := hS.flat3 hr34 hr35 hr38
      refine .inl ⟨want_on (e := 186) rfl rfl rfl hv34, ocall rfl rfl Try.call13 rfl (wlsame (x := z6) (y := z13) (hS.sl 11 rfl) (hS.sl 24 rfl) ((hz6.out.symm).trans (hz13.out.symm).symm)) (args2 (ev rfl hv35) (ev rfl hv38)) ?_⟩
      rintro _ w9 ⟨_, _, rfl, hTT, hN⟩
      exact ⟨_, rfl, _, _, rfl, hTT, hN⟩
    refine stepsCons rfl ?_ ?_
    · intro Q f' w' ρ S ho hT hS
      obtain ⟨hv34, hr34⟩ := (hT 34 186 rfl rfl : (Is (.bool false)) (f' 186) (ρ 34))
      obtain ⟨hv39, hr39⟩ := (hT 39 191 rfl rfl : (Is (.bool true)) (f' 191) (ρ 39))
      obtain hS := hS.flat2 hr34 hr39
      exact .inl ⟨want_on (e := 186) rfl rfl rfl hv34, onot (b := true) rfl rfl (ev (v := .bool true) rfl hv39) ⟨_, _, rfl, isI, New.same _⟩⟩
    refine stepsCons rfl ?_ ?_
    · intro Q f' w' ρ S ho hT hS
      obtain ⟨hv34, hr34⟩ := (hT 34 186 rfl rfl : (Is (.bool false)) (f' 186) (ρ 34))
      obtain ⟨hv40, hr40⟩ := (hT 40 192 rfl rfl : (Is (.bool false)) (f' 192) (ρ 40))
      obtain hS := hS.flat2 hr34 hr40
      exact .inl ⟨want_none rfl, opick (b := false) (v := .bool false) rfl rfl (ev (v := .bool false) rfl hv34) (ev (v := .bool false) rfl hv40) ⟨_, _, rfl, isI, New.same _⟩⟩
    exact stepsNil
  ·
    intro vs ρ w47 f' hf hT hS
    obtain ⟨hv0, hr0⟩ := (hT 0 (by decide) : (Is (.int .i64 0)) (vs 0) (ρ 0))
    obtain ⟨hv1, hr1⟩ := (hT 1 (by decide) : (Is (.bool false)) (vs 1) (ρ 1))
    obtain ⟨hv2, hr2⟩ := (hT 2 (by decide) : (Is (.bool false)) (vs 2) (ρ 2))
    obtain ⟨hv3, hr3⟩ := (hT 3 (by decide) : (Is (.int .i64 0)) (vs 3) (ρ 3))
    obtain ⟨hv4, hr4⟩ := (hT 4 (by decide) : (Is (.bool false)) (vs 4) (ρ 4))
    obtain ⟨hv5, hr5⟩ := (hT 5 (by decide) : (Is (.bool false)) (vs 5) (ρ 5))
    obtain ⟨hv6, hr6⟩ := (hT 6 (by decide) : (Is (.bool false)) (vs 6) (ρ 6))
    obtain ⟨hv7, hr7⟩ := (hT 7 (by decide) : (Is (.int .i64 0)) (vs 7) (ρ 7))
    obtain ⟨hv8, hr8⟩ := (hT 8 (by decide) : (Is (.bool false)) (vs 8) (ρ 8))
    obtain ⟨hv9, hr9⟩ := (hT 9 (by decide) : (Is (.bool false)) (vs 9) (ρ 9))
    obtain ⟨hv10, hr10⟩ := (hT 10 (by decide) : (Is (.bool false)) (vs 10) (ρ 10))
    obtain ⟨hv11, hr11⟩ := (hT 11 (by decide) : (Is (.agg #[.bool (ng z1), .slice p1 n1 c1])) (vs 11) (ρ 11))
    obtain ⟨hv12, hr12⟩ := (hT 12 (by decide) : (Is (.agg #[.bool (ng z8), .slice p8 n8 c8])) (vs 12) (ρ 12))
    obtain ⟨hv13, hr13⟩ := (hT 13 (by decide) : (Is (.bool true)) (vs 13) (ρ 13))
    obtain ⟨hv14, hr14⟩ := (hT 14 (by decide) : (Is (.bool false)) (vs 14) (ρ 14))
    obtain ⟨hv15, hr15⟩ := (hT 15 (by decide) : (Is (.bool false)) (vs 15) (ρ 15))
    obtain ⟨hv16, hr16⟩ := (hT 16 (by decide) : (Is (.bool false)) (vs 16) (ρ 16))
    obtain ⟨hv17, hr17⟩ := (hT 17 (by decide) : (Is (.agg #[.bool (ng z2), .slice p2 n2 c2])) (vs 17) (ρ 17))
    obtain ⟨hv18, hr18⟩ := (hT 18 (by decide) : (Is (.agg #[.bool (ng z9), .slice p9 n9 c9])) (vs 18) (ρ 18))
    obtain ⟨hv19, hr19⟩ := (hT 19 (by decide) : (Is (.bool true)) (vs 19) (ρ 19))
    obtain ⟨hv20, hr20⟩ := (hT 20 (by decide) : (Is (.bool false)) (vs 20) (ρ 20))
    obtain ⟨hv21, hr21⟩ := (hT 21 (by decide) : (Is (.bool false)) (vs 21) (ρ 21))
    obtain ⟨hv22, hr22⟩ := (hT 22 (by decide) : (Is (.bool false)) (vs 22) (ρ 22))
    obtain ⟨hv23, hr23⟩ := (hT 23 (by decide) : (Is (.agg #[.bool (ng z3), .slice p3 n3 c3])) (vs 23) (ρ 23))
    obtain ⟨hv24, hr24⟩ := (hT 24 (by decide) : (Is (.agg #[.bool (ng z10), .slice p10 n10 c10])) (vs 24) (ρ 24))
    obtain ⟨hv25, hr25⟩ := (hT 25 (by decide) : (Is (.bool true)) (vs 25) (ρ 25))
    obtain ⟨hv26, hr26⟩ := (hT 26 (by decide) : (Is (.bool false)) (vs 26) (ρ 26))
    obtain ⟨hv27, hr27⟩ := (hT 27 (by decide) : (Is (.bool false)) (vs 27) (ρ 27))
    obtain ⟨hv28, hr28⟩ := (hT 28 (by decide) : (Is (.bool false)) (vs 28) (ρ 28))
    obtain ⟨hv29, hr29⟩ := (hT 29 (by decide) : (Is (.agg #[.bool (ng z4), .slice p4 n4 c4])) (vs 29) (ρ 29))
    obtain ⟨hv30, hr30⟩ := (hT 30 (by decide) : (Is (.agg #[.bool (ng z11), .slice p11 n11 c11])) (vs 30) (ρ 30))
    obtain ⟨hv31, hr31⟩ := (hT 31 (by decide) : (Is (.bool true)) (vs 31) (ρ 31))
    obtain ⟨hv32, hr32⟩ := (hT 32 (by decide) : (Is (.bool false)) (vs 32) (ρ 32))
    obtain ⟨hv33, hr33⟩ := (hT 33 (by decide) : (Is (.bool false)) (vs 33) (ρ 33))
    obtain ⟨hv34, hr34⟩ := (hT 34 (by decide) : (Is (.bool false)) (vs 34) (ρ 34))
    obtain ⟨hv35, hr35⟩ := (hT 35 (by decide) : (Is (.agg #[.bool (ng z6), .slice p6 n6 c6])) (vs 35) (ρ 35))
    obtain ⟨hv36, hr36⟩ := (hT 36 (by decide) : (Is (.agg #[.bool b, .slice p n c])) (vs 36) (ρ 36))
    obtain ⟨hv37, hr37⟩ := (hT 37 (by decide) : (Is (.agg #[.bool b2, .slice q m d])) (vs 37) (ρ 37))
    obtain ⟨p13, n13, c13, hv38, hr38⟩ := (hT 38 (by decide) : (Zt z13) (vs 38) (ρ 38))
    obtain ⟨hv39, hr39⟩ := (hT 39 (by decide) : (Is (.bool true)) (vs 39) (ρ 39))
    obtain ⟨hv40, hr40⟩ := (hT 40 (by decide) : (Is (.bool false)) (vs 40) (ρ 40))
    obtain ⟨hv41, hr41⟩ := (hT 41 (by decide) : (Is (.bool false)) (vs 41) (ρ 41))
    simp only [pool, if_true, hr0, hr1, hr2, hr3, hr4, hr5, hr6, hr7, hr8, hr9, hr10, hr11, hr12, hr13, hr14, hr15, hr16, hr17, hr18, hr19, hr20, hr21, hr22, hr23, hr24, hr25, hr26, hr27, hr28, hr29, hr30, hr31, hr32, hr33, hr34, hr35, hr36, hr37, hr38, hr39, hr40, hr41, List.nil_append, List.cons_append, List.append_nil] at hS
    simp only [layf, hv0, hv1, hv2, hv3, hv4, hv5, hv6, hv7, hv8, hv9, hv10, hv11, hv12, hv13, hv14, hv15, hv16, hv17, hv18, hv19, hv20, hv21, hv22, hv23, hv24, hv25, hv26, hv27, hv28, hv29, hv30, hv31, hv32, hv33, hv34, hv35, hv36, hv37, hv38, hv39, hv40, hv41] at hf
    subst hf; clear hT hv0 hv1 hv2 hv3 hv4 hv5 hv6 hv7 hv8 hv9 hv10 hv11 hv12 hv13 hv14 hv15 hv16 hv17 hv18 hv19 hv20 hv21 hv22 hv23 hv24 hv25 hv26 hv27 hv28 hv29 hv30 hv31 hv32 hv33 hv34 hv35 hv36 hv37 hv38 hv39 hv40 hv41 hr0 hr1 hr2 hr3 hr4 hr5 hr6 hr7 hr8 hr9 hr10 hr11 hr12 hr13 hr14 hr15 hr16 hr17 hr18 hr19 hr20 hr21 hr22 hr23 hr24 hr25 hr26 hr27 hr28 hr29 hr30 hr31 hr32 hr33 hr34 hr35 hr36 hr37 hr38 hr39 hr40 hr41
    refine wdone rfl ?_
    refine thenN ?_
    refine wF (ev (v := .bool false) rfl rfl) ?_
    refine wskip ?_
    refine thenN ?_
    refine wseq ?_
    refine wseq ?_
    refine wreg ?_
    refine wl rfl (omove (v := .bool false) rfl rfl (ev (v := .bool false) rfl rfl) ?_)
    refine wl rfl (onot (b := false) rfl rfl (ev (v := .bool false) rfl rfl) ?_)
    refine wnil ?_
    refine thenN ?_
    refine wT (ev (v := .bool true) rfl rfl) ?_
    refine wseq ?_
    refine wreg ?_
    refine wl rfl (omove (v := .int .i64 30) rfl rfl (ev (v := .int .i64 30) rfl rfl) ?_)
    refine wl rfl (obin (u := .int .i64 30) (v := .int .i64 30) (z := .bool true) rfl rfl (ev (v := .int .i64 30) rfl rfl) (evc (v := .int .i64 30)) (bin_eql (by decide)) ?_)
    refine wl rfl (omove (v := .bool true) rfl rfl (ev (v := .bool true) rfl rfl) ?_)
    refine wlOn (e := 198) rfl rfl rfl rfl (oload (vs := [.bool (ng 0), .slice p5 n5 c5]) aggZ hS 13 rfl rfl (ev rfl rfl) rfl rfl rfl ?_)
    refine wlOn (e := 198) rfl rfl rfl rfl (obuild (ps := #[]) (v := .agg #[.bool false, .slice none 0 0]) rfl rfl (parts0) (fun w => by simp [go_sem, Instr.build, Instr.fill]) ?_)
    refine wlOn (e := 198) rfl rfl rfl rfl (ocall rfl rfl Try.call13 rfl (wlsame (x := 0) (y := 0) (hS.sl 14 rfl) (Sl.nil _) (rfl)) (args2 (ev rfl rfl) (ev rfl rfl)) ?_)
    rintro _ w48 ⟨_, _, rfl, ⟨rfl, rfl⟩, hN⟩
    refine ⟨_, rfl, ?_⟩
    replace hS := hS.news hN; clear hN
    refine wl rfl (opick (b := true) (v := .bool true) rfl rfl (ev (v := .bool true) rfl rfl) (ev (v := .bool true) rfl rfl) ?_)
    refine wl rfl (omove (v := .bool true) rfl rfl (ev (v := .bool true) rfl rfl) ?_)
    refine wlOn (e := 203) rfl rfl rfl rfl (ocall rfl rfl Try.call19 rfl (wllives) (args0 ) ?_)
    rintro _ w49 ⟨_, _, rfl, ⟨rfl, rfl⟩, hN⟩
    refine ⟨_, rfl, ?_⟩
    replace hS := hS.news hN; clear hN
    refine wl rfl (opick (b := true) (v := .bool true) rfl rfl (ev (v := .bool true) rfl rfl) (ev (v := .bool true) rfl rfl) ?_)
    refine wl rfl (oassign (v := .bool true) rfl rfl (ev (v := .bool true) rfl rfl) ?_)
    refine wnil ?_
    refine thenN ?_
    refine wleave ?_
    refine thenR ?_
    refine wret1 Try.results5 (tellT (v := .bool true) rfl rfl) ?_
    exact ⟨_, _, rfl, isI, hS.new0⟩

end Go.Proofs.Ytlnilkghbbbhbaa
