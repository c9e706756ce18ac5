
/-
  The walk of similelaw03.ZintRing.
-/
import Derived.Test.YtlnilkghbbbhbaaZRing0
set_option linter.unusedVariables false
set_option linter.unusedSimpArgs false
namespace Go.Proofs.Ytlnilkghbbbhbaa
open Go.RowKit

set_option maxRecDepth 100000 in
set_option maxHeartbeats 16000000 in
theorem zring_0 {b b2 b3 : Bool} {p q r : Option Addr} {n m k c d e : Nat} {xs ys zs : List Nat} {w : World} (hx : Sl w p n c xs) (hy : Sl w q m d ys) (hz : Sl w r k e zs) (hn : n ≤ 1048576) (hm : m ≤ 1048576) (hk : k ≤ 1048576) (hy9 : zv b2 (val ys) = 0) :
    Calls Try.prog 9 #[.agg #[.bool b, .slice p n c], .agg #[.bool b2, .slice q m d], .agg #[.bool b3, .slice r k e]] w (Ret (Is (.bool true)) w) := by
  obtain ⟨x, hex⟩ : ∃ x : Int, zv b (val xs) = x := ⟨_, rfl⟩
  obtain ⟨y, hey⟩ : ∃ y : Int, zv b2 (val ys) = y := ⟨_, rfl⟩
  have hzx : Zr w b p n c x 1048576 := ⟨xs, hx, hex, hn⟩
  have hzy : Zr w b2 q m d y 1048576 := ⟨ys, hy, hey, hm⟩
  obtain ⟨y3, hez⟩ : ∃ z : Int, zv b3 (val zs) = z := ⟨_, rfl⟩
  have hzz : Zr w b3 r k e y3 1048576 := ⟨zs, hz, hez, hk⟩
  have hS := Sep.init w
  refine went Try.func9 rfl (n := 198) rfl rfl ?_
  refine wseq ?_
  refine wreg ?_
  refine wl rfl (obox [.bool b, .slice p n c] hS rfl rfl (ev (v := .agg #[.bool b, .slice p n c]) rfl rfl) rfl ?_)
  clear hS; intro g1 w2 hS
  refine wl rfl (obox [.bool b2, .slice q m d] hS rfl rfl (ev (v := .agg #[.bool b2, .slice q m d]) rfl rfl) rfl ?_)
  clear hS; intro g3 w4 hS
  refine wl rfl (obox [.bool b3, .slice r k e] hS rfl rfl (ev (v := .agg #[.bool b3, .slice r k e]) rfl rfl) rfl ?_)
  clear hS; intro g5 w6 hS
  refine wl rfl (oassign (v := .bool false) rfl rfl (evc (v := .bool false)) ?_)
  refine wnil ?_
  refine thenN ?_
  refine wseq ?_
  refine wseq ?_
  obtain ⟨z1, hz1⟩ : ∃ z : Int, Hid (x + y = z) := ⟨_, rfl⟩
  have hk1 : Wd z1 1048577 := Wd.add hzx.wd hzy.wd hz1 (by omega)
  obtain ⟨z2, hz2⟩ : ∃ z : Int, Hid (y + x = z) := ⟨_, rfl⟩
  have hk2 : Wd z2 1048577 := Wd.add hzy.wd hzx.wd hz2 (by omega)
  obtain ⟨z3, hz3⟩ : ∃ z : Int, Hid (y + y3 = z) := ⟨_, rfl⟩
  have hk3 : Wd z3 1048577 := Wd.add hzy.wd hzz.wd hz3 (by omega)
  obtain ⟨z4, hz4⟩ : ∃ z : Int, Hid (x * z3 = z) := ⟨_, rfl⟩
  have hk4 : Wd z4 2097153 := Wd.mul hzx.wd hk3 hz4 (by omega)
  obtain ⟨z5, hz5⟩ : ∃ z : Int, Hid (x * y = z) := ⟨_, rfl⟩
  have hk5 : Wd z5 2097152 := Wd.mul hzx.wd hzy.wd hz5 (by omega)
  obtain ⟨z6, hz6⟩ : ∃ z : Int, Hid (x * y3 = z) := ⟨_, rfl⟩
  have hk6 : Wd z6 2097152 := Wd.mul hzx.wd hzz.wd hz6 (by omega)
  obtain ⟨z7, hz7⟩ : ∃ z : Int, Hid (z5 + z6 = z) := ⟨_, rfl⟩
  have hk7 : Wd z7 2097153 := Wd.add hk5 hk6 hz7 (by omega)
  obtain ⟨z8, hz8⟩ : ∃ z : Int, Hid (x * y = z) := ⟨_, rfl⟩
  have hk8 : Wd z8 2097152 := Wd.mul hzx.wd hzy.wd hz8 (by omega)
  obtain ⟨z9, hz9⟩ : ∃ z : Int, Hid (z8 * y3 = z) := ⟨_, rfl⟩
  have hk9 : Wd z9 3145728 := Wd.mul hk8 hzz.wd hz9 (by omega)
  obtain ⟨z10, hz10⟩ : ∃ z : Int, Hid (y * y3 = z) := ⟨_, rfl⟩
  have hk10 : Wd z10 2097152 := Wd.mul hzy.wd hzz.wd hz10 (by omega)
  obtain ⟨z11, hz11⟩ : ∃ z : Int, Hid (x * z10 = z) := ⟨_, rfl⟩
  have hk11 : Wd z11 3145728 := Wd.mul hzx.wd hk10 hz11 (by omega)
  obtain ⟨z12, hz12⟩ : ∃ z : Int, Hid (x + y = z) := ⟨_, rfl⟩
  have hk12 : Wd z12 1048577 := Wd.add hzx.wd hzy.wd hz12 (by omega)
  obtain ⟨z13, hz13⟩ : ∃ z : Int, Hid (z12 - y = z) := ⟨_, rfl⟩
  have hk13 : Wd z13 1048578 := Wd.sub hk12 hzy.wd hz13 (by omega)
  obtain ⟨z14, hz14⟩ : ∃ z : Int, Hid (-x = z) := ⟨_, rfl⟩
  have hk14 : Wd z14 1048576 := Wd.neg hzx.wd hz14
  obtain ⟨z15, hz15⟩ : ∃ z : Int, Hid (-z14 = z) := ⟨_, rfl⟩
  have hk15 : Wd z15 1048576 := Wd.neg hk14 hz15
  refine wstage 56 [21, 22, 23, 24, 25, 26, 27, 28, 29, 30, 31, 32, 33, 34, 35, 36, 37, 38, 39, 40, 41, 42, 43, 44, 45, 46, 47, 48, 49, 50, 51, 52, 53, 54, 55, 56, 57, 58, 59, 60, 61, 62, 63, 64, 65, 66, 67, 68, 69, 70, 71, 72, 73, 74, 75, 76] [[], [], [0, 1], [], [], [3, 4, 0, 1, 2], [2, 5, 0, 1, 3, 4], [6, 0, 1, 2, 3, 4, 5], [7, 0, 1, 2, 3, 4, 5, 6], [8, 0, 1, 2, 3, 4, 5, 6, 7], [8, 0, 1, 2, 3, 4, 5, 6, 7], [8, 0, 1, 2, 3, 4, 5, 6, 7], [8, 10, 11, 0, 1, 2, 3, 4, 5, 6, 7], [8, 9, 12, 0, 1, 2, 3, 4, 5, 6, 7, 10, 11], [8, 0, 1, 2, 3, 4, 5, 6, 7], [8, 0, 1, 2, 3, 4, 5, 6, 7], [8, 14, 15, 0, 1, 2, 3, 4, 5, 6, 7, 9, 10, 11, 12, 13], [8, 0, 1, 2, 3, 4, 5, 6, 7], [8, 0, 1, 2, 3, 4, 5, 6, 7], [8, 17, 18, 0, 1, 2, 3, 4, 5, 6, 7, 9, 10, 11, 12, 13, 14, 15, 16], [8, 16, 19, 0, 1, 2, 3, 4, 5, 6, 7, 9, 10, 11, 12, 13, 14, 15, 17, 18], [8, 13, 20, 0, 1, 2, 3, 4, 5, 6, 7, 9, 10, 11, 12, 14, 15, 16, 17, 18, 19], [8, 21, 0, 1, 2, 3, 4, 5, 6, 7, 9, 10, 11, 12, 13, 14, 15, 16, 17, 18, 19, 20], [8, 22, 0, 1, 2, 3, 4, 5, 6, 7, 9, 10, 11, 12, 13, 14, 15, 16, 17, 18, 19, 20, 21], [23, 0, 1, 2, 3, 4, 5, 6, 7, 8, 9, 10, 11, 12, 13, 14, 15, 16, 17, 18, 19, 20, 21, 22], [24, 0, 1, 2, 3, 4, 5, 6, 7, 8, 9, 10, 11, 12, 13, 14, 15, 16, 17, 18, 19, 20, 21, 22, 23], [24, 0, 1, 2, 3, 4, 5, 6, 7, 8, 9, 10, 11, 12, 13, 14, 15, 16, 17, 18, 19, 20, 21, 22, 23], [24, 25, 26, 0, 1, 2, 3, 4, 5, 6, 7, 8, 9, 10, 11, 12, 13, 14, 15, 16, 17, 18, 19, 20, 21, 22, 23], [24, 0, 1, 2, 3, 4, 5, 6, 7, 8, 9, 10, 11, 12, 13, 14, 15, 16, 17, 18, 19, 20, 21, 22, 23], [24, 27, 28, 0, 1, 2, 3, 4, 5, 6, 7, 8, 9, 10, 11, 12, 13, 14, 15, 16, 17, 18, 19, 20, 21, 22, 23, 25, 26], [24, 0, 1, 2, 3, 4, 5, 6, 7, 8, 9, 10, 11, 12, 13, 14, 15, 16, 17, 18, 19, 20, 21, 22, 23], [24, 0, 1, 2, 3, 4, 5, 6, 7, 8, 9, 10, 11, 12, 13, 14, 15, 16, 17, 18, 19, 20, 21, 22, 23], [24, 0, 1, 2, 3, 4, 5, 6, 7, 8, 9, 10, 11, 12, 13, 14, 15, 16, 17, 18, 19, 20, 21, 22, 23], [24, 31, 32, 0, 1, 2, 3, 4, 5, 6, 7, 8, 9, 10, 11, 12, 13, 14, 15, 16, 17, 18, 19, 20, 21, 22, 23, 25, 26, 27, 28, 29], [24, 30, 33, 0, 1, 2, 3, 4, 5, 6, 7, 8, 9, 10, 11, 12, 13, 14, 15, 16, 17, 18, 19, 20, 21, 22, 23, 25, 26, 27, 28, 29, 31, 32], [24, 29, 34, 0, 1, 2, 3, 4, 5, 6, 7, 8, 9, 10, 11, 12, 13, 14, 15, 16, 17, 18, 19, 20, 21, 22, 23, 25, 26, 27, 28, 30, 31, 32, 33], [24, 35, 0, 1, 2, 3, 4, 5, 6, 7, 8, 9, 10, 11, 12, 13, 14, 15, 16, 17, 18, 19, 20, 21, 22, 23, 25, 26, 27, 28, 29, 30, 31, 32, 33, 34], [24, 36, 0, 1, 2, 3, 4, 5, 6, 7, 8, 9, 10, 11, 12, 13, 14, 15, 16, 17, 18, 19, 20, 21, 22, 23, 25, 26, 27, 28, 29, 30, 31, 32, 33, 34, 35], [37, 0, 1, 2, 3, 4, 5, 6, 7, 8, 9, 10, 11, 12, 13, 14, 15, 16, 17, 18, 19, 20, 21, 22, 23, 24, 25, 26, 27, 28, 29, 30, 31, 32, 33, 34, 35, 36], [38, 0, 1, 2, 3, 4, 5, 6, 7, 8, 9, 10, 11, 12, 13, 14, 15, 16, 17, 18, 19, 20, 21, 22, 23, 24, 25, 26, 27, 28, 29, 30, 31, 32, 33, 34, 35, 36, 37], [38, 0, 1, 2, 3, 4, 5, 6, 7, 8, 9, 10, 11, 12, 13, 14, 15, 16, 17, 18, 19, 20, 21, 22, 23, 24, 25, 26, 27, 28, 29, 30, 31, 32, 33, 34, 35, 36, 37], [38, 39, 40, 0, 1, 2, 3, 4, 5, 6, 7, 8, 9, 10, 11, 12, 13, 14, 15, 16, 17, 18, 19, 20, 21, 22, 23, 24, 25, 26, 27, 28, 29, 30, 31, 32, 33, 34, 35, 36, 37], [38, 0, 1, 2, 3, 4, 5, 6, 7, 8, 9, 10, 11, 12, 13, 14, 15, 16, 17, 18, 19, 20, 21, 22, 23, 24, 25, 26, 27, 28, 29, 30, 31, 32, 33, 34, 35, 36, 37], [38, 41, 42, 0, 1, 2, 3, 4, 5, 6, 7, 8, 9, 10, 11, 12, 13, 14, 15, 16, 17, 18, 19, 20, 21, 22, 23, 24, 25, 26, 27, 28, 29, 30, 31, 32, 33, 34, 35, 36, 37, 39, 40], [38, 0, 1, 2, 3, 4, 5, 6, 7, 8, 9, 10, 11, 12, 13, 14, 15, 16, 17, 18, 19, 20, 21, 22, 23, 24, 25, 26, 27, 28, 29, 30, 31, 32, 33, 34, 35, 36, 37], [38, 43, 44, 0, 1, 2, 3, 4, 5, 6, 7, 8, 9, 10, 11, 12, 13, 14, 15, 16, 17, 18, 19, 20, 21, 22, 23, 24, 25, 26, 27, 28, 29, 30, 31, 32, 33, 34, 35, 36, 37, 39, 40, 41, 42], [38, 45, 0, 1, 2, 3, 4, 5, 6, 7, 8, 9, 10, 11, 12, 13, 14, 15, 16, 17, 18, 19, 20, 21, 22, 23, 24, 25, 26, 27, 28, 29, 30, 31, 32, 33, 34, 35, 36, 37, 39, 40, 41, 42, 43, 44], [38, 46, 0, 1, 2, 3, 4, 5, 6, 7, 8, 9, 10, 11, 12, 13, 14, 15, 16, 17, 18, 19, 20, 21, 22, 23, 24, 25, 26, 27, 28, 29, 30, 31, 32, 33, 34, 35, 36, 37, 39, 40, 41, 42, 43, 44, 45], [47, 0, 1, 2, 3, 4, 5, 6, 7, 8, 9, 10, 11, 12, 13, 14, 15, 16, 17, 18, 19, 20, 21, 22, 23, 24, 25, 26, 27, 28, 29, 30, 31, 32, 33, 34, 35, 36, 37, 38, 39, 40, 41, 42, 43, 44, 45, 46], [48, 0, 1, 2, 3, 4, 5, 6, 7, 8, 9, 10, 11, 12, 13, 14, 15, 16, 17, 18, 19, 20, 21, 22, 23, 24, 25, 26, 27, 28, 29, 30, 31, 32, 33, 34, 35, 36, 37, 38, 39, 40, 41, 42, 43, 44, 45, 46, 47], [48, 49, 0, 1, 2, 3, 4, 5, 6, 7, 8, 9, 10, 11, 12, 13, 14, 15, 16, 17, 18, 19, 20, 21, 22, 23, 24, 25, 26, 27, 28, 29, 30, 31, 32, 33, 34, 35, 36, 37, 38, 39, 40, 41, 42, 43, 44, 45, 46, 47], [48, 50, 0, 1, 2, 3, 4, 5, 6, 7, 8, 9, 10, 11, 12, 13, 14, 15, 16, 17, 18, 19, 20, 21, 22, 23, 24, 25, 26, 27, 28, 29, 30, 31, 32, 33, 34, 35, 36, 37, 38, 39, 40, 41, 42, 43, 44, 45, 46, 47, 49], [48, 0, 1, 2, 3, 4, 5, 6, 7, 8, 9, 10, 11, 12, 13, 14, 15, 16, 17, 18, 19, 20, 21, 22, 23, 24, 25, 26, 27, 28, 29, 30, 31, 32, 33, 34, 35, 36, 37, 38, 39, 40, 41, 42, 43, 44, 45, 46, 47], [48, 51, 52, 0, 1, 2, 3, 4, 5, 6, 7, 8, 9, 10, 11, 12, 13, 14, 15, 16, 17, 18, 19, 20, 21, 22, 23, 24, 25, 26, 27, 28, 29, 30, 31, 32, 33, 34, 35, 36, 37, 38, 39, 40, 41, 42, 43, 44, 45, 46, 47, 49, 50], [48, 53, 0, 1, 2, 3, 4, 5, 6, 7, 8, 9, 10, 11, 12, 13, 14, 15, 16, 17, 18, 19, 20, 21, 22, 23, 24, 25, 26, 27, 28, 29, 30, 31, 32, 33, 34, 35, 36, 37, 38, 39, 40, 41, 42, 43, 44, 45, 46, 47, 49, 50, 51, 52], [48, 54, 0, 1, 2, 3, 4, 5, 6, 7, 8, 9, 10, 11, 12, 13, 14, 15, 16, 17, 18, 19, 20, 21, 22, 23, 24, 25, 26, 27, 28, 29, 30, 31, 32, 33, 34, 35, 36, 37, 38, 39, 40, 41, 42, 43, 44, 45, 46, 47, 49, 50, 51, 52, 53]] [[], [], [], [], [], [], [], [], [], [], [], [], [], [], [], [], [], [], [], [], [], [], [], [], [], [], [], [], [], [], [], [], [], [], [], [], [], [], [], [], [], [], [], [], [], [], [], [], [], [], [], [], [], [], [], []] [] [] (fun i => ([fun _ => Is (.agg #[.bool b, .slice p n c]), fun _ => Is (.agg #[.bool b2, .slice q m d]), fun _ => Zt z1, fun _ => Is (.agg #[.bool b2, .slice q m d]), fun _ => Is (.agg #[.bool b, .slice p n c]), fun _ => Zt z2, fun _ => Is (.bool true), fun _ => Is (.bool false), fun _ => Is (.bool false), fun _ => Is (.agg #[.bool b, .slice p n c]), fun _ => Is (.agg #[.bool b2, .slice q m d]), fun _ => Is (.agg #[.bool b3, .slice r k e]), fun _ => Zt z3, fun _ => Zt z4, fun _ => Is (.agg #[.bool b, .slice p n c]), fun _ => Is (.agg #[.bool b2, .slice q m d]), fun _ => Zt z5, fun _ => Is (.agg #[.bool b, .slice p n c]), fun _ => Is (.agg #[.bool b3, .slice r k e]), fun _ => Zt z6, fun _ => Zt z7, fun _ => Is (.bool true), fun _ => Is (.bool false), fun _ => Is (.bool false), fun _ => Is (.bool false), fun _ => Is (.agg #[.bool b, .slice p n c]), fun _ => Is (.agg #[.bool b2, .slice q m d]), fun _ => Zt z8, fun _ => Is (.agg #[.bool b3, .slice r k e]), fun _ => Zt z9, fun _ => Is (.agg #[.bool b, .slice p n c]), fun _ => Is (.agg #[.bool b2, .slice q m d]), fun _ => Is (.agg #[.bool b3, .slice r k e]), fun _ => Zt z10, fun _ => Zt z11, fun _ => Is (.bool true), fun _ => Is (.bool false), fun _ => Is (.bool false), fun _ => Is (.bool false), fun _ => Is (.agg #[.bool b, .slice p n c]), fun _ => Is (.agg #[.bool b2, .slice q m d]), fun _ => Zt z12, fun _ => Is (.agg #[.bool b2, .slice q m d]), fun _ => Zt z13, fun _ => Is (.agg #[.bool b, .slice p n c]), fun _ => Is (.bool true), fun _ => Is (.bool false), fun _ => Is (.bool false), fun _ => Is (.bool false), fun _ => Is (.agg #[.bool b, .slice p n c]), fun _ => Zt z14, fun _ => Zt z15, fun _ => Is (.agg #[.bool b, .slice p n c]), fun _ => Is (.bool true), fun _ => Is (.bool false), fun _ => Is (.bool false)] : List (List Value → Tell)).getD i (fun _ _ _ => False)) (heldNil) (fun d _ _ _ _ h => (by cases d <;> exact h)) (by kernel_rfl) (by kernel_rfl) (by kernel_rfl) hS ?_ ?_
  ·
    refine stepsCons rfl ?_ ?_
    · intro Q f' w' ρ S ho hT hS hB
      exact .inl ⟨want_none rfl, oload (vs := [.bool b, .slice p n c]) aggZ hS 2 rfl rfl (ev rfl (ho 3 rfl)) rfl rfl rfl ⟨_, _, rfl, isI, New.same _⟩⟩
    refine stepsCons rfl ?_ ?_
    · intro Q f' w' ρ S ho hT hS hB
      exact .inl ⟨want_none rfl, oload (vs := [.bool b2, .slice q m d]) aggZ hS 1 rfl rfl (ev rfl (ho 4 rfl)) rfl rfl rfl ⟨_, _, rfl, isI, New.same _⟩⟩
    refine stepsCons rfl ?_ ?_
    · intro Q f' w' ρ S ho hT hS hB
      obtain ⟨hv0, hr0⟩ := (hT 0 21 rfl rfl : (Is (.agg #[.bool b, .slice p n c])) (f' 21) (ρ 0))
      obtain ⟨hv1, hr1⟩ := (hT 1 22 rfl rfl : (Is (.agg #[.bool b2, .slice q m d])) (f' 22) (ρ 1))
      obtain hS := hS.flat2 hr0 hr1
      refine .inl ⟨want_none rfl, ocall rfl rfl Try.call11 rfl (wzadd ((hzx.at hS).mono (by omega)) ((hzy.at hS).mono (by omega)) hz1) (args2 (ev rfl hv0) (ev rfl hv1)) ?_⟩
      rintro _ w9 ⟨_, _, rfl, hTT, hN⟩
      exact ⟨_, rfl, _, _, rfl, hTT, hN⟩
    refine stepsCons rfl ?_ ?_
    · intro Q f' w' ρ S ho hT hS hB
      exact .inl ⟨want_none rfl, oload (vs := [.bool b2, .slice q m d]) aggZ hS 1 rfl rfl (ev rfl (ho 4 rfl)) rfl rfl rfl ⟨_, _, rfl, isI, New.same _⟩⟩
    refine stepsCons rfl ?_ ?_
    · intro Q f' w' ρ S ho hT hS hB
      exact .inl ⟨want_none rfl, oload (vs := [.bool b, .slice p n c]) aggZ hS 2 rfl rfl (ev rfl (ho 3 rfl)) rfl rfl rfl ⟨_, _, rfl, isI, New.same _⟩⟩
    refine stepsCons rfl ?_ ?_
    · intro Q f' w' ρ S ho hT hS hB
      obtain ⟨hv3, hr3⟩ := (hT 3 24 rfl rfl : (Is (.agg #[.bool b2, .slice q m d])) (f' 24) (ρ 3))
      obtain ⟨hv4, hr4⟩ := (hT 4 25 rfl rfl : (Is (.agg #[.bool b, .slice p n c])) (f' 25) (ρ 4))
      obtain hS := hS.flat2 hr3 hr4
      refine .inl ⟨want_none rfl, ocall rfl rfl Try.call11 rfl (wzadd ((hzy.at hS).mono (by omega)) ((hzx.at hS).mono (by omega)) hz2) (args2 (ev rfl hv3) (ev rfl hv4)) ?_⟩
      rintro _ w9 ⟨_, _, rfl, hTT, hN⟩
      exact ⟨_, rfl, _, _, rfl, hTT, hN⟩
    refine stepsCons rfl ?_ ?_
    · intro Q f' w' ρ S ho hT hS hB
      obtain ⟨p1, n1, c1, hv2, hr2⟩ := (hT 2 23 rfl rfl : (Zt z1) (f' 23) (ρ 2))
      obtain ⟨p2, n2, c2, hv5, hr5⟩ := (hT 5 26 rfl rfl : (Zt z2) (f' 26) (ρ 5))
      obtain hS := hS.flat2 hr2 hr5
      refine .inl ⟨want_none rfl, ocall rfl rfl Try.call57 rfl (wleq (((hS.sl 3 rfl).zr hk1).mono (by omega)) (((hS.sl 4 rfl).zr hk2).mono (by omega)) (by have := hz1.out; have := hz2.out; omega)) (args2 (ev rfl hv2) (ev rfl hv5)) ?_⟩
      rintro _ w9 ⟨_, _, rfl, hTT, hN⟩
      exact ⟨_, rfl, _, _, rfl, hTT, hN⟩
    refine stepsCons rfl ?_ ?_
    · intro Q f' w' ρ S ho hT hS hB
      obtain ⟨hv6, hr6⟩ := (hT 6 27 rfl rfl : (Is (.bool true)) (f' 27) (ρ 6))
      obtain hS := hS.flat1 hr6
      exact .inl ⟨want_none rfl, onot (b := true) rfl rfl (ev (v := .bool true) rfl hv6) ⟨_, _, rfl, isI, New.same _⟩⟩
    refine stepsCons rfl ?_ ?_
    · intro Q f' w' ρ S ho hT hS hB
      obtain ⟨hv7, hr7⟩ := (hT 7 28 rfl rfl : (Is (.bool false)) (f' 28) (ρ 7))
      obtain hS := hS.flat1 hr7
      exact .inl ⟨want_none rfl, omove (v := .bool false) rfl rfl (ev (v := .bool false) rfl hv7) ⟨_, _, rfl, isI, New.same _⟩⟩
    refine stepsCons rfl ?_ ?_
    · intro Q f' w' ρ S ho hT hS hB
      obtain ⟨hv8, hr8⟩ := (hT 8 29 rfl rfl : (Is (.bool false)) (f' 29) (ρ 8))
      obtain hS := hS.flat1 hr8
      exact .inl ⟨want_on (e := 29) rfl rfl rfl hv8, oload (vs := [.bool b, .slice p n c]) aggZ hS 2 rfl rfl (ev rfl (ho 3 rfl)) rfl rfl rfl ⟨_, _, rfl, isI, New.same _⟩⟩
    refine stepsCons rfl ?_ ?_
    · intro Q f' w' ρ S ho hT hS hB
      obtain ⟨hv8, hr8⟩ := (hT 8 29 rfl rfl : (Is (.bool false)) (f' 29) (ρ 8))
      obtain hS := hS.flat1 hr8
      exact .inl ⟨want_on (e := 29) rfl rfl rfl hv8, oload (vs := [.bool b2, .slice q m d]) aggZ hS 1 rfl rfl (ev rfl (ho 4 rfl)) rfl rfl rfl ⟨_, _, rfl, isI, New.same _⟩⟩
    refine stepsCons rfl ?_ ?_
    · intro Q f' w' ρ S ho hT hS hB
      obtain ⟨hv8, hr8⟩ := (hT 8 29 rfl rfl : (Is (.bool false)) (f' 29) (ρ 8))
      obtain hS := hS.flat1 hr8
      exact .inl ⟨want_on (e := 29) rfl rfl rfl hv8, oload (vs := [.bool b3, .slice r k e]) aggZ hS 0 rfl rfl (ev rfl (ho 5 rfl)) rfl rfl rfl ⟨_, _, rfl, isI, New.same _⟩⟩
    refine stepsCons rfl ?_ ?_
    · intro Q f' w' ρ S ho hT hS hB
      obtain ⟨hv8, hr8⟩ := (hT 8 29 rfl rfl : (Is (.bool false)) (f' 29) (ρ 8))
      obtain ⟨hv10, hr10⟩ := (hT 10 31 rfl rfl : (Is (.agg #[.bool b2, .slice q m d])) (f' 31) (ρ 10))
      obtain ⟨hv11, hr11⟩ := (hT 11 32 rfl rfl : (Is (.agg #[.bool b3, .slice r k e])) (f' 32) (ρ 11))
      obtain hS := hS.flat3 hr8 hr10 hr11
      refine .inl ⟨want_on (e := 29) rfl rfl rfl hv8, ocall rfl rfl Try.call11 rfl (wzadd ((hzy.at hS).mono (by omega)) ((hzz.at hS).mono (by omega)) hz3) (args2 (ev rfl hv10) (ev rfl hv11)) ?_⟩
      rintro _ w9 ⟨_, _, rfl, hTT, hN⟩
      exact ⟨_, rfl, _, _, rfl, hTT, hN⟩
    refine stepsCons rfl ?_ ?_
    · intro Q f' w' ρ S ho hT hS hB
      obtain ⟨hv8, hr8⟩ := (hT 8 29 rfl rfl : (Is (.bool false)) (f' 29) (ρ 8))
      obtain ⟨hv9, hr9⟩ := (hT 9 30 rfl rfl : (Is (.agg #[.bool b, .slice p n c])) (f' 30) (ρ 9))
      obtain ⟨p3, n3, c3, hv12, hr12⟩ := (hT 12 33 rfl rfl : (Zt z3) (f' 33) (ρ 12))
      obtain hS := hS.flat3 hr8 hr9 hr12
      refine .inl ⟨want_on (e := 29) rfl rfl rfl hv8, ocall rfl rfl Try.call16 rfl (wzmul ((hzx.at hS).mono (by omega)) (((hS.sl 3 rfl).zr hk3).mono (by omega)) hz4) (args2 (ev rfl hv9) (ev rfl hv12)) ?_⟩
      rintro _ w9 ⟨_, _, rfl, hTT, hN⟩
      exact ⟨_, rfl, _, _, rfl, hTT, hN⟩
    refine stepsCons rfl ?_ ?_
    · intro Q f' w' ρ S ho hT hS hB
      obtain ⟨hv8, hr8⟩ := (hT 8 29 rfl rfl : (Is (.bool false)) (f' 29) (ρ 8))
      obtain hS := hS.flat1 hr8
      exact .inl ⟨want_on (e := 29) rfl rfl rfl hv8, oload (vs := [.bool b, .slice p n c]) aggZ hS 2 rfl rfl (ev rfl (ho 3 rfl)) rfl rfl rfl ⟨_, _, rfl, isI, New.same _⟩⟩
    refine stepsCons rfl ?_ ?_
    · intro Q f' w' ρ S ho hT hS hB
      obtain ⟨hv8, hr8⟩ := (hT 8 29 rfl rfl : (Is (.bool false)) (f' 29) (ρ 8))
      obtain hS := hS.flat1 hr8
      exact .inl ⟨want_on (e := 29) rfl rfl rfl hv8, oload (vs := [.bool b2, .slice q m d]) aggZ hS 1 rfl rfl (ev rfl (ho 4 rfl)) rfl rfl rfl ⟨_, _, rfl, isI, New.same _⟩⟩
    refine stepsCons rfl ?_ ?_
    · intro Q f' w' ρ S ho hT hS hB
      obtain ⟨hv8, hr8⟩ := (hT 8 29 rfl rfl : (Is (.bool false)) (f' 29) (ρ 8))
      obtain ⟨hv14, hr14⟩ := (hT 14 35 rfl rfl : (Is (.agg #[.bool b, .slice p n c])) (f' 35) (ρ 14))
      obtain ⟨hv15, hr15⟩ := (hT 15 36 rfl rfl : (Is (.agg #[.bool b2, .slice q m d])) (f' 36) (ρ 15))
      obtain hS := hS.flat3 hr8 hr14 hr15
      refine .inl ⟨want_on (e := 29) rfl rfl rfl hv8, ocall rfl rfl Try.call16 rfl (wzmul ((hzx.at hS).mono (by omega)) ((hzy.at hS).mono (by omega)) hz5) (args2 (ev rfl hv14) (ev rfl hv15)) ?_⟩
      rintro _ w9 ⟨_, _, rfl, hTT, hN⟩
      exact ⟨_, rfl, _, _, rfl, hTT, hN⟩
    refine stepsCons rfl ?_ ?_
    · intro Q f' w' ρ S ho hT hS hB
      obtain ⟨hv8, hr8⟩ := (hT 8 29 rfl rfl : (Is (.bool false)) (f' 29) (ρ 8))
      obtain hS := hS.flat1 hr8
      exact .inl ⟨want_on (e := 29) rfl rfl rfl hv8, oload (vs := [.bool b, .slice p n c]) aggZ hS 2 rfl rfl (ev rfl (ho 3 rfl)) rfl rfl rfl ⟨_, _, rfl, isI, New.same _⟩⟩
    refine stepsCons rfl ?_ ?_
    · intro Q f' w' ρ S ho hT hS hB
      obtain ⟨hv8, hr8⟩ := (hT 8 29 rfl rfl : (Is (.bool false)) (f' 29) (ρ 8))
      obtain hS := hS.flat1 hr8
      exact .inl ⟨want_on (e := 29) rfl rfl rfl hv8, oload (vs := [.bool b3, .slice r k e]) aggZ hS 0 rfl rfl (ev rfl (ho 5 rfl)) rfl rfl rfl ⟨_, _, rfl, isI, New.same _⟩⟩
    refine stepsCons rfl ?_ ?_
    · intro Q f' w' ρ S ho hT hS hB
      obtain ⟨hv8, hr8⟩ := (hT 8 29 rfl rfl : (Is (.bool false)) (f' 29) (ρ 8))
      obtain ⟨hv17, hr17⟩ := (hT 17 38 rfl rfl : (Is (.agg #[.bool b, .slice p n c])) (f' 38) (ρ 17))
      obtain ⟨hv18, hr18⟩ := (hT 18 39 rfl rfl : (Is (.agg #[.bool b3, .slice r k e])) (f' 39) (ρ 18))
      obtain hS := hS.flat3 hr8 hr17 hr18
      refine .inl ⟨want_on (e := 29) rfl rfl rfl hv8, ocall rfl rfl Try.call16 rfl (wzmul ((hzx.at hS).mono (by omega)) ((hzz.at hS).mono (by omega)) hz6) (args2 (ev rfl hv17) (ev rfl hv18)) ?_⟩
      rintro _ w9 ⟨_, _, rfl, hTT, hN⟩
      exact ⟨_, rfl, _, _, rfl, hTT, hN⟩
    refine stepsCons rfl ?_ ?_
    · intro Q f' w' ρ S ho hT hS hB
      obtain ⟨hv8, hr8⟩ := (hT 8 29 rfl rfl : (Is (.bool false)) (f' 29) (ρ 8))
      obtain ⟨p5, n5, c5, hv16, hr16⟩ := (hT 16 37 rfl rfl : (Zt z5) (f' 37) (ρ 16))
      obtain ⟨p6, n6, c6, hv19, hr19⟩ := (hT 19 40 rfl rfl : (Zt z6) (f' 40) (ρ 19))
      obtain hS := hS.flat3 hr8 hr16 hr19
      refine .inl ⟨want_on (e := 29) rfl rfl rfl hv8, ocall rfl rfl Try.call11 rfl (wzadd (((hS.sl 3 rfl).zr hk5).mono (by omega)) (((hS.sl 4 rfl).zr hk6).mono (by omega)) hz7) (args2 (ev rfl hv16) (ev rfl hv19)) ?_⟩
      rintro _ w9 ⟨_, _, rfl, hTT, hN⟩
      exact ⟨_, rfl, _, _, rfl, hTT, hN⟩
    refine stepsCons rfl ?_ ?_
    · intro Q f' w' ρ S ho hT hS hB
      obtain ⟨hv8, hr8⟩ := (hT 8 29 rfl rfl : (Is (.bool false)) (f' 29) (ρ 8))
      obtain ⟨p4, n4, c4, hv13, hr13⟩ := (hT 13 34 rfl rfl : (Zt z4) (f' 34) (ρ 13))
      obtain ⟨p7, n7, c7, hv20, hr20⟩ := (hT 20 41 rfl rfl : (Zt z7) (f' 41) (ρ 20))
      obtain hS := hS.flat3 hr8 hr13 hr20
      refine .inl ⟨want_on (e := 29) rfl rfl rfl hv8, ocall rfl rfl Try.call57 rfl (wleq (((hS.sl 3 rfl).zr hk4).mono (by omega)) (((hS.sl 4 rfl).zr hk7).mono (by omega)) (by rw [← hz4.out, ← hz3.out, ← hz7.out, ← hz5.out, ← hz6.out, Int.mul_add])) (args2 (ev rfl hv13) (ev rfl hv20)) ?_⟩
      rintro _ w9 ⟨_, _, rfl, hTT, hN⟩
      exact ⟨_, rfl, _, _, rfl, hTT, hN⟩
    refine stepsCons rfl ?_ ?_
    · intro Q f' w' ρ S ho hT hS hB
      obtain ⟨hv8, hr8⟩ := (hT 8 29 rfl rfl : (Is (.bool false)) (f' 29) (ρ 8))
      obtain ⟨hv21, hr21⟩ := (hT 21 42 rfl rfl : (Is (.bool true)) (f' 42) (ρ 21))
      obtain hS := hS.flat2 hr8 hr21
      exact .inl ⟨want_on (e := 29) rfl rfl rfl hv8, onot (b := true) rfl rfl (ev (v := .bool true) rfl hv21) ⟨_, _, rfl, isI, New.same _⟩⟩
    refine stepsCons rfl ?_ ?_
    · intro Q f' w' ρ S ho hT hS hB
      obtain ⟨hv8, hr8⟩ := (hT 8 29 rfl rfl : (Is (.bool false)) (f' 29) (ρ 8))
      obtain ⟨hv22, hr22⟩ := (hT 22 43 rfl rfl : (Is (.bool false)) (f' 43) (ρ 22))
      obtain hS := hS.flat2 hr8 hr22
      exact .inl ⟨want_none rfl, opick (b := false) (v := .bool false) rfl rfl (ev (v := .bool false) rfl hv8) (ev (v := .bool false) rfl hv22) ⟨_, _, rfl, isI, New.same _⟩⟩
    refine stepsCons rfl ?_ ?_
    · intro Q f' w' ρ S ho hT hS hB
      obtain ⟨hv23, hr23⟩ := (hT 23 44 rfl rfl : (Is (.bool false)) (f' 44) (ρ 23))
      obtain hS := hS.flat1 hr23
      exact .inl ⟨want_none rfl, omove (v := .bool false) rfl rfl (ev (v := .bool false) rfl hv23) ⟨_, _, rfl, isI, New.same _⟩⟩
    refine stepsCons rfl ?_ ?_
    · intro Q f' w' ρ S ho hT hS hB
      obtain ⟨hv24, hr24⟩ := (hT 24 45 rfl rfl : (Is (.bool false)) (f' 45) (ρ 24))
      obtain hS := hS.flat1 hr24
      exact .inl ⟨want_on (e := 45) rfl rfl rfl hv24, oload (vs := [.bool b, .slice p n c]) aggZ hS 2 rfl rfl (ev rfl (ho 3 rfl)) rfl rfl rfl ⟨_, _, rfl, isI, New.same _⟩⟩
    refine stepsCons rfl ?_ ?_
    · intro Q f' w' ρ S ho hT hS hB
      obtain ⟨hv24, hr24⟩ := (hT 24 45 rfl rfl : (Is (.bool false)) (f' 45) (ρ 24))
      obtain hS := hS.flat1 hr24
      exact .inl ⟨want_on (e := 45) rfl rfl rfl hv24, oload (vs := [.bool b2, .slice q m d]) aggZ hS 1 rfl rfl (ev rfl (ho 4 rfl)) rfl rfl rfl ⟨_, _, rfl, isI, New.same _⟩⟩
    refine stepsCons rfl ?_ ?_
    · intro Q f' w' ρ S ho hT hS hB
      obtain ⟨hv24, hr24⟩ := (hT 24 45 rfl rfl : (Is (.bool false)) (f' 45) (ρ 24))
      obtain ⟨hv25, hr25⟩ := (hT 25 46 rfl rfl : (Is (.agg #[.bool b, .slice p n c])) (f' 46) (ρ 25))
      obtain ⟨hv26, hr26⟩ := (hT 26 47 rfl rfl : (Is (.agg #[.bool b2, .slice q m d])) (f' 47) (ρ 26))
      obtain hS := hS.flat3 hr24 hr25 hr26
      refine .inl ⟨want_on (e := 45) rfl rfl rfl hv24, ocall rfl rfl Try.call16 rfl (wzmul ((hzx.at hS).mono (by omega)) ((hzy.at hS).mono (by omega)) hz8) (args2 (ev rfl hv25) (ev rfl hv26)) ?_⟩
      rintro _ w9 ⟨_, _, rfl, hTT, hN⟩
      exact ⟨_, rfl, _, _, rfl, hTT, hN⟩
    refine stepsCons rfl ?_ ?_
    · intro Q f' w' ρ S ho hT hS hB
      obtain ⟨hv24, hr24⟩ := (hT 24 45 rfl rfl : (Is (.bool false)) (f' 45) (ρ 24))
      obtain hS := hS.flat1 hr24
      exact .inl ⟨want_on (e := 45) rfl rfl rfl hv24, oload (vs := [.bool b3, .slice r k e]) aggZ hS 0 rfl rfl (ev rfl (ho 5 rfl)) rfl rfl rfl ⟨_, _, rfl, isI, New.same _⟩⟩
    refine stepsCons rfl ?_ ?_
    · intro Q f' w' ρ S ho hT hS hB
      obtain ⟨hv24, hr24⟩ := (hT 24 45 rfl rfl : (Is (.bool false)) (f' 45) (ρ 24))
      obtain ⟨p8, n8, c8, hv27, hr27⟩ := (hT 27 48 rfl rfl : (Zt z8) (f' 48) (ρ 27))
      obtain ⟨hv28, hr28⟩ := (hT 28 49 rfl rfl : (Is (.agg #[.bool b3, .slice r k e])) (f' 49) (ρ 28))
      obtain hS := hS.flat3 hr24 hr27 hr28
      refine .inl ⟨want_on (e := 45) rfl rfl rfl hv24, ocall rfl rfl Try.call16 rfl (wzmul (((hS.sl 3 rfl).zr hk8).mono (by omega)) ((hzz.at hS).mono (by omega)) hz9) (args2 (ev rfl hv27) (ev rfl hv28)) ?_⟩
      rintro _ w9 ⟨_, _, rfl, hTT, hN⟩
      exact ⟨_, rfl, _, _, rfl, hTT, hN⟩
    refine stepsCons rfl ?_ ?_
    · intro Q f' w' ρ S ho hT hS hB
      obtain ⟨hv24, hr24⟩ := (hT 24 45 rfl rfl : (Is (.bool false)) (f' 45) (ρ 24))
      obtain hS := hS.flat1 hr24
      exact .inl ⟨want_on (e := 45) rfl rfl rfl hv24, oload (vs := [.bool b, .slice p n c]) aggZ hS 2 rfl rfl (ev rfl (ho 3 rfl)) rfl rfl rfl ⟨_, _, rfl, isI, New.same _⟩⟩
    refine stepsCons rfl ?_ ?_
    · intro Q f' w' ρ S ho hT hS hB
      obtain ⟨hv24, hr24⟩ := (hT 24 45 rfl rfl : (Is (.bool false)) (f' 45) (ρ 24))
      obtain hS := hS.flat1 hr24
      exact .inl ⟨want_on (e := 45) rfl rfl rfl hv24, oload (vs := [.bool b2, .slice q m d]) aggZ hS 1 rfl rfl (ev rfl (ho 4 rfl)) rfl rfl rfl ⟨_, _, rfl, isI, New.same _⟩⟩
    refine stepsCons rfl ?_ ?_
    · intro Q f' w' ρ S ho hT hS hB
      obtain ⟨hv24, hr24⟩ := (hT 24 45 rfl rfl : (Is (.bool false)) (f' 45) (ρ 24))
      obtain hS := hS.flat1 hr24
      exact .inl ⟨want_on (e := 45) rfl rfl rfl hv24, oload (vs := [.bool b3, .slice r k e]) aggZ hS 0 rfl rfl (ev rfl (ho 5 rfl)) rfl rfl rfl ⟨_, _, rfl, isI, New.same _⟩⟩
    refine stepsCons rfl ?_ ?_
    · intro Q f' w' ρ S ho hT hS hB
      obtain ⟨hv24, hr24⟩ := (hT 24 45 rfl rfl : (Is (.bool false)) (f' 45) (ρ 24))
      obtain ⟨hv31, hr31⟩ := (hT 31 52 rfl rfl : (Is (.agg #[.bool b2, .slice q m d])) (f' 52) (ρ 31))
      obtain ⟨hv32, hr32⟩ := (hT 32 53 rfl rfl : (Is (.agg #[.bool b3, .slice r k e])) (f' 53) (ρ 32))
      obtain hS := hS.flat3 hr24 hr31 hr32
      refine .inl ⟨want_on (e := 45) rfl rfl rfl hv24, ocall rfl rfl Try.call16 rfl (wzmul ((hzy.at hS).mono (by omega)) ((hzz.at hS).mono (by omega)) hz10) (args2 (ev rfl hv31) (ev rfl hv32)) ?_⟩
      rintro _ w9 ⟨_, _, rfl, hTT, hN⟩
      exact ⟨_, rfl, _, _, rfl, hTT, hN⟩
    refine stepsCons rfl ?_ ?_
    · intro Q f' w' ρ S ho hT hS hB
      obtain ⟨hv24, hr24⟩ := (hT 24 45 rfl rfl : (Is (.bool false)) (f' 45) (ρ 24))
      obtain ⟨hv30, hr30⟩ := (hT 30 51 rfl rfl : (Is (.agg #[.bool b, .slice p n c])) (f' 51) (ρ 30))
      obtain ⟨p10, n10, c10, hv33, hr33⟩ := (hT 33 54 rfl rfl : (Zt z10) (f' 54) (ρ 33))
      obtain hS := hS.flat3 hr24 hr30 hr33
      refine .inl ⟨want_on (e := 45) rfl rfl rfl hv24, ocall rfl rfl Try.call16 rfl (wzmul ((hzx.at hS).mono (by omega)) (((hS.sl 3 rfl).zr hk10).mono (by omega)) hz11) (args2 (ev rfl hv30) (ev rfl hv33)) ?_⟩
      rintro _ w9 ⟨_, _, rfl, hTT, hN⟩
      exact ⟨_, rfl, _, _, rfl, hTT, hN⟩
    refine stepsCons rfl ?_ ?_
    · intro Q f' w' ρ S ho hT hS hB
      obtain ⟨hv24, hr24⟩ := (hT 24 45 rfl rfl : (Is (.bool false)) (f' 45) (ρ 24))
      obtain ⟨p9, n9, c9, hv29, hr29⟩ := (hT 29 50 rfl rfl : (Zt z9) (f' 50) (ρ 29))
      obtain ⟨p11, n11, c11, hv34, hr34⟩ := (hT 34 55 rfl rfl : (Zt z11) (f' 55) (ρ 34))
      obtain hS := hS.flat3 hr24 hr29 hr34
      refine .inl ⟨want_on (e := 45) rfl rfl rfl hv24, ocall rfl rfl Try.call57 rfl (wleq (((hS.sl 3 rfl).zr hk9).mono (by omega)) (((hS.sl 4 rfl).zr hk11).mono (by omega)) (by rw [← hz9.out, ← hz8.out, ← hz11.out, ← hz10.out, Int.mul_assoc])) (args2 (ev rfl hv29) (ev rfl hv34)) ?_⟩
      rintro _ w9 ⟨_, _, rfl, hTT, hN⟩
      exact ⟨_, rfl, _, _, rfl, hTT, hN⟩
    refine stepsCons rfl ?_ ?_
    · intro Q f' w' ρ S ho hT hS hB
      obtain ⟨hv24, hr24⟩ := (hT 24 45 rfl rfl : (Is (.bool false)) (f' 45) (ρ 24))
      obtain ⟨hv35, hr35⟩ := (hT 35 56 rfl rfl : (Is (.bool true)) (f' 56) (ρ 35))
      obtain hS := hS.flat2 hr24 hr35
      exact .inl ⟨want_on (e := 45) rfl rfl rfl hv24, onot (b := true) rfl rfl (ev (v := .bool true) rfl hv35) ⟨_, _, rfl, isI, New.same _⟩⟩
    refine stepsCons rfl ?_ ?_
    · intro Q f' w' ρ S ho hT hS hB
      obtain ⟨hv24, hr24⟩ := (hT 24 45 rfl rfl : (Is (.bool false)) (f' 45) (ρ 24))
      obtain ⟨hv36, hr36⟩ := (hT 36 57 rfl rfl : (Is (.bool false)) (f' 57) (ρ 36))
      obtain hS := hS.flat2 hr24 hr36
      exact .inl ⟨want_none rfl, opick (b := false) (v := .bool false) rfl rfl (ev (v := .bool false) rfl hv24) (ev (v := .bool false) rfl hv36) ⟨_, _, rfl, isI, New.same _⟩⟩
    refine stepsCons rfl ?_ ?_
    · intro Q f' w' ρ S ho hT hS hB
      obtain ⟨hv37, hr37⟩ := (hT 37 58 rfl rfl : (Is (.bool false)) (f' 58) (ρ 37))
      obtain hS := hS.flat1 hr37
      exact .inl ⟨want_none rfl, omove (v := .bool false) rfl rfl (ev (v := .bool false) rfl hv37) ⟨_, _, rfl, isI, New.same _⟩⟩
    refine stepsCons rfl ?_ ?_
    · intro Q f' w' ρ S ho hT hS hB
      obtain ⟨hv38, hr38⟩ := (hT 38 59 rfl rfl : (Is (.bool false)) (f' 59) (ρ 38))
      obtain hS := hS.flat1 hr38
      exact .inl ⟨want_on (e := 59) rfl rfl rfl hv38, oload (vs := [.bool b, .slice p n c]) aggZ hS 2 rfl rfl (ev rfl (ho 3 rfl)) rfl rfl rfl ⟨_, _, rfl, isI, New.same _⟩⟩
    refine stepsCons rfl ?_ ?_
    · intro Q f' w' ρ S ho hT hS hB
      obtain ⟨hv38, hr38⟩ := (hT 38 59 rfl rfl : (Is (.bool false)) (f' 59) (ρ 38))
      obtain hS := hS.flat1 hr38
      exact .inl ⟨want_on (e := 59) rfl rfl rfl hv38, oload (vs := [.bool b2, .slice q m d]) aggZ hS 1 rfl rfl (ev rfl (ho 4 rfl)) rfl rfl rfl ⟨_, _, rfl, isI, New.same _⟩⟩
    refine stepsCons rfl ?_ ?_
    · intro Q f' w' ρ S ho hT hS hB
      obtain ⟨hv38, hr38⟩ := (hT 38 59 rfl rfl : (Is (.bool false)) (f' 59) (ρ 38))
      obtain ⟨hv39, hr39⟩ := (hT 39 60 rfl rfl : (Is (.agg #[.bool b, .slice p n c])) (f' 60) (ρ 39))
      obtain ⟨hv40, hr40⟩ := (hT 40 61 rfl rfl : (Is (.agg #[.bool b2, .slice q m d])) (f' 61) (ρ 40))
      obtain hS := hS.flat3 hr38 hr39 hr40
      refine .inl ⟨want_on (e := 59) rfl rfl rfl hv38, ocall rfl rfl Try.call11 rfl (wzadd ((hzx.at hS).mono (by omega)) ((hzy.at hS).mono (by omega)) hz12) (args2 (ev rfl hv39) (ev rfl hv40)) ?_⟩
      rintro _ w9 ⟨_, _, rfl, hTT, hN⟩
      exact ⟨_, rfl, _, _, rfl, hTT, hN⟩
    refine stepsCons rfl ?_ ?_
    · intro Q f' w' ρ S ho hT hS hB
      obtain ⟨hv38, hr38⟩ := (hT 38 59 rfl rfl : (Is (.bool false)) (f' 59) (ρ 38))
      obtain hS := hS.flat1 hr38
      exact .inl ⟨want_on (e := 59) rfl rfl rfl hv38, oload (vs := [.bool b2, .slice q m d]) aggZ hS 1 rfl rfl (ev rfl (ho 4 rfl)) rfl rfl rfl ⟨_, _, rfl, isI, New.same _⟩⟩
    refine stepsCons rfl ?_ ?_
    · intro Q f' w' ρ S ho hT hS hB
      obtain ⟨hv38, hr38⟩ := (hT 38 59 rfl rfl : (Is (.bool false)) (f' 59) (ρ 38))
      obtain ⟨p12, n12, c12, hv41, hr41⟩ := (hT 41 62 rfl rfl : (Zt z12) (f' 62) (ρ 41))
      obtain ⟨hv42, hr42⟩ := (hT 42 63 rfl rfl : (Is (.agg #[.bool b2, .slice q m d])) (f' 63) (ρ 42))
      obtain hS := hS.flat3 hr38 hr41 hr42
      refine .inl ⟨want_on (e := 59) rfl rfl rfl hv38, ocall rfl rfl Try.call14 rfl (wzsub (((hS.sl 3 rfl).zr hk12).mono (by omega)) ((hzy.at hS).mono (by omega)) hz13) (args2 (ev rfl hv41) (ev rfl hv42)) ?_⟩
      rintro _ w9 ⟨_, _, rfl, hTT, hN⟩
      exact ⟨_, rfl, _, _, rfl, hTT, hN⟩
    refine stepsCons rfl ?_ ?_
    · intro Q f' w' ρ S ho hT hS hB
      obtain ⟨hv38, hr38⟩ := (hT 38 59 rfl rfl : (Is (.bool false)) (f' 59) (ρ 38))
      obtain hS := hS.flat1 hr38
      exact .inl ⟨want_on (e := 59) rfl rfl rfl hv38, oload (vs := [.bool b, .slice p n c]) aggZ hS 2 rfl rfl (ev rfl (ho 3 rfl)) rfl rfl rfl ⟨_, _, rfl, isI, New.same _⟩⟩
    refine stepsCons rfl ?_ ?_
    · intro Q f' w' ρ S ho hT hS hB
      obtain ⟨hv38, hr38⟩ := (hT 38 59 rfl rfl : (Is (.bool false)) (f' 59) (ρ 38))
      obtain ⟨p13, n13, c13, hv43, hr43⟩ := (hT 43 64 rfl rfl : (Zt z13) (f' 64) (ρ 43))
      obtain ⟨hv44, hr44⟩ := (hT 44 65 rfl rfl : (Is (.agg #[.bool b, .slice p n c])) (f' 65) (ρ 44))
      obtain hS := hS.flat3 hr38 hr43 hr44
      refine .inl ⟨want_on (e := 59) rfl rfl rfl hv38, ocall rfl rfl Try.call57 rfl (wleq (((hS.sl 3 rfl).zr hk13).mono (by omega)) ((hzx.at hS).mono (by omega)) (by have := hz12.out; have := hz13.out; omega)) (args2 (ev rfl hv43) (ev rfl hv44)) ?_⟩
      rintro _ w9 ⟨_, _, rfl, hTT, hN⟩
      exact ⟨_, rfl, _, _, rfl, hTT, hN⟩
    refine stepsCons rfl ?_ ?_
    · intro Q f' w' ρ S ho hT hS hB
      obtain ⟨hv38, hr38⟩ := (hT 38 59 rfl rfl : (Is (.bool false)) (f' 59) (ρ 38))
      obtain ⟨hv45, hr45⟩ := (hT 45 66 rfl rfl : (Is (.bool true)) (f' 66) (ρ 45))
      obtain hS := hS.flat2 hr38 hr45
      exact .inl ⟨want_on (e := 59) rfl rfl rfl hv38, onot (b := true) rfl rfl (ev (v := .bool true) rfl hv45) ⟨_, _, rfl, isI, New.same _⟩⟩
    refine stepsCons rfl ?_ ?_
    · intro Q f' w' ρ S ho hT hS hB
      obtain ⟨hv38, hr38⟩ := (hT 38 59 rfl rfl : (Is (.bool false)) (f' 59) (ρ 38))
      obtain ⟨hv46, hr46⟩ := (hT 46 67 rfl rfl : (Is (.bool false)) (f' 67) (ρ 46))
      obtain hS := hS.flat2 hr38 hr46
      exact .inl ⟨want_none rfl, opick (b := false) (v := .bool false) rfl rfl (ev (v := .bool false) rfl hv38) (ev (v := .bool false) rfl hv46) ⟨_, _, rfl, isI, New.same _⟩⟩
    refine stepsCons rfl ?_ ?_
    · intro Q f' w' ρ S ho hT hS hB
      obtain ⟨hv47, hr47⟩ := (hT 47 68 rfl rfl : (Is (.bool false)) (f' 68) (ρ 47))
      obtain hS := hS.flat1 hr47
      exact .inl ⟨want_none rfl, omove (v := .bool false) rfl rfl (ev (v := .bool false) rfl hv47) ⟨_, _, rfl, isI, New.same _⟩⟩
    refine stepsCons rfl ?_ ?_
    · intro Q f' w' ρ S ho hT hS hB
      obtain ⟨hv48, hr48⟩ := (hT 48 69 rfl rfl : (Is (.bool false)) (f' 69) (ρ 48))
      obtain hS := hS.flat1 hr48
      exact .inl ⟨want_on (e := 69) rfl rfl rfl hv48, oload (vs := [.bool b, .slice p n c]) aggZ hS 2 rfl rfl (ev rfl (ho 3 rfl)) rfl rfl rfl ⟨_, _, rfl, isI, New.same _⟩⟩
    refine stepsCons rfl ?_ ?_
    · intro Q f' w' ρ S ho hT hS hB
      obtain ⟨hv48, hr48⟩ := (hT 48 69 rfl rfl : (Is (.bool false)) (f' 69) (ρ 48))
      obtain ⟨hv49, hr49⟩ := (hT 49 70 rfl rfl : (Is (.agg #[.bool b, .slice p n c])) (f' 70) (ρ 49))
      obtain hS := hS.flat2 hr48 hr49
      refine .inl ⟨want_on (e := 69) rfl rfl rfl hv48, ocall rfl rfl Try.call28 rfl (wzneg ((hzx.at hS).mono (by omega)) hz14) (args1 (ev rfl hv49)) ?_⟩
      rintro _ w9 ⟨_, _, rfl, hTT, hN⟩
      exact ⟨_, rfl, _, _, rfl, hTT, hN⟩
    refine stepsCons rfl ?_ ?_
    · intro Q f' w' ρ S ho hT hS hB
      obtain ⟨hv48, hr48⟩ := (hT 48 69 rfl rfl : (Is (.bool false)) (f' 69) (ρ 48))
      obtain ⟨p14, n14, c14, hv50, hr50⟩ := (hT 50 71 rfl rfl : (Zt z14) (f' 71) (ρ 50))
      obtain hS := hS.flat2 hr48 hr50
      refine .inl ⟨want_on (e := 69) rfl rfl rfl hv48, ocall rfl rfl Try.call28 rfl (wzneg (((hS.sl 3 rfl).zr hk14).mono (by omega)) hz15) (args1 (ev rfl hv50)) ?_⟩
      rintro _ w9 ⟨_, _, rfl, hTT, hN⟩
      exact ⟨_, rfl, _, _, rfl, hTT, hN⟩
    refine stepsCons rfl ?_ ?_
    · intro Q f' w' ρ S ho hT hS hB
      obtain ⟨hv48, hr48⟩ := (hT 48 69 rfl rfl : (Is (.bool false)) (f' 69) (ρ 48))
      obtain hS := hS.flat1 hr48
      exact .inl ⟨want_on (e := 69) rfl rfl rfl hv48, oload (vs := [.bool b, .slice p n c]) aggZ hS 2 rfl rfl (ev rfl (ho 3 rfl)) rfl rfl rfl ⟨_, _, rfl, isI, New.same _⟩⟩
    refine stepsCons rfl ?_ ?_
    · intro Q f' w' ρ S ho hT hS hB
      obtain ⟨hv48, hr48⟩ := (hT 48 69 rfl rfl : (Is (.bool false)) (f' 69) (ρ 48))
      obtain ⟨p15, n15, c15, hv51, hr51⟩ := (hT 51 72 rfl rfl : (Zt z15) (f' 72) (ρ 51))
      obtain ⟨hv52, hr52⟩ := (hT 52 73 rfl rfl : (Is (.agg #[.bool b, .slice p n c])) (f' 73) (ρ 52))
      obtain hS := hS.flat3 hr48 hr51 hr52
      refine .inl ⟨want_on (e := 69) rfl rfl rfl hv48, ocall rfl rfl Try.call57 rfl (wleq (((hS.sl 3 rfl).zr hk15).mono (by omega)) ((hzx.at hS).mono (by omega)) (by have := hz14.out; have := hz15.out; omega)) (args2 (ev rfl hv51) (ev rfl hv52)) ?_⟩
      rintro _ w9 ⟨_, _, rfl, hTT, hN⟩
      exact ⟨_, rfl, _, _, rfl, hTT, hN⟩
    refine stepsCons rfl ?_ ?_
    · intro Q f' w' ρ S ho hT hS hB
      obtain ⟨hv48, hr48⟩ := (hT 48 69 rfl rfl : (Is (.bool false)) (f' 69) (ρ 48))
      obtain ⟨hv53, hr53⟩ := (hT 53 74 rfl rfl : (Is (.bool true)) (f' 74) (ρ 53))
      obtain hS := hS.flat2 hr48 hr53
      exact .inl ⟨want_on (e := 69) rfl rfl rfl hv48, onot (b := true) rfl rfl (ev (v := .bool true) rfl hv53) ⟨_, _, rfl, isI, New.same _⟩⟩
    refine stepsCons rfl ?_ ?_
    · intro Q f' w' ρ S ho hT hS hB
      obtain ⟨hv48, hr48⟩ := (hT 48 69 rfl rfl : (Is (.bool false)) (f' 69) (ρ 48))
      obtain ⟨hv54, hr54⟩ := (hT 54 75 rfl rfl : (Is (.bool false)) (f' 75) (ρ 54))
      obtain hS := hS.flat2 hr48 hr54
      exact .inl ⟨want_none rfl, opick (b := false) (v := .bool false) rfl rfl (ev (v := .bool false) rfl hv48) (ev (v := .bool false) rfl hv54) ⟨_, _, rfl, isI, New.same _⟩⟩
    exact stepsNil
  ·
    intro vs ρ w7 f' hf hT hS
    obtain ⟨hv0, hr0⟩ := (hT 0 (by decide) : (Is (.agg #[.bool b, .slice p n c])) (vs 0) (ρ 0))
    obtain ⟨hv1, hr1⟩ := (hT 1 (by decide) : (Is (.agg #[.bool b2, .slice q m d])) (vs 1) (ρ 1))
    obtain ⟨p1, n1, c1, hv2, hr2⟩ := (hT 2 (by decide) : (Zt z1) (vs 2) (ρ 2))
    obtain ⟨hv3, hr3⟩ := (hT 3 (by decide) : (Is (.agg #[.bool b2, .slice q m d])) (vs 3) (ρ 3))
    obtain ⟨hv4, hr4⟩ := (hT 4 (by decide) : (Is (.agg #[.bool b, .slice p n c])) (vs 4) (ρ 4))
    obtain ⟨p2, n2, c2, hv5, hr5⟩ := (hT 5 (by decide) : (Zt z2) (vs 5) (ρ 5))
    obtain ⟨hv6, hr6⟩ := (hT 6 (by decide) : (Is (.bool true)) (vs 6) (ρ 6))
    obtain ⟨hv7, hr7⟩ := (hT 7 (by decide) : (Is (.bool false)) (vs 7) (ρ 7))
    obtain ⟨hv8, hr8⟩ := (hT 8 (by decide) : (Is (.bool false)) (vs 8) (ρ 8))
    obtain ⟨hv9, hr9⟩ := (hT 9 (by decide) : (Is (.agg #[.bool b, .slice p n c])) (vs 9) (ρ 9))
    obtain ⟨hv10, hr10⟩ := (hT 10 (by decide) : (Is (.agg #[.bool b2, .slice q m d])) (vs 10) (ρ 10))
    obtain ⟨hv11, hr11⟩ := (hT 11 (by decide) : (Is (.agg #[.bool b3, .slice r k e])) (vs 11) (ρ 11))
    obtain ⟨p3, n3, c3, hv12, hr12⟩ := (hT 12 (by decide) : (Zt z3) (vs 12) (ρ 12))
    obtain ⟨p4, n4, c4, hv13, hr13⟩ := (hT 13 (by decide) : (Zt z4) (vs 13) (ρ 13))
    obtain ⟨hv14, hr14⟩ := (hT 14 (by decide) : (Is (.agg #[.bool b, .slice p n c])) (vs 14) (ρ 14))
    obtain ⟨hv15, hr15⟩ := (hT 15 (by decide) : (Is (.agg #[.bool b2, .slice q m d])) (vs 15) (ρ 15))
    obtain ⟨p5, n5, c5, hv16, hr16⟩ := (hT 16 (by decide) : (Zt z5) (vs 16) (ρ 16))
    obtain ⟨hv17, hr17⟩ := (hT 17 (by decide) : (Is (.agg #[.bool b, .slice p n c])) (vs 17) (ρ 17))
    obtain ⟨hv18, hr18⟩ := (hT 18 (by decide) : (Is (.agg #[.bool b3, .slice r k e])) (vs 18) (ρ 18))
    obtain ⟨p6, n6, c6, hv19, hr19⟩ := (hT 19 (by decide) : (Zt z6) (vs 19) (ρ 19))
    obtain ⟨p7, n7, c7, hv20, hr20⟩ := (hT 20 (by decide) : (Zt z7) (vs 20) (ρ 20))
    obtain ⟨hv21, hr21⟩ := (hT 21 (by decide) : (Is (.bool true)) (vs 21) (ρ 21))
    obtain ⟨hv22, hr22⟩ := (hT 22 (by decide) : (Is (.bool false)) (vs 22) (ρ 22))
    obtain ⟨hv23, hr23⟩ := (hT 23 (by decide) : (Is (.bool false)) (vs 23) (ρ 23))
    obtain ⟨hv24, hr24⟩ := (hT 24 (by decide) : (Is (.bool false)) (vs 24) (ρ 24))
    obtain ⟨hv25, hr25⟩ := (hT 25 (by decide) : (Is (.agg #[.bool b, .slice p n c])) (vs 25) (ρ 25))
    obtain ⟨hv26, hr26⟩ := (hT 26 (by decide) : (Is (.agg #[.bool b2, .slice q m d])) (vs 26) (ρ 26))
    obtain ⟨p8, n8, c8, hv27, hr27⟩ := (hT 27 (by decide) : (Zt z8) (vs 27) (ρ 27))
    obtain ⟨hv28, hr28⟩ := (hT 28 (by decide) : (Is (.agg #[.bool b3, .slice r k e])) (vs 28) (ρ 28))
    obtain ⟨p9, n9, c9, hv29, hr29⟩ := (hT 29 (by decide) : (Zt z9) (vs 29) (ρ 29))
    obtain ⟨hv30, hr30⟩ := (hT 30 (by decide) : (Is (.agg #[.bool b, .slice p n c])) (vs 30) (ρ 30))
    obtain ⟨hv31, hr31⟩ := (hT 31 (by decide) : (Is (.agg #[.bool b2, .slice q m d])) (vs 31) (ρ 31))
    obtain ⟨hv32, hr32⟩ := (hT 32 (by decide) : (Is (.agg #[.bool b3, .slice r k e])) (vs 32) (ρ 32))
    obtain ⟨p10, n10, c10, hv33, hr33⟩ := (hT 33 (by decide) : (Zt z10) (vs 33) (ρ 33))
    obtain ⟨p11, n11, c11, hv34, hr34⟩ := (hT 34 (by decide) : (Zt z11) (vs 34) (ρ 34))
    obtain ⟨hv35, hr35⟩ := (hT 35 (by decide) : (Is (.bool true)) (vs 35) (ρ 35))
    obtain ⟨hv36, hr36⟩ := (hT 36 (by decide) : (Is (.bool false)) (vs 36) (ρ 36))
    obtain ⟨hv37, hr37⟩ := (hT 37 (by decide) : (Is (.bool false)) (vs 37) (ρ 37))
    obtain ⟨hv38, hr38⟩ := (hT 38 (by decide) : (Is (.bool false)) (vs 38) (ρ 38))
    obtain ⟨hv39, hr39⟩ := (hT 39 (by decide) : (Is (.agg #[.bool b, .slice p n c])) (vs 39) (ρ 39))
    obtain ⟨hv40, hr40⟩ := (hT 40 (by decide) : (Is (.agg #[.bool b2, .slice q m d])) (vs 40) (ρ 40))
    obtain ⟨p12, n12, c12, hv41, hr41⟩ := (hT 41 (by decide) : (Zt z12) (vs 41) (ρ 41))
    obtain ⟨hv42, hr42⟩ := (hT 42 (by decide) : (Is (.agg #[.bool b2, .slice q m d])) (vs 42) (ρ 42))
    obtain ⟨p13, n13, c13, hv43, hr43⟩ := (hT 43 (by decide) : (Zt z13) (vs 43) (ρ 43))
    obtain ⟨hv44, hr44⟩ := (hT 44 (by decide) : (Is (.agg #[.bool b, .slice p n c])) (vs 44) (ρ 44))
    obtain ⟨hv45, hr45⟩ := (hT 45 (by decide) : (Is (.bool true)) (vs 45) (ρ 45))
    obtain ⟨hv46, hr46⟩ := (hT 46 (by decide) : (Is (.bool false)) (vs 46) (ρ 46))
    obtain ⟨hv47, hr47⟩ := (hT 47 (by decide) : (Is (.bool false)) (vs 47) (ρ 47))
    obtain ⟨hv48, hr48⟩ := (hT 48 (by decide) : (Is (.bool false)) (vs 48) (ρ 48))
    obtain ⟨hv49, hr49⟩ := (hT 49 (by decide) : (Is (.agg #[.bool b, .slice p n c])) (vs 49) (ρ 49))
    obtain ⟨p14, n14, c14, hv50, hr50⟩ := (hT 50 (by decide) : (Zt z14) (vs 50) (ρ 50))
    obtain ⟨p15, n15, c15, hv51, hr51⟩ := (hT 51 (by decide) : (Zt z15) (vs 51) (ρ 51))
    obtain ⟨hv52, hr52⟩ := (hT 52 (by decide) : (Is (.agg #[.bool b, .slice p n c])) (vs 52) (ρ 52))
    obtain ⟨hv53, hr53⟩ := (hT 53 (by decide) : (Is (.bool true)) (vs 53) (ρ 53))
    obtain ⟨hv54, hr54⟩ := (hT 54 (by decide) : (Is (.bool false)) (vs 54) (ρ 54))
    obtain ⟨hv55, hr55⟩ := (hT 55 (by decide) : (Is (.bool false)) (vs 55) (ρ 55))
    simp only [pool, if_true, hr0, hr1, hr2, hr3, hr4, hr5, hr6, hr7, hr8, hr9, hr10, hr11, hr12, hr13, hr14, hr15, hr16, hr17, hr18, hr19, hr20, hr21, hr22, hr23, hr24, hr25, hr26, hr27, hr28, hr29, hr30, hr31, hr32, hr33, hr34, hr35, hr36, hr37, hr38, hr39, hr40, hr41, hr42, hr43, hr44, hr45, hr46, hr47, hr48, hr49, hr50, hr51, hr52, hr53, hr54, hr55, List.nil_append, List.cons_append, List.append_nil] at hS
    simp only [layf, hv0, hv1, hv2, hv3, hv4, hv5, hv6, hv7, hv8, hv9, hv10, hv11, hv12, hv13, hv14, hv15, hv16, hv17, hv18, hv19, hv20, hv21, hv22, hv23, hv24, hv25, hv26, hv27, hv28, hv29, hv30, hv31, hv32, hv33, hv34, hv35, hv36, hv37, hv38, hv39, hv40, hv41, hv42, hv43, hv44, hv45, hv46, hv47, hv48, hv49, hv50, hv51, hv52, hv53, hv54, hv55] at hf
    subst hf; clear hT hv0 hv1 hv2 hv3 hv4 hv5 hv6 hv7 hv8 hv9 hv10 hv11 hv12 hv13 hv14 hv15 hv16 hv17 hv18 hv19 hv20 hv21 hv22 hv23 hv24 hv25 hv26 hv27 hv28 hv29 hv30 hv31 hv32 hv33 hv34 hv35 hv36 hv37 hv38 hv39 hv40 hv41 hv42 hv43 hv44 hv45 hv46 hv47 hv48 hv49 hv50 hv51 hv52 hv53 hv54 hv55 hr0 hr1 hr2 hr3 hr4 hr5 hr6 hr7 hr8 hr9 hr10 hr11 hr12 hr13 hr14 hr15 hr16 hr17 hr18 hr19 hr20 hr21 hr22 hr23 hr24 hr25 hr26 hr27 hr28 hr29 hr30 hr31 hr32 hr33 hr34 hr35 hr36 hr37 hr38 hr39 hr40 hr41 hr42 hr43 hr44 hr45 hr46 hr47 hr48 hr49 hr50 hr51 hr52 hr53 hr54 hr55
    refine wdone rfl ?_
    refine thenN ?_
    refine wF (ev (v := .bool false) rfl rfl) ?_
    refine wskip ?_
    refine thenN ?_
    refine wseq ?_
    refine wreg ?_
    refine wl rfl (oload (vs := [.bool b, .slice p n c]) aggZ hS 17 rfl rfl (ev rfl rfl) rfl rfl rfl ?_)
    refine wl rfl (oload (vs := [.bool b2, .slice q m d]) aggZ hS 16 rfl rfl (ev rfl rfl) rfl rfl rfl ?_)
    have h0 : y = 0 := by rw [← hey]; exact hy9
    have hk16 : Wd ((Int.natAbs x : Nat) : Int) 1048576 := Wd.nabs hzx.wd rfl
    have hk17 : Wd (Int.sign x) 2 := Wd.i64 (by have := sign_cases x; omega) (by have := sign_cases x; omega)
    have hk18 : Wd 0 2 := Wd.i64 (by omega) (by omega)
    refine wl rfl (ocall rfl rfl Try.call42 rfl (wzbez0 ((hzx.at hS).mono (by omega)) ((hzy.at hS).mono (by omega)) (h0)) (args2 (ev rfl rfl) (ev rfl rfl)) ?_)
    rintro _ w8 ⟨_, _, rfl, ⟨p16, n16, c16, p17, n17, c17, p18, n18, c18, rfl, rfl⟩, hN⟩
    refine ⟨_, rfl, ?_⟩
    replace hS := hS.news hN; clear hN
    refine wl rfl (omove (v := .tuple #[.agg #[.bool (ng (((Int.natAbs x : Nat) : Int))), .slice p16 n16 c16], .agg #[.bool (ng ((Int.sign x))), .slice p17 n17 c17], .agg #[.bool (ng 0), .slice p18 n18 c18]]) rfl rfl (ev (v := .tuple #[.agg #[.bool (ng (((Int.natAbs x : Nat) : Int))), .slice p16 n16 c16], .agg #[.bool (ng ((Int.sign x))), .slice p17 n17 c17], .agg #[.bool (ng 0), .slice p18 n18 c18]]) rfl rfl) ?_)
    refine wl rfl (oextract (vs := [.agg #[.bool (ng (((Int.natAbs x : Nat) : Int))), .slice p16 n16 c16], .agg #[.bool (ng ((Int.sign x))), .slice p17 n17 c17], .agg #[.bool (ng 0), .slice p18 n18 c18]]) (v := .agg #[.bool (ng (((Int.natAbs x : Nat) : Int))), .slice p16 n16 c16]) rfl rfl (ev (v := .tuple #[.agg #[.bool (ng (((Int.natAbs x : Nat) : Int))), .slice p16 n16 c16], .agg #[.bool (ng ((Int.sign x))), .slice p17 n17 c17], .agg #[.bool (ng 0), .slice p18 n18 c18]]) rfl rfl) rfl ?_)
    refine wl rfl (oextract (vs := [.agg #[.bool (ng (((Int.natAbs x : Nat) : Int))), .slice p16 n16 c16], .agg #[.bool (ng ((Int.sign x))), .slice p17 n17 c17], .agg #[.bool (ng 0), .slice p18 n18 c18]]) (v := .agg #[.bool (ng ((Int.sign x))), .slice p17 n17 c17]) rfl rfl (ev (v := .tuple #[.agg #[.bool (ng (((Int.natAbs x : Nat) : Int))), .slice p16 n16 c16], .agg #[.bool (ng ((Int.sign x))), .slice p17 n17 c17], .agg #[.bool (ng 0), .slice p18 n18 c18]]) rfl rfl) rfl ?_)
    refine wl rfl (oextract (vs := [.agg #[.bool (ng (((Int.natAbs x : Nat) : Int))), .slice p16 n16 c16], .agg #[.bool (ng ((Int.sign x))), .slice p17 n17 c17], .agg #[.bool (ng 0), .slice p18 n18 c18]]) (v := .agg #[.bool (ng 0), .slice p18 n18 c18]) rfl rfl (ev (v := .tuple #[.agg #[.bool (ng (((Int.natAbs x : Nat) : Int))), .slice p16 n16 c16], .agg #[.bool (ng ((Int.sign x))), .slice p17 n17 c17], .agg #[.bool (ng 0), .slice p18 n18 c18]]) rfl rfl) rfl ?_)
    refine wl rfl (oalloc [.bool false, .slice none 0 0] hS rfl rfl Try.zeroValue25 rfl ?_)
    clear hS; intro g9 w10 hS
    refine wl rfl (oalloc [.bool false, .slice none 0 0] hS rfl rfl Try.zeroValue25 rfl ?_)
    clear hS; intro g11 w12 hS
    refine wl rfl (oalloc [.bool false, .slice none 0 0] hS rfl rfl Try.zeroValue25 rfl ?_)
    clear hS; intro g13 w14 hS
    refine wl rfl (ostore [.bool (ng (((Int.natAbs x : Nat) : Int))), .slice p16 n16 c16] [.bool (ng (((Int.natAbs x : Nat) : Int))), .slice p16 n16 c16] Try.sizeOf25 hS 2 rfl rfl (ev rfl rfl) (ev (v := .agg #[.bool (ng (((Int.natAbs x : Nat) : Int))), .slice p16 n16 c16]) rfl rfl) rfl rfl rfl rfl rfl rfl ?_)
    clear hS; intro w15 hS
    refine wl rfl (ostore [.bool (ng ((Int.sign x))), .slice p17 n17 c17] [.bool (ng ((Int.sign x))), .slice p17 n17 c17] Try.sizeOf25 hS 1 rfl rfl (ev rfl rfl) (ev (v := .agg #[.bool (ng ((Int.sign x))), .slice p17 n17 c17]) rfl rfl) rfl rfl rfl rfl rfl rfl ?_)
    clear hS; intro w16 hS
    refine wl rfl (ostore [.bool (ng 0), .slice p18 n18 c18] [.bool (ng 0), .slice p18 n18 c18] Try.sizeOf25 hS 0 rfl rfl (ev rfl rfl) (ev (v := .agg #[.bool (ng 0), .slice p18 n18 c18]) rfl rfl) rfl rfl rfl rfl rfl rfl ?_)
    clear hS; intro w17 hS
    refine wnil ?_
    refine thenN ?_
    refine wseq ?_
    refine wseq ?_
    obtain ⟨z19, hz19⟩ : ∃ z : Int, Hid (x * ((Int.sign x)) = z) := ⟨_, rfl⟩
    have hk19 : Wd z19 2097154 := Wd.mul hzx.wd hk17 hz19 (by omega)
    obtain ⟨z20, hz20⟩ : ∃ z : Int, Hid (y * 0 = z) := ⟨_, rfl⟩
    have hk20 : Wd z20 2097154 := Wd.mul hzy.wd hk18 hz20 (by omega)
    obtain ⟨z21, hz21⟩ : ∃ z : Int, Hid (z19 + z20 = z) := ⟨_, rfl⟩
    have hk21 : Wd z21 2097155 := Wd.add hk19 hk20 hz21 (by omega)
    obtain ⟨z22, hz22⟩ : ∃ z : Int, Hid ((Int.gcd x y : Int) = z) := ⟨_, rfl⟩
    have hk22 : Wd z22 1048576 := Wd.gcd hzx.wd hzy.wd hz22 (by omega)
    obtain ⟨z23, hz23⟩ : ∃ z : Int, Hid ((Int.lcm x y : Int) = z) := ⟨_, rfl⟩
    have hk23 : Wd z23 2097152 := Wd.lcm hzx.wd hzy.wd hz23 (by omega)
    obtain ⟨z24, hz24⟩ : ∃ z : Int, Hid (z22 * z23 = z) := ⟨_, rfl⟩
    have hk24 : Wd z24 3145728 := Wd.mul hk22 hk23 hz24 (by omega)
    obtain ⟨z25, hz25⟩ : ∃ z : Int, Hid (x * y = z) := ⟨_, rfl⟩
    have hk25 : Wd z25 2097152 := Wd.mul hzx.wd hzy.wd hz25 (by omega)
    obtain ⟨z26, hz26⟩ : ∃ z : Int, Hid ((Int.natAbs z25 : Int) = z) := ⟨_, rfl⟩
    have hk26 : Wd z26 2097152 := Wd.nabs hk25 hz26
    refine wstage 27 [84, 85, 86, 87, 88, 89, 90, 91, 92, 93, 94, 95, 96, 97, 98, 99, 100, 101, 102, 103, 104, 105, 106, 107, 108, 109, 110] [[], [], [0, 1], [], [], [3, 4, 0, 1, 2], [2, 5, 0, 1, 3, 4], [], [6, 7, 0, 1, 2, 3, 4, 5], [8, 0, 1, 2, 3, 4, 5, 6, 7], [9, 0, 1, 2, 3, 4, 5, 6, 7, 8], [10, 0, 1, 2, 3, 4, 5, 6, 7, 8, 9], [10, 0, 1, 2, 3, 4, 5, 6, 7, 8, 9], [10, 11, 12, 0, 1, 2, 3, 4, 5, 6, 7, 8, 9], [10, 13, 0, 1, 2, 3, 4, 5, 6, 7, 8, 9, 11, 12], [10, 0, 1, 2, 3, 4, 5, 6, 7, 8, 9], [10, 0, 1, 2, 3, 4, 5, 6, 7, 8, 9], [10, 15, 16, 0, 1, 2, 3, 4, 5, 6, 7, 8, 9], [10, 17, 0, 1, 2, 3, 4, 5, 6, 7, 8, 9, 11, 12, 13, 14, 15, 16], [10, 14, 18, 0, 1, 2, 3, 4, 5, 6, 7, 8, 9, 11, 12, 13, 15, 16, 17], [10, 0, 1, 2, 3, 4, 5, 6, 7, 8, 9], [10, 0, 1, 2, 3, 4, 5, 6, 7, 8, 9], [10, 20, 21, 0, 1, 2, 3, 4, 5, 6, 7, 8, 9, 11, 12, 13, 14, 15, 16, 17, 18, 19], [10, 22, 0, 1, 2, 3, 4, 5, 6, 7, 8, 9, 11, 12, 13, 14, 15, 16, 17, 18, 19, 20, 21], [10, 19, 23, 0, 1, 2, 3, 4, 5, 6, 7, 8, 9, 11, 12, 13, 14, 15, 16, 17, 18, 20, 21, 22], [10, 24, 0, 1, 2, 3, 4, 5, 6, 7, 8, 9, 11, 12, 13, 14, 15, 16, 17, 18, 19, 20, 21, 22, 23], [10, 25, 0, 1, 2, 3, 4, 5, 6, 7, 8, 9, 11, 12, 13, 14, 15, 16, 17, 18, 19, 20, 21, 22, 23, 24]] [[], [], [], [], [], [], [], [], [], [], [], [], [], [], [], [], [], [], [], [], [], [], [], [], [], [], []] [] [] (fun i => ([fun _ => Is (.agg #[.bool b, .slice p n c]), fun _ => Is (.agg #[.bool (ng ((Int.sign x))), .slice p17 n17 c17]), fun _ => Zt z19, fun _ => Is (.agg #[.bool b2, .slice q m d]), fun _ => Is (.agg #[.bool (ng 0), .slice p18 n18 c18]), fun _ => Zt z20, fun _ => Zt z21, fun _ => Is (.agg #[.bool (ng (((Int.natAbs x : Nat) : Int))), .slice p16 n16 c16]), fun _ => Is (.bool true), fun _ => Is (.bool false), fun _ => Is (.bool false), fun _ => Is (.agg #[.bool b, .slice p n c]), fun _ => Is (.agg #[.bool b2, .slice q m d]), fun _ => Slb [.bool b, .slice p n c, .bool b2, .slice q m d] 25 2, fun _ => Zt z22, fun _ => Is (.agg #[.bool b, .slice p n c]), fun _ => Is (.agg #[.bool b2, .slice q m d]), fun _ => Slb [.bool b, .slice p n c, .bool b2, .slice q m d] 25 2, fun _ => Zt z23, fun _ => Zt z24, fun _ => Is (.agg #[.bool b, .slice p n c]), fun _ => Is (.agg #[.bool b2, .slice q m d]), fun _ => Zt z25, fun _ => Zt z26, fun _ => Is (.bool true), fun _ => Is (.bool false), fun _ => Is (.bool false)] : List (List Value → Tell)).getD i (fun _ _ _ => False)) (heldNil) (fun d _ _ _ _ h => (by cases d <;> exact h)) (by kernel_rfl) (by kernel_rfl) (by kernel_rfl) hS ?_ ?_
    ·
      refine stepsCons rfl ?_ ?_
      · intro Q f' w' ρ S ho hT hS hB
        exact .inl ⟨want_none rfl, oload (vs := [.bool b, .slice p n c]) aggZ hS 23 rfl rfl (ev rfl (ho 3 rfl)) rfl rfl rfl ⟨_, _, rfl, isI, New.same _⟩⟩
      refine stepsCons rfl ?_ ?_
      · intro Q f' w' ρ S ho hT hS hB
        exact .inl ⟨want_none rfl, oload (vs := [.bool (ng ((Int.sign x))), .slice p17 n17 c17]) aggZ hS 1 rfl rfl (ev rfl (ho 8 rfl)) rfl rfl rfl ⟨_, _, rfl, isI, New.same _⟩⟩
      refine stepsCons rfl ?_ ?_
      · intro Q f' w' ρ S ho hT hS hB
        obtain ⟨hv0, hr0⟩ := (hT 0 84 rfl rfl : (Is (.agg #[.bool b, .slice p n c])) (f' 84) (ρ 0))
        obtain ⟨hv1, hr1⟩ := (hT 1 85 rfl rfl : (Is (.agg #[.bool (ng ((Int.sign x))), .slice p17 n17 c17])) (f' 85) (ρ 1))
        obtain hS := hS.flat2 hr0 hr1
        refine .inl ⟨want_none rfl, ocall rfl rfl Try.call16 rfl (wzmul ((hzx.at hS).mono (by omega)) (((hS.sl 4 rfl).zr hk17).mono (by omega)) hz19) (args2 (ev rfl hv0) (ev rfl hv1)) ?_⟩
        rintro _ w9 ⟨_, _, rfl, hTT, hN⟩
        exact ⟨_, rfl, _, _, rfl, hTT, hN⟩
      refine stepsCons rfl ?_ ?_
      · intro Q f' w' ρ S ho hT hS hB
        exact .inl ⟨want_none rfl, oload (vs := [.bool b2, .slice q m d]) aggZ hS 22 rfl rfl (ev rfl (ho 4 rfl)) rfl rfl rfl ⟨_, _, rfl, isI, New.same _⟩⟩
      refine stepsCons rfl ?_ ?_
      · intro Q f' w' ρ S ho hT hS hB
        exact .inl ⟨want_none rfl, oload (vs := [.bool (ng 0), .slice p18 n18 c18]) aggZ hS 0 rfl rfl (ev rfl (ho 9 rfl)) rfl rfl rfl ⟨_, _, rfl, isI, New.same _⟩⟩
      refine stepsCons rfl ?_ ?_
      · intro Q f' w' ρ S ho hT hS hB
        obtain ⟨hv3, hr3⟩ := (hT 3 87 rfl rfl : (Is (.agg #[.bool b2, .slice q m d])) (f' 87) (ρ 3))
        obtain ⟨hv4, hr4⟩ := (hT 4 88 rfl rfl : (Is (.agg #[.bool (ng 0), .slice p18 n18 c18])) (f' 88) (ρ 4))
        obtain hS := hS.flat2 hr3 hr4
        refine .inl ⟨want_none rfl, ocall rfl rfl Try.call16 rfl (wzmul ((hzy.at hS).mono (by omega)) (((hS.sl 5 rfl).zr hk18).mono (by omega)) hz20) (args2 (ev rfl hv3) (ev rfl hv4)) ?_⟩
        rintro _ w9 ⟨_, _, rfl, hTT, hN⟩
        exact ⟨_, rfl, _, _, rfl, hTT, hN⟩
      refine stepsCons rfl ?_ ?_
      · intro Q f' w' ρ S ho hT hS hB
        obtain ⟨p19, n19, c19, hv2, hr2⟩ := (hT 2 86 rfl rfl : (Zt z19) (f' 86) (ρ 2))
        obtain ⟨p20, n20, c20, hv5, hr5⟩ := (hT 5 89 rfl rfl : (Zt z20) (f' 89) (ρ 5))
        obtain hS := hS.flat2 hr2 hr5
        refine .inl ⟨want_none rfl, ocall rfl rfl Try.call11 rfl (wzadd (((hS.sl 24 rfl).zr hk19).mono (by omega)) (((hS.sl 25 rfl).zr hk20).mono (by omega)) hz21) (args2 (ev rfl hv2) (ev rfl hv5)) ?_⟩
        rintro _ w9 ⟨_, _, rfl, hTT, hN⟩
        exact ⟨_, rfl, _, _, rfl, hTT, hN⟩
      refine stepsCons rfl ?_ ?_
      · intro Q f' w' ρ S ho hT hS hB
        exact .inl ⟨want_none rfl, oload (vs := [.bool (ng (((Int.natAbs x : Nat) : Int))), .slice p16 n16 c16]) aggZ hS 2 rfl rfl (ev rfl (ho 7 rfl)) rfl rfl rfl ⟨_, _, rfl, isI, New.same _⟩⟩
      refine stepsCons rfl ?_ ?_
      · intro Q f' w' ρ S ho hT hS hB
        obtain ⟨p21, n21, c21, hv6, hr6⟩ := (hT 6 90 rfl rfl : (Zt z21) (f' 90) (ρ 6))
        obtain ⟨hv7, hr7⟩ := (hT 7 91 rfl rfl : (Is (.agg #[.bool (ng (((Int.natAbs x : Nat) : Int))), .slice p16 n16 c16])) (f' 91) (ρ 7))
        obtain hS := hS.flat2 hr6 hr7
        refine .inl ⟨want_none rfl, ocall rfl rfl Try.call57 rfl (wleq (((hS.sl 24 rfl).zr hk21).mono (by omega)) (((hS.sl 3 rfl).zr hk16).mono (by omega)) (by rw [← hz21.out, ← hz19.out, ← hz20.out, h0, Int.mul_zero, Int.add_zero, Int.mul_sign_self])) (args2 (ev rfl hv6) (ev rfl hv7)) ?_⟩
        rintro _ w9 ⟨_, _, rfl, hTT, hN⟩
        exact ⟨_, rfl, _, _, rfl, hTT, hN⟩
      refine stepsCons rfl ?_ ?_
      · intro Q f' w' ρ S ho hT hS hB
        obtain ⟨hv8, hr8⟩ := (hT 8 92 rfl rfl : (Is (.bool true)) (f' 92) (ρ 8))
        obtain hS := hS.flat1 hr8
        exact .inl ⟨want_none rfl, onot (b := true) rfl rfl (ev (v := .bool true) rfl hv8) ⟨_, _, rfl, isI, New.same _⟩⟩
      refine stepsCons rfl ?_ ?_
      · intro Q f' w' ρ S ho hT hS hB
        obtain ⟨hv9, hr9⟩ := (hT 9 93 rfl rfl : (Is (.bool false)) (f' 93) (ρ 9))
        obtain hS := hS.flat1 hr9
        exact .inl ⟨want_none rfl, omove (v := .bool false) rfl rfl (ev (v := .bool false) rfl hv9) ⟨_, _, rfl, isI, New.same _⟩⟩
      refine stepsCons rfl ?_ ?_
      · intro Q f' w' ρ S ho hT hS hB
        obtain ⟨hv10, hr10⟩ := (hT 10 94 rfl rfl : (Is (.bool false)) (f' 94) (ρ 10))
        obtain hS := hS.flat1 hr10
        exact .inl ⟨want_on (e := 94) rfl rfl rfl hv10, oload (vs := [.bool b, .slice p n c]) aggZ hS 23 rfl rfl (ev rfl (ho 3 rfl)) rfl rfl rfl ⟨_, _, rfl, isI, New.same _⟩⟩
      refine stepsCons rfl ?_ ?_
      · intro Q f' w' ρ S ho hT hS hB
        obtain ⟨hv10, hr10⟩ := (hT 10 94 rfl rfl : (Is (.bool false)) (f' 94) (ρ 10))
        obtain hS := hS.flat1 hr10
        exact .inl ⟨want_on (e := 94) rfl rfl rfl hv10, oload (vs := [.bool b2, .slice q m d]) aggZ hS 22 rfl rfl (ev rfl (ho 4 rfl)) rfl rfl rfl ⟨_, _, rfl, isI, New.same _⟩⟩
      refine stepsCons rfl ?_ ?_
      · intro Q f' w' ρ S ho hT hS hB
        obtain ⟨hv10, hr10⟩ := (hT 10 94 rfl rfl : (Is (.bool false)) (f' 94) (ρ 10))
        obtain ⟨hv11, hr11⟩ := (hT 11 95 rfl rfl : (Is (.agg #[.bool b, .slice p n c])) (f' 95) (ρ 11))
        obtain ⟨hv12, hr12⟩ := (hT 12 96 rfl rfl : (Is (.agg #[.bool b2, .slice q m d])) (f' 96) (ρ 12))
        obtain hS := hS.flat3 hr10 hr11 hr12
        exact .inl ⟨want_on (e := 94) rfl rfl rfl hv10, obsliceN (ps := #[(0, .agg #[.bool b, .slice p n c]), (1, .agg #[.bool b2, .slice q m d])]) (z := .agg #[.bool false, .slice none 0 0]) [.bool b, .slice p n c, .bool b2, .slice q m d] rfl rfl Try.runUnderlying52 Try.sizeOf25 Try.zeroValue25 (parts2 (ev (v := .agg #[.bool b, .slice p n c]) rfl hv11) (ev (v := .agg #[.bool b2, .slice q m d]) rfl hv12)) rfl (by decide) fill2 ⟨_, _, rfl, ⟨_, rfl, rfl⟩, New.blk _ _ _⟩⟩
      refine stepsCons rfl ?_ ?_
      · intro Q f' w' ρ S ho hT hS hB
        obtain ⟨hv10, hr10⟩ := (hT 10 94 rfl rfl : (Is (.bool false)) (f' 94) (ρ 10))
        obtain ⟨g18, hv13, hr13⟩ := (hT 13 97 rfl rfl : (Slb [.bool b, .slice p n c, .bool b2, .slice q m d] 25 2) (f' 97) (ρ 13))
        obtain hS := hS.flat2 hr10 hr13
        refine .inl ⟨want_on (e := 94) rfl rfl rfl hv10, ocall rfl rfl Try.call45 rfl ((wzGcd_two (hS.blkAt 24 rfl) (hzx.at hS) (hzy.at hS) hzx.wd hzy.wd hz22)) (args1 (ev rfl hv13)) ?_⟩
        rintro _ w9 ⟨_, _, rfl, hTT, hN⟩
        exact ⟨_, rfl, _, _, rfl, hTT, hN⟩
      refine stepsCons rfl ?_ ?_
      · intro Q f' w' ρ S ho hT hS hB
        obtain ⟨hv10, hr10⟩ := (hT 10 94 rfl rfl : (Is (.bool false)) (f' 94) (ρ 10))
        obtain hS := hS.flat1 hr10
        exact .inl ⟨want_on (e := 94) rfl rfl rfl hv10, oload (vs := [.bool b, .slice p n c]) aggZ hS 23 rfl rfl (ev rfl (ho 3 rfl)) rfl rfl rfl ⟨_, _, rfl, isI, New.same _⟩⟩
      refine stepsCons rfl ?_ ?_
      · intro Q f' w' ρ S ho hT hS hB
        obtain ⟨hv10, hr10⟩ := (hT 10 94 rfl rfl : (Is (.bool false)) (f' 94) (ρ 10))
        obtain hS := hS.flat1 hr10
        exact .inl ⟨want_on (e := 94) rfl rfl rfl hv10, oload (vs := [.bool b2, .slice q m d]) aggZ hS 22 rfl rfl (ev rfl (ho 4 rfl)) rfl rfl rfl ⟨_, _, rfl, isI, New.same _⟩⟩
      refine stepsCons rfl ?_ ?_
      · intro Q f' w' ρ S ho hT hS hB
        obtain ⟨hv10, hr10⟩ := (hT 10 94 rfl rfl : (Is (.bool false)) (f' 94) (ρ 10))
        obtain ⟨hv15, hr15⟩ := (hT 15 99 rfl rfl : (Is (.agg #[.bool b, .slice p n c])) (f' 99) (ρ 15))
        obtain ⟨hv16, hr16⟩ := (hT 16 100 rfl rfl : (Is (.agg #[.bool b2, .slice q m d])) (f' 100) (ρ 16))
        obtain hS := hS.flat3 hr10 hr15 hr16
        exact .inl ⟨want_on (e := 94) rfl rfl rfl hv10, obsliceN (ps := #[(0, .agg #[.bool b, .slice p n c]), (1, .agg #[.bool b2, .slice q m d])]) (z := .agg #[.bool false, .slice none 0 0]) [.bool b, .slice p n c, .bool b2, .slice q m d] rfl rfl Try.runUnderlying52 Try.sizeOf25 Try.zeroValue25 (parts2 (ev (v := .agg #[.bool b, .slice p n c]) rfl hv15) (ev (v := .agg #[.bool b2, .slice q m d]) rfl hv16)) rfl (by decide) fill2 ⟨_, _, rfl, ⟨_, rfl, rfl⟩, New.blk _ _ _⟩⟩
      refine stepsCons rfl ?_ ?_
      · intro Q f' w' ρ S ho hT hS hB
        obtain ⟨hv10, hr10⟩ := (hT 10 94 rfl rfl : (Is (.bool false)) (f' 94) (ρ 10))
        obtain ⟨g19, hv17, hr17⟩ := (hT 17 101 rfl rfl : (Slb [.bool b, .slice p n c, .bool b2, .slice q m d] 25 2) (f' 101) (ρ 17))
        obtain hS := hS.flat2 hr10 hr17
        refine .inl ⟨want_on (e := 94) rfl rfl rfl hv10, ocall rfl rfl Try.call47 rfl ((wzLcm_two (hS.blkAt 24 rfl) (hzx.at hS) (hzy.at hS) hzx.wd hzy.wd hz23)) (args1 (ev rfl hv17)) ?_⟩
        rintro _ w9 ⟨_, _, rfl, hTT, hN⟩
        exact ⟨_, rfl, _, _, rfl, hTT, hN⟩
      refine stepsCons rfl ?_ ?_
      · intro Q f' w' ρ S ho hT hS hB
        obtain ⟨hv10, hr10⟩ := (hT 10 94 rfl rfl : (Is (.bool false)) (f' 94) (ρ 10))
        obtain ⟨p22, n22, c22, hv14, hr14⟩ := (hT 14 98 rfl rfl : (Zt z22) (f' 98) (ρ 14))
        obtain ⟨p23, n23, c23, hv18, hr18⟩ := (hT 18 102 rfl rfl : (Zt z23) (f' 102) (ρ 18))
        obtain hS := hS.flat3 hr10 hr14 hr18
        refine .inl ⟨want_on (e := 94) rfl rfl rfl hv10, ocall rfl rfl Try.call16 rfl (wzmul (((hS.sl 24 rfl).zr hk22).mono (by omega)) (((hS.sl 25 rfl).zr hk23).mono (by omega)) hz24) (args2 (ev rfl hv14) (ev rfl hv18)) ?_⟩
        rintro _ w9 ⟨_, _, rfl, hTT, hN⟩
        exact ⟨_, rfl, _, _, rfl, hTT, hN⟩
      refine stepsCons rfl ?_ ?_
      · intro Q f' w' ρ S ho hT hS hB
        obtain ⟨hv10, hr10⟩ := (hT 10 94 rfl rfl : (Is (.bool false)) (f' 94) (ρ 10))
        obtain hS := hS.flat1 hr10
        exact .inl ⟨want_on (e := 94) rfl rfl rfl hv10, oload (vs := [.bool b, .slice p n c]) aggZ hS 23 rfl rfl (ev rfl (ho 3 rfl)) rfl rfl rfl ⟨_, _, rfl, isI, New.same _⟩⟩
      refine stepsCons rfl ?_ ?_
      · intro Q f' w' ρ S ho hT hS hB
        obtain ⟨hv10, hr10⟩ := (hT 10 94 rfl rfl : (Is (.bool false)) (f' 94) (ρ 10))
        obtain hS := hS.flat1 hr10
        exact .inl ⟨want_on (e := 94) rfl rfl rfl hv10, oload (vs := [.bool b2, .slice q m d]) aggZ hS 22 rfl rfl (ev rfl (ho 4 rfl)) rfl rfl rfl ⟨_, _, rfl, isI, New.same _⟩⟩
      refine stepsCons rfl ?_ ?_
      · intro Q f' w' ρ S ho hT hS hB
        obtain ⟨hv10, hr10⟩ := (hT 10 94 rfl rfl : (Is (.bool false)) (f' 94) (ρ 10))
        obtain ⟨hv20, hr20⟩ := (hT 20 104 rfl rfl : (Is (.agg #[.bool b, .slice p n c])) (f' 104) (ρ 20))
        obtain ⟨hv21, hr21⟩ := (hT 21 105 rfl rfl : (Is (.agg #[.bool b2, .slice q m d])) (f' 105) (ρ 21))
        obtain hS := hS.flat3 hr10 hr20 hr21
        refine .inl ⟨want_on (e := 94) rfl rfl rfl hv10, ocall rfl rfl Try.call16 rfl (wzmul ((hzx.at hS).mono (by omega)) ((hzy.at hS).mono (by omega)) hz25) (args2 (ev rfl hv20) (ev rfl hv21)) ?_⟩
        rintro _ w9 ⟨_, _, rfl, hTT, hN⟩
        exact ⟨_, rfl, _, _, rfl, hTT, hN⟩
      refine stepsCons rfl ?_ ?_
      · intro Q f' w' ρ S ho hT hS hB
        obtain ⟨hv10, hr10⟩ := (hT 10 94 rfl rfl : (Is (.bool false)) (f' 94) (ρ 10))
        obtain ⟨p25, n25, c25, hv22, hr22⟩ := (hT 22 106 rfl rfl : (Zt z25) (f' 106) (ρ 22))
        obtain hS := hS.flat2 hr10 hr22
        refine .inl ⟨want_on (e := 94) rfl rfl rfl hv10, ocall rfl rfl Try.call30 rfl (wzabs (((hS.sl 24 rfl).zr hk25).mono (by omega)) hz26) (args1 (ev rfl hv22)) ?_⟩
        rintro _ w9 ⟨_, _, rfl, hTT, hN⟩
        exact ⟨_, rfl, _, _, rfl, hTT, hN⟩
      refine stepsCons rfl ?_ ?_
      · intro Q f' w' ρ S ho hT hS hB
        obtain ⟨hv10, hr10⟩ := (hT 10 94 rfl rfl : (Is (.bool false)) (f' 94) (ρ 10))
        obtain ⟨p24, n24, c24, hv19, hr19⟩ := (hT 19 103 rfl rfl : (Zt z24) (f' 103) (ρ 19))
        obtain ⟨p26, n26, c26, hv23, hr23⟩ := (hT 23 107 rfl rfl : (Zt z26) (f' 107) (ρ 23))
        obtain hS := hS.flat3 hr10 hr19 hr23
        refine .inl ⟨want_on (e := 94) rfl rfl rfl hv10, ocall rfl rfl Try.call57 rfl (wleq (((hS.sl 24 rfl).zr hk24).mono (by omega)) (((hS.sl 25 rfl).zr hk26).mono (by omega)) (by rw [← hz24.out, ← hz22.out, ← hz23.out, ← hz26.out, ← hz25.out, h0]; simp)) (args2 (ev rfl hv19) (ev rfl hv23)) ?_⟩
        rintro _ w9 ⟨_, _, rfl, hTT, hN⟩
        exact ⟨_, rfl, _, _, rfl, hTT, hN⟩
      refine stepsCons rfl ?_ ?_
      · intro Q f' w' ρ S ho hT hS hB
        obtain ⟨hv10, hr10⟩ := (hT 10 94 rfl rfl : (Is (.bool false)) (f' 94) (ρ 10))
        obtain ⟨hv24, hr24⟩ := (hT 24 108 rfl rfl : (Is (.bool true)) (f' 108) (ρ 24))
        obtain hS := hS.flat2 hr10 hr24
        exact .inl ⟨want_on (e := 94) rfl rfl rfl hv10, onot (b := true) rfl rfl (ev (v := .bool true) rfl hv24) ⟨_, _, rfl, isI, New.same _⟩⟩
      refine stepsCons rfl ?_ ?_
      · intro Q f' w' ρ S ho hT hS hB
        obtain ⟨hv10, hr10⟩ := (hT 10 94 rfl rfl : (Is (.bool false)) (f' 94) (ρ 10))
        obtain ⟨hv25, hr25⟩ := (hT 25 109 rfl rfl : (Is (.bool false)) (f' 109) (ρ 25))
        obtain hS := hS.flat2 hr10 hr25
        exact .inl ⟨want_none rfl, opick (b := false) (v := .bool false) rfl rfl (ev (v := .bool false) rfl hv10) (ev (v := .bool false) rfl hv25) ⟨_, _, rfl, isI, New.same _⟩⟩
      exact stepsNil
    ·
      intro vs ρ w20 f' hf hT hS
      obtain ⟨hv0, hr0⟩ := (hT 0 (by decide) : (Is (.agg #[.bool b, .slice p n c])) (vs 0) (ρ 0))
      obtain ⟨hv1, hr1⟩ := (hT 1 (by decide) : (Is (.agg #[.bool (ng ((Int.sign x))), .slice p17 n17 c17])) (vs 1) (ρ 1))
      obtain ⟨p19, n19, c19, hv2, hr2⟩ := (hT 2 (by decide) : (Zt z19) (vs 2) (ρ 2))
      obtain ⟨hv3, hr3⟩ := (hT 3 (by decide) : (Is (.agg #[.bool b2, .slice q m d])) (vs 3) (ρ 3))
      obtain ⟨hv4, hr4⟩ := (hT 4 (by decide) : (Is (.agg #[.bool (ng 0), .slice p18 n18 c18])) (vs 4) (ρ 4))
      obtain ⟨p20, n20, c20, hv5, hr5⟩ := (hT 5 (by decide) : (Zt z20) (vs 5) (ρ 5))
      obtain ⟨p21, n21, c21, hv6, hr6⟩ := (hT 6 (by decide) : (Zt z21) (vs 6) (ρ 6))
      obtain ⟨hv7, hr7⟩ := (hT 7 (by decide) : (Is (.agg #[.bool (ng (((Int.natAbs x : Nat) : Int))), .slice p16 n16 c16])) (vs 7) (ρ 7))
      obtain ⟨hv8, hr8⟩ := (hT 8 (by decide) : (Is (.bool true)) (vs 8) (ρ 8))
      obtain ⟨hv9, hr9⟩ := (hT 9 (by decide) : (Is (.bool false)) (vs 9) (ρ 9))
      obtain ⟨hv10, hr10⟩ := (hT 10 (by decide) : (Is (.bool false)) (vs 10) (ρ 10))
      obtain ⟨hv11, hr11⟩ := (hT 11 (by decide) : (Is (.agg #[.bool b, .slice p n c])) (vs 11) (ρ 11))
      obtain ⟨hv12, hr12⟩ := (hT 12 (by decide) : (Is (.agg #[.bool b2, .slice q m d])) (vs 12) (ρ 12))
      obtain ⟨g18, hv13, hr13⟩ := (hT 13 (by decide) : (Slb [.bool b, .slice p n c, .bool b2, .slice q m d] 25 2) (vs 13) (ρ 13))
      obtain ⟨p22, n22, c22, hv14, hr14⟩ := (hT 14 (by decide) : (Zt z22) (vs 14) (ρ 14))
      obtain ⟨hv15, hr15⟩ := (hT 15 (by decide) : (Is (.agg #[.bool b, .slice p n c])) (vs 15) (ρ 15))
      obtain ⟨hv16, hr16⟩ := (hT 16 (by decide) : (Is (.agg #[.bool b2, .slice q m d])) (vs 16) (ρ 16))
      obtain ⟨g19, hv17, hr17⟩ := (hT 17 (by decide) : (Slb [.bool b, .slice p n c, .bool b2, .slice q m d] 25 2) (vs 17) (ρ 17))
      obtain ⟨p23, n23, c23, hv18, hr18⟩ := (hT 18 (by decide) : (Zt z23) (vs 18) (ρ 18))
      obtain ⟨p24, n24, c24, hv19, hr19⟩ := (hT 19 (by decide) : (Zt z24) (vs 19) (ρ 19))
      obtain ⟨hv20, hr20⟩ := (hT 20 (by decide) : (Is (.agg #[.bool b, .slice p n c])) (vs 20) (ρ 20))
      obtain ⟨hv21, hr21⟩ := (hT 21 (by decide) : (Is (.agg #[.bool b2, .slice q m d])) (vs 21) (ρ 21))
      obtain ⟨p25, n25, c25, hv22, hr22⟩ := (hT 22 (by decide) : (Zt z25) (vs 22) (ρ 22))
      obtain ⟨p26, n26, c26, hv23, hr23⟩ := (hT 23 (by decide) : (Zt z26) (vs 23) (ρ 23))
      obtain ⟨hv24, hr24⟩ := (hT 24 (by decide) : (Is (.bool true)) (vs 24) (ρ 24))
      obtain ⟨hv25, hr25⟩ := (hT 25 (by decide) : (Is (.bool false)) (vs 25) (ρ 25))
      obtain ⟨hv26, hr26⟩ := (hT 26 (by decide) : (Is (.bool false)) (vs 26) (ρ 26))
      simp only [pool, if_true, hr0, hr1, hr2, hr3, hr4, hr5, hr6, hr7, hr8, hr9, hr10, hr11, hr12, hr13, hr14, hr15, hr16, hr17, hr18, hr19, hr20, hr21, hr22, hr23, hr24, hr25, hr26, List.nil_append, List.cons_append, List.append_nil] at hS
      simp only [layf, hv0, hv1, hv2, hv3, hv4, hv5, hv6, hv7, hv8, hv9, hv10, hv11, hv12, hv13, hv14, hv15, hv16, hv17, hv18, hv19, hv20, hv21, hv22, hv23, hv24, hv25, hv26] at hf
      subst hf; clear hT hv0 hv1 hv2 hv3 hv4 hv5 hv6 hv7 hv8 hv9 hv10 hv11 hv12 hv13 hv14 hv15 hv16 hv17 hv18 hv19 hv20 hv21 hv22 hv23 hv24 hv25 hv26 hr0 hr1 hr2 hr3 hr4 hr5 hr6 hr7 hr8 hr9 hr10 hr11 hr12 hr13 hr14 hr15 hr16 hr17 hr18 hr19 hr20 hr21 hr22 hr23 hr24 hr25 hr26
      refine wdone rfl ?_
      refine thenN ?_
      refine wF (ev (v := .bool false) rfl rfl) ?_
      refine wskip ?_
      refine thenN ?_
      refine wseq ?_
      refine wseq ?_
      refine wreg ?_
      refine wl rfl (oload (vs := [.bool b2, .slice q m d]) aggZ hS 32 rfl rfl (ev rfl rfl) rfl rfl rfl ?_)
      obtain ⟨s27, hs27⟩ : ∃ z : Int, Hid ((y : Int).sign = z) := ⟨_, rfl⟩
      refine wl rfl (ocall rfl rfl Try.call25 rfl (wzsign ((hzy.at hS).mono (by omega)) hs27) (args1 (ev rfl rfl)) ?_)
      rintro _ w21 ⟨_, _, rfl, ⟨rfl, rfl⟩, hN⟩
      refine ⟨_, rfl, ?_⟩
      replace hS := hS.news hN; clear hN
      refine wl rfl (obin (u := .int .i64 s27) (v := .int .i64 0) (z := .bool true) rfl rfl (ev (v := .int .i64 s27) rfl rfl) (evc (v := .int .i64 0)) (bin_eql (sign_eq hs27 h0)) ?_)
      refine wnil ?_
      refine thenN ?_
      refine wT (ev (v := .bool true) rfl rfl) ?_
      refine wseq ?_
      refine wreg ?_
      refine wl rfl (ocall rfl rfl Try.call19 rfl (wllives) (args0 ) ?_)
      rintro _ w22 ⟨_, _, rfl, ⟨rfl, rfl⟩, hN⟩
      refine ⟨_, rfl, ?_⟩
      replace hS := hS.news hN; clear hN
      refine wl rfl (oassign (v := .bool true) rfl rfl (ev (v := .bool true) rfl rfl) ?_)
      refine wnil ?_
      refine thenN ?_
      refine wleave ?_
      refine thenR ?_
      refine wret1 Try.results9 (tellT (v := .bool true) rfl rfl) ?_
      exact ⟨_, _, rfl, isI, hS.new0⟩

set_option maxRecDepth 100000 in
set_option maxHeartbeats 16000000 in
theorem zring_nz {b b2 b3 : Bool} {p q r : Option Addr} {n m k c d e : Nat} {xs ys zs : List Nat} {w : World} (hx : Sl w p n c xs) (hy : Sl w q m d ys) (hz : Sl w r k e zs) (hn : n ≤ 1048576) (hm : m ≤ 1048576) (hk : k ≤ 1048576) (hy9 : zv b2 (val ys) ≠ 0) :
    Calls Try.prog 9 #[.agg #[.bool b, .slice p n c], .agg #[.bool b2, .slice q m d], .agg #[.bool b3, .slice r k e]] w (Ret (Is (.bool true)) w) := by
  obtain ⟨x, hex⟩ : ∃ x : Int, zv b (val xs) = x := ⟨_, rfl⟩
  obtain ⟨y, hey⟩ : ∃ y : Int, zv b2 (val ys) = y := ⟨_, rfl⟩
  have hzx : Zr w b p n c x 1048576 := ⟨xs, hx, hex, hn⟩
  have hzy : Zr w b2 q m d y 1048576 := ⟨ys, hy, hey, hm⟩
  obtain ⟨y3, hez⟩ : ∃ z : Int, zv b3 (val zs) = z := ⟨_, rfl⟩
  have hzz : Zr w b3 r k e y3 1048576 := ⟨zs, hz, hez, hk⟩
  have hS := Sep.init w
  refine went Try.func9 rfl (n := 198) rfl rfl ?_
  refine wseq ?_
  refine wreg ?_
  refine wl rfl (obox [.bool b, .slice p n c] hS rfl rfl (ev (v := .agg #[.bool b, .slice p n c]) rfl rfl) rfl ?_)
  clear hS; intro g1 w2 hS
  refine wl rfl (obox [.bool b2, .slice q m d] hS rfl rfl (ev (v := .agg #[.bool b2, .slice q m d]) rfl rfl) rfl ?_)
  clear hS; intro g3 w4 hS
  refine wl rfl (obox [.bool b3, .slice r k e] hS rfl rfl (ev (v := .agg #[.bool b3, .slice r k e]) rfl rfl) rfl ?_)
  clear hS; intro g5 w6 hS
  refine wl rfl (oassign (v := .bool false) rfl rfl (evc (v := .bool false)) ?_)
  refine wnil ?_
  refine thenN ?_
  refine wseq ?_
  refine wseq ?_
  obtain ⟨z1, hz1⟩ : ∃ z : Int, Hid (x + y = z) := ⟨_, rfl⟩
  have hk1 : Wd z1 1048577 := Wd.add hzx.wd hzy.wd hz1 (by omega)
  obtain ⟨z2, hz2⟩ : ∃ z : Int, Hid (y + x = z) := ⟨_, rfl⟩
  have hk2 : Wd z2 1048577 := Wd.add hzy.wd hzx.wd hz2 (by omega)
  obtain ⟨z3, hz3⟩ : ∃ z : Int, Hid (y + y3 = z) := ⟨_, rfl⟩
  have hk3 : Wd z3 1048577 := Wd.add hzy.wd hzz.wd hz3 (by omega)
  obtain ⟨z4, hz4⟩ : ∃ z : Int, Hid (x * z3 = z) := ⟨_, rfl⟩
  have hk4 : Wd z4 2097153 := Wd.mul hzx.wd hk3 hz4 (by omega)
  obtain ⟨z5, hz5⟩ : ∃ z : Int, Hid (x * y = z) := ⟨_, rfl⟩
  have hk5 : Wd z5 2097152 := Wd.mul hzx.wd hzy.wd hz5 (by omega)
  obtain ⟨z6, hz6⟩ : ∃ z : Int, Hid (x * y3 = z) := ⟨_, rfl⟩
  have hk6 : Wd z6 2097152 := Wd.mul hzx.wd hzz.wd hz6 (by omega)
  obtain ⟨z7, hz7⟩ : ∃ z : Int, Hid (z5 + z6 = z) := ⟨_, rfl⟩
  have hk7 : Wd z7 2097153 := Wd.add hk5 hk6 hz7 (by omega)
  obtain ⟨z8, hz8⟩ : ∃ z : Int, Hid (x * y = z) := ⟨_, rfl⟩
  have hk8 : Wd z8 2097152 := Wd.mul hzx.wd hzy.wd hz8 (by omega)
  obtain ⟨z9, hz9⟩ : ∃ z : Int, Hid (z8 * y3 = z) := ⟨_, rfl⟩
  have hk9 : Wd z9 3145728 := Wd.mul hk8 hzz.wd hz9 (by omega)
  obtain ⟨z10, hz10⟩ : ∃ z : Int, Hid (y * y3 = z) := ⟨_, rfl⟩
  have hk10 : Wd z10 2097152 := Wd.mul hzy.wd hzz.wd hz10 (by omega)
  obtain ⟨z11, hz11⟩ : ∃ z : Int, Hid (x * z10 = z) := ⟨_, rfl⟩
  have hk11 : Wd z11 3145728 := Wd.mul hzx.wd hk10 hz11 (by omega)
  obtain ⟨z12, hz12⟩ : ∃ z : Int, Hid (x + y = z) := ⟨_, rfl⟩
  have hk12 : Wd z12 1048577 := Wd.add hzx.wd hzy.wd hz12 (by omega)
  obtain ⟨z13, hz13⟩ : ∃ z : Int, Hid (z12 - y = z) := ⟨_, rfl⟩
  have hk13 : Wd z13 1048578 := Wd.sub hk12 hzy.wd hz13 (by omega)
  obtain ⟨z14, hz14⟩ : ∃ z : Int, Hid (-x = z) := ⟨_, rfl⟩
  have hk14 : Wd z14 1048576 := Wd.neg hzx.wd hz14
  obtain ⟨z15, hz15⟩ : ∃ z : Int, Hid (-z14 = z) := ⟨_, rfl⟩
  have hk15 : Wd z15 1048576 := Wd.neg hk14 hz15
  refine wstage 56 [21, 22, 23, 24, 25, 26, 27, 28, 29, 30, 31, 32, 33, 34, 35, 36, 37, 38, 39, 40, 41, 42, 43, 44, 45, 46, 47, 48, 49, 50, 51, 52, 53, 54, 55, 56, 57, 58, 59, 60, 61, 62, 63, 64, 65, 66, 67, 68, 69, 70, 71, 72, 73, 74, 75, 76] [[], [], [0, 1], [], [], [3, 4, 0, 1, 2], [2, 5, 0, 1, 3, 4], [6, 0, 1, 2, 3, 4, 5], [7, 0, 1, 2, 3, 4, 5, 6], [8, 0, 1, 2, 3, 4, 5, 6, 7], [8, 0, 1, 2, 3, 4, 5, 6, 7], [8, 0, 1, 2, 3, 4, 5, 6, 7], [8, 10, 11, 0, 1, 2, 3, 4, 5, 6, 7], [8, 9, 12, 0, 1, 2, 3, 4, 5, 6, 7, 10, 11], [8, 0, 1, 2, 3, 4, 5, 6, 7], [8, 0, 1, 2, 3, 4, 5, 6, 7], [8, 14, 15, 0, 1, 2, 3, 4, 5, 6, 7, 9, 10, 11, 12, 13], [8, 0, 1, 2, 3, 4, 5, 6, 7], [8, 0, 1, 2, 3, 4, 5, 6, 7], [8, 17, 18, 0, 1, 2, 3, 4, 5, 6, 7, 9, 10, 11, 12, 13, 14, 15, 16], [8, 16, 19, 0, 1, 2, 3, 4, 5, 6, 7, 9, 10, 11, 12, 13, 14, 15, 17, 18], [8, 13, 20, 0, 1, 2, 3, 4, 5, 6, 7, 9, 10, 11, 12, 14, 15, 16, 17, 18, 19], [8, 21, 0, 1, 2, 3, 4, 5, 6, 7, 9, 10, 11, 12, 13, 14, 15, 16, 17, 18, 19, 20], [8, 22, 0, 1, 2, 3, 4, 5, 6, 7, 9, 10, 11, 12, 13, 14, 15, 16, 17, 18, 19, 20, 21], [23, 0, 1, 2, 3, 4, 5, 6, 7, 8, 9, 10, 11, 12, 13, 14, 15, 16, 17, 18, 19, 20, 21, 22], [24, 0, 1, 2, 3, 4, 5, 6, 7, 8, 9, 10, 11, 12, 13, 14, 15, 16, 17, 18, 19, 20, 21, 22, 23], [24, 0, 1, 2, 3, 4, 5, 6, 7, 8, 9, 10, 11, 12, 13, 14, 15, 16, 17, 18, 19, 20, 21, 22, 23], [24, 25, 26, 0, 1, 2, 3, 4, 5, 6, 7, 8, 9, 10, 11, 12, 13, 14, 15, 16, 17, 18, 19, 20, 21, 22, 23], [24, 0, 1, 2, 3, 4, 5, 6, 7, 8, 9, 10, 11, 12, 13, 14, 15, 16, 17, 18, 19, 20, 21, 22, 23], [24, 27, 28, 0, 1, 2, 3, 4, 5, 6, 7, 8, 9, 10, 11, 12, 13, 14, 15, 16, 17, 18, 19, 20, 21, 22, 23, 25, 26], [24, 0, 1, 2, 3, 4, 5, 6, 7, 8, 9, 10, 11, 12, 13, 14, 15, 16, 17, 18, 19, 20, 21, 22, 23], [24, 0, 1, 2, 3, 4, 5, 6, 7, 8, 9, 10, 11, 12, 13, 14, 15, 16, 17, 18, 19, 20, 21, 22, 23], [24, 0, 1, 2, 3, 4, 5, 6, 7, 8, 9, 10, 11, 12, 13, 14, 15, 16, 17, 18, 19, 20, 21, 22, 23], [24, 31, 32, 0, 1, 2, 3, 4, 5, 6, 7, 8, 9, 10, 11, 12, 13, 14, 15, 16, 17, 18, 19, 20, 21, 22, 23, 25, 26, 27, 28, 29], [24, 30, 33, 0, 1, 2, 3, 4, 5, 6, 7, 8, 9, 10, 11, 12, 13, 14, 15, 16, 17, 18, 19, 20, 21, 22, 23, 25, 26, 27, 28, 29, 31, 32], [24, 29, 34, 0, 1, 2, 3, 4, 5, 6, 7, 8, 9, 10, 11, 12, 13, 14, 15, 16, 17, 18, 19, 20, 21, 22, 23, 25, 26, 27, 28, 30, 31, 32, 33], [24, 35, 0, 1, 2, 3, 4, 5, 6, 7, 8, 9, 10, 11, 12, 13, 14, 15, 16, 17, 18, 19, 20, 21, 22, 23, 25, 26, 27, 28, 29, 30, 31, 32, 33, 34], [24, 36, 0, 1, 2, 3, 4, 5, 6, 7, 8, 9, 10, 11, 12, 13, 14, 15, 16, 17, 18, 19, 20, 21, 22, 23, 25, 26, 27, 28, 29, 30, 31, 32, 33, 34, 35], [37, 0, 1, 2, 3, 4, 5, 6, 7, 8, 9, 10, 11, 12, 13, 14, 15, 16, 17, 18, 19, 20, 21, 22, 23, 24, 25, 26, 27, 28, 29, 30, 31, 32, 33, 34, 35, 36], [38, 0, 1, 2, 3, 4, 5, 6, 7, 8, 9, 10, 11, 12, 13, 14, 15, 16, 17, 18, 19, 20, 21, 22, 23, 24, 25, 26, 27, 28, 29, 30, 31, 32, 33, 34, 35, 36, 37], [38, 0, 1, 2, 3, 4, 5, 6, 7, 8, 9, 10, 11, 12, 13, 14, 15, 16, 17, 18, 19, 20, 21, 22, 23, 24, 25, 26, 27, 28, 29, 30, 31, 32, 33, 34, 35, 36, 37], [38, 39, 40, 0, 1, 2, 3, 4, 5, 6, 7, 8, 9, 10, 11, 12, 13, 14, 15, 16, 17, 18, 19, 20, 21, 22, 23, 24, 25, 26, 27, 28, 29, 30, 31, 32, 33, 34, 35, 36, 37], [38, 0, 1, 2, 3, 4, 5, 6, 7, 8, 9, 10, 11, 12, 13, 14, 15, 16, 17, 18, 19, 20, 21, 22, 23, 24, 25, 26, 27, 28, 29, 30, 31, 32, 33, 34, 35, 36, 37], [38, 41, 42, 0, 1, 2, 3, 4, 5, 6, 7, 8, 9, 10, 11, 12, 13, 14, 15, 16, 17, 18, 19, 20, 21, 22, 23, 24, 25, 26, 27, 28, 29, 30, 31, 32, 33, 34, 35, 36, 37, 39, 40], [38, 0, 1, 2, 3, 4, 5, 6, 7, 8, 9, 10, 11, 12, 13, 14, 15, 16, 17, 18, 19, 20, 21, 22, 23, 24, 25, 26, 27, 28, 29, 30, 31, 32, 33, 34, 35, 36, 37], [38, 43, 44, 0, 1, 2, 3, 4, 5, 6, 7, 8, 9, 10, 11, 12, 13, 14, 15, 16, 17, 18, 19, 20, 21, 22, 23, 24, 25, 26, 27, 28, 29, 30, 31, 32, 33, 34, 35, 36, 37, 39, 40, 41, 42], [38, 45, 0, 1, 2, 3, 4, 5, 6, 7, 8, 9, 10, 11, 12, 13, 14, 15, 16, 17, 18, 19, 20, 21, 22, 23, 24, 25, 26, 27, 28, 29, 30, 31, 32, 33, 34, 35, 36, 37, 39, 40, 41, 42, 43, 44], [38, 46, 0, 1, 2, 3, 4, 5, 6, 7, 8, 9, 10, 11, 12, 13, 14, 15, 16, 17, 18, 19, 20, 21, 22, 23, 24, 25, 26, 27, 28, 29, 30, 31, 32, 33, 34, 35, 36, 37, 39, 40, 41, 42, 43, 44, 45], [47, 0, 1, 2, 3, 4, 5, 6, 7, 8, 9, 10, 11, 12, 13, 14, 15, 16, 17, 18, 19, 20, 21, 22, 23, 24, 25, 26, 27, 28, 29, 30, 31, 32, 33, 34, 35, 36, 37, 38, 39, 40, 41, 42, 43, 44, 45, 46], [48, 0, 1, 2, 3, 4, 5, 6, 7, 8, 9, 10, 11, 12, 13, 14, 15, 16, 17, 18, 19, 20, 21, 22, 23, 24, 25, 26, 27, 28, 29, 30, 31, 32, 33, 34, 35, 36, 37, 38, 39, 40, 41, 42, 43, 44, 45, 46, 47], [48, 49, 0, 1, 2, 3, 4, 5, 6, 7, 8, 9, 10, 11, 12, 13, 14, 15, 16, 17, 18, 19, 20, 21, 22, 23, 24, 25, 26, 27, 28, 29, 30, 31, 32, 33, 34, 35, 36, 37, 38, 39, 40, 41, 42, 43, 44, 45, 46, 47], [48, 50, 0, 1, 2, 3, 4, 5, 6, 7, 8, 9, 10, 11, 12, 13, 14, 15, 16, 17, 18, 19, 20, 21, 22, 23, 24, 25, 26, 27, 28, 29, 30, 31, 32, 33, 34, 35, 36, 37, 38, 39, 40, 41, 42, 43, 44, 45, 46, 47, 49], [48, 0, 1, 2, 3, 4, 5, 6, 7, 8, 9, 10, 11, 12, 13, 14, 15, 16, 17, 18, 19, 20, 21, 22, 23, 24, 25, 26, 27, 28, 29, 30, 31, 32, 33, 34, 35, 36, 37, 38, 39, 40, 41, 42, 43, 44, 45, 46, 47], [48, 51, 52, 0, 1, 2, 3, 4, 5, 6, 7, 8, 9, 10, 11, 12, 13, 14, 15, 16, 17, 18, 19, 20, 21, 22, 23, 24, 25, 26, 27, 28, 29, 30, 31, 32, 33, 34, 35, 36, 37, 38, 39, 40, 41, 42, 43, 44, 45, 46, 47, 49, 50], [48, 53, 0, 1, 2, 3, 4, 5, 6, 7, 8, 9, 10, 11, 12, 13, 14, 15, 16, 17, 18, 19, 20, 21, 22, 23, 24, 25, 26, 27, 28, 29, 30, 31, 32, 33, 34, 35, 36, 37, 38, 39, 40, 41, 42, 43, 44, 45, 46, 47, 49, 50, 51, 52], [48, 54, 0, 1, 2, 3, 4, 5, 6, 7, 8, 9, 10, 11, 12, 13, 14, 15, 16, 17, 18, 19, 20, 21, 22, 23, 24, 25, 26, 27, 28, 29, 30, 31, 32, 33, 34, 35, 36, 37, 38, 39, 40, 41, 42, 43, 44, 45, 46, 47, 49, 50, 51, 52, 53]] [[], [], [], [], [], [], [], [], [], [], [], [], [], [], [], [], [], [], [], [], [], [], [], [], [], [], [], [], [], [], [], [], [], [], [], [], [], [], [], [], [], [], [], [], [], [], [], [], [], [], [], [], [], [], [], []] [] [] (fun i => ([fun _ => Is (.agg #[.bool b, .slice p n c]), fun _ => Is (.agg #[.bool b2, .slice q m d]), fun _ => Zt z1, fun _ => Is (.agg #[.bool b2, .slice q m d]), fun _ => Is (.agg #[.bool b, .slice p n c]), fun _ => Zt z2, fun _ => Is (.bool true), fun _ => Is (.bool false), fun _ => Is (.bool false), fun _ => Is (.agg #[.bool b, .slice p n c]), fun _ => Is (.agg #[.bool b2, .slice q m d]), fun _ => Is (.agg #[.bool b3, .slice r k e]), fun _ => Zt z3, fun _ => Zt z4, fun _ => Is (.agg #[.bool b, .slice p n c]), fun _ => Is (.agg #[.bool b2, .slice q m d]), fun _ => Zt z5, fun _ => Is (.agg #[.bool b, .slice p n c]), fun _ => Is (.agg #[.bool b3, .slice r k e]), fun _ => Zt z6, fun _ => Zt z7, fun _ => Is (.bool true), fun _ => Is (.bool false), fun _ => Is (.bool false), fun _ => Is (.bool false), fun _ => Is (.agg #[.bool b, .slice p n c]), fun _ => Is (.agg #[.bool b2, .slice q m d]), fun _ => Zt z8, fun _ => Is (.agg #[.bool b3, .slice r k e]), fun _ => Zt z9, fun _ => Is (.agg #[.bool b, .slice p n c]), fun _ => Is (.agg #[.bool b2, .slice q m d]), fun _ => Is (.agg #[.bool b3, .slice r k e]), fun _ => Zt z10, fun _ => Zt z11, fun _ => Is (.bool true), fun _ => Is (.bool false), fun _ => Is (.bool false), fun _ => Is (.bool false), fun _ => Is (.agg #[.bool b, .slice p n c]), fun _ => Is (.agg #[.bool b2, .slice q m d]), fun _ => Zt z12, fun _ => Is (.agg #[.bool b2, .slice q m d]), fun _ => Zt z13, fun _ => Is (.agg #[.bool b, .slice p n c]), fun _ => Is (.bool true), fun _ => Is (.bool false), fun _ => Is (.bool false), fun _ => Is (.bool false), fun _ => Is (.agg #[.bool b, .slice p n c]), fun _ => Zt z14, fun _ => Zt z15, fun _ => Is (.agg #[.bool b, .slice p n c]), fun _ => Is (.bool true), fun _ => Is (.bool false), fun _ => Is (.bool false)] : List (List Value → Tell)).getD i (fun _ _ _ => False)) (heldNil) (fun d _ _ _ _ h => (by cases d <;> exact h)) (by kernel_rfl) (by kernel_rfl) (by kernel_rfl) hS ?_ ?_
  ·
    refine stepsCons rfl ?_ ?_
    · intro Q f' w' ρ S ho hT hS hB
      exact .inl ⟨want_none rfl, oload (vs := [.bool b, .slice p n c]) aggZ hS 2 rfl rfl (ev rfl (ho 3 rfl)) rfl rfl rfl ⟨_, _, rfl, isI, New.same _⟩⟩
    refine stepsCons rfl ?_ ?_
    · intro Q f' w' ρ S ho hT hS hB
      exact .inl ⟨want_none rfl, oload (vs := [.bool b2, .slice q m d]) aggZ hS 1 rfl rfl (ev rfl (ho 4 rfl)) rfl rfl rfl ⟨_, _, rfl, isI, New.same _⟩⟩
    refine stepsCons rfl ?_ ?_
    · intro Q f' w' ρ S ho hT hS hB
      obtain ⟨hv0, hr0⟩ := (hT 0 21 rfl rfl : (Is (.agg #[.bool b, .slice p n c])) (f' 21) (ρ 0))
      obtain ⟨hv1, hr1⟩ := (hT 1 22 rfl rfl : (Is (.agg #[.bool b2, .slice q m d])) (f' 22) (ρ 1))
      obtain hS := hS.flat2 hr0 hr1
      refine .inl ⟨want_none rfl, ocall rfl rfl Try.call11 rfl (wzadd ((hzx.at hS).mono (by omega)) ((hzy.at hS).mono (by omega)) hz1) (args2 (ev rfl hv0) (ev rfl hv1)) ?_⟩
      rintro _ w9 ⟨_, _, rfl, hTT, hN⟩
      exact ⟨_, rfl, _, _, rfl, hTT, hN⟩
    refine stepsCons rfl ?_ ?_
    · intro Q f' w' ρ S ho hT hS hB
      exact .inl ⟨want_none rfl, oload (vs := [.bool b2, .slice q m d]) aggZ hS 1 rfl rfl (ev rfl (ho 4 rfl)) rfl rfl rfl ⟨_, _, rfl, isI, New.same _⟩⟩
    refine stepsCons rfl ?_ ?_
    · intro Q f' w' ρ S ho hT hS hB
      exact .inl ⟨want_none rfl, oload (vs := [.bool b, .slice p n c]) aggZ hS 2 rfl rfl (ev rfl (ho 3 rfl)) rfl rfl rfl ⟨_, _, rfl, isI, New.same _⟩⟩
    refine stepsCons rfl ?_ ?_
    · intro Q f' w' ρ S ho hT hS hB
      obtain ⟨hv3, hr3⟩ := (hT 3 24 rfl rfl : (Is (.agg #[.bool b2, .slice q m d])) (f' 24) (ρ 3))
      obtain ⟨hv4, hr4⟩ := (hT 4 25 rfl rfl : (Is (.agg #[.bool b, .slice p n c])) (f' 25) (ρ 4))
      obtain hS := hS.flat2 hr3 hr4
      refine .inl ⟨want_none rfl, ocall rfl rfl Try.call11 rfl (wzadd ((hzy.at hS).mono (by omega)) ((hzx.at hS).mono (by omega)) hz2) (args2 (ev rfl hv3) (ev rfl hv4)) ?_⟩
      rintro _ w9 ⟨_, _, rfl, hTT, hN⟩
      exact ⟨_, rfl, _, _, rfl, hTT, hN⟩
    refine stepsCons rfl ?_ ?_
    · intro Q f' w' ρ S ho hT hS hB
      obtain ⟨p1, n1, c1, hv2, hr2⟩ := (hT 2 23 rfl rfl : (Zt z1) (f' 23) (ρ 2))
      obtain ⟨p2, n2, c2, hv5, hr5⟩ := (hT 5 26 rfl rfl : (Zt z2) (f' 26) (ρ 5))
      obtain hS := hS.flat2 hr2 hr5
      refine .inl ⟨want_none rfl, ocall rfl rfl Try.call57 rfl (wleq (((hS.sl 3 rfl).zr hk1).mono (by omega)) (((hS.sl 4 rfl).zr hk2).mono (by omega)) (by have := hz1.out; have := hz2.out; omega)) (args2 (ev rfl hv2) (ev rfl hv5)) ?_⟩
      rintro _ w9 ⟨_, _, rfl, hTT, hN⟩
      exact ⟨_, rfl, _, _, rfl, hTT, hN⟩
    refine stepsCons rfl ?_ ?_
    · intro Q f' w' ρ S ho hT hS hB
      obtain ⟨hv6, hr6⟩ := (hT 6 27 rfl rfl : (Is (.bool true)) (f' 27) (ρ 6))
      obtain hS := hS.flat1 hr6
      exact .inl ⟨want_none rfl, onot (b := true) rfl rfl (ev (v := .bool true) rfl hv6) ⟨_, _, rfl, isI, New.same _⟩⟩
    refine stepsCons rfl ?_ ?_
    · intro Q f' w' ρ S ho hT hS hB
      obtain ⟨hv7, hr7⟩ := (hT 7 28 rfl rfl : (Is (.bool false)) (f' 28) (ρ 7))
      obtain hS := hS.flat1 hr7
      exact .inl ⟨want_none rfl, omove (v := .bool false) rfl rfl (ev (v := .bool false) rfl hv7) ⟨_, _, rfl, isI, New.same _⟩⟩
    refine stepsCons rfl ?_ ?_
    · intro Q f' w' ρ S ho hT hS hB
      obtain ⟨hv8, hr8⟩ := (hT 8 29 rfl rfl : (Is (.bool false)) (f' 29) (ρ 8))
      obtain hS := hS.flat1 hr8
      exact .inl ⟨want_on (e := 29) rfl rfl rfl hv8, oload (vs := [.bool b, .slice p n c]) aggZ hS 2 rfl rfl (ev rfl (ho 3 rfl)) rfl rfl rfl ⟨_, _, rfl, isI, New.same _⟩⟩
    refine stepsCons rfl ?_ ?_
    · intro Q f' w' ρ S ho hT hS hB
      obtain ⟨hv8, hr8⟩ := (hT 8 29 rfl rfl : (Is (.bool false)) (f' 29) (ρ 8))
      obtain hS := hS.flat1 hr8
      exact .inl ⟨want_on (e := 29) rfl rfl rfl hv8, oload (vs := [.bool b2, .slice q m d]) aggZ hS 1 rfl rfl (ev rfl (ho 4 rfl)) rfl rfl rfl ⟨_, _, rfl, isI, New.same _⟩⟩
    refine stepsCons rfl ?_ ?_
    · intro Q f' w' ρ S ho hT hS hB
      obtain ⟨hv8, hr8⟩ := (hT 8 29 rfl rfl : (Is (.bool false)) (f' 29) (ρ 8))
      obtain hS := hS.flat1 hr8
      exact .inl ⟨want_on (e := 29) rfl rfl rfl hv8, oload (vs := [.bool b3, .slice r k e]) aggZ hS 0 rfl rfl (ev rfl (ho 5 rfl)) rfl rfl rfl ⟨_, _, rfl, isI, New.same _⟩⟩
    refine stepsCons rfl ?_ ?_
    · intro Q f' w' ρ S ho hT hS hB
      obtain ⟨hv8, hr8⟩ := (hT 8 29 rfl rfl : (Is (.bool false)) (f' 29) (ρ 8))
      obtain ⟨hv10, hr10⟩ := (hT 10 31 rfl rfl : (Is (.agg #[.bool b2, .slice q m d])) (f' 31) (ρ 10))
      obtain ⟨hv11, hr11⟩ := (hT 11 32 rfl rfl : (Is (.agg #[.bool b3, .slice r k e])) (f' 32) (ρ 11))
      obtain hS := hS.flat3 hr8 hr10 hr11
      refine .inl ⟨want_on (e := 29) rfl rfl rfl hv8, ocall rfl rfl Try.call11 rfl (wzadd ((hzy.at hS).mono (by omega)) ((hzz.at hS).mono (by omega)) hz3) (args2 (ev rfl hv10) (ev rfl hv11)) ?_⟩
      rintro _ w9 ⟨_, _, rfl, hTT, hN⟩
      exact ⟨_, rfl, _, _, rfl, hTT, hN⟩
    refine stepsCons rfl ?_ ?_
    · intro Q f' w' ρ S ho hT hS hB
      obtain ⟨hv8, hr8⟩ := (hT 8 29 rfl rfl : (Is (.bool false)) (f' 29) (ρ 8))
      obtain ⟨hv9, hr9⟩ := (hT 9 30 rfl rfl : (Is (.agg #[.bool b, .slice p n c])) (f' 30) (ρ 9))
      obtain ⟨p3, n3, c3, hv12, hr12⟩ := (hT 12 33 rfl rfl : (Zt z3) (f' 33) (ρ 12))
      obtain hS := hS.flat3 hr8 hr9 hr12
      refine .inl ⟨want_on (e := 29) rfl rfl rfl hv8, ocall rfl rfl Try.call16 rfl (wzmul ((hzx.at hS).mono (by omega)) (((hS.sl 3 rfl).zr hk3).mono (by omega)) hz4) (args2 (ev rfl hv9) (ev rfl hv12)) ?_⟩
      rintro _ w9 ⟨_, _, rfl, hTT, hN⟩
      exact ⟨_, rfl, _, _, rfl, hTT, hN⟩
    refine stepsCons rfl ?_ ?_
    · intro Q f' w' ρ S ho hT hS hB
      obtain ⟨hv8, hr8⟩ := (hT 8 29 rfl rfl : (Is (.bool false)) (f' 29) (ρ 8))
      obtain hS := hS.flat1 hr8
      exact .inl ⟨want_on (e := 29) rfl rfl rfl hv8, oload (vs := [.bool b, .slice p n c]) aggZ hS 2 rfl rfl (ev rfl (ho 3 rfl)) rfl rfl rfl ⟨_, _, rfl, isI, New.same _⟩⟩
    refine stepsCons rfl ?_ ?_
    · intro Q f' w' ρ S ho hT hS hB
      obtain ⟨hv8, hr8⟩ := (hT 8 29 rfl rfl : (Is (.bool false)) (f' 29) (ρ 8))
      obtain hS := hS.flat1 hr8
      exact .inl ⟨want_on (e := 29) rfl rfl rfl hv8, oload (vs := [.bool b2, .slice q m d]) aggZ hS 1 rfl rfl (ev rfl (ho 4 rfl)) rfl rfl rfl ⟨_, _, rfl, isI, New.same _⟩⟩
    refine stepsCons rfl ?_ ?_
    · intro Q f' w' ρ S ho hT hS hB
      obtain ⟨hv8, hr8⟩ := (hT 8 29 rfl rfl : (Is (.bool false)) (f' 29) (ρ 8))
      obtain ⟨hv14, hr14⟩ := (hT 14 35 rfl rfl : (Is (.agg #[.bool b, .slice p n c])) (f' 35) (ρ 14))
      obtain ⟨hv15, hr15⟩ := (hT 15 36 rfl rfl : (Is (.agg #[.bool b2, .slice q m d])) (f' 36) (ρ 15))
      obtain hS := hS.flat3 hr8 hr14 hr15
      refine .inl ⟨want_on (e := 29) rfl rfl rfl hv8, ocall rfl rfl Try.call16 rfl (wzmul ((hzx.at hS).mono (by omega)) ((hzy.at hS).mono (by omega)) hz5) (args2 (ev rfl hv14) (ev rfl hv15)) ?_⟩
      rintro _ w9 ⟨_, _, rfl, hTT, hN⟩
      exact ⟨_, rfl, _, _, rfl, hTT, hN⟩
    refine stepsCons rfl ?_ ?_
    · intro Q f' w' ρ S ho hT hS hB
      obtain ⟨hv8, hr8⟩ := (hT 8 29 rfl rfl : (Is (.bool false)) (f' 29) (ρ 8))
      obtain hS := hS.flat1 hr8
      exact .inl ⟨want_on (e := 29) rfl rfl rfl hv8, oload (vs := [.bool b, .slice p n c]) aggZ hS 2 rfl rfl (ev rfl (ho 3 rfl)) rfl rfl rfl ⟨_, _, rfl, isI, New.same _⟩⟩
    refine stepsCons rfl ?_ ?_
    · intro Q f' w' ρ S ho hT hS hB
      obtain ⟨hv8, hr8⟩ := (hT 8 29 rfl rfl : (Is (.bool false)) (f' 29) (ρ 8))
      obtain hS := hS.flat1 hr8
      exact .inl ⟨want_on (e := 29) rfl rfl rfl hv8, oload (vs := [.bool b3, .slice r k e]) aggZ hS 0 rfl rfl (ev rfl (ho 5 rfl)) rfl rfl rfl ⟨_, _, rfl, isI, New.same _⟩⟩
    refine stepsCons rfl ?_ ?_
    · intro Q f' w' ρ S ho hT hS hB
      obtain ⟨hv8, hr8⟩ := (hT 8 29 rfl rfl : (Is (.bool false)) (f' 29) (ρ 8))
      obtain ⟨hv17, hr17⟩ := (hT 17 38 rfl rfl : (Is (.agg #[.bool b, .slice p n c])) (f' 38) (ρ 17))
      obtain ⟨hv18, hr18⟩ := (hT 18 39 rfl rfl : (Is (.agg #[.bool b3, .slice r k e])) (f' 39) (ρ 18))
      obtain hS := hS.flat3 hr8 hr17 hr18
      refine .inl ⟨want_on (e := 29) rfl rfl rfl hv8, ocall rfl rfl Try.call16 rfl (wzmul ((hzx.at hS).mono (by omega)) ((hzz.at hS).mono (by omega)) hz6) (args2 (ev rfl hv17) (ev rfl hv18)) ?_⟩
      rintro _ w9 ⟨_, _, rfl, hTT, hN⟩
      exact ⟨_, rfl, _, _, rfl, hTT, hN⟩
    refine stepsCons rfl ?_ ?_
    · intro Q f' w' ρ S ho hT hS hB
      obtain ⟨hv8, hr8⟩ := (hT 8 29 rfl rfl : (Is (.bool false)) (f' 29) (ρ 8))
      obtain ⟨p5, n5, c5, hv16, hr16⟩ := (hT 16 37 rfl rfl : (Zt z5) (f' 37) (ρ 16))
      obtain ⟨p6, n6, c6, hv19, hr19⟩ := (hT 19 40 rfl rfl : (Zt z6) (f' 40) (ρ 19))
      obtain hS := hS.flat3 hr8 hr16 hr19
      refine .inl ⟨want_on (e := 29) rfl rfl rfl hv8, ocall rfl rfl Try.call11 rfl (wzadd (((hS.sl 3 rfl).zr hk5).mono (by omega)) (((hS.sl 4 rfl).zr hk6).mono (by omega)) hz7) (args2 (ev rfl hv16) (ev rfl hv19)) ?_⟩
      rintro _ w9 ⟨_, _, rfl, hTT, hN⟩
      exact ⟨_, rfl, _, _, rfl, hTT, hN⟩
    refine stepsCons rfl ?_ ?_
    · intro Q f' w' ρ S ho hT hS hB
      obtain ⟨hv8, hr8⟩ := (hT 8 29 rfl rfl : (Is (.bool false)) (f' 29) (ρ 8))
      obtain ⟨p4, n4, c4, hv13, hr13⟩ := (hT 13 34 rfl rfl : (Zt z4) (f' 34) (ρ 13))
      obtain ⟨p7, n7, c7, hv20, hr20⟩ := (hT 20 41 rfl rfl : (Zt z7) (f' 41) (ρ 20))
      obtain hS := hS.flat3 hr8 hr13 hr20
      refine .inl ⟨want_on (e := 29) rfl rfl rfl hv8, ocall rfl rfl Try.call57 rfl (wleq (((hS.sl 3 rfl).zr hk4).mono (by omega)) (((hS.sl 4 rfl).zr hk7).mono (by omega)) (by rw [← hz4.out, ← hz3.out, ← hz7.out, ← hz5.out, ← hz6.out, Int.mul_add])) (args2 (ev rfl hv13) (ev rfl hv20)) ?_⟩
      rintro _ w9 ⟨_, _, rfl, hTT, hN⟩
      exact ⟨_, rfl, _, _, rfl, hTT, hN⟩
    refine stepsCons rfl ?_ ?_
    · intro Q f' w' ρ S ho hT hS hB
      obtain ⟨hv8, hr8⟩ := (hT 8 29 rfl rfl : (Is (.bool false)) (f' 29) (ρ 8))
      obtain ⟨hv21, hr21⟩ := (hT 21 42 rfl rfl : (Is (.bool true)) (f' 42) (ρ 21))
      obtain hS := hS.flat2 hr8 hr21
      exact .inl ⟨want_on (e := 29) rfl rfl rfl hv8, onot (b := true) rfl rfl (ev (v := .bool true) rfl hv21) ⟨_, _, rfl, isI, New.same _⟩⟩
    refine stepsCons rfl ?_ ?_
    · intro Q f' w' ρ S ho hT hS hB
      obtain ⟨hv8, hr8⟩ := (hT 8 29 rfl rfl : (Is (.bool false)) (f' 29) (ρ 8))
      obtain ⟨hv22, hr22⟩ := (hT 22 43 rfl rfl : (Is (.bool false)) (f' 43) (ρ 22))
      obtain hS := hS.flat2 hr8 hr22
      exact .inl ⟨want_none rfl, opick (b := false) (v := .bool false) rfl rfl (ev (v := .bool false) rfl hv8) (ev (v := .bool false) rfl hv22) ⟨_, _, rfl, isI, New.same _⟩⟩
    refine stepsCons rfl ?_ ?_
    · intro Q f' w' ρ S ho hT hS hB
      obtain ⟨hv23, hr23⟩ := (hT 23 44 rfl rfl : (Is (.bool false)) (f' 44) (ρ 23))
      obtain hS := hS.flat1 hr23
      exact .inl ⟨want_none rfl, omove (v := .bool false) rfl rfl (ev (v := .bool false) rfl hv23) ⟨_, _, rfl, isI, New.same _⟩⟩
    refine stepsCons rfl ?_ ?_
    · intro Q f' w' ρ S ho hT hS hB
      obtain ⟨hv24, hr24⟩ := (hT 24 45 rfl rfl : (Is (.bool false)) (f' 45) (ρ 24))
      obtain hS := hS.flat1 hr24
      exact .inl ⟨want_on (e := 45) rfl rfl rfl hv24, oload (vs := [.bool b, .slice p n c]) aggZ hS 2 rfl rfl (ev rfl (ho 3 rfl)) rfl rfl rfl ⟨_, _, rfl, isI, New.same _⟩⟩
    refine stepsCons rfl ?_ ?_
    · intro Q f' w' ρ S ho hT hS hB
      obtain ⟨hv24, hr24⟩ := (hT 24 45 rfl rfl : (Is (.bool false)) (f' 45) (ρ 24))
      obtain hS := hS.flat1 hr24
      exact .inl ⟨want_on (e := 45) rfl rfl rfl hv24, oload (vs := [.bool b2, .slice q m d]) aggZ hS 1 rfl rfl (ev rfl (ho 4 rfl)) rfl rfl rfl ⟨_, _, rfl, isI, New.same _⟩⟩
    refine stepsCons rfl ?_ ?_
    · intro Q f' w' ρ S ho hT hS hB
      obtain ⟨hv24, hr24⟩ := (hT 24 45 rfl rfl : (Is (.bool false)) (f' 45) (ρ 24))
      obtain ⟨hv25, hr25⟩ := (hT 25 46 rfl rfl : (Is (.agg #[.bool b, .slice p n c])) (f' 46) (ρ 25))
      obtain ⟨hv26, hr26⟩ := (hT 26 47 rfl rfl : (Is (.agg #[.bool b2, .slice q m d])) (f' 47) (ρ 26))
      obtain hS := hS.flat3 hr24 hr25 hr26
      refine .inl ⟨want_on (e := 45) rfl rfl rfl hv24, ocall rfl rfl Try.call16 rfl (wzmul ((hzx.at hS).mono (by omega)) ((hzy.at hS).mono (by omega)) hz8) (args2 (ev rfl hv25) (ev rfl hv26)) ?_⟩
      rintro _ w9 ⟨_, _, rfl, hTT, hN⟩
      exact ⟨_, rfl, _, _, rfl, hTT, hN⟩
    refine stepsCons rfl ?_ ?_
    · intro Q f' w' ρ S ho hT hS hB
      obtain ⟨hv24, hr24⟩ := (hT 24 45 rfl rfl : (Is (.bool false)) (f' 45) (ρ 24))
      obtain hS := hS.flat1 hr24
      exact .inl ⟨want_on (e := 45) rfl rfl rfl hv24, oload (vs := [.bool b3, .slice r k e]) aggZ hS 0 rfl rfl (ev rfl (ho 5 rfl)) rfl rfl rfl ⟨_, _, rfl, isI, New.same _⟩⟩
    refine stepsCons rfl ?_ ?_
    · intro Q f' w' ρ S ho hT hS hB
      obtain ⟨hv24, hr24⟩ := (hT 24 45 rfl rfl : (Is (.bool false)) (f' 45) (ρ 24))
      obtain ⟨p8, n8, c8, hv27, hr27⟩ := (hT 27 48 rfl rfl : (Zt z8) (f' 48) (ρ 27))
      obtain ⟨hv28, hr28⟩ := (hT 28 49 rfl rfl : (Is (.agg #[.bool b3, .slice r k e])) (f' 49) (ρ 28))
      obtain hS := hS.flat3 hr24 hr27 hr28
      refine .inl ⟨want_on (e := 45) rfl rfl rfl hv24, ocall rfl rfl Try.call16 rfl (wzmul (((hS.sl 3 rfl).zr hk8).mono (by omega)) ((hzz.at hS).mono (by omega)) hz9) (args2 (ev rfl hv27) (ev rfl hv28)) ?_⟩
      rintro _ w9 ⟨_, _, rfl, hTT, hN⟩
      exact ⟨_, rfl, _, _, rfl, hTT, hN⟩
    refine stepsCons rfl ?_ ?_
    · intro Q f' w' ρ S ho hT hS hB
      obtain ⟨hv24, hr24⟩ := (hT 24 45 rfl rfl : (Is (.bool false)) (f' 45) (ρ 24))
      obtain hS := hS.flat1 hr24
      exact .inl ⟨want_on (e := 45) rfl rfl rfl hv24, oload (vs := [.bool b, .slice p n c]) aggZ hS 2 rfl rfl (ev rfl (ho 3 rfl)) rfl rfl rfl ⟨_, _, rfl, isI, New.same _⟩⟩
    refine stepsCons rfl ?_ ?_
    · intro Q f' w' ρ S ho hT hS hB
      obtain ⟨hv24, hr24⟩ := (hT 24 45 rfl rfl : (Is (.bool false)) (f' 45) (ρ 24))
      obtain hS := hS.flat1 hr24
      exact .inl ⟨want_on (e := 45) rfl rfl rfl hv24, oload (vs := [.bool b2, .slice q m d]) aggZ hS 1 rfl rfl (ev rfl (ho 4 rfl)) rfl rfl rfl ⟨_, _, rfl, isI, New.same _⟩⟩
    refine stepsCons rfl ?_ ?_
    · intro Q f' w' ρ S ho hT hS hB
      obtain ⟨hv24, hr24⟩ := (hT 24 45 rfl rfl : (Is (.bool false)) (f' 45) (ρ 24))
      obtain hS := hS.flat1 hr24
      exact .inl ⟨want_on (e := 45) rfl rfl rfl hv24, oload (vs := [.bool b3, .slice r k e]) aggZ hS 0 rfl rfl (ev rfl (ho 5 rfl)) rfl rfl rfl ⟨_, _, rfl, isI, New.same _⟩⟩
    refine stepsCons rfl ?_ ?_
    · intro Q f' w' ρ S ho hT hS hB
      obtain ⟨hv24, hr24⟩ := (hT 24 45 rfl rfl : (Is (.bool false)) (f' 45) (ρ 24))
      obtain ⟨hv31, hr31⟩ := (hT 31 52 rfl rfl : (Is (.agg #[.bool b2, .slice q m d])) (f' 52) (ρ 31))
      obtain ⟨hv32, hr32⟩ := (hT 32 53 rfl rfl : (Is (.agg #[.bool b3, .slice r k e])) (f' 53) (ρ 32))
      obtain hS := hS.flat3 hr24 hr31 hr32
      refine .inl ⟨want_on (e := 45) rfl rfl rfl hv24, ocall rfl rfl Try.call16 rfl (wzmul ((hzy.at hS).mono (by omega)) ((hzz.at hS).mono (by omega)) hz10) (args2 (ev rfl hv31) (ev rfl hv32)) ?_⟩
      rintro _ w9 ⟨_, _, rfl, hTT, hN⟩
      exact ⟨_, rfl, _, _, rfl, hTT, hN⟩
    refine stepsCons rfl ?_ ?_
    · intro Q f' w' ρ S ho hT hS hB
      obtain ⟨hv24, hr24⟩ := (hT 24 45 rfl rfl : (Is (.bool false)) (f' 45) (ρ 24))
      obtain ⟨hv30, hr30⟩ := (hT 30 51 rfl rfl : (Is (.agg #[.bool b, .slice p n c])) (f' 51) (ρ 30))
      obtain ⟨p10, n10, c10, hv33, hr33⟩ := (hT 33 54 rfl rfl : (Zt z10) (f' 54) (ρ 33))
      obtain hS := hS.flat3 hr24 hr30 hr33
      refine .inl ⟨want_on (e := 45) rfl rfl rfl hv24, ocall rfl rfl Try.call16 rfl (wzmul ((hzx.at hS).mono (by omega)) (((hS.sl 3 rfl).zr hk10).mono (by omega)) hz11) (args2 (ev rfl hv30) (ev rfl hv33)) ?_⟩
      rintro _ w9 ⟨_, _, rfl, hTT, hN⟩
      exact ⟨_, rfl, _, _, rfl, hTT, hN⟩
    refine stepsCons rfl ?_ ?_
    · intro Q f' w' ρ S ho hT hS hB
      obtain ⟨hv24, hr24⟩ := (hT 24 45 rfl rfl : (Is (.bool false)) (f' 45) (ρ 24))
      obtain ⟨p9, n9, c9, hv29, hr29⟩ := (hT 29 50 rfl rfl : (Zt z9) (f' 50) (ρ 29))
      obtain ⟨p11, n11, c11, hv34, hr34⟩ := (hT 34 55 rfl rfl : (Zt z11) (f' 55) (ρ 34))
      obtain hS := hS.flat3 hr24 hr29 hr34
      refine .inl ⟨want_on (e := 45) rfl rfl rfl hv24, ocall rfl rfl Try.call57 rfl (wleq (((hS.sl 3 rfl).zr hk9).mono (by omega)) (((hS.sl 4 rfl).zr hk11).mono (by omega)) (by rw [← hz9.out, ← hz8.out, ← hz11.out, ← hz10.out, Int.mul_assoc])) (args2 (ev rfl hv29) (ev rfl hv34)) ?_⟩
      rintro _ w9 ⟨_, _, rfl, hTT, hN⟩
      exact ⟨_, rfl, _, _, rfl, hTT, hN⟩
    refine stepsCons rfl ?_ ?_
    · intro Q f' w' ρ S ho hT hS hB
      obtain ⟨hv24, hr24⟩ := (hT 24 45 rfl rfl : (Is (.bool false)) (f' 45) (ρ 24))
      obtain ⟨hv35, hr35⟩ := (hT 35 56 rfl rfl : (Is (.bool true)) (f' 56) (ρ 35))
      obtain hS := hS.flat2 hr24 hr35
      exact .inl ⟨want_on (e := 45) rfl rfl rfl hv24, onot (b := true) rfl rfl (ev (v := .bool true) rfl hv35) ⟨_, _, rfl, isI, New.same _⟩⟩
    refine stepsCons rfl ?_ ?_
    · intro Q f' w' ρ S ho hT hS hB
      obtain ⟨hv24, hr24⟩ := (hT 24 45 rfl rfl : (Is (.bool false)) (f' 45) (ρ 24))
      obtain ⟨hv36, hr36⟩ := (hT 36 57 rfl rfl : (Is (.bool false)) (f' 57) (ρ 36))
      obtain hS := hS.flat2 hr24 hr36
      exact .inl ⟨want_none rfl, opick (b := false) (v := .bool false) rfl rfl (ev (v := .bool false) rfl hv24) (ev (v := .bool false) rfl hv36) ⟨_, _, rfl, isI, New.same _⟩⟩
    refine stepsCons rfl ?_ ?_
    · intro Q f' w' ρ S ho hT hS hB
      obtain ⟨hv37, hr37⟩ := (hT 37 58 rfl rfl : (Is (.bool false)) (f' 58) (ρ 37))
      obtain hS := hS.flat1 hr37
      exact .inl ⟨want_none rfl, omove (v := .bool false) rfl rfl (ev (v := .bool false) rfl hv37) ⟨_, _, rfl, isI, New.same _⟩⟩
    refine stepsCons rfl ?_ ?_
    · intro Q f' w' ρ S ho hT hS hB
      obtain ⟨hv38, hr38⟩ := (hT 38 59 rfl rfl : (Is (.bool false)) (f' 59) (ρ 38))
      obtain hS := hS.flat1 hr38
      exact .inl ⟨want_on (e := 59) rfl rfl rfl hv38, oload (vs := [.bool b, .slice p n c]) aggZ hS 2 rfl rfl (ev rfl (ho 3 rfl)) rfl rfl rfl ⟨_, _, rfl, isI, New.same _⟩⟩
    refine stepsCons rfl ?_ ?_
    · intro Q f' w' ρ S ho hT hS hB
      obtain ⟨hv38, hr38⟩ := (hT 38 59 rfl rfl : (Is (.bool false)) (f' 59) (ρ 38))
      obtain hS := hS.flat1 hr38
      exact .inl ⟨want_on (e := 59) rfl rfl rfl hv38, oload (vs := [.bool b2, .slice q m d]) aggZ hS 1 rfl rfl (ev rfl (ho 4 rfl)) rfl rfl rfl ⟨_, _, rfl, isI, New.same _⟩⟩
    refine stepsCons rfl ?_ ?_
    · intro Q f' w' ρ S ho hT hS hB
      obtain ⟨hv38, hr38⟩ := (hT 38 59 rfl rfl : (Is (.bool false)) (f' 59) (ρ 38))
      obtain ⟨hv39, hr39⟩ := (hT 39 60 rfl rfl : (Is (.agg #[.bool b, .slice p n c])) (f' 60) (ρ 39))
      obtain ⟨hv40, hr40⟩ := (hT 40 61 rfl rfl : (Is (.agg #[.bool b2, .slice q m d])) (f' 61) (ρ 40))
      obtain hS := hS.flat3 hr38 hr39 hr40
      refine .inl ⟨want_on (e := 59) rfl rfl rfl hv38, ocall rfl rfl Try.call11 rfl (wzadd ((hzx.at hS).mono (by omega)) ((hzy.at hS).mono (by omega)) hz12) (args2 (ev rfl hv39) (ev rfl hv40)) ?_⟩
      rintro _ w9 ⟨_, _, rfl, hTT, hN⟩
      exact ⟨_, rfl, _, _, rfl, hTT, hN⟩
    refine stepsCons rfl ?_ ?_
    · intro Q f' w' ρ S ho hT hS hB
      obtain ⟨hv38, hr38⟩ := (hT 38 59 rfl rfl : (Is (.bool false)) (f' 59) (ρ 38))
      obtain hS := hS.flat1 hr38
      exact .inl ⟨want_on (e := 59) rfl rfl rfl hv38, oload (vs := [.bool b2, .slice q m d]) aggZ hS 1 rfl rfl (ev rfl (ho 4 rfl)) rfl rfl rfl ⟨_, _, rfl, isI, New.same _⟩⟩
    refine stepsCons rfl ?_ ?_
    · intro Q f' w' ρ S ho hT hS hB
      obtain ⟨hv38, hr38⟩ := (hT 38 59 rfl rfl : (Is (.bool false)) (f' 59) (ρ 38))
      obtain ⟨p12, n12, c12, hv41, hr41⟩ := (hT 41 62 rfl rfl : (Zt z12) (f' 62) (ρ 41))
      obtain ⟨hv42, hr42⟩ := (hT 42 63 rfl rfl : (Is (.agg #[.bool b2, .slice q m d])) (f' 63) (ρ 42))
      obtain hS := hS.flat3 hr38 hr41 hr42
      refine .inl ⟨want_on (e := 59) rfl rfl rfl hv38, ocall rfl rfl Try.call14 rfl (wzsub (((hS.sl 3 rfl).zr hk12).mono (by omega)) ((hzy.at hS).mono (by omega)) hz13) (args2 (ev rfl hv41) (ev rfl hv42)) ?_⟩
      rintro _ w9 ⟨_, _, rfl, hTT, hN⟩
      exact ⟨_, rfl, _, _, rfl, hTT, hN⟩
    refine stepsCons rfl ?_ ?_
    · intro Q f' w' ρ S ho hT hS hB
      obtain ⟨hv38, hr38⟩ := (hT 38 59 rfl rfl : (Is (.bool false)) (f' 59) (ρ 38))
      obtain hS := hS.flat1 hr38
      exact .inl ⟨want_on (e := 59) rfl rfl rfl hv38, oload (vs := [.bool b, .slice p n c]) aggZ hS 2 rfl rfl (ev rfl (ho 3 rfl)) rfl rfl rfl ⟨_, _, rfl, isI, New.same _⟩⟩
    refine stepsCons rfl ?_ ?_
    · intro Q f' w' ρ S ho hT hS hB
      obtain ⟨hv38, hr38⟩ := (hT 38 59 rfl rfl : (Is (.bool false)) (f' 59) (ρ 38))
      obtain ⟨p13, n13, c13, hv43, hr43⟩ := (hT 43 64 rfl rfl : (Zt z13) (f' 64) (ρ 43))
      obtain ⟨hv44, hr44⟩ := (hT 44 65 rfl rfl : (Is (.agg #[.bool b, .slice p n c])) (f' 65) (ρ 44))
      obtain hS := hS.flat3 hr38 hr43 hr44
      refine .inl ⟨want_on (e := 59) rfl rfl rfl hv38, ocall rfl rfl Try.call57 rfl (wleq (((hS.sl 3 rfl).zr hk13).mono (by omega)) ((hzx.at hS).mono (by omega)) (by have := hz12.out; have := hz13.out; omega)) (args2 (ev rfl hv43) (ev rfl hv44)) ?_⟩
      rintro _ w9 ⟨_, _, rfl, hTT, hN⟩
      exact ⟨_, rfl, _, _, rfl, hTT, hN⟩
    refine stepsCons rfl ?_ ?_
    · intro Q f' w' ρ S ho hT hS hB
      obtain ⟨hv38, hr38⟩ := (hT 38 59 rfl rfl : (Is (.bool false)) (f' 59) (ρ 38))
      obtain ⟨hv45, hr45⟩ := (hT 45 66 rfl rfl : (Is (.bool true)) (f' 66) (ρ 45))
      obtain hS := hS.flat2 hr38 hr45
      exact .inl ⟨want_on (e := 59) rfl rfl rfl hv38, onot (b := true) rfl rfl (ev (v := .bool true) rfl hv45) ⟨_, _, rfl, isI, New.same _⟩⟩
    refine stepsCons rfl ?_ ?_
    · intro Q f' w' ρ S ho hT hS hB
      obtain ⟨hv38, hr38⟩ := (hT 38 59 rfl rfl : (Is (.bool false)) (f' 59) (ρ 38))
      obtain ⟨hv46, hr46⟩ := (hT 46 67 rfl rfl : (Is (.bool false)) (f' 67) (ρ 46))
      obtain hS := hS.flat2 hr38 hr46
      exact .inl ⟨want_none rfl, opick (b := false) (v := .bool false) rfl rfl (ev (v := .bool false) rfl hv38) (ev (v := .bool false) rfl hv46) ⟨_, _, rfl, isI, New.same _⟩⟩
    refine stepsCons rfl ?_ ?_
    · intro Q f' w' ρ S ho hT hS hB
      obtain ⟨hv47, hr47⟩ := (hT 47 68 rfl rfl : (Is (.bool false)) (f' 68) (ρ 47))
      obtain hS := hS.flat1 hr47
      exact .inl ⟨want_none rfl, omove (v := .bool false) rfl rfl (ev (v := .bool false) rfl hv47) ⟨_, _, rfl, isI, New.same _⟩⟩
    refine stepsCons rfl ?_ ?_
    · intro Q f' w' ρ S ho hT hS hB
      obtain ⟨hv48, hr48⟩ := (hT 48 69 rfl rfl : (Is (.bool false)) (f' 69) (ρ 48))
      obtain hS := hS.flat1 hr48
      exact .inl ⟨want_on (e := 69) rfl rfl rfl hv48, oload (vs := [.bool b, .slice p n c]) aggZ hS 2 rfl rfl (ev rfl (ho 3 rfl)) rfl rfl rfl ⟨_, _, rfl, isI, New.same _⟩⟩
    refine stepsCons rfl ?_ ?_
    · intro Q f' w' ρ S ho hT hS hB
      obtain ⟨hv48, hr48⟩ := (hT 48 69 rfl rfl : (Is (.bool false)) (f' 69) (ρ 48))
      obtain ⟨hv49, hr49⟩ := (hT 49 70 rfl rfl : (Is (.agg #[.bool b, .slice p n c])) (f' 70) (ρ 49))
      obtain hS := hS.flat2 hr48 hr49
      refine .inl ⟨want_on (e := 69) rfl rfl rfl hv48, ocall rfl rfl Try.call28 rfl (wzneg ((hzx.at hS).mono (by omega)) hz14) (args1 (ev rfl hv49)) ?_⟩
      rintro _ w9 ⟨_, _, rfl, hTT, hN⟩
      exact ⟨_, rfl, _, _, rfl, hTT, hN⟩
    refine stepsCons rfl ?_ ?_
    · intro Q f' w' ρ S ho hT hS hB
      obtain ⟨hv48, hr48⟩ := (hT 48 69 rfl rfl : (Is (.bool false)) (f' 69) (ρ 48))
      obtain ⟨p14, n14, c14, hv50, hr50⟩ := (hT 50 71 rfl rfl : (Zt z14) (f' 71) (ρ 50))
      obtain hS := hS.flat2 hr48 hr50
      refine .inl ⟨want_on (e := 69) rfl rfl rfl hv48, ocall rfl rfl Try.call28 rfl (wzneg (((hS.sl 3 rfl).zr hk14).mono (by omega)) hz15) (args1 (ev rfl hv50)) ?_⟩
      rintro _ w9 ⟨_, _, rfl, hTT, hN⟩
      exact ⟨_, rfl, _, _, rfl, hTT, hN⟩
    refine stepsCons rfl ?_ ?_
    · intro Q f' w' ρ S ho hT hS hB
      obtain ⟨hv48, hr48⟩ := (hT 48 69 rfl rfl : (Is (.bool false)) (f' 69) (ρ 48))
      obtain hS := hS.flat1 hr48
      exact .inl ⟨want_on (e := 69) rfl rfl rfl hv48, oload (vs := [.bool b, .slice p n c]) aggZ hS 2 rfl rfl (ev rfl (ho 3 rfl)) rfl rfl rfl ⟨_, _, rfl, isI, New.same _⟩⟩
    refine stepsCons rfl ?_ ?_
    · intro Q f' w' ρ S ho hT hS hB
      obtain ⟨hv48, hr48⟩ := (hT 48 69 rfl rfl : (Is (.bool false)) (f' 69) (ρ 48))
      obtain ⟨p15, n15, c15, hv51, hr51⟩ := (hT 51 72 rfl rfl : (Zt z15) (f' 72) (ρ 51))
      obtain ⟨hv52, hr52⟩ := (hT 52 73 rfl rfl : (Is (.agg #[.bool b, .slice p n c])) (f' 73) (ρ 52))
      obtain hS := hS.flat3 hr48 hr51 hr52
      refine .inl ⟨want_on (e := 69) rfl rfl rfl hv48, ocall rfl rfl Try.call57 rfl (wleq (((hS.sl 3 rfl).zr hk15).mono (by omega)) ((hzx.at hS).mono (by omega)) (by have := hz14.out; have := hz15.out; omega)) (args2 (ev rfl hv51) (ev rfl hv52)) ?_⟩
      rintro _ w9 ⟨_, _, rfl, hTT, hN⟩
      exact ⟨_, rfl, _, _, rfl, hTT, hN⟩
    refine stepsCons rfl ?_ ?_
    · intro Q f' w' ρ S ho hT hS hB
      obtain ⟨hv48, hr48⟩ := (hT 48 69 rfl rfl : (Is (.bool false)) (f' 69) (ρ 48))
      obtain ⟨hv53, hr53⟩ := (hT 53 74 rfl rfl : (Is (.bool true)) (f' 74) (ρ 53))
      obtain hS := hS.flat2 hr48 hr53
      exact .inl ⟨want_on (e := 69) rfl rfl rfl hv48, onot (b := true) rfl rfl (ev (v := .bool true) rfl hv53) ⟨_, _, rfl, isI, New.same _⟩⟩
    refine stepsCons rfl ?_ ?_
    · intro Q f' w' ρ S ho hT hS hB
      obtain ⟨hv48, hr48⟩ := (hT 48 69 rfl rfl : (Is (.bool false)) (f' 69) (ρ 48))
      obtain ⟨hv54, hr54⟩ := (hT 54 75 rfl rfl : (Is (.bool false)) (f' 75) (ρ 54))
      obtain hS := hS.flat2 hr48 hr54
      exact .inl ⟨want_none rfl, opick (b := false) (v := .bool false) rfl rfl (ev (v := .bool false) rfl hv48) (ev (v := .bool false) rfl hv54) ⟨_, _, rfl, isI, New.same _⟩⟩
    exact stepsNil
  ·
    intro vs ρ w7 f' hf hT hS
    obtain ⟨hv0, hr0⟩ := (hT 0 (by decide) : (Is (.agg #[.bool b, .slice p n c])) (vs 0) (ρ 0))
    obtain ⟨hv1, hr1⟩ := (hT 1 (by decide) : (Is (.agg #[.bool b2, .slice q m d])) (vs 1) (ρ 1))
    obtain ⟨p1, n1, c1, hv2, hr2⟩ := (hT 2 (by decide) : (Zt z1) (vs 2) (ρ 2))
    obtain ⟨hv3, hr3⟩ := (hT 3 (by decide) : (Is (.agg #[.bool b2, .slice q m d])) (vs 3) (ρ 3))
    obtain ⟨hv4, hr4⟩ := (hT 4 (by decide) : (Is (.agg #[.bool b, .slice p n c])) (vs 4) (ρ 4))
    obtain ⟨p2, n2, c2, hv5, hr5⟩ := (hT 5 (by decide) : (Zt z2) (vs 5) (ρ 5))
    obtain ⟨hv6, hr6⟩ := (hT 6 (by decide) : (Is (.bool true)) (vs 6) (ρ 6))
    obtain ⟨hv7, hr7⟩ := (hT 7 (by decide) : (Is (.bool false)) (vs 7) (ρ 7))
    obtain ⟨hv8, hr8⟩ := (hT 8 (by decide) : (Is (.bool false)) (vs 8) (ρ 8))
    obtain ⟨hv9, hr9⟩ := (hT 9 (by decide) : (Is (.agg #[.bool b, .slice p n c])) (vs 9) (ρ 9))
    obtain ⟨hv10, hr10⟩ := (hT 10 (by decide) : (Is (.agg #[.bool b2, .slice q m d])) (vs 10) (ρ 10))
    obtain ⟨hv11, hr11⟩ := (hT 11 (by decide) : (Is (.agg #[.bool b3, .slice r k e])) (vs 11) (ρ 11))
    obtain ⟨p3, n3, c3, hv12, hr12⟩ := (hT 12 (by decide) : (Zt z3) (vs 12) (ρ 12))
    obtain ⟨p4, n4, c4, hv13, hr13⟩ := (hT 13 (by decide) : (Zt z4) (vs 13) (ρ 13))
    obtain ⟨hv14, hr14⟩ := (hT 14 (by decide) : (Is (.agg #[.bool b, .slice p n c])) (vs 14) (ρ 14))
    obtain ⟨hv15, hr15⟩ := (hT 15 (by decide) : (Is (.agg #[.bool b2, .slice q m d])) (vs 15) (ρ 15))
    obtain ⟨p5, n5, c5, hv16, hr16⟩ := (hT 16 (by decide) : (Zt z5) (vs 16) (ρ 16))
    obtain ⟨hv17, hr17⟩ := (hT 17 (by decide) : (Is (.agg #[.bool b, .slice p n c])) (vs 17) (ρ 17))
    obtain ⟨hv18, hr18⟩ := (hT 18 (by decide) : (Is (.agg #[.bool b3, .slice r k e])) (vs 18) (ρ 18))
    obtain ⟨p6, n6, c6, hv19, hr19⟩ := (hT 19 (by decide) : (Zt z6) (vs 19) (ρ 19))
    obtain ⟨p7, n7, c7, hv20, hr20⟩ := (hT 20 (by decide) : (Zt z7) (vs 20) (ρ 20))
    obtain ⟨hv21, hr21⟩ := (hT 21 (by decide) : (Is (.bool true)) (vs 21) (ρ 21))
    obtain ⟨hv22, hr22⟩ := (hT 22 (by decide) : (Is (.bool false)) (vs 22) (ρ 22))
    obtain ⟨hv23, hr23⟩ := (hT 23 (by decide) : (Is (.bool false)) (vs 23) (ρ 23))
    obtain ⟨hv24, hr24⟩ := (hT 24 (by decide) : (Is (.bool false)) (vs 24) (ρ 24))
    obtain ⟨hv25, hr25⟩ := (hT 25 (by decide) : (Is (.agg #[.bool b, .slice p n c])) (vs 25) (ρ 25))
    obtain ⟨hv26, hr26⟩ := (hT 26 (by decide) : (Is (.agg #[.bool b2, .slice q m d])) (vs 26) (ρ 26))
    obtain ⟨p8, n8, c8, hv27, hr27⟩ := (hT 27 (by decide) : (Zt z8) (vs 27) (ρ 27))
    obtain ⟨hv28, hr28⟩ := (hT 28 (by decide) : (Is (.agg #[.bool b3, .slice r k e])) (vs 28) (ρ 28))
    obtain ⟨p9, n9, c9, hv29, hr29⟩ := (hT 29 (by decide) : (Zt z9) (vs 29) (ρ 29))
    obtain ⟨hv30, hr30⟩ := (hT 30 (by decide) : (Is (.agg #[.bool b, .slice p n c])) (vs 30) (ρ 30))
    obtain ⟨hv31, hr31⟩ := (hT 31 (by decide) : (Is (.agg #[.bool b2, .slice q m d])) (vs 31) (ρ 31))
    obtain ⟨hv32, hr32⟩ := (hT 32 (by decide) : (Is (.agg #[.bool b3, .slice r k e])) (vs 32) (ρ 32))
    obtain ⟨p10, n10, c10, hv33, hr33⟩ := (hT 33 (by decide) : (Zt z10) (vs 33) (ρ 33))
    obtain ⟨p11, n11, c11, hv34, hr34⟩ := (hT 34 (by decide) : (Zt z11) (vs 34) (ρ 34))
    obtain ⟨hv35, hr35⟩ := (hT 35 (by decide) : (Is (.bool true)) (vs 35) (ρ 35))
    obtain ⟨hv36, hr36⟩ := (hT 36 (by decide) : (Is (.bool false)) (vs 36) (ρ 36))
    obtain ⟨hv37, hr37⟩ := (hT 37 (by decide) : (Is (.bool false)) (vs 37) (ρ 37))
    obtain ⟨hv38, hr38⟩ := (hT 38 (by decide) : (Is (.bool false)) (vs 38) (ρ 38))
    obtain ⟨hv39, hr39⟩ := (hT 39 (by decide) : (Is (.agg #[.bool b, .slice p n c])) (vs 39) (ρ 39))
    obtain ⟨hv40, hr40⟩ := (hT 40 (by decide) : (Is (.agg #[.bool b2, .slice q m d])) (vs 40) (ρ 40))
    obtain ⟨p12, n12, c12, hv41, hr41⟩ := (hT 41 (by decide) : (Zt z12) (vs 41) (ρ 41))
    obtain ⟨hv42, hr42⟩ := (hT 42 (by decide) : (Is (.agg #[.bool b2, .slice q m d])) (vs 42) (ρ 42))
    obtain ⟨p13, n13, c13, hv43, hr43⟩ := (hT 43 (by decide) : (Zt z13) (vs 43) (ρ 43))
    obtain ⟨hv44, hr44⟩ := (hT 44 (by decide) : (Is (.agg #[.bool b, .slice p n c])) (vs 44) (ρ 44))
    obtain ⟨hv45, hr45⟩ := (hT 45 (by decide) : (Is (.bool true)) (vs 45) (ρ 45))
    obtain ⟨hv46, hr46⟩ := (hT 46 (by decide) : (Is (.bool false)) (vs 46) (ρ 46))
    obtain ⟨hv47, hr47⟩ := (hT 47 (by decide) : (Is (.bool false)) (vs 47) (ρ 47))
    obtain ⟨hv48, hr48⟩ := (hT 48 (by decide) : (Is (.bool false)) (vs 48) (ρ 48))
    obtain ⟨hv49, hr49⟩ := (hT 49 (by decide) : (Is (.agg #[.bool b, .slice p n c])) (vs 49) (ρ 49))
    obtain ⟨p14, n14, c14, hv50, hr50⟩ := (hT 50 (by decide) : (Zt z14) (vs 50) (ρ 50))
    obtain ⟨p15, n15, c15, hv51, hr51⟩ := (hT 51 (by decide) : (Zt z15) (vs 51) (ρ 51))
    obtain ⟨hv52, hr52⟩ := (hT 52 (by decide) : (Is (.agg #[.bool b, .slice p n c])) (vs 52) (ρ 52))
    obtain ⟨hv53, hr53⟩ := (hT 53 (by decide) : (Is (.bool true)) (vs 53) (ρ 53))
    obtain ⟨hv54, hr54⟩ := (hT 54 (by decide) : (Is (.bool false)) (vs 54) (ρ 54))
    obtain ⟨hv55, hr55⟩ := (hT 55 (by decide) : (Is (.bool false)) (vs 55) (ρ 55))
    simp only [pool, if_true, hr0, hr1, hr2, hr3, hr4, hr5, hr6, hr7, hr8, hr9, hr10, hr11, hr12, hr13, hr14, hr15, hr16, hr17, hr18, hr19, hr20, hr21, hr22, hr23, hr24, hr25, hr26, hr27, hr28, hr29, hr30, hr31, hr32, hr33, hr34, hr35, hr36, hr37, hr38, hr39, hr40, hr41, hr42, hr43, hr44, hr45, hr46, hr47, hr48, hr49, hr50, hr51, hr52, hr53, hr54, hr55, List.nil_append, List.cons_append, List.append_nil] at hS
    simp only [layf, hv0, hv1, hv2, hv3, hv4, hv5, hv6, hv7, hv8, hv9, hv10, hv11, hv12, hv13, hv14, hv15, hv16, hv17, hv18, hv19, hv20, hv21, hv22, hv23, hv24, hv25, hv26, hv27, hv28, hv29, hv30, hv31, hv32, hv33, hv34, hv35, hv36, hv37, hv38, hv39, hv40, hv41, hv42, hv43, hv44, hv45, hv46, hv47, hv48, hv49, hv50, hv51, hv52, hv53, hv54, hv55] at hf
    subst hf; clear hT hv0 hv1 hv2 hv3 hv4 hv5 hv6 hv7 hv8 hv9 hv10 hv11 hv12 hv13 hv14 hv15 hv16 hv17 hv18 hv19 hv20 hv21 hv22 hv23 hv24 hv25 hv26 hv27 hv28 hv29 hv30 hv31 hv32 hv33 hv34 hv35 hv36 hv37 hv38 hv39 hv40 hv41 hv42 hv43 hv44 hv45 hv46 hv47 hv48 hv49 hv50 hv51 hv52 hv53 hv54 hv55 hr0 hr1 hr2 hr3 hr4 hr5 hr6 hr7 hr8 hr9 hr10 hr11 hr12 hr13 hr14 hr15 hr16 hr17 hr18 hr19 hr20 hr21 hr22 hr23 hr24 hr25 hr26 hr27 hr28 hr29 hr30 hr31 hr32 hr33 hr34 hr35 hr36 hr37 hr38 hr39 hr40 hr41 hr42 hr43 hr44 hr45 hr46 hr47 hr48 hr49 hr50 hr51 hr52 hr53 hr54 hr55
    refine wdone rfl ?_
    refine thenN ?_
    refine wF (ev (v := .bool false) rfl rfl) ?_
    refine wskip ?_
    refine thenN ?_
    refine wseq ?_
    refine wreg ?_
    refine wl rfl (oload (vs := [.bool b, .slice p n c]) aggZ hS 17 rfl rfl (ev rfl rfl) rfl rfl rfl ?_)
    refine wl rfl (oload (vs := [.bool b2, .slice q m d]) aggZ hS 16 rfl rfl (ev rfl rfl) rfl rfl rfl ?_)
    have h0 : y ≠ 0 := by rw [← hey]; exact hy9
    refine wl rfl (ocall rfl rfl Try.call42 rfl (wzbez ((hzx.at hS).mono (by omega)) ((hzy.at hS).mono (by omega)) (h0)) (args2 (ev rfl rfl) (ev rfl rfl)) ?_)
    rintro _ w8 ⟨_, _, rfl, ⟨u1, v1, hb1, p16, n16, c16, p17, n17, c17, p18, n18, c18, rfl, rfl⟩, hN⟩
    refine ⟨_, rfl, ?_⟩
    replace hS := hS.news hN; clear hN
    have hk16 : Wd (Int.gcd x y : Int) 1048576 := Wd.gcd hzx.wd hzy.wd rfl (by omega)
    have hk17 : Wd u1 1048576 := hzy.wd.abs (bez_y h0 hb1).2
    have hk18 : Wd v1 1048577 := llv_le (bez_y h0 hb1).1 (llv_add (i := 1048576) hzx.wd (ll_le (by omega)) (by omega))
    refine wl rfl (omove (v := .tuple #[.agg #[.bool (ng (Int.gcd x y : Int)), .slice p16 n16 c16], .agg #[.bool (ng u1), .slice p17 n17 c17], .agg #[.bool (ng v1), .slice p18 n18 c18]]) rfl rfl (ev (v := .tuple #[.agg #[.bool (ng (Int.gcd x y : Int)), .slice p16 n16 c16], .agg #[.bool (ng u1), .slice p17 n17 c17], .agg #[.bool (ng v1), .slice p18 n18 c18]]) rfl rfl) ?_)
    refine wl rfl (oextract (vs := [.agg #[.bool (ng (Int.gcd x y : Int)), .slice p16 n16 c16], .agg #[.bool (ng u1), .slice p17 n17 c17], .agg #[.bool (ng v1), .slice p18 n18 c18]]) (v := .agg #[.bool (ng (Int.gcd x y : Int)), .slice p16 n16 c16]) rfl rfl (ev (v := .tuple #[.agg #[.bool (ng (Int.gcd x y : Int)), .slice p16 n16 c16], .agg #[.bool (ng u1), .slice p17 n17 c17], .agg #[.bool (ng v1), .slice p18 n18 c18]]) rfl rfl) rfl ?_)
    refine wl rfl (oextract (vs := [.agg #[.bool (ng (Int.gcd x y : Int)), .slice p16 n16 c16], .agg #[.bool (ng u1), .slice p17 n17 c17], .agg #[.bool (ng v1), .slice p18 n18 c18]]) (v := .agg #[.bool (ng u1), .slice p17 n17 c17]) rfl rfl (ev (v := .tuple #[.agg #[.bool (ng (Int.gcd x y : Int)), .slice p16 n16 c16], .agg #[.bool (ng u1), .slice p17 n17 c17], .agg #[.bool (ng v1), .slice p18 n18 c18]]) rfl rfl) rfl ?_)
    refine wl rfl (oextract (vs := [.agg #[.bool (ng (Int.gcd x y : Int)), .slice p16 n16 c16], .agg #[.bool (ng u1), .slice p17 n17 c17], .agg #[.bool (ng v1), .slice p18 n18 c18]]) (v := .agg #[.bool (ng v1), .slice p18 n18 c18]) rfl rfl (ev (v := .tuple #[.agg #[.bool (ng (Int.gcd x y : Int)), .slice p16 n16 c16], .agg #[.bool (ng u1), .slice p17 n17 c17], .agg #[.bool (ng v1), .slice p18 n18 c18]]) rfl rfl) rfl ?_)
    refine wl rfl (oalloc [.bool false, .slice none 0 0] hS rfl rfl Try.zeroValue25 rfl ?_)
    clear hS; intro g9 w10 hS
    refine wl rfl (oalloc [.bool false, .slice none 0 0] hS rfl rfl Try.zeroValue25 rfl ?_)
    clear hS; intro g11 w12 hS
    refine wl rfl (oalloc [.bool false, .slice none 0 0] hS rfl rfl Try.zeroValue25 rfl ?_)
    clear hS; intro g13 w14 hS
    refine wl rfl (ostore [.bool (ng (Int.gcd x y : Int)), .slice p16 n16 c16] [.bool (ng (Int.gcd x y : Int)), .slice p16 n16 c16] Try.sizeOf25 hS 2 rfl rfl (ev rfl rfl) (ev (v := .agg #[.bool (ng (Int.gcd x y : Int)), .slice p16 n16 c16]) rfl rfl) rfl rfl rfl rfl rfl rfl ?_)
    clear hS; intro w15 hS
    refine wl rfl (ostore [.bool (ng u1), .slice p17 n17 c17] [.bool (ng u1), .slice p17 n17 c17] Try.sizeOf25 hS 1 rfl rfl (ev rfl rfl) (ev (v := .agg #[.bool (ng u1), .slice p17 n17 c17]) rfl rfl) rfl rfl rfl rfl rfl rfl ?_)
    clear hS; intro w16 hS
    refine wl rfl (ostore [.bool (ng v1), .slice p18 n18 c18] [.bool (ng v1), .slice p18 n18 c18] Try.sizeOf25 hS 0 rfl rfl (ev rfl rfl) (ev (v := .agg #[.bool (ng v1), .slice p18 n18 c18]) rfl rfl) rfl rfl rfl rfl rfl rfl ?_)
    clear hS; intro w17 hS
    refine wnil ?_
    refine thenN ?_
    refine wseq ?_
    refine wseq ?_
    obtain ⟨z19, hz19⟩ : ∃ z : Int, Hid (x * u1 = z) := ⟨_, rfl⟩
    have hk19 : Wd z19 3145730 := Wd.mul hzx.wd hk17 hz19 (by omega)
    obtain ⟨z20, hz20⟩ : ∃ z : Int, Hid (y * v1 = z) := ⟨_, rfl⟩
    have hk20 : Wd z20 3145730 := Wd.mul hzy.wd hk18 hz20 (by omega)
    obtain ⟨z21, hz21⟩ : ∃ z : Int, Hid (z19 + z20 = z) := ⟨_, rfl⟩
    have hk21 : Wd z21 3145731 := Wd.add hk19 hk20 hz21 (by omega)
    obtain ⟨z22, hz22⟩ : ∃ z : Int, Hid ((Int.gcd x y : Int) = z) := ⟨_, rfl⟩
    have hk22 : Wd z22 1048576 := Wd.gcd hzx.wd hzy.wd hz22 (by omega)
    obtain ⟨z23, hz23⟩ : ∃ z : Int, Hid ((Int.lcm x y : Int) = z) := ⟨_, rfl⟩
    have hk23 : Wd z23 2097152 := Wd.lcm hzx.wd hzy.wd hz23 (by omega)
    obtain ⟨z24, hz24⟩ : ∃ z : Int, Hid (z22 * z23 = z) := ⟨_, rfl⟩
    have hk24 : Wd z24 3145728 := Wd.mul hk22 hk23 hz24 (by omega)
    obtain ⟨z25, hz25⟩ : ∃ z : Int, Hid (x * y = z) := ⟨_, rfl⟩
    have hk25 : Wd z25 2097152 := Wd.mul hzx.wd hzy.wd hz25 (by omega)
    obtain ⟨z26, hz26⟩ : ∃ z : Int, Hid ((Int.natAbs z25 : Int) = z) := ⟨_, rfl⟩
    have hk26 : Wd z26 2097152 := Wd.nabs hk25 hz26
    refine wstage 27 [84, 85, 86, 87, 88, 89, 90, 91, 92, 93, 94, 95, 96, 97, 98, 99, 100, 101, 102, 103, 104, 105, 106, 107, 108, 109, 110] [[], [], [0, 1], [], [], [3, 4, 0, 1, 2], [2, 5, 0, 1, 3, 4], [], [6, 7, 0, 1, 2, 3, 4, 5], [8, 0, 1, 2, 3, 4, 5, 6, 7], [9, 0, 1, 2, 3, 4, 5, 6, 7, 8], [10, 0, 1, 2, 3, 4, 5, 6, 7, 8, 9], [10, 0, 1, 2, 3, 4, 5, 6, 7, 8, 9], [10, 11, 12, 0, 1, 2, 3, 4, 5, 6, 7, 8, 9], [10, 13, 0, 1, 2, 3, 4, 5, 6, 7, 8, 9, 11, 12], [10, 0, 1, 2, 3, 4, 5, 6, 7, 8, 9], [10, 0, 1, 2, 3, 4, 5, 6, 7, 8, 9], [10, 15, 16, 0, 1, 2, 3, 4, 5, 6, 7, 8, 9], [10, 17, 0, 1, 2, 3, 4, 5, 6, 7, 8, 9, 11, 12, 13, 14, 15, 16], [10, 14, 18, 0, 1, 2, 3, 4, 5, 6, 7, 8, 9, 11, 12, 13, 15, 16, 17], [10, 0, 1, 2, 3, 4, 5, 6, 7, 8, 9], [10, 0, 1, 2, 3, 4, 5, 6, 7, 8, 9], [10, 20, 21, 0, 1, 2, 3, 4, 5, 6, 7, 8, 9, 11, 12, 13, 14, 15, 16, 17, 18, 19], [10, 22, 0, 1, 2, 3, 4, 5, 6, 7, 8, 9, 11, 12, 13, 14, 15, 16, 17, 18, 19, 20, 21], [10, 19, 23, 0, 1, 2, 3, 4, 5, 6, 7, 8, 9, 11, 12, 13, 14, 15, 16, 17, 18, 20, 21, 22], [10, 24, 0, 1, 2, 3, 4, 5, 6, 7, 8, 9, 11, 12, 13, 14, 15, 16, 17, 18, 19, 20, 21, 22, 23], [10, 25, 0, 1, 2, 3, 4, 5, 6, 7, 8, 9, 11, 12, 13, 14, 15, 16, 17, 18, 19, 20, 21, 22, 23, 24]] [[], [], [], [], [], [], [], [], [], [], [], [], [], [], [], [], [], [], [], [], [], [], [], [], [], [], []] [] [] (fun i => ([fun _ => Is (.agg #[.bool b, .slice p n c]), fun _ => Is (.agg #[.bool (ng u1), .slice p17 n17 c17]), fun _ => Zt z19, fun _ => Is (.agg #[.bool b2, .slice q m d]), fun _ => Is (.agg #[.bool (ng v1), .slice p18 n18 c18]), fun _ => Zt z20, fun _ => Zt z21, fun _ => Is (.agg #[.bool (ng (Int.gcd x y : Int)), .slice p16 n16 c16]), fun _ => Is (.bool true), fun _ => Is (.bool false), fun _ => Is (.bool false), fun _ => Is (.agg #[.bool b, .slice p n c]), fun _ => Is (.agg #[.bool b2, .slice q m d]), fun _ => Slb [.bool b, .slice p n c, .bool b2, .slice q m d] 25 2, fun _ => Zt z22, fun _ => Is (.agg #[.bool b, .slice p n c]), fun _ => Is (.agg #[.bool b2, .slice q m d]), fun _ => Slb [.bool b, .slice p n c, .bool b2, .slice q m d] 25 2, fun _ => Zt z23, fun _ => Zt z24, fun _ => Is (.agg #[.bool b, .slice p n c]), fun _ => Is (.agg #[.bool b2, .slice q m d]), fun _ => Zt z25, fun _ => Zt z26, fun _ => Is (.bool true), fun _ => Is (.bool false), fun _ => Is (.bool false)] : List (List Value → Tell)).getD i (fun _ _ _ => False)) (heldNil) (fun d _ _ _ _ h => (by cases d <;> exact h)) (by kernel_rfl) (by kernel_rfl) (by kernel_rfl) hS ?_ ?_
    ·
      refine stepsCons rfl ?_ ?_
      · intro Q f' w' ρ S ho hT hS hB
        exact .inl ⟨want_none rfl, oload (vs := [.bool b, .slice p n c]) aggZ hS 23 rfl rfl (ev rfl (ho 3 rfl)) rfl rfl rfl ⟨_, _, rfl, isI, New.same _⟩⟩
      refine stepsCons rfl ?_ ?_
      · intro Q f' w' ρ S ho hT hS hB
        exact .inl ⟨want_none rfl, oload (vs := [.bool (ng u1), .slice p17 n17 c17]) aggZ hS 1 rfl rfl (ev rfl (ho 8 rfl)) rfl rfl rfl ⟨_, _, rfl, isI, New.same _⟩⟩
      refine stepsCons rfl ?_ ?_
      · intro Q f' w' ρ S ho hT hS hB
        obtain ⟨hv0, hr0⟩ := (hT 0 84 rfl rfl : (Is (.agg #[.bool b, .slice p n c])) (f' 84) (ρ 0))
        obtain ⟨hv1, hr1⟩ := (hT 1 85 rfl rfl : (Is (.agg #[.bool (ng u1), .slice p17 n17 c17])) (f' 85) (ρ 1))
        obtain hS := hS.flat2 hr0 hr1
        refine .inl ⟨want_none rfl, ocall rfl rfl Try.call16 rfl (wzmul ((hzx.at hS).mono (by omega)) (((hS.sl 4 rfl).zr hk17).mono (by omega)) hz19) (args2 (ev rfl hv0) (ev rfl hv1)) ?_⟩
        rintro _ w9 ⟨_, _, rfl, hTT, hN⟩
        exact ⟨_, rfl, _, _, rfl, hTT, hN⟩
      refine stepsCons rfl ?_ ?_
      · intro Q f' w' ρ S ho hT hS hB
        exact .inl ⟨want_none rfl, oload (vs := [.bool b2, .slice q m d]) aggZ hS 22 rfl rfl (ev rfl (ho 4 rfl)) rfl rfl rfl ⟨_, _, rfl, isI, New.same _⟩⟩
      refine stepsCons rfl ?_ ?_
      · intro Q f' w' ρ S ho hT hS hB
        exact .inl ⟨want_none rfl, oload (vs := [.bool (ng v1), .slice p18 n18 c18]) aggZ hS 0 rfl rfl (ev rfl (ho 9 rfl)) rfl rfl rfl ⟨_, _, rfl, isI, New.same _⟩⟩
      refine stepsCons rfl ?_ ?_
      · intro Q f' w' ρ S ho hT hS hB
        obtain ⟨hv3, hr3⟩ := (hT 3 87 rfl rfl : (Is (.agg #[.bool b2, .slice q m d])) (f' 87) (ρ 3))
        obtain ⟨hv4, hr4⟩ := (hT 4 88 rfl rfl : (Is (.agg #[.bool (ng v1), .slice p18 n18 c18])) (f' 88) (ρ 4))
        obtain hS := hS.flat2 hr3 hr4
        refine .inl ⟨want_none rfl, ocall rfl rfl Try.call16 rfl (wzmul ((hzy.at hS).mono (by omega)) (((hS.sl 5 rfl).zr hk18).mono (by omega)) hz20) (args2 (ev rfl hv3) (ev rfl hv4)) ?_⟩
        rintro _ w9 ⟨_, _, rfl, hTT, hN⟩
        exact ⟨_, rfl, _, _, rfl, hTT, hN⟩
      refine stepsCons rfl ?_ ?_
      · intro Q f' w' ρ S ho hT hS hB
        obtain ⟨p19, n19, c19, hv2, hr2⟩ := (hT 2 86 rfl rfl : (Zt z19) (f' 86) (ρ 2))
        obtain ⟨p20, n20, c20, hv5, hr5⟩ := (hT 5 89 rfl rfl : (Zt z20) (f' 89) (ρ 5))
        obtain hS := hS.flat2 hr2 hr5
        refine .inl ⟨want_none rfl, ocall rfl rfl Try.call11 rfl (wzadd (((hS.sl 24 rfl).zr hk19).mono (by omega)) (((hS.sl 25 rfl).zr hk20).mono (by omega)) hz21) (args2 (ev rfl hv2) (ev rfl hv5)) ?_⟩
        rintro _ w9 ⟨_, _, rfl, hTT, hN⟩
        exact ⟨_, rfl, _, _, rfl, hTT, hN⟩
      refine stepsCons rfl ?_ ?_
      · intro Q f' w' ρ S ho hT hS hB
        exact .inl ⟨want_none rfl, oload (vs := [.bool (ng (Int.gcd x y : Int)), .slice p16 n16 c16]) aggZ hS 2 rfl rfl (ev rfl (ho 7 rfl)) rfl rfl rfl ⟨_, _, rfl, isI, New.same _⟩⟩
      refine stepsCons rfl ?_ ?_
      · intro Q f' w' ρ S ho hT hS hB
        obtain ⟨p21, n21, c21, hv6, hr6⟩ := (hT 6 90 rfl rfl : (Zt z21) (f' 90) (ρ 6))
        obtain ⟨hv7, hr7⟩ := (hT 7 91 rfl rfl : (Is (.agg #[.bool (ng (Int.gcd x y : Int)), .slice p16 n16 c16])) (f' 91) (ρ 7))
        obtain hS := hS.flat2 hr6 hr7
        refine .inl ⟨want_none rfl, ocall rfl rfl Try.call57 rfl (wleq (((hS.sl 24 rfl).zr hk21).mono (by omega)) (((hS.sl 3 rfl).zr hk16).mono (by omega)) (by rw [← hz21.out, ← hz19.out, ← hz20.out]; exact hb1.1)) (args2 (ev rfl hv6) (ev rfl hv7)) ?_⟩
        rintro _ w9 ⟨_, _, rfl, hTT, hN⟩
        exact ⟨_, rfl, _, _, rfl, hTT, hN⟩
      refine stepsCons rfl ?_ ?_
      · intro Q f' w' ρ S ho hT hS hB
        obtain ⟨hv8, hr8⟩ := (hT 8 92 rfl rfl : (Is (.bool true)) (f' 92) (ρ 8))
        obtain hS := hS.flat1 hr8
        exact .inl ⟨want_none rfl, onot (b := true) rfl rfl (ev (v := .bool true) rfl hv8) ⟨_, _, rfl, isI, New.same _⟩⟩
      refine stepsCons rfl ?_ ?_
      · intro Q f' w' ρ S ho hT hS hB
        obtain ⟨hv9, hr9⟩ := (hT 9 93 rfl rfl : (Is (.bool false)) (f' 93) (ρ 9))
        obtain hS := hS.flat1 hr9
        exact .inl ⟨want_none rfl, omove (v := .bool false) rfl rfl (ev (v := .bool false) rfl hv9) ⟨_, _, rfl, isI, New.same _⟩⟩
      refine stepsCons rfl ?_ ?_
      · intro Q f' w' ρ S ho hT hS hB
        obtain ⟨hv10, hr10⟩ := (hT 10 94 rfl rfl : (Is (.bool false)) (f' 94) (ρ 10))
        obtain hS := hS.flat1 hr10
        exact .inl ⟨want_on (e := 94) rfl rfl rfl hv10, oload (vs := [.bool b, .slice p n c]) aggZ hS 23 rfl rfl (ev rfl (ho 3 rfl)) rfl rfl rfl ⟨_, _, rfl, isI, New.same _⟩⟩
      refine stepsCons rfl ?_ ?_
      · intro Q f' w' ρ S ho hT hS hB
        obtain ⟨hv10, hr10⟩ := (hT 10 94 rfl rfl : (Is (.bool false)) (f' 94) (ρ 10))
        obtain hS := hS.flat1 hr10
        exact .inl ⟨want_on (e := 94) rfl rfl rfl hv10, oload (vs := [.bool b2, .slice q m d]) aggZ hS 22 rfl rfl (ev rfl (ho 4 rfl)) rfl rfl rfl ⟨_, _, rfl, isI, New.same _⟩⟩
      refine stepsCons rfl ?_ ?_
      · intro Q f' w' ρ S ho hT hS hB
        obtain ⟨hv10, hr10⟩ := (hT 10 94 rfl rfl : (Is (.bool false)) (f' 94) (ρ 10))
        obtain ⟨hv11, hr11⟩ := (hT 11 95 rfl rfl : (Is (.agg #[.bool b, .slice p n c])) (f' 95) (ρ 11))
        obtain ⟨hv12, hr12⟩ := (hT 12 96 rfl rfl : (Is (.agg #[.bool b2, .slice q m d])) (f' 96) (ρ 12))
        obtain hS := hS.flat3 hr10 hr11 hr12
        exact .inl ⟨want_on (e := 94) rfl rfl rfl hv10, obsliceN (ps := #[(0, .agg #[.bool b, .slice p n c]), (1, .agg #[.bool b2, .slice q m d])]) (z := .agg #[.bool false, .slice none 0 0]) [.bool b, .slice p n c, .bool b2, .slice q m d] rfl rfl Try.runUnderlying52 Try.sizeOf25 Try.zeroValue25 (parts2 (ev (v := .agg #[.bool b, .slice p n c]) rfl hv11) (ev (v := .agg #[.bool b2, .slice q m d]) rfl hv12)) rfl (by decide) fill2 ⟨_, _, rfl, ⟨_, rfl, rfl⟩, New.blk _ _ _⟩⟩
      refine stepsCons rfl ?_ ?_
      · intro Q f' w' ρ S ho hT hS hB
        obtain ⟨hv10, hr10⟩ := (hT 10 94 rfl rfl : (Is (.bool false)) (f' 94) (ρ 10))
        obtain ⟨g18, hv13, hr13⟩ := (hT 13 97 rfl rfl : (Slb [.bool b, .slice p n c, .bool b2, .slice q m d] 25 2) (f' 97) (ρ 13))
        obtain hS := hS.flat2 hr10 hr13
        refine .inl ⟨want_on (e := 94) rfl rfl rfl hv10, ocall rfl rfl Try.call45 rfl ((wzGcd_two (hS.blkAt 24 rfl) (hzx.at hS) (hzy.at hS) hzx.wd hzy.wd hz22)) (args1 (ev rfl hv13)) ?_⟩
        rintro _ w9 ⟨_, _, rfl, hTT, hN⟩
        exact ⟨_, rfl, _, _, rfl, hTT, hN⟩
      refine stepsCons rfl ?_ ?_
      · intro Q f' w' ρ S ho hT hS hB
        obtain ⟨hv10, hr10⟩ := (hT 10 94 rfl rfl : (Is (.bool false)) (f' 94) (ρ 10))
        obtain hS := hS.flat1 hr10
        exact .inl ⟨want_on (e := 94) rfl rfl rfl hv10, oload (vs := [.bool b, .slice p n c]) aggZ hS 23 rfl rfl (ev rfl (ho 3 rfl)) rfl rfl rfl ⟨_, _, rfl, isI, New.same _⟩⟩
      refine stepsCons rfl ?_ ?_
      · intro Q f' w' ρ S ho hT hS hB
        obtain ⟨hv10, hr10⟩ := (hT 10 94 rfl rfl : (Is (.bool false)) (f' 94) (ρ 10))
        obtain hS := hS.flat1 hr10
        exact .inl ⟨want_on (e := 94) rfl rfl rfl hv10, oload (vs := [.bool b2, .slice q m d]) aggZ hS 22 rfl rfl (ev rfl (ho 4 rfl)) rfl rfl rfl ⟨_, _, rfl, isI, New.same _⟩⟩
      refine stepsCons rfl ?_ ?_
      · intro Q f' w' ρ S ho hT hS hB
        obtain ⟨hv10, hr10⟩ := (hT 10 94 rfl rfl : (Is (.bool false)) (f' 94) (ρ 10))
        obtain ⟨hv15, hr15⟩ := (hT 15 99 rfl rfl : (Is (.agg #[.bool b, .slice p n c])) (f' 99) (ρ 15))
        obtain ⟨hv16, hr16⟩ := (hT 16 100 rfl rfl : (Is (.agg #[.bool b2, .slice q m d])) (f' 100) (ρ 16))
        obtain hS := hS.flat3 hr10 hr15 hr16
        exact .inl ⟨want_on (e := 94) rfl rfl rfl hv10, obsliceN (ps := #[(0, .agg #[.bool b, .slice p n c]), (1, .agg #[.bool b2, .slice q m d])]) (z := .agg #[.bool false, .slice none 0 0]) [.bool b, .slice p n c, .bool b2, .slice q m d] rfl rfl Try.runUnderlying52 Try.sizeOf25 Try.zeroValue25 (parts2 (ev (v := .agg #[.bool b, .slice p n c]) rfl hv15) (ev (v := .agg #[.bool b2, .slice q m d]) rfl hv16)) rfl (by decide) fill2 ⟨_, _, rfl, ⟨_, rfl, rfl⟩, New.blk _ _ _⟩⟩
      refine stepsCons rfl ?_ ?_
      · intro Q f' w' ρ S ho hT hS hB
        obtain ⟨hv10, hr10⟩ := (hT 10 94 rfl rfl : (Is (.bool false)) (f' 94) (ρ 10))
        obtain ⟨g19, hv17, hr17⟩ := (hT 17 101 rfl rfl : (Slb [.bool b, .slice p n c, .bool b2, .slice q m d] 25 2) (f' 101) (ρ 17))
        obtain hS := hS.flat2 hr10 hr17
        refine .inl ⟨want_on (e := 94) rfl rfl rfl hv10, ocall rfl rfl Try.call47 rfl ((wzLcm_two (hS.blkAt 24 rfl) (hzx.at hS) (hzy.at hS) hzx.wd hzy.wd hz23)) (args1 (ev rfl hv17)) ?_⟩
        rintro _ w9 ⟨_, _, rfl, hTT, hN⟩
        exact ⟨_, rfl, _, _, rfl, hTT, hN⟩
      refine stepsCons rfl ?_ ?_
      · intro Q f' w' ρ S ho hT hS hB
        obtain ⟨hv10, hr10⟩ := (hT 10 94 rfl rfl : (Is (.bool false)) (f' 94) (ρ 10))
        obtain ⟨p22, n22, c22, hv14, hr14⟩ := (hT 14 98 rfl rfl : (Zt z22) (f' 98) (ρ 14))
        obtain ⟨p23, n23, c23, hv18, hr18⟩ := (hT 18 102 rfl rfl : (Zt z23) (f' 102) (ρ 18))
        obtain hS := hS.flat3 hr10 hr14 hr18
        refine .inl ⟨want_on (e := 94) rfl rfl rfl hv10, ocall rfl rfl Try.call16 rfl (wzmul (((hS.sl 24 rfl).zr hk22).mono (by omega)) (((hS.sl 25 rfl).zr hk23).mono (by omega)) hz24) (args2 (ev rfl hv14) (ev rfl hv18)) ?_⟩
        rintro _ w9 ⟨_, _, rfl, hTT, hN⟩
        exact ⟨_, rfl, _, _, rfl, hTT, hN⟩
      refine stepsCons rfl ?_ ?_
      · intro Q f' w' ρ S ho hT hS hB
        obtain ⟨hv10, hr10⟩ := (hT 10 94 rfl rfl : (Is (.bool false)) (f' 94) (ρ 10))
        obtain hS := hS.flat1 hr10
        exact .inl ⟨want_on (e := 94) rfl rfl rfl hv10, oload (vs := [.bool b, .slice p n c]) aggZ hS 23 rfl rfl (ev rfl (ho 3 rfl)) rfl rfl rfl ⟨_, _, rfl, isI, New.same _⟩⟩
      refine stepsCons rfl ?_ ?_
      · intro Q f' w' ρ S ho hT hS hB
        obtain ⟨hv10, hr10⟩ := (hT 10 94 rfl rfl : (Is (.bool false)) (f' 94) (ρ 10))
        obtain hS := hS.flat1 hr10
        exact .inl ⟨want_on (e := 94) rfl rfl rfl hv10, oload (vs := [.bool b2, .slice q m d]) aggZ hS 22 rfl rfl (ev rfl (ho 4 rfl)) rfl rfl rfl ⟨_, _, rfl, isI, New.same _⟩⟩
      refine stepsCons rfl ?_ ?_
      · intro Q f' w' ρ S ho hT hS hB
        obtain ⟨hv10, hr10⟩ := (hT 10 94 rfl rfl : (Is (.bool false)) (f' 94) (ρ 10))
        obtain ⟨hv20, hr20⟩ := (hT 20 104 rfl rfl : (Is (.agg #[.bool b, .slice p n c])) (f' 104) (ρ 20))
        obtain ⟨hv21, hr21⟩ := (hT 21 105 rfl rfl : (Is (.agg #[.bool b2, .slice q m d])) (f' 105) (ρ 21))
        obtain hS := hS.flat3 hr10 hr20 hr21
        refine .inl ⟨want_on (e := 94) rfl rfl rfl hv10, ocall rfl rfl Try.call16 rfl (wzmul ((hzx.at hS).mono (by omega)) ((hzy.at hS).mono (by omega)) hz25) (args2 (ev rfl hv20) (ev rfl hv21)) ?_⟩
        rintro _ w9 ⟨_, _, rfl, hTT, hN⟩
        exact ⟨_, rfl, _, _, rfl, hTT, hN⟩
      refine stepsCons rfl ?_ ?_
      · intro Q f' w' ρ S ho hT hS hB
        obtain ⟨hv10, hr10⟩ := (hT 10 94 rfl rfl : (Is (.bool false)) (f' 94) (ρ 10))
        obtain ⟨p25, n25, c25, hv22, hr22⟩ := (hT 22 106 rfl rfl : (Zt z25) (f' 106) (ρ 22))
        obtain hS := hS.flat2 hr10 hr22
        refine .inl ⟨want_on (e := 94) rfl rfl rfl hv10, ocall rfl rfl Try.call30 rfl (wzabs (((hS.sl 24 rfl).zr hk25).mono (by omega)) hz26) (args1 (ev rfl hv22)) ?_⟩
        rintro _ w9 ⟨_, _, rfl, hTT, hN⟩
        exact ⟨_, rfl, _, _, rfl, hTT, hN⟩
      refine stepsCons rfl ?_ ?_
      · intro Q f' w' ρ S ho hT hS hB
        obtain ⟨hv10, hr10⟩ := (hT 10 94 rfl rfl : (Is (.bool false)) (f' 94) (ρ 10))
        obtain ⟨p24, n24, c24, hv19, hr19⟩ := (hT 19 103 rfl rfl : (Zt z24) (f' 103) (ρ 19))
        obtain ⟨p26, n26, c26, hv23, hr23⟩ := (hT 23 107 rfl rfl : (Zt z26) (f' 107) (ρ 23))
        obtain hS := hS.flat3 hr10 hr19 hr23
        refine .inl ⟨want_on (e := 94) rfl rfl rfl hv10, ocall rfl rfl Try.call57 rfl (wleq (((hS.sl 24 rfl).zr hk24).mono (by omega)) (((hS.sl 25 rfl).zr hk26).mono (by omega)) (by rw [← hz24.out, ← hz22.out, ← hz23.out, ← hz26.out, ← hz25.out]; exact gcd_lcm x y)) (args2 (ev rfl hv19) (ev rfl hv23)) ?_⟩
        rintro _ w9 ⟨_, _, rfl, hTT, hN⟩
        exact ⟨_, rfl, _, _, rfl, hTT, hN⟩
      refine stepsCons rfl ?_ ?_
      · intro Q f' w' ρ S ho hT hS hB
        obtain ⟨hv10, hr10⟩ := (hT 10 94 rfl rfl : (Is (.bool false)) (f' 94) (ρ 10))
        obtain ⟨hv24, hr24⟩ := (hT 24 108 rfl rfl : (Is (.bool true)) (f' 108) (ρ 24))
        obtain hS := hS.flat2 hr10 hr24
        exact .inl ⟨want_on (e := 94) rfl rfl rfl hv10, onot (b := true) rfl rfl (ev (v := .bool true) rfl hv24) ⟨_, _, rfl, isI, New.same _⟩⟩
      refine stepsCons rfl ?_ ?_
      · intro Q f' w' ρ S ho hT hS hB
        obtain ⟨hv10, hr10⟩ := (hT 10 94 rfl rfl : (Is (.bool false)) (f' 94) (ρ 10))
        obtain ⟨hv25, hr25⟩ := (hT 25 109 rfl rfl : (Is (.bool false)) (f' 109) (ρ 25))
        obtain hS := hS.flat2 hr10 hr25
        exact .inl ⟨want_none rfl, opick (b := false) (v := .bool false) rfl rfl (ev (v := .bool false) rfl hv10) (ev (v := .bool false) rfl hv25) ⟨_, _, rfl, isI, New.same _⟩⟩
      exact stepsNil
    ·
      intro vs ρ w20 f' hf hT hS
      obtain ⟨hv0, hr0⟩ := (hT 0 (by decide) : (Is (.agg #[.bool b, .slice p n c])) (vs 0) (ρ 0))
      obtain ⟨hv1, hr1⟩ := (hT 1 (by decide) : (Is (.agg #[.bool (ng u1), .slice p17 n17 c17])) (vs 1) (ρ 1))
      obtain ⟨p19, n19, c19, hv2, hr2⟩ := (hT 2 (by decide) : (Zt z19) (vs 2) (ρ 2))
      obtain ⟨hv3, hr3⟩ := (hT 3 (by decide) : (Is (.agg #[.bool b2, .slice q m d])) (vs 3) (ρ 3))
      obtain ⟨hv4, hr4⟩ := (hT 4 (by decide) : (Is (.agg #[.bool (ng v1), .slice p18 n18 c18])) (vs 4) (ρ 4))
      obtain ⟨p20, n20, c20, hv5, hr5⟩ := (hT 5 (by decide) : (Zt z20) (vs 5) (ρ 5))
      obtain ⟨p21, n21, c21, hv6, hr6⟩ := (hT 6 (by decide) : (Zt z21) (vs 6) (ρ 6))
      obtain ⟨hv7, hr7⟩ := (hT 7 (by decide) : (Is (.agg #[.bool (ng (Int.gcd x y : Int)), .slice p16 n16 c16])) (vs 7) (ρ 7))
      obtain ⟨hv8, hr8⟩ := (hT 8 (by decide) : (Is (.bool true)) (vs 8) (ρ 8))
      obtain ⟨hv9, hr9⟩ := (hT 9 (by decide) : (Is (.bool false)) (vs 9) (ρ 9))
      obtain ⟨hv10, hr10⟩ := (hT 10 (by decide) : (Is (.bool false)) (vs 10) (ρ 10))
      obtain ⟨hv11, hr11⟩ := (hT 11 (by decide) : (Is (.agg #[.bool b, .slice p n c])) (vs 11) (ρ 11))
      obtain ⟨hv12, hr12⟩ := (hT 12 (by decide) : (Is (.agg #[.bool b2, .slice q m d])) (vs 12) (ρ 12))
      obtain ⟨g18, hv13, hr13⟩ := (hT 13 (by decide) : (Slb [.bool b, .slice p n c, .bool b2, .slice q m d] 25 2) (vs 13) (ρ 13))
      obtain ⟨p22, n22, c22, hv14, hr14⟩ := (hT 14 (by decide) : (Zt z22) (vs 14) (ρ 14))
      obtain ⟨hv15, hr15⟩ := (hT 15 (by decide) : (Is (.agg #[.bool b, .slice p n c])) (vs 15) (ρ 15))
      obtain ⟨hv16, hr16⟩ := (hT 16 (by decide) : (Is (.agg #[.bool b2, .slice q m d])) (vs 16) (ρ 16))
      obtain ⟨g19, hv17, hr17⟩ := (hT 17 (by decide) : (Slb [.bool b, .slice p n c, .bool b2, .slice q m d] 25 2) (vs 17) (ρ 17))
      obtain ⟨p23, n23, c23, hv18, hr18⟩ := (hT 18 (by decide) : (Zt z23) (vs 18) (ρ 18))
      obtain ⟨p24, n24, c24, hv19, hr19⟩ := (hT 19 (by decide) : (Zt z24) (vs 19) (ρ 19))
      obtain ⟨hv20, hr20⟩ := (hT 20 (by decide) : (Is (.agg #[.bool b, .slice p n c])) (vs 20) (ρ 20))
      obtain ⟨hv21, hr21⟩ := (hT 21 (by decide) : (Is (.agg #[.bool b2, .slice q m d])) (vs 21) (ρ 21))
      obtain ⟨p25, n25, c25, hv22, hr22⟩ := (hT 22 (by decide) : (Zt z25) (vs 22) (ρ 22))
      obtain ⟨p26, n26, c26, hv23, hr23⟩ := (hT 23 (by decide) : (Zt z26) (vs 23) (ρ 23))
      obtain ⟨hv24, hr24⟩ := (hT 24 (by decide) : (Is (.bool true)) (vs 24) (ρ 24))
      obtain ⟨hv25, hr25⟩ := (hT 25 (by decide) : (Is (.bool false)) (vs 25) (ρ 25))
      obtain ⟨hv26, hr26⟩ := (hT 26 (by decide) : (Is (.bool false)) (vs 26) (ρ 26))
      simp only [pool, if_true, hr0, hr1, hr2, hr3, hr4, hr5, hr6, hr7, hr8, hr9, hr10, hr11, hr12, hr13, hr14, hr15, hr16, hr17, hr18, hr19, hr20, hr21, hr22, hr23, hr24, hr25, hr26, List.nil_append, List.cons_append, List.append_nil] at hS
      simp only [layf, hv0, hv1, hv2, hv3, hv4, hv5, hv6, hv7, hv8, hv9, hv10, hv11, hv12, hv13, hv14, hv15, hv16, hv17, hv18, hv19, hv20, hv21, hv22, hv23, hv24, hv25, hv26] at hf
      subst hf; clear hT hv0 hv1 hv2 hv3 hv4 hv5 hv6 hv7 hv8 hv9 hv10 hv11 hv12 hv13 hv14 hv15 hv16 hv17 hv18 hv19 hv20 hv21 hv22 hv23 hv24 hv25 hv26 hr0 hr1 hr2 hr3 hr4 hr5 hr6 hr7 hr8 hr9 hr10 hr11 hr12 hr13 hr14 hr15 hr16 hr17 hr18 hr19 hr20 hr21 hr22 hr23 hr24 hr25 hr26
      refine wdone rfl ?_
      refine thenN ?_
      refine wF (ev (v := .bool false) rfl rfl) ?_
      refine wskip ?_
      refine thenN ?_
      refine wseq ?_
      refine wseq ?_
      refine wreg ?_
      refine wl rfl (oload (vs := [.bool b2, .slice q m d]) aggZ hS 32 rfl rfl (ev rfl rfl) rfl rfl rfl ?_)
      obtain ⟨s27, hs27⟩ : ∃ z : Int, Hid ((y : Int).sign = z) := ⟨_, rfl⟩
      refine wl rfl (ocall rfl rfl Try.call25 rfl (wzsign ((hzy.at hS).mono (by omega)) hs27) (args1 (ev rfl rfl)) ?_)
      rintro _ w21 ⟨_, _, rfl, ⟨rfl, rfl⟩, hN⟩
      refine ⟨_, rfl, ?_⟩
      replace hS := hS.news hN; clear hN
      refine wl rfl (obin (u := .int .i64 s27) (v := .int .i64 0) (z := .bool false) rfl rfl (ev (v := .int .i64 s27) rfl rfl) (evc (v := .int .i64 0)) (bin_eql (sign_ne hs27 h0)) ?_)
      refine wnil ?_
      refine thenN ?_
      refine wF (ev (v := .bool false) rfl rfl) ?_
      refine wskip ?_
      refine thenN ?_
      refine wseq ?_
      refine wreg ?_
      refine wl rfl (oload (vs := [.bool b, .slice p n c]) aggZ hS 33 rfl rfl (ev rfl rfl) rfl rfl rfl ?_)
      refine wl rfl (oload (vs := [.bool b2, .slice q m d]) aggZ hS 32 rfl rfl (ev rfl rfl) rfl rfl rfl ?_)
      obtain ⟨z28, hz28⟩ : ∃ z : Int, Hid (x / y = z) := ⟨_, rfl⟩
      have hk28 : Wd z28 1048576 := Wd.ediv hzx.wd hz28
      obtain ⟨z29, hz29⟩ : ∃ z : Int, Hid (x % y = z) := ⟨_, rfl⟩
      have hk29 : Wd z29 1048576 := Wd.emod hzy.wd (h0) hz29
      refine wl rfl (ocall rfl rfl Try.call32 rfl (wzeuclid ((hzx.at hS).mono (by omega)) ((hzy.at hS).mono (by omega)) (h0) hz28 hz29) (args2 (ev rfl rfl) (ev rfl rfl)) ?_)
      rintro _ w22 ⟨_, _, rfl, ⟨p28, n28, c28, p29, n29, c29, rfl, rfl⟩, hN⟩
      refine ⟨_, rfl, ?_⟩
      replace hS := hS.news hN; clear hN
      refine wl rfl (omove (v := .tuple #[.agg #[.bool (ng z28), .slice p28 n28 c28], .agg #[.bool (ng z29), .slice p29 n29 c29], .int .i64 0]) rfl rfl (ev (v := .tuple #[.agg #[.bool (ng z28), .slice p28 n28 c28], .agg #[.bool (ng z29), .slice p29 n29 c29], .int .i64 0]) rfl rfl) ?_)
      refine wl rfl (oextract (vs := [.agg #[.bool (ng z28), .slice p28 n28 c28], .agg #[.bool (ng z29), .slice p29 n29 c29], .int .i64 0]) (v := .agg #[.bool (ng z28), .slice p28 n28 c28]) rfl rfl (ev (v := .tuple #[.agg #[.bool (ng z28), .slice p28 n28 c28], .agg #[.bool (ng z29), .slice p29 n29 c29], .int .i64 0]) rfl rfl) rfl ?_)
      refine wl rfl (oextract (vs := [.agg #[.bool (ng z28), .slice p28 n28 c28], .agg #[.bool (ng z29), .slice p29 n29 c29], .int .i64 0]) (v := .agg #[.bool (ng z29), .slice p29 n29 c29]) rfl rfl (ev (v := .tuple #[.agg #[.bool (ng z28), .slice p28 n28 c28], .agg #[.bool (ng z29), .slice p29 n29 c29], .int .i64 0]) rfl rfl) rfl ?_)
      refine wl rfl (oextract (vs := [.agg #[.bool (ng z28), .slice p28 n28 c28], .agg #[.bool (ng z29), .slice p29 n29 c29], .int .i64 0]) (v := .int .i64 0) rfl rfl (ev (v := .tuple #[.agg #[.bool (ng z28), .slice p28 n28 c28], .agg #[.bool (ng z29), .slice p29 n29 c29], .int .i64 0]) rfl rfl) rfl ?_)
      refine wl rfl (oalloc [.bool false, .slice none 0 0] hS rfl rfl Try.zeroValue25 rfl ?_)
      clear hS; intro g23 w24 hS
      refine wl rfl (oalloc [.bool false, .slice none 0 0] hS rfl rfl Try.zeroValue25 rfl ?_)
      clear hS; intro g25 w26 hS
      refine wl rfl (ostore [.bool (ng z28), .slice p28 n28 c28] [.bool (ng z28), .slice p28 n28 c28] Try.sizeOf25 hS 1 rfl rfl (ev rfl rfl) (ev (v := .agg #[.bool (ng z28), .slice p28 n28 c28]) rfl rfl) rfl rfl rfl rfl rfl rfl ?_)
      clear hS; intro w27 hS
      refine wl rfl (ostore [.bool (ng z29), .slice p29 n29 c29] [.bool (ng z29), .slice p29 n29 c29] Try.sizeOf25 hS 0 rfl rfl (ev rfl rfl) (ev (v := .agg #[.bool (ng z29), .slice p29 n29 c29]) rfl rfl) rfl rfl rfl rfl rfl rfl ?_)
      clear hS; intro w28 hS
      refine wl rfl (oassign (v := .int .i64 0) rfl rfl (ev (v := .int .i64 0) rfl rfl) ?_)
      refine wnil ?_
      refine thenN ?_
      refine wseq ?_
      refine wreg ?_
      refine wl rfl (oload (vs := [.bool b, .slice p n c]) aggZ hS 37 rfl rfl (ev rfl rfl) rfl rfl rfl ?_)
      refine wl rfl (oload (vs := [.bool b2, .slice q m d]) aggZ hS 36 rfl rfl (ev rfl rfl) rfl rfl rfl ?_)
      obtain ⟨z30, hz30⟩ : ∃ z : Int, Hid (Int.tdiv x y = z) := ⟨_, rfl⟩
      have hk30 : Wd z30 1048576 := Wd.tdiv hzx.wd hz30
      obtain ⟨z31, hz31⟩ : ∃ z : Int, Hid (Int.tmod x y = z) := ⟨_, rfl⟩
      have hk31 : Wd z31 1048576 := Wd.tmod hzx.wd hz31
      refine wl rfl (ocall rfl rfl Try.call33 rfl (wztrunc ((hzx.at hS).mono (by omega)) ((hzy.at hS).mono (by omega)) (h0) hz30 hz31) (args2 (ev rfl rfl) (ev rfl rfl)) ?_)
      rintro _ w29 ⟨_, _, rfl, ⟨p30, n30, c30, p31, n31, c31, rfl, rfl⟩, hN⟩
      refine ⟨_, rfl, ?_⟩
      replace hS := hS.news hN; clear hN
      refine wl rfl (omove (v := .tuple #[.agg #[.bool (ng z30), .slice p30 n30 c30], .agg #[.bool (ng z31), .slice p31 n31 c31], .int .i64 0]) rfl rfl (ev (v := .tuple #[.agg #[.bool (ng z30), .slice p30 n30 c30], .agg #[.bool (ng z31), .slice p31 n31 c31], .int .i64 0]) rfl rfl) ?_)
      refine wl rfl (oextract (vs := [.agg #[.bool (ng z30), .slice p30 n30 c30], .agg #[.bool (ng z31), .slice p31 n31 c31], .int .i64 0]) (v := .agg #[.bool (ng z30), .slice p30 n30 c30]) rfl rfl (ev (v := .tuple #[.agg #[.bool (ng z30), .slice p30 n30 c30], .agg #[.bool (ng z31), .slice p31 n31 c31], .int .i64 0]) rfl rfl) rfl ?_)
      refine wl rfl (oextract (vs := [.agg #[.bool (ng z30), .slice p30 n30 c30], .agg #[.bool (ng z31), .slice p31 n31 c31], .int .i64 0]) (v := .agg #[.bool (ng z31), .slice p31 n31 c31]) rfl rfl (ev (v := .tuple #[.agg #[.bool (ng z30), .slice p30 n30 c30], .agg #[.bool (ng z31), .slice p31 n31 c31], .int .i64 0]) rfl rfl) rfl ?_)
      refine wl rfl (oextract (vs := [.agg #[.bool (ng z30), .slice p30 n30 c30], .agg #[.bool (ng z31), .slice p31 n31 c31], .int .i64 0]) (v := .int .i64 0) rfl rfl (ev (v := .tuple #[.agg #[.bool (ng z30), .slice p30 n30 c30], .agg #[.bool (ng z31), .slice p31 n31 c31], .int .i64 0]) rfl rfl) rfl ?_)
      refine wl rfl (oalloc [.bool false, .slice none 0 0] hS rfl rfl Try.zeroValue25 rfl ?_)
      clear hS; intro g30 w31 hS
      refine wl rfl (oalloc [.bool false, .slice none 0 0] hS rfl rfl Try.zeroValue25 rfl ?_)
      clear hS; intro g32 w33 hS
      refine wl rfl (ostore [.bool (ng z30), .slice p30 n30 c30] [.bool (ng z30), .slice p30 n30 c30] Try.sizeOf25 hS 1 rfl rfl (ev rfl rfl) (ev (v := .agg #[.bool (ng z30), .slice p30 n30 c30]) rfl rfl) rfl rfl rfl rfl rfl rfl ?_)
      clear hS; intro w34 hS
      refine wl rfl (ostore [.bool (ng z31), .slice p31 n31 c31] [.bool (ng z31), .slice p31 n31 c31] Try.sizeOf25 hS 0 rfl rfl (ev rfl rfl) (ev (v := .agg #[.bool (ng z31), .slice p31 n31 c31]) rfl rfl) rfl rfl rfl rfl rfl rfl ?_)
      clear hS; intro w35 hS
      refine wl rfl (oassign (v := .int .i64 0) rfl rfl (ev (v := .int .i64 0) rfl rfl) ?_)
      refine wnil ?_
      refine thenN ?_
      refine wseq ?_
      refine wreg ?_
      refine wl rfl (oload (vs := [.bool b, .slice p n c]) aggZ hS 41 rfl rfl (ev rfl rfl) rfl rfl rfl ?_)
      refine wl rfl (oload (vs := [.bool b2, .slice q m d]) aggZ hS 40 rfl rfl (ev rfl rfl) rfl rfl rfl ?_)
      obtain ⟨z32, hz32⟩ : ∃ z : Int, Hid (nearZ x y = z) := ⟨_, rfl⟩
      have hk32 : Wd z32 1048577 := Wd.near hzx.wd hz32
      refine wl rfl (ocall rfl rfl Try.call35 rfl (wznear ((hzx.at hS).mono (by omega)) ((hzy.at hS).mono (by omega)) (h0) hz32) (args2 (ev rfl rfl) (ev rfl rfl)) ?_)
      rintro _ w36 ⟨_, _, rfl, ⟨p32, n32, c32, rfl, rfl⟩, hN⟩
      refine ⟨_, rfl, ?_⟩
      replace hS := hS.news hN; clear hN
      refine wl rfl (omove (v := .tuple #[.agg #[.bool (ng z32), .slice p32 n32 c32], .int .i64 0]) rfl rfl (ev (v := .tuple #[.agg #[.bool (ng z32), .slice p32 n32 c32], .int .i64 0]) rfl rfl) ?_)
      refine wl rfl (oextract (vs := [.agg #[.bool (ng z32), .slice p32 n32 c32], .int .i64 0]) (v := .agg #[.bool (ng z32), .slice p32 n32 c32]) rfl rfl (ev (v := .tuple #[.agg #[.bool (ng z32), .slice p32 n32 c32], .int .i64 0]) rfl rfl) rfl ?_)
      refine wl rfl (oextract (vs := [.agg #[.bool (ng z32), .slice p32 n32 c32], .int .i64 0]) (v := .int .i64 0) rfl rfl (ev (v := .tuple #[.agg #[.bool (ng z32), .slice p32 n32 c32], .int .i64 0]) rfl rfl) rfl ?_)
      refine wl rfl (oalloc [.bool false, .slice none 0 0] hS rfl rfl Try.zeroValue25 rfl ?_)
      clear hS; intro g37 w38 hS
      refine wl rfl (ostore [.bool (ng z32), .slice p32 n32 c32] [.bool (ng z32), .slice p32 n32 c32] Try.sizeOf25 hS 0 rfl rfl (ev rfl rfl) (ev (v := .agg #[.bool (ng z32), .slice p32 n32 c32]) rfl rfl) rfl rfl rfl rfl rfl rfl ?_)
      clear hS; intro w39 hS
      refine wl rfl (oassign (v := .int .i64 0) rfl rfl (ev (v := .int .i64 0) rfl rfl) ?_)
      refine wnil ?_
      refine thenN ?_
      refine wseq ?_
      obtain ⟨z33, hz33⟩ : ∃ z : Int, Hid (x * y = z) := ⟨_, rfl⟩
      have hk33 : Wd z33 2097152 := Wd.mul hzx.wd hzy.wd hz33 (by omega)
      obtain ⟨z34, hz34⟩ : ∃ z : Int, Hid (Int.tdiv z33 y = z) := ⟨_, rfl⟩
      have hk34 : Wd z34 2097152 := Wd.tdiv hk33 hz34
      refine wstage 9 [136, 137, 138, 139, 140, 135, 141, 142, 18] [[], [], [0, 1], [], [2, 3, 0, 1], [4, 0, 1, 2, 3], [4, 5, 0, 1, 2, 3], [4, 5, 0, 1, 2, 3], []] [[], [], [], [], [], [4], [4], [], []] [7] [] (fun i => ([fun _ => Is (.agg #[.bool b, .slice p n c]), fun _ => Is (.agg #[.bool b2, .slice q m d]), fun _ => Zt z33, fun _ => Is (.agg #[.bool b2, .slice q m d]), fun _ => ZEt z34 0, fun us => Is (.tuple #[.agg #[.bool (ng z34), (vat (us.getD 0 undef) [0, 1])], .int .i64 0]), fun us => Is (.agg #[.bool (ng z34), (vat (us.getD 0 undef) [0, 1])]), fun _ => Is (.int .i64 0), fun _ => Ptr [.bool false, .slice none 0 0] 25] : List (List Value → Tell)).getD i (fun _ _ _ => False)) (heldNil) (fun d _ _ _ _ h => (by cases d <;> exact h)) (by kernel_rfl) (by kernel_rfl) (by kernel_rfl) hS ?_ ?_
      ·
        refine stepsCons rfl ?_ ?_
        · intro Q f' w' ρ S ho hT hS hB
          exact .inl ⟨want_none rfl, oload (vs := [.bool b, .slice p n c]) aggZ hS 43 rfl rfl (ev rfl (ho 3 rfl)) rfl rfl rfl ⟨_, _, rfl, isI, New.same _⟩⟩
        refine stepsCons rfl ?_ ?_
        · intro Q f' w' ρ S ho hT hS hB
          exact .inl ⟨want_none rfl, oload (vs := [.bool b2, .slice q m d]) aggZ hS 42 rfl rfl (ev rfl (ho 4 rfl)) rfl rfl rfl ⟨_, _, rfl, isI, New.same _⟩⟩
        refine stepsCons rfl ?_ ?_
        · intro Q f' w' ρ S ho hT hS hB
          obtain ⟨hv0, hr0⟩ := (hT 0 136 rfl rfl : (Is (.agg #[.bool b, .slice p n c])) (f' 136) (ρ 0))
          obtain ⟨hv1, hr1⟩ := (hT 1 137 rfl rfl : (Is (.agg #[.bool b2, .slice q m d])) (f' 137) (ρ 1))
          obtain hS := hS.flat2 hr0 hr1
          refine .inl ⟨want_none rfl, ocall rfl rfl Try.call16 rfl (wzmul ((hzx.at hS).mono (by omega)) ((hzy.at hS).mono (by omega)) hz33) (args2 (ev rfl hv0) (ev rfl hv1)) ?_⟩
          rintro _ w9 ⟨_, _, rfl, hTT, hN⟩
          exact ⟨_, rfl, _, _, rfl, hTT, hN⟩
        refine stepsCons rfl ?_ ?_
        · intro Q f' w' ρ S ho hT hS hB
          exact .inl ⟨want_none rfl, oload (vs := [.bool b2, .slice q m d]) aggZ hS 42 rfl rfl (ev rfl (ho 4 rfl)) rfl rfl rfl ⟨_, _, rfl, isI, New.same _⟩⟩
        refine stepsCons rfl ?_ ?_
        · intro Q f' w' ρ S ho hT hS hB
          obtain ⟨p33, n33, c33, hv2, hr2⟩ := (hT 2 138 rfl rfl : (Zt z33) (f' 138) (ρ 2))
          obtain ⟨hv3, hr3⟩ := (hT 3 139 rfl rfl : (Is (.agg #[.bool b2, .slice q m d])) (f' 139) (ρ 3))
          obtain hS := hS.flat2 hr2 hr3
          refine .inl ⟨want_none rfl, ocall rfl rfl Try.call34 rfl (wzexact (((hS.sl 44 rfl).zr hk33).mono (by omega)) ((hzy.at hS).mono (by omega)) (h0) (by rw [← hz33.out, Int.mul_tmod_left]) hz34) (args2 (ev rfl hv2) (ev rfl hv3)) ?_⟩
          rintro _ w9 ⟨_, _, rfl, hTT, hN⟩
          exact ⟨_, rfl, _, _, rfl, hTT, hN⟩
        refine stepsCons rfl ?_ ?_
        · intro Q f' w' ρ S ho hT hS hB
          obtain ⟨p34, n34, c34, hv4, hr4⟩ := (hT 4 140 rfl rfl : (ZEt z34 0) (f' 140) (ρ 4))
          obtain hS := hS.flat1 hr4
          have hQ : (.tuple #[.agg #[.bool (ng z34), .slice p34 n34 c34], .int .i64 0] : Value) = (fun (us : List Value) => (.tuple #[.agg #[.bool (ng z34), (vat (us.getD 0 undef) [0, 1])], .int .i64 0] : Value)) [f' 140] := by show _ = (.tuple #[.agg #[.bool (ng z34), (vat (f' 140) [0, 1])], .int .i64 0] : Value); rw [hv4]; rfl
          exact .inl ⟨want_none rfl, omove (v := .tuple #[.agg #[.bool (ng z34), .slice p34 n34 c34], .int .i64 0]) rfl rfl (ev (v := .tuple #[.agg #[.bool (ng z34), .slice p34 n34 c34], .int .i64 0]) rfl hv4) ⟨_, _, rfl, ⟨hQ, rfl⟩, New.same _⟩⟩
        refine stepsCons rfl ?_ ?_
        · intro Q f' w' ρ S ho hT hS hB
          obtain ⟨p34, n34, c34, hv4, hr4⟩ := (hT 4 140 rfl rfl : (ZEt z34 0) (f' 140) (ρ 4))
          obtain ⟨hv5, hr5⟩ := (hT 5 135 rfl rfl : (fun (us : List Value) => Is (.tuple #[.agg #[.bool (ng z34), (vat (us.getD 0 undef) [0, 1])], .int .i64 0])) [f' 140] (f' 135) (ρ 5))
          replace hv5 : f' 135 = .tuple #[.agg #[.bool (ng z34), .slice p34 n34 c34], .int .i64 0] := hv5.trans (by show (.tuple #[.agg #[.bool (ng z34), (vat (f' 140) [0, 1])], .int .i64 0] : Value) = _; rw [hv4]; rfl)
          obtain hS := hS.flat2 hr4 hr5
          have hQ : (.agg #[.bool (ng z34), .slice p34 n34 c34] : Value) = (fun (us : List Value) => (.agg #[.bool (ng z34), (vat (us.getD 0 undef) [0, 1])] : Value)) [f' 140] := by show _ = (.agg #[.bool (ng z34), (vat (f' 140) [0, 1])] : Value); rw [hv4]; rfl
          exact .inl ⟨want_none rfl, oextract (vs := [.agg #[.bool (ng z34), .slice p34 n34 c34], .int .i64 0]) (v := .agg #[.bool (ng z34), .slice p34 n34 c34]) rfl rfl (ev (v := .tuple #[.agg #[.bool (ng z34), .slice p34 n34 c34], .int .i64 0]) rfl hv5) rfl ⟨_, _, rfl, ⟨hQ, rfl⟩, New.same _⟩⟩
        refine stepsPure rfl ?_ ?_
        · intro f' ρ ho hT
          obtain ⟨p34, n34, c34, hv4, hr4⟩ := (hT 4 140 rfl rfl : (ZEt z34 0) (f' 140) (ρ 4))
          obtain ⟨hv5, hr5⟩ := (hT 5 135 rfl rfl : (fun (us : List Value) => Is (.tuple #[.agg #[.bool (ng z34), (vat (us.getD 0 undef) [0, 1])], .int .i64 0])) [f' 140] (f' 135) (ρ 5))
          replace hv5 : f' 135 = .tuple #[.agg #[.bool (ng z34), .slice p34 n34 c34], .int .i64 0] := hv5.trans (by show (.tuple #[.agg #[.bool (ng z34), (vat (f' 140) [0, 1])], .int .i64 0] : Value) = _; rw [hv4]; rfl)
          exact ⟨_, .inl ⟨want_none rfl, fun w hw => yextract (vs := [.agg #[.bool (ng z34), .slice p34 n34 c34], .int .i64 0]) (v := .int .i64 0) rfl (ev (v := .tuple #[.agg #[.bool (ng z34), .slice p34 n34 c34], .int .i64 0]) rfl hv5) rfl w⟩, isI⟩
        refine stepsCons rfl ?_ ?_
        · intro Q f' w' ρ S ho hT hS hB
          exact .inl ⟨want_none rfl, oallocN [.bool false, .slice none 0 0] rfl rfl Try.zeroValue25 rfl ⟨_, _, rfl, ptrI, New.blk _ _ _⟩⟩
        exact stepsNil
      ·
        intro vs ρ w41 f' hf hT hS
        obtain ⟨hv0, hr0⟩ := (hT 0 (by decide) : (Is (.agg #[.bool b, .slice p n c])) (vs 0) (ρ 0))
        obtain ⟨hv1, hr1⟩ := (hT 1 (by decide) : (Is (.agg #[.bool b2, .slice q m d])) (vs 1) (ρ 1))
        obtain ⟨p33, n33, c33, hv2, hr2⟩ := (hT 2 (by decide) : (Zt z33) (vs 2) (ρ 2))
        obtain ⟨hv3, hr3⟩ := (hT 3 (by decide) : (Is (.agg #[.bool b2, .slice q m d])) (vs 3) (ρ 3))
        obtain ⟨p34, n34, c34, hv4, hr4⟩ := (hT 4 (by decide) : (ZEt z34 0) (vs 4) (ρ 4))
        obtain ⟨hv5, hr5⟩ := (hT 5 (by decide) : (fun (us : List Value) => Is (.tuple #[.agg #[.bool (ng z34), (vat (us.getD 0 undef) [0, 1])], .int .i64 0])) [vs 4] (vs 5) (ρ 5))
        replace hv5 : vs 5 = .tuple #[.agg #[.bool (ng z34), .slice p34 n34 c34], .int .i64 0] := hv5.trans (by show (.tuple #[.agg #[.bool (ng z34), (vat (vs 4) [0, 1])], .int .i64 0] : Value) = _; rw [hv4]; rfl)
        obtain ⟨hv6, hr6⟩ := (hT 6 (by decide) : (fun (us : List Value) => Is (.agg #[.bool (ng z34), (vat (us.getD 0 undef) [0, 1])])) [vs 4] (vs 6) (ρ 6))
        replace hv6 : vs 6 = .agg #[.bool (ng z34), .slice p34 n34 c34] := hv6.trans (by show (.agg #[.bool (ng z34), (vat (vs 4) [0, 1])] : Value) = _; rw [hv4]; rfl)
        obtain ⟨hv7, hr7⟩ := (hT 7 (by decide) : (Is (.int .i64 0)) (vs 7) (ρ 7))
        obtain ⟨g40, hv8, hr8⟩ := (hT 8 (by decide) : (Ptr [.bool false, .slice none 0 0] 25) (vs 8) (ρ 8))
        simp only [pool, if_true, hr0, hr1, hr2, hr3, hr4, hr5, hr6, hr7, hr8, List.nil_append, List.cons_append, List.append_nil] at hS
        simp only [layf, hv0, hv1, hv2, hv3, hv4, hv5, hv6, hv7, hv8] at hf
        subst hf; clear hT hv0 hv1 hv2 hv3 hv4 hv5 hv6 hv7 hv8 hr0 hr1 hr2 hr3 hr4 hr5 hr6 hr7 hr8
        refine wlate 9 rfl (by kernel_rfl) (ostore [.bool (ng z34), .slice p34 n34 c34] [.bool (ng z34), .slice p34 n34 c34] Try.sizeOf25 hS 0 rfl rfl (ev rfl rfl) (ev (v := .agg #[.bool (ng z34), .slice p34 n34 c34]) rfl rfl) rfl rfl rfl rfl rfl rfl ?_)
        clear hS; intro w42 hS
        refine ⟨heldNil, ?_⟩
        refine wlate 10 rfl (by kernel_rfl) (oassign (v := .int .i64 0) rfl rfl (ev (v := .int .i64 0) rfl rfl) ?_)
        refine ⟨heldNil, ?_⟩
        refine wdone rfl ?_
        refine thenN ?_
        refine wseq ?_
        obtain ⟨z35, hz35⟩ : ∃ z : Int, Hid (z32 * y = z) := ⟨_, rfl⟩
        have hk35 : Wd z35 2097153 := Wd.mul hk32 hzy.wd hz35 (by omega)
        obtain ⟨z36, hz36⟩ : ∃ z : Int, Hid (x - z35 = z) := ⟨_, rfl⟩
        have hk36 : Wd z36 2097154 := Wd.sub hzx.wd hk35 hz36 (by omega)
        have hk37 : Wd 2 2 := Wd.i64 (by omega) (by omega)
        obtain ⟨z38, hz38⟩ : ∃ z : Int, Hid (z36 * 2 = z) := ⟨_, rfl⟩
        have hk38 : Wd z38 2097156 := Wd.mul hk36 hk37 hz38 (by omega)
        obtain ⟨z39, hz39⟩ : ∃ z : Int, Hid ((Int.natAbs z38 : Int) = z) := ⟨_, rfl⟩
        have hk39 : Wd z39 2097156 := Wd.nabs hk38 hz39
        refine wstage 9 [143, 144, 145, 146, 147, 148, 149, 150, 20] [[], [], [], [1, 2], [0, 3, 1, 2], [0, 1, 2, 3, 4], [4, 5, 0, 1, 2, 3], [6, 0, 1, 2, 3, 4, 5], []] [[], [], [], [], [], [], [], [], []] [] [] (fun i => ([fun _ => Is (.agg #[.bool b, .slice p n c]), fun _ => Is (.agg #[.bool (ng z32), .slice p32 n32 c32]), fun _ => Is (.agg #[.bool b2, .slice q m d]), fun _ => Zt z35, fun _ => Zt z36, fun _ => Zt 2, fun _ => Zt z38, fun _ => Zt z39, fun _ => Ptr [.bool false, .slice none 0 0] 25] : List (List Value → Tell)).getD i (fun _ _ _ => False)) (heldNil) (fun d _ _ _ _ h => (by cases d <;> exact h)) (by kernel_rfl) (by kernel_rfl) (by kernel_rfl) hS ?_ ?_
        ·
          refine stepsCons rfl ?_ ?_
          · intro Q f' w' ρ S ho hT hS hB
            exact .inl ⟨want_none rfl, oload (vs := [.bool b, .slice p n c]) aggZ hS 46 rfl rfl (ev rfl (ho 3 rfl)) rfl rfl rfl ⟨_, _, rfl, isI, New.same _⟩⟩
          refine stepsCons rfl ?_ ?_
          · intro Q f' w' ρ S ho hT hS hB
            exact .inl ⟨want_none rfl, oload (vs := [.bool (ng z32), .slice p32 n32 c32]) aggZ hS 3 rfl rfl (ev rfl (ho 16 rfl)) rfl rfl rfl ⟨_, _, rfl, isI, New.same _⟩⟩
          refine stepsCons rfl ?_ ?_
          · intro Q f' w' ρ S ho hT hS hB
            exact .inl ⟨want_none rfl, oload (vs := [.bool b2, .slice q m d]) aggZ hS 45 rfl rfl (ev rfl (ho 4 rfl)) rfl rfl rfl ⟨_, _, rfl, isI, New.same _⟩⟩
          refine stepsCons rfl ?_ ?_
          · intro Q f' w' ρ S ho hT hS hB
            obtain ⟨hv1, hr1⟩ := (hT 1 144 rfl rfl : (Is (.agg #[.bool (ng z32), .slice p32 n32 c32])) (f' 144) (ρ 1))
            obtain ⟨hv2, hr2⟩ := (hT 2 145 rfl rfl : (Is (.agg #[.bool b2, .slice q m d])) (f' 145) (ρ 2))
            obtain hS := hS.flat2 hr1 hr2
            refine .inl ⟨want_none rfl, ocall rfl rfl Try.call16 rfl (wzmul (((hS.sl 4 rfl).zr hk32).mono (by omega)) ((hzy.at hS).mono (by omega)) hz35) (args2 (ev rfl hv1) (ev rfl hv2)) ?_⟩
            rintro _ w9 ⟨_, _, rfl, hTT, hN⟩
            exact ⟨_, rfl, _, _, rfl, hTT, hN⟩
          refine stepsCons rfl ?_ ?_
          · intro Q f' w' ρ S ho hT hS hB
            obtain ⟨hv0, hr0⟩ := (hT 0 143 rfl rfl : (Is (.agg #[.bool b, .slice p n c])) (f' 143) (ρ 0))
            obtain ⟨p35, n35, c35, hv3, hr3⟩ := (hT 3 146 rfl rfl : (Zt z35) (f' 146) (ρ 3))
            obtain hS := hS.flat2 hr0 hr3
            refine .inl ⟨want_none rfl, ocall rfl rfl Try.call14 rfl (wzsub ((hzx.at hS).mono (by omega)) (((hS.sl 47 rfl).zr hk35).mono (by omega)) hz36) (args2 (ev rfl hv0) (ev rfl hv3)) ?_⟩
            rintro _ w9 ⟨_, _, rfl, hTT, hN⟩
            exact ⟨_, rfl, _, _, rfl, hTT, hN⟩
          refine stepsCons rfl ?_ ?_
          · intro Q f' w' ρ S ho hT hS hB
            refine .inl ⟨want_none rfl, ocall rfl rfl Try.call18 rfl (wlof (z := 2) (by omega) (by omega)) (args1 evc) ?_⟩
            rintro _ w9 ⟨_, _, rfl, hTT, hN⟩
            exact ⟨_, rfl, _, _, rfl, hTT, hN⟩
          refine stepsCons rfl ?_ ?_
          · intro Q f' w' ρ S ho hT hS hB
            obtain ⟨p36, n36, c36, hv4, hr4⟩ := (hT 4 147 rfl rfl : (Zt z36) (f' 147) (ρ 4))
            obtain ⟨p37, n37, c37, hv5, hr5⟩ := (hT 5 148 rfl rfl : (Zt 2) (f' 148) (ρ 5))
            obtain hS := hS.flat2 hr4 hr5
            refine .inl ⟨want_none rfl, ocall rfl rfl Try.call16 rfl (wzmul (((hS.sl 47 rfl).zr hk36).mono (by omega)) (((hS.sl 48 rfl).zr hk37).mono (by omega)) hz38) (args2 (ev rfl hv4) (ev rfl hv5)) ?_⟩
            rintro _ w9 ⟨_, _, rfl, hTT, hN⟩
            exact ⟨_, rfl, _, _, rfl, hTT, hN⟩
          refine stepsCons rfl ?_ ?_
          · intro Q f' w' ρ S ho hT hS hB
            obtain ⟨p38, n38, c38, hv6, hr6⟩ := (hT 6 149 rfl rfl : (Zt z38) (f' 149) (ρ 6))
            obtain hS := hS.flat1 hr6
            refine .inl ⟨want_none rfl, ocall rfl rfl Try.call30 rfl (wzabs (((hS.sl 47 rfl).zr hk38).mono (by omega)) hz39) (args1 (ev rfl hv6)) ?_⟩
            rintro _ w9 ⟨_, _, rfl, hTT, hN⟩
            exact ⟨_, rfl, _, _, rfl, hTT, hN⟩
          refine stepsCons rfl ?_ ?_
          · intro Q f' w' ρ S ho hT hS hB
            exact .inl ⟨want_none rfl, oallocN [.bool false, .slice none 0 0] rfl rfl Try.zeroValue25 rfl ⟨_, _, rfl, ptrI, New.blk _ _ _⟩⟩
          exact stepsNil
        ·
          intro vs ρ w44 f' hf hT hS
          obtain ⟨hv0, hr0⟩ := (hT 0 (by decide) : (Is (.agg #[.bool b, .slice p n c])) (vs 0) (ρ 0))
          obtain ⟨hv1, hr1⟩ := (hT 1 (by decide) : (Is (.agg #[.bool (ng z32), .slice p32 n32 c32])) (vs 1) (ρ 1))
          obtain ⟨hv2, hr2⟩ := (hT 2 (by decide) : (Is (.agg #[.bool b2, .slice q m d])) (vs 2) (ρ 2))
          obtain ⟨p35, n35, c35, hv3, hr3⟩ := (hT 3 (by decide) : (Zt z35) (vs 3) (ρ 3))
          obtain ⟨p36, n36, c36, hv4, hr4⟩ := (hT 4 (by decide) : (Zt z36) (vs 4) (ρ 4))
          obtain ⟨p37, n37, c37, hv5, hr5⟩ := (hT 5 (by decide) : (Zt 2) (vs 5) (ρ 5))
          obtain ⟨p38, n38, c38, hv6, hr6⟩ := (hT 6 (by decide) : (Zt z38) (vs 6) (ρ 6))
          obtain ⟨p39, n39, c39, hv7, hr7⟩ := (hT 7 (by decide) : (Zt z39) (vs 7) (ρ 7))
          obtain ⟨g43, hv8, hr8⟩ := (hT 8 (by decide) : (Ptr [.bool false, .slice none 0 0] 25) (vs 8) (ρ 8))
          simp only [pool, if_true, hr0, hr1, hr2, hr3, hr4, hr5, hr6, hr7, hr8, List.nil_append, List.cons_append, List.append_nil] at hS
          simp only [layf, hv0, hv1, hv2, hv3, hv4, hv5, hv6, hv7, hv8] at hf
          subst hf; clear hT hv0 hv1 hv2 hv3 hv4 hv5 hv6 hv7 hv8 hr0 hr1 hr2 hr3 hr4 hr5 hr6 hr7 hr8
          refine wlate 9 rfl (by kernel_rfl) (ostore [.bool (ng z39), .slice p39 n39 c39] [.bool (ng z39), .slice p39 n39 c39] Try.sizeOf25 hS 0 rfl rfl (ev rfl rfl) (ev (v := .agg #[.bool (ng z39), .slice p39 n39 c39]) rfl rfl) rfl rfl rfl rfl rfl rfl ?_)
          clear hS; intro w45 hS
          refine ⟨heldNil, ?_⟩
          refine wdone rfl ?_
          refine thenN ?_
          refine wseq ?_
          obtain ⟨z40, hz40⟩ : ∃ z : Int, Hid (z28 * y = z) := ⟨_, rfl⟩
          have hk40 : Wd z40 2097152 := Wd.mul hk28 hzy.wd hz40 (by omega)
          obtain ⟨z41, hz41⟩ : ∃ z : Int, Hid (z40 + z29 = z) := ⟨_, rfl⟩
          have hk41 : Wd z41 2097153 := Wd.add hk40 hk29 hz41 (by omega)
          obtain ⟨s42, hs42⟩ : ∃ z : Int, Hid ((z29 : Int).sign = z) := ⟨_, rfl⟩
          obtain ⟨z43, hz43⟩ : ∃ z : Int, Hid ((Int.natAbs y : Int) = z) := ⟨_, rfl⟩
          have hk43 : Wd z43 1048576 := Wd.nabs hzy.wd hz43
          obtain ⟨s44, hs44⟩ : ∃ z : Int, Hid (cmpZ z29 z43 = z) := ⟨_, rfl⟩
          obtain ⟨z45, hz45⟩ : ∃ z : Int, Hid (z30 * y = z) := ⟨_, rfl⟩
          have hk45 : Wd z45 2097152 := Wd.mul hk30 hzy.wd hz45 (by omega)
          obtain ⟨z46, hz46⟩ : ∃ z : Int, Hid (z45 + z31 = z) := ⟨_, rfl⟩
          have hk46 : Wd z46 2097153 := Wd.add hk45 hk31 hz46 (by omega)
          obtain ⟨z47, hz47⟩ : ∃ z : Int, Hid ((Int.natAbs y : Int) = z) := ⟨_, rfl⟩
          have hk47 : Wd z47 1048576 := Wd.nabs hzy.wd hz47
          obtain ⟨s48, hs48⟩ : ∃ z : Int, Hid (cmpZ z39 z47 = z) := ⟨_, rfl⟩
          refine wstage 48 [151, 152, 153, 154, 155, 156, 157, 158, 159, 160, 161, 162, 163, 164, 165, 166, 167, 168, 169, 170, 171, 172, 173, 174, 175, 176, 177, 178, 179, 180, 181, 182, 183, 184, 185, 186, 187, 188, 189, 190, 191, 192, 193, 194, 195, 196, 197, 6] [[], [], [0, 1], [], [2, 3, 0, 1], [], [4, 5, 0, 1, 2, 3], [6, 0, 1, 2, 3, 4, 5], [7, 0, 1, 2, 3, 4, 5, 6], [7, 8, 0, 1, 2, 3, 4, 5, 6], [7, 9, 0, 1, 2, 3, 4, 5, 6, 8], [7, 10, 0, 1, 2, 3, 4, 5, 6, 8, 9], [11, 0, 1, 2, 3, 4, 5, 6, 7, 8, 9, 10], [12, 0, 1, 2, 3, 4, 5, 6, 7, 8, 9, 10, 11], [12, 0, 1, 2, 3, 4, 5, 6, 7, 8, 9, 10, 11], [12, 14, 0, 1, 2, 3, 4, 5, 6, 7, 8, 9, 10, 11], [12, 13, 15, 0, 1, 2, 3, 4, 5, 6, 7, 8, 9, 10, 11, 14], [12, 16, 0, 1, 2, 3, 4, 5, 6, 7, 8, 9, 10, 11, 13, 14, 15], [12, 17, 0, 1, 2, 3, 4, 5, 6, 7, 8, 9, 10, 11, 13, 14, 15, 16], [18, 0, 1, 2, 3, 4, 5, 6, 7, 8, 9, 10, 11, 12, 13, 14, 15, 16, 17], [19, 0, 1, 2, 3, 4, 5, 6, 7, 8, 9, 10, 11, 12, 13, 14, 15, 16, 17, 18], [19, 0, 1, 2, 3, 4, 5, 6, 7, 8, 9, 10, 11, 12, 13, 14, 15, 16, 17, 18], [19, 20, 21, 0, 1, 2, 3, 4, 5, 6, 7, 8, 9, 10, 11, 12, 13, 14, 15, 16, 17, 18], [19, 0, 1, 2, 3, 4, 5, 6, 7, 8, 9, 10, 11, 12, 13, 14, 15, 16, 17, 18], [19, 22, 23, 0, 1, 2, 3, 4, 5, 6, 7, 8, 9, 10, 11, 12, 13, 14, 15, 16, 17, 18, 20, 21], [19, 0, 1, 2, 3, 4, 5, 6, 7, 8, 9, 10, 11, 12, 13, 14, 15, 16, 17, 18], [19, 24, 25, 0, 1, 2, 3, 4, 5, 6, 7, 8, 9, 10, 11, 12, 13, 14, 15, 16, 17, 18, 20, 21, 22, 23], [19, 26, 0, 1, 2, 3, 4, 5, 6, 7, 8, 9, 10, 11, 12, 13, 14, 15, 16, 17, 18, 20, 21, 22, 23, 24, 25], [27, 0, 1, 2, 3, 4, 5, 6, 7, 8, 9, 10, 11, 12, 13, 14, 15, 16, 17, 18, 19, 20, 21, 22, 23, 24, 25, 26], [28, 0, 1, 2, 3, 4, 5, 6, 7, 8, 9, 10, 11, 12, 13, 14, 15, 16, 17, 18, 19, 20, 21, 22, 23, 24, 25, 26, 27], [28, 0, 1, 2, 3, 4, 5, 6, 7, 8, 9, 10, 11, 12, 13, 14, 15, 16, 17, 18, 19, 20, 21, 22, 23, 24, 25, 26, 27], [28, 30, 0, 1, 2, 3, 4, 5, 6, 7, 8, 9, 10, 11, 12, 13, 14, 15, 16, 17, 18, 19, 20, 21, 22, 23, 24, 25, 26, 27], [28, 29, 31, 0, 1, 2, 3, 4, 5, 6, 7, 8, 9, 10, 11, 12, 13, 14, 15, 16, 17, 18, 19, 20, 21, 22, 23, 24, 25, 26, 27, 30], [28, 32, 0, 1, 2, 3, 4, 5, 6, 7, 8, 9, 10, 11, 12, 13, 14, 15, 16, 17, 18, 19, 20, 21, 22, 23, 24, 25, 26, 27, 29, 30, 31], [28, 33, 0, 1, 2, 3, 4, 5, 6, 7, 8, 9, 10, 11, 12, 13, 14, 15, 16, 17, 18, 19, 20, 21, 22, 23, 24, 25, 26, 27, 29, 30, 31, 32], [34, 0, 1, 2, 3, 4, 5, 6, 7, 8, 9, 10, 11, 12, 13, 14, 15, 16, 17, 18, 19, 20, 21, 22, 23, 24, 25, 26, 27, 28, 29, 30, 31, 32, 33], [35, 0, 1, 2, 3, 4, 5, 6, 7, 8, 9, 10, 11, 12, 13, 14, 15, 16, 17, 18, 19, 20, 21, 22, 23, 24, 25, 26, 27, 28, 29, 30, 31, 32, 33, 34], [35, 36, 0, 1, 2, 3, 4, 5, 6, 7, 8, 9, 10, 11, 12, 13, 14, 15, 16, 17, 18, 19, 20, 21, 22, 23, 24, 25, 26, 27, 28, 29, 30, 31, 32, 33, 34], [35, 37, 0, 1, 2, 3, 4, 5, 6, 7, 8, 9, 10, 11, 12, 13, 14, 15, 16, 17, 18, 19, 20, 21, 22, 23, 24, 25, 26, 27, 28, 29, 30, 31, 32, 33, 34, 36], [38, 0, 1, 2, 3, 4, 5, 6, 7, 8, 9, 10, 11, 12, 13, 14, 15, 16, 17, 18, 19, 20, 21, 22, 23, 24, 25, 26, 27, 28, 29, 30, 31, 32, 33, 34, 35, 36, 37], [39, 0, 1, 2, 3, 4, 5, 6, 7, 8, 9, 10, 11, 12, 13, 14, 15, 16, 17, 18, 19, 20, 21, 22, 23, 24, 25, 26, 27, 28, 29, 30, 31, 32, 33, 34, 35, 36, 37, 38], [39, 0, 1, 2, 3, 4, 5, 6, 7, 8, 9, 10, 11, 12, 13, 14, 15, 16, 17, 18, 19, 20, 21, 22, 23, 24, 25, 26, 27, 28, 29, 30, 31, 32, 33, 34, 35, 36, 37, 38], [39, 40, 41, 0, 1, 2, 3, 4, 5, 6, 7, 8, 9, 10, 11, 12, 13, 14, 15, 16, 17, 18, 19, 20, 21, 22, 23, 24, 25, 26, 27, 28, 29, 30, 31, 32, 33, 34, 35, 36, 37, 38], [39, 42, 0, 1, 2, 3, 4, 5, 6, 7, 8, 9, 10, 11, 12, 13, 14, 15, 16, 17, 18, 19, 20, 21, 22, 23, 24, 25, 26, 27, 28, 29, 30, 31, 32, 33, 34, 35, 36, 37, 38, 40, 41], [43, 0, 1, 2, 3, 4, 5, 6, 7, 8, 9, 10, 11, 12, 13, 14, 15, 16, 17, 18, 19, 20, 21, 22, 23, 24, 25, 26, 27, 28, 29, 30, 31, 32, 33, 34, 35, 36, 37, 38, 39, 40, 41, 42], [44, 0, 1, 2, 3, 4, 5, 6, 7, 8, 9, 10, 11, 12, 13, 14, 15, 16, 17, 18, 19, 20, 21, 22, 23, 24, 25, 26, 27, 28, 29, 30, 31, 32, 33, 34, 35, 36, 37, 38, 39, 40, 41, 42, 43], [44, 45, 0, 1, 2, 3, 4, 5, 6, 7, 8, 9, 10, 11, 12, 13, 14, 15, 16, 17, 18, 19, 20, 21, 22, 23, 24, 25, 26, 27, 28, 29, 30, 31, 32, 33, 34, 35, 36, 37, 38, 39, 40, 41, 42, 43], [46, 0, 1, 2, 3, 4, 5, 6, 7, 8, 9, 10, 11, 12, 13, 14, 15, 16, 17, 18, 19, 20, 21, 22, 23, 24, 25, 26, 27, 28, 29, 30, 31, 32, 33, 34, 35, 36, 37, 38, 39, 40, 41, 42, 43, 44, 45]] [[], [], [], [], [], [], [], [], [], [], [], [], [], [], [], [], [], [], [], [], [], [], [], [], [], [], [], [], [], [], [], [], [], [], [], [], [], [], [], [], [], [], [], [], [], [], [], []] [] [] (fun i => ([fun _ => Is (.agg #[.bool (ng z28), .slice p28 n28 c28]), fun _ => Is (.agg #[.bool b2, .slice q m d]), fun _ => Zt z40, fun _ => Is (.agg #[.bool (ng z29), .slice p29 n29 c29]), fun _ => Zt z41, fun _ => Is (.agg #[.bool b, .slice p n c]), fun _ => Is (.bool true), fun _ => Is (.bool true), fun _ => Is (.agg #[.bool (ng z29), .slice p29 n29 c29]), fun _ => Is (.int .i64 s42), fun _ => Is (.bool true), fun _ => Is (.bool true), fun _ => Is (.bool true), fun _ => Is (.agg #[.bool (ng z29), .slice p29 n29 c29]), fun _ => Is (.agg #[.bool b2, .slice q m d]), fun _ => Zt z43, fun _ => Is (.int .i64 s44), fun _ => Is (.bool true), fun _ => Is (.bool true), fun _ => Is (.bool true), fun _ => Is (.agg #[.bool (ng z30), .slice p30 n30 c30]), fun _ => Is (.agg #[.bool b2, .slice q m d]), fun _ => Zt z45, fun _ => Is (.agg #[.bool (ng z31), .slice p31 n31 c31]), fun _ => Zt z46, fun _ => Is (.agg #[.bool b, .slice p n c]), fun _ => Is (.bool true), fun _ => Is (.bool true), fun _ => Is (.bool true), fun _ => Is (.agg #[.bool (ng z39), .slice p39 n39 c39]), fun _ => Is (.agg #[.bool b2, .slice q m d]), fun _ => Zt z47, fun _ => Is (.int .i64 s48), fun _ => Is (.bool true), fun _ => Is (.bool true), fun _ => Is (.bool true), fun _ => Is (.int .i64 0), fun _ => Is (.bool true), fun _ => Is (.bool true), fun _ => Is (.bool true), fun _ => Is (.agg #[.bool (ng z34), .slice p34 n34 c34]), fun _ => Is (.agg #[.bool b, .slice p n c]), fun _ => Is (.bool true), fun _ => Is (.bool true), fun _ => Is (.bool true), fun _ => Is (.bool true), fun _ => Is (.bool true), fun _ => Is (.bool true)] : List (List Value → Tell)).getD i (fun _ _ _ => False)) (heldNil) (fun d _ _ _ _ h => (by cases d <;> exact h)) (by kernel_rfl) (by kernel_rfl) (by kernel_rfl) hS ?_ ?_
          ·
            refine stepsCons rfl ?_ ?_
            · intro Q f' w' ρ S ho hT hS hB
              exact .inl ⟨want_none rfl, oload (vs := [.bool (ng z28), .slice p28 n28 c28]) aggZ hS 16 rfl rfl (ev rfl (ho 10 rfl)) rfl rfl rfl ⟨_, _, rfl, isI, New.same _⟩⟩
            refine stepsCons rfl ?_ ?_
            · intro Q f' w' ρ S ho hT hS hB
              exact .inl ⟨want_none rfl, oload (vs := [.bool b2, .slice q m d]) aggZ hS 51 rfl rfl (ev rfl (ho 4 rfl)) rfl rfl rfl ⟨_, _, rfl, isI, New.same _⟩⟩
            refine stepsCons rfl ?_ ?_
            · intro Q f' w' ρ S ho hT hS hB
              obtain ⟨hv0, hr0⟩ := (hT 0 151 rfl rfl : (Is (.agg #[.bool (ng z28), .slice p28 n28 c28])) (f' 151) (ρ 0))
              obtain ⟨hv1, hr1⟩ := (hT 1 152 rfl rfl : (Is (.agg #[.bool b2, .slice q m d])) (f' 152) (ρ 1))
              obtain hS := hS.flat2 hr0 hr1
              refine .inl ⟨want_none rfl, ocall rfl rfl Try.call16 rfl (wzmul (((hS.sl 17 rfl).zr hk28).mono (by omega)) ((hzy.at hS).mono (by omega)) hz40) (args2 (ev rfl hv0) (ev rfl hv1)) ?_⟩
              rintro _ w9 ⟨_, _, rfl, hTT, hN⟩
              exact ⟨_, rfl, _, _, rfl, hTT, hN⟩
            refine stepsCons rfl ?_ ?_
            · intro Q f' w' ρ S ho hT hS hB
              exact .inl ⟨want_none rfl, oload (vs := [.bool (ng z29), .slice p29 n29 c29]) aggZ hS 15 rfl rfl (ev rfl (ho 11 rfl)) rfl rfl rfl ⟨_, _, rfl, isI, New.same _⟩⟩
            refine stepsCons rfl ?_ ?_
            · intro Q f' w' ρ S ho hT hS hB
              obtain ⟨p40, n40, c40, hv2, hr2⟩ := (hT 2 153 rfl rfl : (Zt z40) (f' 153) (ρ 2))
              obtain ⟨hv3, hr3⟩ := (hT 3 154 rfl rfl : (Is (.agg #[.bool (ng z29), .slice p29 n29 c29])) (f' 154) (ρ 3))
              obtain hS := hS.flat2 hr2 hr3
              refine .inl ⟨want_none rfl, ocall rfl rfl Try.call11 rfl (wzadd (((hS.sl 53 rfl).zr hk40).mono (by omega)) (((hS.sl 18 rfl).zr hk29).mono (by omega)) hz41) (args2 (ev rfl hv2) (ev rfl hv3)) ?_⟩
              rintro _ w9 ⟨_, _, rfl, hTT, hN⟩
              exact ⟨_, rfl, _, _, rfl, hTT, hN⟩
            refine stepsCons rfl ?_ ?_
            · intro Q f' w' ρ S ho hT hS hB
              exact .inl ⟨want_none rfl, oload (vs := [.bool b, .slice p n c]) aggZ hS 52 rfl rfl (ev rfl (ho 3 rfl)) rfl rfl rfl ⟨_, _, rfl, isI, New.same _⟩⟩
            refine stepsCons rfl ?_ ?_
            · intro Q f' w' ρ S ho hT hS hB
              obtain ⟨p41, n41, c41, hv4, hr4⟩ := (hT 4 155 rfl rfl : (Zt z41) (f' 155) (ρ 4))
              obtain ⟨hv5, hr5⟩ := (hT 5 156 rfl rfl : (Is (.agg #[.bool b, .slice p n c])) (f' 156) (ρ 5))
              obtain hS := hS.flat2 hr4 hr5
              refine .inl ⟨want_none rfl, ocall rfl rfl Try.call57 rfl (wleq (((hS.sl 53 rfl).zr hk41).mono (by omega)) ((hzx.at hS).mono (by omega)) (by rw [← hz41.out, ← hz40.out, ← hz28.out, ← hz29.out, Int.mul_comm]; exact Int.mul_ediv_add_emod x y)) (args2 (ev rfl hv4) (ev rfl hv5)) ?_⟩
              rintro _ w9 ⟨_, _, rfl, hTT, hN⟩
              exact ⟨_, rfl, _, _, rfl, hTT, hN⟩
            refine stepsCons rfl ?_ ?_
            · intro Q f' w' ρ S ho hT hS hB
              obtain ⟨hv6, hr6⟩ := (hT 6 157 rfl rfl : (Is (.bool true)) (f' 157) (ρ 6))
              obtain hS := hS.flat1 hr6
              exact .inl ⟨want_none rfl, omove (v := .bool true) rfl rfl (ev (v := .bool true) rfl hv6) ⟨_, _, rfl, isI, New.same _⟩⟩
            refine stepsCons rfl ?_ ?_
            · intro Q f' w' ρ S ho hT hS hB
              obtain ⟨hv7, hr7⟩ := (hT 7 158 rfl rfl : (Is (.bool true)) (f' 158) (ρ 7))
              obtain hS := hS.flat1 hr7
              exact .inl ⟨want_on (e := 158) rfl rfl rfl hv7, oload (vs := [.bool (ng z29), .slice p29 n29 c29]) aggZ hS 15 rfl rfl (ev rfl (ho 11 rfl)) rfl rfl rfl ⟨_, _, rfl, isI, New.same _⟩⟩
            refine stepsCons rfl ?_ ?_
            · intro Q f' w' ρ S ho hT hS hB
              obtain ⟨hv7, hr7⟩ := (hT 7 158 rfl rfl : (Is (.bool true)) (f' 158) (ρ 7))
              obtain ⟨hv8, hr8⟩ := (hT 8 159 rfl rfl : (Is (.agg #[.bool (ng z29), .slice p29 n29 c29])) (f' 159) (ρ 8))
              obtain hS := hS.flat2 hr7 hr8
              refine .inl ⟨want_on (e := 158) rfl rfl rfl hv7, ocall rfl rfl Try.call25 rfl (wzsign (((hS.sl 18 rfl).zr hk29).mono (by omega)) hs42) (args1 (ev rfl hv8)) ?_⟩
              rintro _ w9 ⟨_, _, rfl, hTT, hN⟩
              exact ⟨_, rfl, _, _, rfl, hTT, hN⟩
            refine stepsCons rfl ?_ ?_
            · intro Q f' w' ρ S ho hT hS hB
              obtain ⟨hv7, hr7⟩ := (hT 7 158 rfl rfl : (Is (.bool true)) (f' 158) (ρ 7))
              obtain ⟨hv9, hr9⟩ := (hT 9 160 rfl rfl : (Is (.int .i64 s42)) (f' 160) (ρ 9))
              obtain hS := hS.flat2 hr7 hr9
              exact .inl ⟨want_on (e := 158) rfl rfl rfl hv7, obin (u := .int .i64 s42) (v := .int .i64 0) (z := .bool true) rfl rfl (ev (v := .int .i64 s42) rfl hv9) (evc (v := .int .i64 0)) (bin_geq (leT (by have := sign_cases z29; have := hs42.out; have := Int.emod_nonneg x h0; have := hz29.out; omega))) ⟨_, _, rfl, isI, New.same _⟩⟩
            refine stepsCons rfl ?_ ?_
            · intro Q f' w' ρ S ho hT hS hB
              obtain ⟨hv7, hr7⟩ := (hT 7 158 rfl rfl : (Is (.bool true)) (f' 158) (ρ 7))
              obtain ⟨hv10, hr10⟩ := (hT 10 161 rfl rfl : (Is (.bool true)) (f' 161) (ρ 10))
              obtain hS := hS.flat2 hr7 hr10
              exact .inl ⟨want_none rfl, opick (b := true) (v := .bool true) rfl rfl (ev (v := .bool true) rfl hv7) (ev (v := .bool true) rfl hv10) ⟨_, _, rfl, isI, New.same _⟩⟩
            refine stepsCons rfl ?_ ?_
            · intro Q f' w' ρ S ho hT hS hB
              obtain ⟨hv11, hr11⟩ := (hT 11 162 rfl rfl : (Is (.bool true)) (f' 162) (ρ 11))
              obtain hS := hS.flat1 hr11
              exact .inl ⟨want_none rfl, omove (v := .bool true) rfl rfl (ev (v := .bool true) rfl hv11) ⟨_, _, rfl, isI, New.same _⟩⟩
            refine stepsCons rfl ?_ ?_
            · intro Q f' w' ρ S ho hT hS hB
              obtain ⟨hv12, hr12⟩ := (hT 12 163 rfl rfl : (Is (.bool true)) (f' 163) (ρ 12))
              obtain hS := hS.flat1 hr12
              exact .inl ⟨want_on (e := 163) rfl rfl rfl hv12, oload (vs := [.bool (ng z29), .slice p29 n29 c29]) aggZ hS 15 rfl rfl (ev rfl (ho 11 rfl)) rfl rfl rfl ⟨_, _, rfl, isI, New.same _⟩⟩
            refine stepsCons rfl ?_ ?_
            · intro Q f' w' ρ S ho hT hS hB
              obtain ⟨hv12, hr12⟩ := (hT 12 163 rfl rfl : (Is (.bool true)) (f' 163) (ρ 12))
              obtain hS := hS.flat1 hr12
              exact .inl ⟨want_on (e := 163) rfl rfl rfl hv12, oload (vs := [.bool b2, .slice q m d]) aggZ hS 51 rfl rfl (ev rfl (ho 4 rfl)) rfl rfl rfl ⟨_, _, rfl, isI, New.same _⟩⟩
            refine stepsCons rfl ?_ ?_
            · intro Q f' w' ρ S ho hT hS hB
              obtain ⟨hv12, hr12⟩ := (hT 12 163 rfl rfl : (Is (.bool true)) (f' 163) (ρ 12))
              obtain ⟨hv14, hr14⟩ := (hT 14 165 rfl rfl : (Is (.agg #[.bool b2, .slice q m d])) (f' 165) (ρ 14))
              obtain hS := hS.flat2 hr12 hr14
              refine .inl ⟨want_on (e := 163) rfl rfl rfl hv12, ocall rfl rfl Try.call30 rfl (wzabs ((hzy.at hS).mono (by omega)) hz43) (args1 (ev rfl hv14)) ?_⟩
              rintro _ w9 ⟨_, _, rfl, hTT, hN⟩
              exact ⟨_, rfl, _, _, rfl, hTT, hN⟩
            refine stepsCons rfl ?_ ?_
            · intro Q f' w' ρ S ho hT hS hB
              obtain ⟨hv12, hr12⟩ := (hT 12 163 rfl rfl : (Is (.bool true)) (f' 163) (ρ 12))
              obtain ⟨hv13, hr13⟩ := (hT 13 164 rfl rfl : (Is (.agg #[.bool (ng z29), .slice p29 n29 c29])) (f' 164) (ρ 13))
              obtain ⟨p43, n43, c43, hv15, hr15⟩ := (hT 15 166 rfl rfl : (Zt z43) (f' 166) (ρ 15))
              obtain hS := hS.flat3 hr12 hr13 hr15
              refine .inl ⟨want_on (e := 163) rfl rfl rfl hv12, ocall rfl rfl Try.call27 rfl (wzcmp (((hS.sl 18 rfl).zr hk29).mono (by omega)) (((hS.sl 53 rfl).zr hk43).mono (by omega)) hs44) (args2 (ev rfl hv13) (ev rfl hv15)) ?_⟩
              rintro _ w9 ⟨_, _, rfl, hTT, hN⟩
              exact ⟨_, rfl, _, _, rfl, hTT, hN⟩
            refine stepsCons rfl ?_ ?_
            · intro Q f' w' ρ S ho hT hS hB
              obtain ⟨hv12, hr12⟩ := (hT 12 163 rfl rfl : (Is (.bool true)) (f' 163) (ρ 12))
              obtain ⟨hv16, hr16⟩ := (hT 16 167 rfl rfl : (Is (.int .i64 s44)) (f' 167) (ρ 16))
              obtain hS := hS.flat2 hr12 hr16
              exact .inl ⟨want_on (e := 163) rfl rfl rfl hv12, obin (u := .int .i64 s44) (v := .int .i64 0) (z := .bool true) rfl rfl (ev (v := .int .i64 s44) rfl hv16) (evc (v := .int .i64 0)) (bin_lss (ltT (cmp_lt hs44 (by have := Int.emod_lt x h0; have := hz29.out; have := hz43.out; omega)))) ⟨_, _, rfl, isI, New.same _⟩⟩
            refine stepsCons rfl ?_ ?_
            · intro Q f' w' ρ S ho hT hS hB
              obtain ⟨hv12, hr12⟩ := (hT 12 163 rfl rfl : (Is (.bool true)) (f' 163) (ρ 12))
              obtain ⟨hv17, hr17⟩ := (hT 17 168 rfl rfl : (Is (.bool true)) (f' 168) (ρ 17))
              obtain hS := hS.flat2 hr12 hr17
              exact .inl ⟨want_none rfl, opick (b := true) (v := .bool true) rfl rfl (ev (v := .bool true) rfl hv12) (ev (v := .bool true) rfl hv17) ⟨_, _, rfl, isI, New.same _⟩⟩
            refine stepsCons rfl ?_ ?_
            · intro Q f' w' ρ S ho hT hS hB
              obtain ⟨hv18, hr18⟩ := (hT 18 169 rfl rfl : (Is (.bool true)) (f' 169) (ρ 18))
              obtain hS := hS.flat1 hr18
              exact .inl ⟨want_none rfl, omove (v := .bool true) rfl rfl (ev (v := .bool true) rfl hv18) ⟨_, _, rfl, isI, New.same _⟩⟩
            refine stepsCons rfl ?_ ?_
            · intro Q f' w' ρ S ho hT hS hB
              obtain ⟨hv19, hr19⟩ := (hT 19 170 rfl rfl : (Is (.bool true)) (f' 170) (ρ 19))
              obtain hS := hS.flat1 hr19
              exact .inl ⟨want_on (e := 170) rfl rfl rfl hv19, oload (vs := [.bool (ng z30), .slice p30 n30 c30]) aggZ hS 12 rfl rfl (ev rfl (ho 13 rfl)) rfl rfl rfl ⟨_, _, rfl, isI, New.same _⟩⟩
            refine stepsCons rfl ?_ ?_
            · intro Q f' w' ρ S ho hT hS hB
              obtain ⟨hv19, hr19⟩ := (hT 19 170 rfl rfl : (Is (.bool true)) (f' 170) (ρ 19))
              obtain hS := hS.flat1 hr19
              exact .inl ⟨want_on (e := 170) rfl rfl rfl hv19, oload (vs := [.bool b2, .slice q m d]) aggZ hS 51 rfl rfl (ev rfl (ho 4 rfl)) rfl rfl rfl ⟨_, _, rfl, isI, New.same _⟩⟩
            refine stepsCons rfl ?_ ?_
            · intro Q f' w' ρ S ho hT hS hB
              obtain ⟨hv19, hr19⟩ := (hT 19 170 rfl rfl : (Is (.bool true)) (f' 170) (ρ 19))
              obtain ⟨hv20, hr20⟩ := (hT 20 171 rfl rfl : (Is (.agg #[.bool (ng z30), .slice p30 n30 c30])) (f' 171) (ρ 20))
              obtain ⟨hv21, hr21⟩ := (hT 21 172 rfl rfl : (Is (.agg #[.bool b2, .slice q m d])) (f' 172) (ρ 21))
              obtain hS := hS.flat3 hr19 hr20 hr21
              refine .inl ⟨want_on (e := 170) rfl rfl rfl hv19, ocall rfl rfl Try.call16 rfl (wzmul (((hS.sl 13 rfl).zr hk30).mono (by omega)) ((hzy.at hS).mono (by omega)) hz45) (args2 (ev rfl hv20) (ev rfl hv21)) ?_⟩
              rintro _ w9 ⟨_, _, rfl, hTT, hN⟩
              exact ⟨_, rfl, _, _, rfl, hTT, hN⟩
            refine stepsCons rfl ?_ ?_
            · intro Q f' w' ρ S ho hT hS hB
              obtain ⟨hv19, hr19⟩ := (hT 19 170 rfl rfl : (Is (.bool true)) (f' 170) (ρ 19))
              obtain hS := hS.flat1 hr19
              exact .inl ⟨want_on (e := 170) rfl rfl rfl hv19, oload (vs := [.bool (ng z31), .slice p31 n31 c31]) aggZ hS 11 rfl rfl (ev rfl (ho 14 rfl)) rfl rfl rfl ⟨_, _, rfl, isI, New.same _⟩⟩
            refine stepsCons rfl ?_ ?_
            · intro Q f' w' ρ S ho hT hS hB
              obtain ⟨hv19, hr19⟩ := (hT 19 170 rfl rfl : (Is (.bool true)) (f' 170) (ρ 19))
              obtain ⟨p45, n45, c45, hv22, hr22⟩ := (hT 22 173 rfl rfl : (Zt z45) (f' 173) (ρ 22))
              obtain ⟨hv23, hr23⟩ := (hT 23 174 rfl rfl : (Is (.agg #[.bool (ng z31), .slice p31 n31 c31])) (f' 174) (ρ 23))
              obtain hS := hS.flat3 hr19 hr22 hr23
              refine .inl ⟨want_on (e := 170) rfl rfl rfl hv19, ocall rfl rfl Try.call11 rfl (wzadd (((hS.sl 53 rfl).zr hk45).mono (by omega)) (((hS.sl 14 rfl).zr hk31).mono (by omega)) hz46) (args2 (ev rfl hv22) (ev rfl hv23)) ?_⟩
              rintro _ w9 ⟨_, _, rfl, hTT, hN⟩
              exact ⟨_, rfl, _, _, rfl, hTT, hN⟩
            refine stepsCons rfl ?_ ?_
            · intro Q f' w' ρ S ho hT hS hB
              obtain ⟨hv19, hr19⟩ := (hT 19 170 rfl rfl : (Is (.bool true)) (f' 170) (ρ 19))
              obtain hS := hS.flat1 hr19
              exact .inl ⟨want_on (e := 170) rfl rfl rfl hv19, oload (vs := [.bool b, .slice p n c]) aggZ hS 52 rfl rfl (ev rfl (ho 3 rfl)) rfl rfl rfl ⟨_, _, rfl, isI, New.same _⟩⟩
            refine stepsCons rfl ?_ ?_
            · intro Q f' w' ρ S ho hT hS hB
              obtain ⟨hv19, hr19⟩ := (hT 19 170 rfl rfl : (Is (.bool true)) (f' 170) (ρ 19))
              obtain ⟨p46, n46, c46, hv24, hr24⟩ := (hT 24 175 rfl rfl : (Zt z46) (f' 175) (ρ 24))
              obtain ⟨hv25, hr25⟩ := (hT 25 176 rfl rfl : (Is (.agg #[.bool b, .slice p n c])) (f' 176) (ρ 25))
              obtain hS := hS.flat3 hr19 hr24 hr25
              refine .inl ⟨want_on (e := 170) rfl rfl rfl hv19, ocall rfl rfl Try.call57 rfl (wleq (((hS.sl 53 rfl).zr hk46).mono (by omega)) ((hzx.at hS).mono (by omega)) (by rw [← hz46.out, ← hz45.out, ← hz30.out, ← hz31.out, Int.mul_comm]; exact Int.mul_tdiv_add_tmod x y)) (args2 (ev rfl hv24) (ev rfl hv25)) ?_⟩
              rintro _ w9 ⟨_, _, rfl, hTT, hN⟩
              exact ⟨_, rfl, _, _, rfl, hTT, hN⟩
            refine stepsCons rfl ?_ ?_
            · intro Q f' w' ρ S ho hT hS hB
              obtain ⟨hv19, hr19⟩ := (hT 19 170 rfl rfl : (Is (.bool true)) (f' 170) (ρ 19))
              obtain ⟨hv26, hr26⟩ := (hT 26 177 rfl rfl : (Is (.bool true)) (f' 177) (ρ 26))
              obtain hS := hS.flat2 hr19 hr26
              exact .inl ⟨want_none rfl, opick (b := true) (v := .bool true) rfl rfl (ev (v := .bool true) rfl hv19) (ev (v := .bool true) rfl hv26) ⟨_, _, rfl, isI, New.same _⟩⟩
            refine stepsCons rfl ?_ ?_
            · intro Q f' w' ρ S ho hT hS hB
              obtain ⟨hv27, hr27⟩ := (hT 27 178 rfl rfl : (Is (.bool true)) (f' 178) (ρ 27))
              obtain hS := hS.flat1 hr27
              exact .inl ⟨want_none rfl, omove (v := .bool true) rfl rfl (ev (v := .bool true) rfl hv27) ⟨_, _, rfl, isI, New.same _⟩⟩
            refine stepsCons rfl ?_ ?_
            · intro Q f' w' ρ S ho hT hS hB
              obtain ⟨hv28, hr28⟩ := (hT 28 179 rfl rfl : (Is (.bool true)) (f' 179) (ρ 28))
              obtain hS := hS.flat1 hr28
              exact .inl ⟨want_on (e := 179) rfl rfl rfl hv28, oload (vs := [.bool (ng z39), .slice p39 n39 c39]) aggZ hS 0 rfl rfl (ev rfl (ho 20 rfl)) rfl rfl rfl ⟨_, _, rfl, isI, New.same _⟩⟩
            refine stepsCons rfl ?_ ?_
            · intro Q f' w' ρ S ho hT hS hB
              obtain ⟨hv28, hr28⟩ := (hT 28 179 rfl rfl : (Is (.bool true)) (f' 179) (ρ 28))
              obtain hS := hS.flat1 hr28
              exact .inl ⟨want_on (e := 179) rfl rfl rfl hv28, oload (vs := [.bool b2, .slice q m d]) aggZ hS 51 rfl rfl (ev rfl (ho 4 rfl)) rfl rfl rfl ⟨_, _, rfl, isI, New.same _⟩⟩
            refine stepsCons rfl ?_ ?_
            · intro Q f' w' ρ S ho hT hS hB
              obtain ⟨hv28, hr28⟩ := (hT 28 179 rfl rfl : (Is (.bool true)) (f' 179) (ρ 28))
              obtain ⟨hv30, hr30⟩ := (hT 30 181 rfl rfl : (Is (.agg #[.bool b2, .slice q m d])) (f' 181) (ρ 30))
              obtain hS := hS.flat2 hr28 hr30
              refine .inl ⟨want_on (e := 179) rfl rfl rfl hv28, ocall rfl rfl Try.call30 rfl (wzabs ((hzy.at hS).mono (by omega)) hz47) (args1 (ev rfl hv30)) ?_⟩
              rintro _ w9 ⟨_, _, rfl, hTT, hN⟩
              exact ⟨_, rfl, _, _, rfl, hTT, hN⟩
            refine stepsCons rfl ?_ ?_
            · intro Q f' w' ρ S ho hT hS hB
              obtain ⟨hv28, hr28⟩ := (hT 28 179 rfl rfl : (Is (.bool true)) (f' 179) (ρ 28))
              obtain ⟨hv29, hr29⟩ := (hT 29 180 rfl rfl : (Is (.agg #[.bool (ng z39), .slice p39 n39 c39])) (f' 180) (ρ 29))
              obtain ⟨p47, n47, c47, hv31, hr31⟩ := (hT 31 182 rfl rfl : (Zt z47) (f' 182) (ρ 31))
              obtain hS := hS.flat3 hr28 hr29 hr31
              refine .inl ⟨want_on (e := 179) rfl rfl rfl hv28, ocall rfl rfl Try.call27 rfl (wzcmp (((hS.sl 1 rfl).zr hk39).mono (by omega)) (((hS.sl 53 rfl).zr hk47).mono (by omega)) hs48) (args2 (ev rfl hv29) (ev rfl hv31)) ?_⟩
              rintro _ w9 ⟨_, _, rfl, hTT, hN⟩
              exact ⟨_, rfl, _, _, rfl, hTT, hN⟩
            refine stepsCons rfl ?_ ?_
            · intro Q f' w' ρ S ho hT hS hB
              obtain ⟨hv28, hr28⟩ := (hT 28 179 rfl rfl : (Is (.bool true)) (f' 179) (ρ 28))
              obtain ⟨hv32, hr32⟩ := (hT 32 183 rfl rfl : (Is (.int .i64 s48)) (f' 183) (ρ 32))
              obtain hS := hS.flat2 hr28 hr32
              exact .inl ⟨want_on (e := 179) rfl rfl rfl hv28, obin (u := .int .i64 s48) (v := .int .i64 0) (z := .bool true) rfl rfl (ev (v := .int .i64 s48) rfl hv32) (evc (v := .int .i64 0)) (bin_leq (leT (cmp_le hs48 (by rw [← hz47.out, ← hz39.out, ← hz38.out, ← hz36.out, ← hz35.out, ← hz32.out]; have := nearZ_near (a := x) h0; omega)))) ⟨_, _, rfl, isI, New.same _⟩⟩
            refine stepsCons rfl ?_ ?_
            · intro Q f' w' ρ S ho hT hS hB
              obtain ⟨hv28, hr28⟩ := (hT 28 179 rfl rfl : (Is (.bool true)) (f' 179) (ρ 28))
              obtain ⟨hv33, hr33⟩ := (hT 33 184 rfl rfl : (Is (.bool true)) (f' 184) (ρ 33))
              obtain hS := hS.flat2 hr28 hr33
              exact .inl ⟨want_none rfl, opick (b := true) (v := .bool true) rfl rfl (ev (v := .bool true) rfl hv28) (ev (v := .bool true) rfl hv33) ⟨_, _, rfl, isI, New.same _⟩⟩
            refine stepsCons rfl ?_ ?_
            · intro Q f' w' ρ S ho hT hS hB
              obtain ⟨hv34, hr34⟩ := (hT 34 185 rfl rfl : (Is (.bool true)) (f' 185) (ρ 34))
              obtain hS := hS.flat1 hr34
              exact .inl ⟨want_none rfl, omove (v := .bool true) rfl rfl (ev (v := .bool true) rfl hv34) ⟨_, _, rfl, isI, New.same _⟩⟩
            refine stepsCons rfl ?_ ?_
            · intro Q f' w' ρ S ho hT hS hB
              obtain ⟨hv35, hr35⟩ := (hT 35 186 rfl rfl : (Is (.bool true)) (f' 186) (ρ 35))
              obtain hS := hS.flat1 hr35
              exact .inl ⟨want_on (e := 186) rfl rfl rfl hv35, omove (v := .int .i64 0) rfl rfl (ev (v := .int .i64 0) rfl (ho 19 rfl)) ⟨_, _, rfl, isI, New.same _⟩⟩
            refine stepsCons rfl ?_ ?_
            · intro Q f' w' ρ S ho hT hS hB
              obtain ⟨hv35, hr35⟩ := (hT 35 186 rfl rfl : (Is (.bool true)) (f' 186) (ρ 35))
              obtain ⟨hv36, hr36⟩ := (hT 36 187 rfl rfl : (Is (.int .i64 0)) (f' 187) (ρ 36))
              obtain hS := hS.flat2 hr35 hr36
              exact .inl ⟨want_on (e := 186) rfl rfl rfl hv35, obin (u := .int .i64 0) (v := .int .i64 0) (z := .bool true) rfl rfl (ev (v := .int .i64 0) rfl hv36) (evc (v := .int .i64 0)) (bin_eql (by decide)) ⟨_, _, rfl, isI, New.same _⟩⟩
            refine stepsCons rfl ?_ ?_
            · intro Q f' w' ρ S ho hT hS hB
              obtain ⟨hv35, hr35⟩ := (hT 35 186 rfl rfl : (Is (.bool true)) (f' 186) (ρ 35))
              obtain ⟨hv37, hr37⟩ := (hT 37 188 rfl rfl : (Is (.bool true)) (f' 188) (ρ 37))
              obtain hS := hS.flat2 hr35 hr37
              exact .inl ⟨want_none rfl, opick (b := true) (v := .bool true) rfl rfl (ev (v := .bool true) rfl hv35) (ev (v := .bool true) rfl hv37) ⟨_, _, rfl, isI, New.same _⟩⟩
            refine stepsCons rfl ?_ ?_
            · intro Q f' w' ρ S ho hT hS hB
              obtain ⟨hv38, hr38⟩ := (hT 38 189 rfl rfl : (Is (.bool true)) (f' 189) (ρ 38))
              obtain hS := hS.flat1 hr38
              exact .inl ⟨want_none rfl, omove (v := .bool true) rfl rfl (ev (v := .bool true) rfl hv38) ⟨_, _, rfl, isI, New.same _⟩⟩
            refine stepsCons rfl ?_ ?_
            · intro Q f' w' ρ S ho hT hS hB
              obtain ⟨hv39, hr39⟩ := (hT 39 190 rfl rfl : (Is (.bool true)) (f' 190) (ρ 39))
              obtain hS := hS.flat1 hr39
              exact .inl ⟨want_on (e := 190) rfl rfl rfl hv39, oload (vs := [.bool (ng z34), .slice p34 n34 c34]) aggZ hS 6 rfl rfl (ev rfl (ho 18 rfl)) rfl rfl rfl ⟨_, _, rfl, isI, New.same _⟩⟩
            refine stepsCons rfl ?_ ?_
            · intro Q f' w' ρ S ho hT hS hB
              obtain ⟨hv39, hr39⟩ := (hT 39 190 rfl rfl : (Is (.bool true)) (f' 190) (ρ 39))
              obtain hS := hS.flat1 hr39
              exact .inl ⟨want_on (e := 190) rfl rfl rfl hv39, oload (vs := [.bool b, .slice p n c]) aggZ hS 52 rfl rfl (ev rfl (ho 3 rfl)) rfl rfl rfl ⟨_, _, rfl, isI, New.same _⟩⟩
            refine stepsCons rfl ?_ ?_
            · intro Q f' w' ρ S ho hT hS hB
              obtain ⟨hv39, hr39⟩ := (hT 39 190 rfl rfl : (Is (.bool true)) (f' 190) (ρ 39))
              obtain ⟨hv40, hr40⟩ := (hT 40 191 rfl rfl : (Is (.agg #[.bool (ng z34), .slice p34 n34 c34])) (f' 191) (ρ 40))
              obtain ⟨hv41, hr41⟩ := (hT 41 192 rfl rfl : (Is (.agg #[.bool b, .slice p n c])) (f' 192) (ρ 41))
              obtain hS := hS.flat3 hr39 hr40 hr41
              refine .inl ⟨want_on (e := 190) rfl rfl rfl hv39, ocall rfl rfl Try.call57 rfl (wleq (((hS.sl 7 rfl).zr hk34).mono (by omega)) ((hzx.at hS).mono (by omega)) (by rw [← hz34.out, ← hz33.out]; exact Int.mul_tdiv_cancel _ h0)) (args2 (ev rfl hv40) (ev rfl hv41)) ?_⟩
              rintro _ w9 ⟨_, _, rfl, hTT, hN⟩
              exact ⟨_, rfl, _, _, rfl, hTT, hN⟩
            refine stepsCons rfl ?_ ?_
            · intro Q f' w' ρ S ho hT hS hB
              obtain ⟨hv39, hr39⟩ := (hT 39 190 rfl rfl : (Is (.bool true)) (f' 190) (ρ 39))
              obtain ⟨hv42, hr42⟩ := (hT 42 193 rfl rfl : (Is (.bool true)) (f' 193) (ρ 42))
              obtain hS := hS.flat2 hr39 hr42
              exact .inl ⟨want_none rfl, opick (b := true) (v := .bool true) rfl rfl (ev (v := .bool true) rfl hv39) (ev (v := .bool true) rfl hv42) ⟨_, _, rfl, isI, New.same _⟩⟩
            refine stepsCons rfl ?_ ?_
            · intro Q f' w' ρ S ho hT hS hB
              obtain ⟨hv43, hr43⟩ := (hT 43 194 rfl rfl : (Is (.bool true)) (f' 194) (ρ 43))
              obtain hS := hS.flat1 hr43
              exact .inl ⟨want_none rfl, omove (v := .bool true) rfl rfl (ev (v := .bool true) rfl hv43) ⟨_, _, rfl, isI, New.same _⟩⟩
            refine stepsCons rfl ?_ ?_
            · intro Q f' w' ρ S ho hT hS hB
              obtain ⟨hv44, hr44⟩ := (hT 44 195 rfl rfl : (Is (.bool true)) (f' 195) (ρ 44))
              obtain hS := hS.flat1 hr44
              refine .inl ⟨want_on (e := 195) rfl rfl rfl hv44, ocall rfl rfl Try.call19 rfl (wllives) (args0 ) ?_⟩
              rintro _ w9 ⟨_, _, rfl, hTT, hN⟩
              exact ⟨_, rfl, _, _, rfl, hTT, hN⟩
            refine stepsCons rfl ?_ ?_
            · intro Q f' w' ρ S ho hT hS hB
              obtain ⟨hv44, hr44⟩ := (hT 44 195 rfl rfl : (Is (.bool true)) (f' 195) (ρ 44))
              obtain ⟨hv45, hr45⟩ := (hT 45 196 rfl rfl : (Is (.bool true)) (f' 196) (ρ 45))
              obtain hS := hS.flat2 hr44 hr45
              exact .inl ⟨want_none rfl, opick (b := true) (v := .bool true) rfl rfl (ev (v := .bool true) rfl hv44) (ev (v := .bool true) rfl hv45) ⟨_, _, rfl, isI, New.same _⟩⟩
            refine stepsCons rfl ?_ ?_
            · intro Q f' w' ρ S ho hT hS hB
              obtain ⟨hv46, hr46⟩ := (hT 46 197 rfl rfl : (Is (.bool true)) (f' 197) (ρ 46))
              obtain hS := hS.flat1 hr46
              exact .inl ⟨want_none rfl, oassign (v := .bool true) rfl rfl (ev (v := .bool true) rfl hv46) ⟨_, _, rfl, isI, New.same _⟩⟩
            exact stepsNil
          ·
            intro vs ρ w46 f' hf hT hS
            obtain ⟨hv0, hr0⟩ := (hT 0 (by decide) : (Is (.agg #[.bool (ng z28), .slice p28 n28 c28])) (vs 0) (ρ 0))
            obtain ⟨hv1, hr1⟩ := (hT 1 (by decide) : (Is (.agg #[.bool b2, .slice q m d])) (vs 1) (ρ 1))
            obtain ⟨p40, n40, c40, hv2, hr2⟩ := (hT 2 (by decide) : (Zt z40) (vs 2) (ρ 2))
            obtain ⟨hv3, hr3⟩ := (hT 3 (by decide) : (Is (.agg #[.bool (ng z29), .slice p29 n29 c29])) (vs 3) (ρ 3))
            obtain ⟨p41, n41, c41, hv4, hr4⟩ := (hT 4 (by decide) : (Zt z41) (vs 4) (ρ 4))
            obtain ⟨hv5, hr5⟩ := (hT 5 (by decide) : (Is (.agg #[.bool b, .slice p n c])) (vs 5) (ρ 5))
            obtain ⟨hv6, hr6⟩ := (hT 6 (by decide) : (Is (.bool true)) (vs 6) (ρ 6))
            obtain ⟨hv7, hr7⟩ := (hT 7 (by decide) : (Is (.bool true)) (vs 7) (ρ 7))
            obtain ⟨hv8, hr8⟩ := (hT 8 (by decide) : (Is (.agg #[.bool (ng z29), .slice p29 n29 c29])) (vs 8) (ρ 8))
            obtain ⟨hv9, hr9⟩ := (hT 9 (by decide) : (Is (.int .i64 s42)) (vs 9) (ρ 9))
            obtain ⟨hv10, hr10⟩ := (hT 10 (by decide) : (Is (.bool true)) (vs 10) (ρ 10))
            obtain ⟨hv11, hr11⟩ := (hT 11 (by decide) : (Is (.bool true)) (vs 11) (ρ 11))
            obtain ⟨hv12, hr12⟩ := (hT 12 (by decide) : (Is (.bool true)) (vs 12) (ρ 12))
            obtain ⟨hv13, hr13⟩ := (hT 13 (by decide) : (Is (.agg #[.bool (ng z29), .slice p29 n29 c29])) (vs 13) (ρ 13))
            obtain ⟨hv14, hr14⟩ := (hT 14 (by decide) : (Is (.agg #[.bool b2, .slice q m d])) (vs 14) (ρ 14))
            obtain ⟨p43, n43, c43, hv15, hr15⟩ := (hT 15 (by decide) : (Zt z43) (vs 15) (ρ 15))
            obtain ⟨hv16, hr16⟩ := (hT 16 (by decide) : (Is (.int .i64 s44)) (vs 16) (ρ 16))
            obtain ⟨hv17, hr17⟩ := (hT 17 (by decide) : (Is (.bool true)) (vs 17) (ρ 17))
            obtain ⟨hv18, hr18⟩ := (hT 18 (by decide) : (Is (.bool true)) (vs 18) (ρ 18))
            obtain ⟨hv19, hr19⟩ := (hT 19 (by decide) : (Is (.bool true)) (vs 19) (ρ 19))
            obtain ⟨hv20, hr20⟩ := (hT 20 (by decide) : (Is (.agg #[.bool (ng z30), .slice p30 n30 c30])) (vs 20) (ρ 20))
            obtain ⟨hv21, hr21⟩ := (hT 21 (by decide) : (Is (.agg #[.bool b2, .slice q m d])) (vs 21) (ρ 21))
            obtain ⟨p45, n45, c45, hv22, hr22⟩ := (hT 22 (by decide) : (Zt z45) (vs 22) (ρ 22))
            obtain ⟨hv23, hr23⟩ := (hT 23 (by decide) : (Is (.agg #[.bool (ng z31), .slice p31 n31 c31])) (vs 23) (ρ 23))
            obtain ⟨p46, n46, c46, hv24, hr24⟩ := (hT 24 (by decide) : (Zt z46) (vs 24) (ρ 24))
            obtain ⟨hv25, hr25⟩ := (hT 25 (by decide) : (Is (.agg #[.bool b, .slice p n c])) (vs 25) (ρ 25))
            obtain ⟨hv26, hr26⟩ := (hT 26 (by decide) : (Is (.bool true)) (vs 26) (ρ 26))
            obtain ⟨hv27, hr27⟩ := (hT 27 (by decide) : (Is (.bool true)) (vs 27) (ρ 27))
            obtain ⟨hv28, hr28⟩ := (hT 28 (by decide) : (Is (.bool true)) (vs 28) (ρ 28))
            obtain ⟨hv29, hr29⟩ := (hT 29 (by decide) : (Is (.agg #[.bool (ng z39), .slice p39 n39 c39])) (vs 29) (ρ 29))
            obtain ⟨hv30, hr30⟩ := (hT 30 (by decide) : (Is (.agg #[.bool b2, .slice q m d])) (vs 30) (ρ 30))
            obtain ⟨p47, n47, c47, hv31, hr31⟩ := (hT 31 (by decide) : (Zt z47) (vs 31) (ρ 31))
            obtain ⟨hv32, hr32⟩ := (hT 32 (by decide) : (Is (.int .i64 s48)) (vs 32) (ρ 32))
            obtain ⟨hv33, hr33⟩ := (hT 33 (by decide) : (Is (.bool true)) (vs 33) (ρ 33))
            obtain ⟨hv34, hr34⟩ := (hT 34 (by decide) : (Is (.bool true)) (vs 34) (ρ 34))
            obtain ⟨hv35, hr35⟩ := (hT 35 (by decide) : (Is (.bool true)) (vs 35) (ρ 35))
            obtain ⟨hv36, hr36⟩ := (hT 36 (by decide) : (Is (.int .i64 0)) (vs 36) (ρ 36))
            obtain ⟨hv37, hr37⟩ := (hT 37 (by decide) : (Is (.bool true)) (vs 37) (ρ 37))
            obtain ⟨hv38, hr38⟩ := (hT 38 (by decide) : (Is (.bool true)) (vs 38) (ρ 38))
            obtain ⟨hv39, hr39⟩ := (hT 39 (by decide) : (Is (.bool true)) (vs 39) (ρ 39))
            obtain ⟨hv40, hr40⟩ := (hT 40 (by decide) : (Is (.agg #[.bool (ng z34), .slice p34 n34 c34])) (vs 40) (ρ 40))
            obtain ⟨hv41, hr41⟩ := (hT 41 (by decide) : (Is (.agg #[.bool b, .slice p n c])) (vs 41) (ρ 41))
            obtain ⟨hv42, hr42⟩ := (hT 42 (by decide) : (Is (.bool true)) (vs 42) (ρ 42))
            obtain ⟨hv43, hr43⟩ := (hT 43 (by decide) : (Is (.bool true)) (vs 43) (ρ 43))
            obtain ⟨hv44, hr44⟩ := (hT 44 (by decide) : (Is (.bool true)) (vs 44) (ρ 44))
            obtain ⟨hv45, hr45⟩ := (hT 45 (by decide) : (Is (.bool true)) (vs 45) (ρ 45))
            obtain ⟨hv46, hr46⟩ := (hT 46 (by decide) : (Is (.bool true)) (vs 46) (ρ 46))
            obtain ⟨hv47, hr47⟩ := (hT 47 (by decide) : (Is (.bool true)) (vs 47) (ρ 47))
            simp only [pool, if_true, hr0, hr1, hr2, hr3, hr4, hr5, hr6, hr7, hr8, hr9, hr10, hr11, hr12, hr13, hr14, hr15, hr16, hr17, hr18, hr19, hr20, hr21, hr22, hr23, hr24, hr25, hr26, hr27, hr28, hr29, hr30, hr31, hr32, hr33, hr34, hr35, hr36, hr37, hr38, hr39, hr40, hr41, hr42, hr43, hr44, hr45, hr46, hr47, List.nil_append, List.cons_append, List.append_nil] at hS
            simp only [layf, hv0, hv1, hv2, hv3, hv4, hv5, hv6, hv7, hv8, hv9, hv10, hv11, hv12, hv13, hv14, hv15, hv16, hv17, hv18, hv19, hv20, hv21, hv22, hv23, hv24, hv25, hv26, hv27, hv28, hv29, hv30, hv31, hv32, hv33, hv34, hv35, hv36, hv37, hv38, hv39, hv40, hv41, hv42, hv43, hv44, hv45, hv46, hv47] at hf
            subst hf; clear hT hv0 hv1 hv2 hv3 hv4 hv5 hv6 hv7 hv8 hv9 hv10 hv11 hv12 hv13 hv14 hv15 hv16 hv17 hv18 hv19 hv20 hv21 hv22 hv23 hv24 hv25 hv26 hv27 hv28 hv29 hv30 hv31 hv32 hv33 hv34 hv35 hv36 hv37 hv38 hv39 hv40 hv41 hv42 hv43 hv44 hv45 hv46 hv47 hr0 hr1 hr2 hr3 hr4 hr5 hr6 hr7 hr8 hr9 hr10 hr11 hr12 hr13 hr14 hr15 hr16 hr17 hr18 hr19 hr20 hr21 hr22 hr23 hr24 hr25 hr26 hr27 hr28 hr29 hr30 hr31 hr32 hr33 hr34 hr35 hr36 hr37 hr38 hr39 hr40 hr41 hr42 hr43 hr44 hr45 hr46 hr47
            refine wdone rfl ?_
            refine thenN ?_
            refine wleave ?_
            refine wret1 Try.results9 (tellT (v := .bool true) rfl rfl) ?_
            exact ⟨_, _, rfl, isI, hS.new0⟩

theorem zring_any {b b2 b3 : Bool} {p q r : Option Addr} {n m k c d e : Nat} {xs ys zs : List Nat} {w : World} (hx : Sl w p n c xs) (hy : Sl w q m d ys) (hz : Sl w r k e zs) (hn : n ≤ 1048576) (hm : m ≤ 1048576) (hk : k ≤ 1048576) :
    Calls Try.prog 9 #[.agg #[.bool b, .slice p n c], .agg #[.bool b2, .slice q m d], .agg #[.bool b3, .slice r k e]] w (RetB w true) := by
  by_cases h2 : zv b2 (val ys) = 0
  · exact (zring_0 hx hy hz hn hm hk h2).mono Ret.b
  · exact (zring_nz hx hy hz hn hm hk h2).mono Ret.b

end Go.Proofs.Ytlnilkghbbbhbaa
