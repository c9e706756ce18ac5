
/-
  rat's functions of one fraction and of two.
-/
import Derived.Test.YtoinfkimlhhmpaaRatMade
set_option linter.unusedVariables false
set_option linter.unusedSimpArgs false
namespace Go.Proofs.Ytoinfkimlhhmpaa
open Go.RowKit

theorem cell_sub {w : World} {g o : Nat} {vs : List Value} (h : ∀ j v, vs[j]? = some v → w.cell? ⟨g, o + j, none⟩ = some v) (k : Nat) {us : List Value} (hu : us = (vs.drop k).take us.length) : ∀ j v, us[j]? = some v → w.cell? ⟨g, (o + k) + j, none⟩ = some v := by
  intro j v hj
  rw [Nat.add_assoc]
  refine h _ _ ?_
  have hl := (List.getElem?_eq_some_iff.1 hj).1
  rw [hu, List.getElem?_take, if_pos hl, List.getElem?_drop] at hj
  exact hj
theorem Rs.mono {w : World} {p : Option Addr} {m K K' : Nat} {L : List (Int × Int)} (h : Rs w p m L K) (hK : K ≤ K') : Rs w p m L K' := by
  refine ⟨h.1, h.2.1, fun i z hi => ?_⟩
  obtain ⟨g, off, b, q, n, k, b2, q2, n2, k2, hp, h1, h2, h3⟩ := h.2.2 i z hi
  exact ⟨g, off, b, q, n, k, b2, q2, n2, k2, hp, h1, h2.mono hK, h3.mono hK⟩
theorem Rs.e0 {w : World} {p : Option Addr} {m K : Nat} {e : Int × Int} {L : List (Int × Int)} (h : Rs w p m (e :: L) K) : ∃ g off b q n k b2 q2 n2 k2, p = some ⟨g, off, none⟩ ∧ (∀ j v, [Value.bool b, .slice q n k, .bool b2, .slice q2 n2 k2][j]? = some v → w.cell? ⟨g, off + 0 * 4 + j, none⟩ = some v) ∧ Zr w b q n k e.1 K ∧ Zr w b2 q2 n2 k2 e.2 K := h.2.2 0 e rfl
theorem Rs.e1 {w : World} {p : Option Addr} {m K : Nat} {e e2 : Int × Int} {L : List (Int × Int)} (h : Rs w p m (e2 :: e :: L) K) : ∃ g off b q n k b2 q2 n2 k2, p = some ⟨g, off, none⟩ ∧ (∀ j v, [Value.bool b, .slice q n k, .bool b2, .slice q2 n2 k2][j]? = some v → w.cell? ⟨g, off + 1 * 4 + j, none⟩ = some v) ∧ Zr w b q n k e.1 K ∧ Zr w b2 q2 n2 k2 e.2 K := h.2.2 1 e rfl
theorem wmR {F : FuncId} (hF : ∀ args w, (callFunc F args).run Try.prog w = .ok (.enter F args) w) {K : Nat} {z t E : Int} {L : List (Int × Int)} {w : World} {pl : Option Addr} {m cl : Nat} (hl : Rs w pl m L K) (hK : K ≤ 67108864) (hall : ∀ e ∈ L, e.2 ≠ 0) (hf : ∀ (w1 : World) (p : Option Addr) (c : Nat), Rs w1 p m (lows L) K → Calls Try.prog F #[.slice p m c] w1 (Ret (RRt z t E) w1)) :
    Calls Try.prog 53 #[.func (.func F) #[] #[], .slice pl m cl] w (Ret (RRt z t E) w) :=
  wmadeR hF (hl.mono hK) hall (fun R w0 w1 p c es hes hS => by
    rw [Array.append_empty]
    exact (hf w1 p c (hS.rs 0 rfl hes hl.1 hl.2.1 hl.wd)).mono fun e w' h => giveL hS h)
/-! ### Plain: with lowest terms for the given ones -/
theorem ne_mul {a b : Int} (ha : a ≠ 0) (hb : b ≠ 0) : a * b ≠ 0 := by
  intro h; rcases Int.mul_eq_zero.1 h with h | h
  · exact ha h
  · exact hb h
theorem low_add {x y u v : Int} (hy : y ≠ 0) (hv : v ≠ 0) : RN (RN x y * RD u v + RN u v * RD x y) (RD x y * RD u v) = RN (x * v + u * y) (y * v) ∧ RD (RN x y * RD u v + RN u v * RD x y) (RD x y * RD u v) = RD (x * v + u * y) (y * v) := by
  have h1 := R_cross x y; have h2 := R_cross u v
  have p1 := RD_pos (x := x) hy; have p2 := RD_pos (x := u) hv
  refine R_same (ne_mul (by omega) (by omega)) (ne_mul hy hv) ?_
  generalize RN x y = a at *; generalize RD x y = b at *; generalize RN u v = c at *; generalize RD u v = d at *
  clear p1 p2 hy hv
  grind
theorem low_sub {x y u v : Int} (hy : y ≠ 0) (hv : v ≠ 0) : RN (RN x y * RD u v - RN u v * RD x y) (RD x y * RD u v) = RN (x * v - u * y) (y * v) ∧ RD (RN x y * RD u v - RN u v * RD x y) (RD x y * RD u v) = RD (x * v - u * y) (y * v) := by
  have h1 := R_cross x y; have h2 := R_cross u v
  have p1 := RD_pos (x := x) hy; have p2 := RD_pos (x := u) hv
  refine R_same (ne_mul (by omega) (by omega)) (ne_mul hy hv) ?_
  generalize RN x y = a at *; generalize RD x y = b at *; generalize RN u v = c at *; generalize RD u v = d at *
  clear p1 p2 hy hv
  grind
theorem low_mul {x y u v : Int} (hy : y ≠ 0) (hv : v ≠ 0) : RN (RN x y * RN u v) (RD x y * RD u v) = RN (x * u) (y * v) ∧ RD (RN x y * RN u v) (RD x y * RD u v) = RD (x * u) (y * v) := by
  have h1 := R_cross x y; have h2 := R_cross u v
  have p1 := RD_pos (x := x) hy; have p2 := RD_pos (x := u) hv
  refine R_same (ne_mul (by omega) (by omega)) (ne_mul hy hv) ?_
  generalize RN x y = a at *; generalize RD x y = b at *; generalize RN u v = c at *; generalize RD u v = d at *
  clear p1 p2 hy hv
  grind
theorem low_quo {x y u v : Int} (hy : y ≠ 0) (hv : v ≠ 0) (hu : u ≠ 0) : RN (RN x y * RD u v) (RD x y * RN u v) = RN (x * v) (y * u) ∧ RD (RN x y * RD u v) (RD x y * RN u v) = RD (x * v) (y * u) := by
  have h1 := R_cross x y; have h2 := R_cross u v
  have p1 := RD_pos (x := x) hy
  have p2 : RN u v ≠ 0 := fun h => hu ((RN_zero hv).1 h)
  refine R_same (ne_mul (by omega) p2) (ne_mul hy hu) ?_
  generalize RN x y = a at *; generalize RD x y = b at *; generalize RN u v = c at *; generalize RD u v = d at *
  clear p1 p2 hy hv hu
  grind

set_option maxRecDepth 100000 in
set_option maxHeartbeats 16000000 in
theorem wradd1 {z t : Int} {x y u v : Int} {w : World} {pl : Option Addr} {cl : Nat} (hl : Rs w pl 2 [(x, y), (u, v)] 16777216) (hy : y ≠ 0) (hv : v ≠ 0) (hz : Hid (RN (x * v + u * y) (y * v) = z)) (ht : Hid (RD (x * v + u * y) (y * v) = t)) :
    Calls Try.prog 76 #[.slice pl 2 cl] w (Ret (RRt z t 0) w) := by
  obtain ⟨gA0, oA0, bA, qA, nA, kA, bB, qB, nB, kB, hp0, hc0, hzA, hzB⟩ := hl.e0
  obtain ⟨gC0, oC0, bC, qC, nC, kC, bD, qD, nD, kD, hp1, hc1, hzC, hzD⟩ := hl.e1
  have hS := Sep.init w
  refine went Try.func76 rfl (n := 35) rfl rfl ?_
  refine wseq ?_
  refine wreg ?_
  refine wl rfl (oalloc [.bool false, .slice none 0 0, .bool false, .slice none 0 0] hS rfl rfl Try.zeroValue27 rfl ?_)
  clear hS; intro g1 w2 hS
  refine wl rfl (oassign (v := .int .i64 0) rfl rfl (evc (v := .int .i64 0)) ?_)
  refine wnil ?_
  refine thenN ?_
  refine wseq ?_
  obtain ⟨z1, hz1⟩ : ∃ z : Int, Hid (x * v = z) := ⟨_, rfl⟩
  have hk1 : Wd z1 33554432 := Wd.mul hzA.wd hzD.wd hz1 (by omega)
  obtain ⟨z2, hz2⟩ : ∃ z : Int, Hid (u * y = z) := ⟨_, rfl⟩
  have hk2 : Wd z2 33554432 := Wd.mul hzC.wd hzB.wd hz2 (by omega)
  obtain ⟨z3, hz3⟩ : ∃ z : Int, Hid (z1 + z2 = z) := ⟨_, rfl⟩
  have hk3 : Wd z3 33554433 := Wd.add hk1 hk2 hz3 (by omega)
  obtain ⟨z4, hz4⟩ : ∃ z : Int, Hid (y * v = z) := ⟨_, rfl⟩
  have hk4 : Wd z4 33554432 := Wd.mul hzB.wd hzD.wd hz4 (by omega)
  obtain ⟨z5, hz5⟩ : ∃ z : Int, Hid (RN z3 z4 = z) := ⟨_, rfl⟩
  have hk5 : Wd z5 33554433 := Wd.rn hk3 hz5
  obtain ⟨z6, hz6⟩ : ∃ z : Int, Hid (RD z3 z4 = z) := ⟨_, rfl⟩
  have hk6 : Wd z6 33554432 := Wd.rd hk4 hz6
  refine wstage 31 [4, 5, 6, 7, 8, 9, 10, 11, 12, 13, 14, 15, 16, 17, 18, 19, 20, 21, 22, 23, 24, 25, 26, 27, 28, 29, 30, 31, 32, 33, 34] [[], [0], [1, 0], [2, 0, 1], [], [4], [5, 4], [6, 4, 5], [3, 7, 0, 1, 2, 4, 5, 6], [], [9], [10, 9], [11, 9, 10], [], [13], [14, 13], [15, 13, 14], [12, 16, 0, 1, 2, 3, 4, 5, 6, 7, 8, 9, 10, 11, 13, 14, 15], [8, 17, 0, 1, 2, 3, 4, 5, 6, 7, 9, 10, 11, 12, 13, 14, 15, 16], [], [19], [20, 19], [21, 19, 20], [], [23], [24, 23], [25, 23, 24], [22, 26, 0, 1, 2, 3, 4, 5, 6, 7, 8, 9, 10, 11, 12, 13, 14, 15, 16, 17, 18, 19, 20, 21, 23, 24, 25], [18, 27, 0, 1, 2, 3, 4, 5, 6, 7, 8, 9, 10, 11, 12, 13, 14, 15, 16, 17, 19, 20, 21, 22, 23, 24, 25, 26], [28, 0, 1, 2, 3, 4, 5, 6, 7, 8, 9, 10, 11, 12, 13, 14, 15, 16, 17, 18, 19, 20, 21, 22, 23, 24, 25, 26, 27], [28, 0, 1, 2, 3, 4, 5, 6, 7, 8, 9, 10, 11, 12, 13, 14, 15, 16, 17, 18, 19, 20, 21, 22, 23, 24, 25, 26, 27]] [[], [], [], [], [], [], [], [], [], [], [], [], [], [], [], [], [], [], [], [], [], [], [], [], [], [], [], [], [], [28], []] [] [] (fun i9 => ([fun _ => Is (.slice pl 2 cl), fun _ => Is (.pointer (some ⟨gA0, (oA0 + 0 * 4), none⟩)), fun _ => Is (.pointer (some ⟨gA0, ((oA0 + 0 * 4) + 0), none⟩)), fun _ => Is (.agg #[.bool bA, .slice qA nA kA]), fun _ => Is (.slice pl 2 cl), fun _ => Is (.pointer (some ⟨gC0, (oC0 + 1 * 4), none⟩)), fun _ => Is (.pointer (some ⟨gC0, ((oC0 + 1 * 4) + 2), none⟩)), fun _ => Is (.agg #[.bool bD, .slice qD nD kD]), fun _ => Zt z1, fun _ => Is (.slice pl 2 cl), fun _ => Is (.pointer (some ⟨gC0, (oC0 + 1 * 4), none⟩)), fun _ => Is (.pointer (some ⟨gC0, ((oC0 + 1 * 4) + 0), none⟩)), fun _ => Is (.agg #[.bool bC, .slice qC nC kC]), fun _ => Is (.slice pl 2 cl), fun _ => Is (.pointer (some ⟨gA0, (oA0 + 0 * 4), none⟩)), fun _ => Is (.pointer (some ⟨gA0, ((oA0 + 0 * 4) + 2), none⟩)), fun _ => Is (.agg #[.bool bB, .slice qB nB kB]), fun _ => Zt z2, fun _ => Zt z3, fun _ => Is (.slice pl 2 cl), fun _ => Is (.pointer (some ⟨gA0, (oA0 + 0 * 4), none⟩)), fun _ => Is (.pointer (some ⟨gA0, ((oA0 + 0 * 4) + 2), none⟩)), fun _ => Is (.agg #[.bool bB, .slice qB nB kB]), fun _ => Is (.slice pl 2 cl), fun _ => Is (.pointer (some ⟨gC0, (oC0 + 1 * 4), none⟩)), fun _ => Is (.pointer (some ⟨gC0, ((oC0 + 1 * 4) + 2), none⟩)), fun _ => Is (.agg #[.bool bD, .slice qD nD kD]), fun _ => Zt z4, fun _ => RRt z5 z6 0, fun us => Is (.agg #[.bool (ng z5), (vat (us.getD 0 undef) [0, 1]), .bool (ng z6), (vat (us.getD 0 undef) [0, 3])]), fun _ => Is (.int .i64 0)] : List (List Value → Tell)).getD i9 (fun _ _ _ => False)) (heldNil) (fun d _ _ _ _ h => (by cases d <;> exact h)) (by kernel_rfl) (by kernel_rfl) (by kernel_rfl) hS ?_ ?_
  ·
    refine stepsCons rfl ?_ ?_
    · intro Q f' w' ρ S ho hT hS hB
      exact .inl ⟨want_none rfl, omove (v := .slice pl 2 cl) rfl rfl (ev (v := .slice pl 2 cl) rfl (ho 0 rfl)) ⟨_, _, rfl, isI, New.same _⟩⟩
    refine stepsCons rfl ?_ ?_
    · intro Q f' w' ρ S ho hT hS hB
      obtain ⟨hv0, hr0⟩ := (hT 0 4 rfl rfl : (Is (.slice pl 2 cl)) (f' 4) (ρ 0))
      obtain hS := hS.flat1 hr0
      exact .inl ⟨want_none rfl, oindex (p := pl) (g := gA0) (off := oA0) (m := 2) (k := 0) (j := (oA0 + 0 * 4)) rfl rfl Try.runUnderlying38 Try.sizeOf27 (ev (v := .slice pl 2 cl) rfl hv0) (hp0) (evc (v := .int .i64 ((0 : Nat) : Int))) ((by omega)) rfl ⟨_, _, rfl, isI, New.same _⟩⟩
    refine stepsCons rfl ?_ ?_
    · intro Q f' w' ρ S ho hT hS hB
      obtain ⟨hv1, hr1⟩ := (hT 1 5 rfl rfl : (Is (.pointer (some ⟨gA0, (oA0 + 0 * 4), none⟩))) (f' 5) (ρ 1))
      obtain hS := hS.flat1 hr1
      exact .inl ⟨want_none rfl, ofieldAddr (g := gA0) (off := (oA0 + 0 * 4)) ((oA0 + 0 * 4) + 0) rfl rfl (ev (v := .pointer (some ⟨gA0, (oA0 + 0 * 4), none⟩)) rfl hv1) Try.runUnderlying27 rfl Try.sizeOf25 rfl ⟨_, _, rfl, isI, New.same _⟩⟩
    refine stepsCons rfl ?_ ?_
    · intro Q f' w' ρ S ho hT hS hB
      obtain ⟨hv2, hr2⟩ := (hT 2 6 rfl rfl : (Is (.pointer (some ⟨gA0, ((oA0 + 0 * 4) + 0), none⟩))) (f' 6) (ρ 2))
      obtain hS := hS.flat1 hr2
      exact .inl ⟨want_none rfl, oloadA (vs := [.bool bA, .slice qA nA kA]) aggZ rfl rfl (ev (v := .pointer (some ⟨gA0, ((oA0 + 0 * 4) + 0), none⟩)) rfl hv2) (fun j v hj => hS.cellAt ((cell_sub (us := [.bool bA, .slice qA nA kA]) hc0 0 rfl) j v hj)) rfl ⟨_, _, rfl, isI, New.same _⟩⟩
    refine stepsCons rfl ?_ ?_
    · intro Q f' w' ρ S ho hT hS hB
      exact .inl ⟨want_none rfl, omove (v := .slice pl 2 cl) rfl rfl (ev (v := .slice pl 2 cl) rfl (ho 0 rfl)) ⟨_, _, rfl, isI, New.same _⟩⟩
    refine stepsCons rfl ?_ ?_
    · intro Q f' w' ρ S ho hT hS hB
      obtain ⟨hv4, hr4⟩ := (hT 4 8 rfl rfl : (Is (.slice pl 2 cl)) (f' 8) (ρ 4))
      obtain hS := hS.flat1 hr4
      exact .inl ⟨want_none rfl, oindex (p := pl) (g := gC0) (off := oC0) (m := 2) (k := 1) (j := (oC0 + 1 * 4)) rfl rfl Try.runUnderlying38 Try.sizeOf27 (ev (v := .slice pl 2 cl) rfl hv4) (hp1) (evc (v := .int .i64 ((1 : Nat) : Int))) ((by omega)) rfl ⟨_, _, rfl, isI, New.same _⟩⟩
    refine stepsCons rfl ?_ ?_
    · intro Q f' w' ρ S ho hT hS hB
      obtain ⟨hv5, hr5⟩ := (hT 5 9 rfl rfl : (Is (.pointer (some ⟨gC0, (oC0 + 1 * 4), none⟩))) (f' 9) (ρ 5))
      obtain hS := hS.flat1 hr5
      exact .inl ⟨want_none rfl, ofieldAddr (g := gC0) (off := (oC0 + 1 * 4)) ((oC0 + 1 * 4) + 2) rfl rfl (ev (v := .pointer (some ⟨gC0, (oC0 + 1 * 4), none⟩)) rfl hv5) Try.runUnderlying27 rfl Try.sizeOf25 rfl ⟨_, _, rfl, isI, New.same _⟩⟩
    refine stepsCons rfl ?_ ?_
    · intro Q f' w' ρ S ho hT hS hB
      obtain ⟨hv6, hr6⟩ := (hT 6 10 rfl rfl : (Is (.pointer (some ⟨gC0, ((oC0 + 1 * 4) + 2), none⟩))) (f' 10) (ρ 6))
      obtain hS := hS.flat1 hr6
      exact .inl ⟨want_none rfl, oloadA (vs := [.bool bD, .slice qD nD kD]) aggZ rfl rfl (ev (v := .pointer (some ⟨gC0, ((oC0 + 1 * 4) + 2), none⟩)) rfl hv6) (fun j v hj => hS.cellAt ((cell_sub (us := [.bool bD, .slice qD nD kD]) hc1 2 rfl) j v hj)) rfl ⟨_, _, rfl, isI, New.same _⟩⟩
    refine stepsCons rfl ?_ ?_
    · intro Q f' w' ρ S ho hT hS hB
      obtain ⟨hv3, hr3⟩ := (hT 3 7 rfl rfl : (Is (.agg #[.bool bA, .slice qA nA kA])) (f' 7) (ρ 3))
      obtain ⟨hv7, hr7⟩ := (hT 7 11 rfl rfl : (Is (.agg #[.bool bD, .slice qD nD kD])) (f' 11) (ρ 7))
      obtain hS := hS.flat2 hr3 hr7
      refine .inl ⟨want_none rfl, ocall rfl rfl Try.call56 rfl (wzmul ((hzA.at hS).mono (by omega)) ((hzD.at hS).mono (by omega)) hz1) (args2 (ev rfl hv3) (ev rfl hv7)) ?_⟩
      rintro _ w9 ⟨_, _, rfl, hTT, hN⟩
      exact ⟨_, rfl, _, _, rfl, hTT, hN⟩
    refine stepsCons rfl ?_ ?_
    · intro Q f' w' ρ S ho hT hS hB
      exact .inl ⟨want_none rfl, omove (v := .slice pl 2 cl) rfl rfl (ev (v := .slice pl 2 cl) rfl (ho 0 rfl)) ⟨_, _, rfl, isI, New.same _⟩⟩
    refine stepsCons rfl ?_ ?_
    · intro Q f' w' ρ S ho hT hS hB
      obtain ⟨hv9, hr9⟩ := (hT 9 13 rfl rfl : (Is (.slice pl 2 cl)) (f' 13) (ρ 9))
      obtain hS := hS.flat1 hr9
      exact .inl ⟨want_none rfl, oindex (p := pl) (g := gC0) (off := oC0) (m := 2) (k := 1) (j := (oC0 + 1 * 4)) rfl rfl Try.runUnderlying38 Try.sizeOf27 (ev (v := .slice pl 2 cl) rfl hv9) (hp1) (evc (v := .int .i64 ((1 : Nat) : Int))) ((by omega)) rfl ⟨_, _, rfl, isI, New.same _⟩⟩
    refine stepsCons rfl ?_ ?_
    · intro Q f' w' ρ S ho hT hS hB
      obtain ⟨hv10, hr10⟩ := (hT 10 14 rfl rfl : (Is (.pointer (some ⟨gC0, (oC0 + 1 * 4), none⟩))) (f' 14) (ρ 10))
      obtain hS := hS.flat1 hr10
      exact .inl ⟨want_none rfl, ofieldAddr (g := gC0) (off := (oC0 + 1 * 4)) ((oC0 + 1 * 4) + 0) rfl rfl (ev (v := .pointer (some ⟨gC0, (oC0 + 1 * 4), none⟩)) rfl hv10) Try.runUnderlying27 rfl Try.sizeOf25 rfl ⟨_, _, rfl, isI, New.same _⟩⟩
    refine stepsCons rfl ?_ ?_
    · intro Q f' w' ρ S ho hT hS hB
      obtain ⟨hv11, hr11⟩ := (hT 11 15 rfl rfl : (Is (.pointer (some ⟨gC0, ((oC0 + 1 * 4) + 0), none⟩))) (f' 15) (ρ 11))
      obtain hS := hS.flat1 hr11
      exact .inl ⟨want_none rfl, oloadA (vs := [.bool bC, .slice qC nC kC]) aggZ rfl rfl (ev (v := .pointer (some ⟨gC0, ((oC0 + 1 * 4) + 0), none⟩)) rfl hv11) (fun j v hj => hS.cellAt ((cell_sub (us := [.bool bC, .slice qC nC kC]) hc1 0 rfl) j v hj)) rfl ⟨_, _, rfl, isI, New.same _⟩⟩
    refine stepsCons rfl ?_ ?_
    · intro Q f' w' ρ S ho hT hS hB
      exact .inl ⟨want_none rfl, omove (v := .slice pl 2 cl) rfl rfl (ev (v := .slice pl 2 cl) rfl (ho 0 rfl)) ⟨_, _, rfl, isI, New.same _⟩⟩
    refine stepsCons rfl ?_ ?_
    · intro Q f' w' ρ S ho hT hS hB
      obtain ⟨hv13, hr13⟩ := (hT 13 17 rfl rfl : (Is (.slice pl 2 cl)) (f' 17) (ρ 13))
      obtain hS := hS.flat1 hr13
      exact .inl ⟨want_none rfl, oindex (p := pl) (g := gA0) (off := oA0) (m := 2) (k := 0) (j := (oA0 + 0 * 4)) rfl rfl Try.runUnderlying38 Try.sizeOf27 (ev (v := .slice pl 2 cl) rfl hv13) (hp0) (evc (v := .int .i64 ((0 : Nat) : Int))) ((by omega)) rfl ⟨_, _, rfl, isI, New.same _⟩⟩
    refine stepsCons rfl ?_ ?_
    · intro Q f' w' ρ S ho hT hS hB
      obtain ⟨hv14, hr14⟩ := (hT 14 18 rfl rfl : (Is (.pointer (some ⟨gA0, (oA0 + 0 * 4), none⟩))) (f' 18) (ρ 14))
      obtain hS := hS.flat1 hr14
      exact .inl ⟨want_none rfl, ofieldAddr (g := gA0) (off := (oA0 + 0 * 4)) ((oA0 + 0 * 4) + 2) rfl rfl (ev (v := .pointer (some ⟨gA0, (oA0 + 0 * 4), none⟩)) rfl hv14) Try.runUnderlying27 rfl Try.sizeOf25 rfl ⟨_, _, rfl, isI, New.same _⟩⟩
    refine stepsCons rfl ?_ ?_
    · intro Q f' w' ρ S ho hT hS hB
      obtain ⟨hv15, hr15⟩ := (hT 15 19 rfl rfl : (Is (.pointer (some ⟨gA0, ((oA0 + 0 * 4) + 2), none⟩))) (f' 19) (ρ 15))
      obtain hS := hS.flat1 hr15
      exact .inl ⟨want_none rfl, oloadA (vs := [.bool bB, .slice qB nB kB]) aggZ rfl rfl (ev (v := .pointer (some ⟨gA0, ((oA0 + 0 * 4) + 2), none⟩)) rfl hv15) (fun j v hj => hS.cellAt ((cell_sub (us := [.bool bB, .slice qB nB kB]) hc0 2 rfl) j v hj)) rfl ⟨_, _, rfl, isI, New.same _⟩⟩
    refine stepsCons rfl ?_ ?_
    · intro Q f' w' ρ S ho hT hS hB
      obtain ⟨hv12, hr12⟩ := (hT 12 16 rfl rfl : (Is (.agg #[.bool bC, .slice qC nC kC])) (f' 16) (ρ 12))
      obtain ⟨hv16, hr16⟩ := (hT 16 20 rfl rfl : (Is (.agg #[.bool bB, .slice qB nB kB])) (f' 20) (ρ 16))
      obtain hS := hS.flat2 hr12 hr16
      refine .inl ⟨want_none rfl, ocall rfl rfl Try.call56 rfl (wzmul ((hzC.at hS).mono (by omega)) ((hzB.at hS).mono (by omega)) hz2) (args2 (ev rfl hv12) (ev rfl hv16)) ?_⟩
      rintro _ w9 ⟨_, _, rfl, hTT, hN⟩
      exact ⟨_, rfl, _, _, rfl, hTT, hN⟩
    refine stepsCons rfl ?_ ?_
    · intro Q f' w' ρ S ho hT hS hB
      obtain ⟨p1, n1, c1, hv8, hr8⟩ := (hT 8 12 rfl rfl : (Zt z1) (f' 12) (ρ 8))
      obtain ⟨p2, n2, c2, hv17, hr17⟩ := (hT 17 21 rfl rfl : (Zt z2) (f' 21) (ρ 17))
      obtain hS := hS.flat2 hr8 hr17
      refine .inl ⟨want_none rfl, ocall rfl rfl Try.call77 rfl (wzadd (((hS.sl 1 rfl).zr hk1).mono (by omega)) (((hS.sl 2 rfl).zr hk2).mono (by omega)) hz3) (args2 (ev rfl hv8) (ev rfl hv17)) ?_⟩
      rintro _ w9 ⟨_, _, rfl, hTT, hN⟩
      exact ⟨_, rfl, _, _, rfl, hTT, hN⟩
    refine stepsCons rfl ?_ ?_
    · intro Q f' w' ρ S ho hT hS hB
      exact .inl ⟨want_none rfl, omove (v := .slice pl 2 cl) rfl rfl (ev (v := .slice pl 2 cl) rfl (ho 0 rfl)) ⟨_, _, rfl, isI, New.same _⟩⟩
    refine stepsCons rfl ?_ ?_
    · intro Q f' w' ρ S ho hT hS hB
      obtain ⟨hv19, hr19⟩ := (hT 19 23 rfl rfl : (Is (.slice pl 2 cl)) (f' 23) (ρ 19))
      obtain hS := hS.flat1 hr19
      exact .inl ⟨want_none rfl, oindex (p := pl) (g := gA0) (off := oA0) (m := 2) (k := 0) (j := (oA0 + 0 * 4)) rfl rfl Try.runUnderlying38 Try.sizeOf27 (ev (v := .slice pl 2 cl) rfl hv19) (hp0) (evc (v := .int .i64 ((0 : Nat) : Int))) ((by omega)) rfl ⟨_, _, rfl, isI, New.same _⟩⟩
    refine stepsCons rfl ?_ ?_
    · intro Q f' w' ρ S ho hT hS hB
      obtain ⟨hv20, hr20⟩ := (hT 20 24 rfl rfl : (Is (.pointer (some ⟨gA0, (oA0 + 0 * 4), none⟩))) (f' 24) (ρ 20))
      obtain hS := hS.flat1 hr20
      exact .inl ⟨want_none rfl, ofieldAddr (g := gA0) (off := (oA0 + 0 * 4)) ((oA0 + 0 * 4) + 2) rfl rfl (ev (v := .pointer (some ⟨gA0, (oA0 + 0 * 4), none⟩)) rfl hv20) Try.runUnderlying27 rfl Try.sizeOf25 rfl ⟨_, _, rfl, isI, New.same _⟩⟩
    refine stepsCons rfl ?_ ?_
    · intro Q f' w' ρ S ho hT hS hB
      obtain ⟨hv21, hr21⟩ := (hT 21 25 rfl rfl : (Is (.pointer (some ⟨gA0, ((oA0 + 0 * 4) + 2), none⟩))) (f' 25) (ρ 21))
      obtain hS := hS.flat1 hr21
      exact .inl ⟨want_none rfl, oloadA (vs := [.bool bB, .slice qB nB kB]) aggZ rfl rfl (ev (v := .pointer (some ⟨gA0, ((oA0 + 0 * 4) + 2), none⟩)) rfl hv21) (fun j v hj => hS.cellAt ((cell_sub (us := [.bool bB, .slice qB nB kB]) hc0 2 rfl) j v hj)) rfl ⟨_, _, rfl, isI, New.same _⟩⟩
    refine stepsCons rfl ?_ ?_
    · intro Q f' w' ρ S ho hT hS hB
      exact .inl ⟨want_none rfl, omove (v := .slice pl 2 cl) rfl rfl (ev (v := .slice pl 2 cl) rfl (ho 0 rfl)) ⟨_, _, rfl, isI, New.same _⟩⟩
    refine stepsCons rfl ?_ ?_
    · intro Q f' w' ρ S ho hT hS hB
      obtain ⟨hv23, hr23⟩ := (hT 23 27 rfl rfl : (Is (.slice pl 2 cl)) (f' 27) (ρ 23))
      obtain hS := hS.flat1 hr23
      exact .inl ⟨want_none rfl, oindex (p := pl) (g := gC0) (off := oC0) (m := 2) (k := 1) (j := (oC0 + 1 * 4)) rfl rfl Try.runUnderlying38 Try.sizeOf27 (ev (v := .slice pl 2 cl) rfl hv23) (hp1) (evc (v := .int .i64 ((1 : Nat) : Int))) ((by omega)) rfl ⟨_, _, rfl, isI, New.same _⟩⟩
    refine stepsCons rfl ?_ ?_
    · intro Q f' w' ρ S ho hT hS hB
      obtain ⟨hv24, hr24⟩ := (hT 24 28 rfl rfl : (Is (.pointer (some ⟨gC0, (oC0 + 1 * 4), none⟩))) (f' 28) (ρ 24))
      obtain hS := hS.flat1 hr24
      exact .inl ⟨want_none rfl, ofieldAddr (g := gC0) (off := (oC0 + 1 * 4)) ((oC0 + 1 * 4) + 2) rfl rfl (ev (v := .pointer (some ⟨gC0, (oC0 + 1 * 4), none⟩)) rfl hv24) Try.runUnderlying27 rfl Try.sizeOf25 rfl ⟨_, _, rfl, isI, New.same _⟩⟩
    refine stepsCons rfl ?_ ?_
    · intro Q f' w' ρ S ho hT hS hB
      obtain ⟨hv25, hr25⟩ := (hT 25 29 rfl rfl : (Is (.pointer (some ⟨gC0, ((oC0 + 1 * 4) + 2), none⟩))) (f' 29) (ρ 25))
      obtain hS := hS.flat1 hr25
      exact .inl ⟨want_none rfl, oloadA (vs := [.bool bD, .slice qD nD kD]) aggZ rfl rfl (ev (v := .pointer (some ⟨gC0, ((oC0 + 1 * 4) + 2), none⟩)) rfl hv25) (fun j v hj => hS.cellAt ((cell_sub (us := [.bool bD, .slice qD nD kD]) hc1 2 rfl) j v hj)) rfl ⟨_, _, rfl, isI, New.same _⟩⟩
    refine stepsCons rfl ?_ ?_
    · intro Q f' w' ρ S ho hT hS hB
      obtain ⟨hv22, hr22⟩ := (hT 22 26 rfl rfl : (Is (.agg #[.bool bB, .slice qB nB kB])) (f' 26) (ρ 22))
      obtain ⟨hv26, hr26⟩ := (hT 26 30 rfl rfl : (Is (.agg #[.bool bD, .slice qD nD kD])) (f' 30) (ρ 26))
      obtain hS := hS.flat2 hr22 hr26
      refine .inl ⟨want_none rfl, ocall rfl rfl Try.call56 rfl (wzmul ((hzB.at hS).mono (by omega)) ((hzD.at hS).mono (by omega)) hz4) (args2 (ev rfl hv22) (ev rfl hv26)) ?_⟩
      rintro _ w9 ⟨_, _, rfl, hTT, hN⟩
      exact ⟨_, rfl, _, _, rfl, hTT, hN⟩
    refine stepsCons rfl ?_ ?_
    · intro Q f' w' ρ S ho hT hS hB
      obtain ⟨p3, n3, c3, hv18, hr18⟩ := (hT 18 22 rfl rfl : (Zt z3) (f' 22) (ρ 18))
      obtain ⟨p4, n4, c4, hv27, hr27⟩ := (hT 27 31 rfl rfl : (Zt z4) (f' 31) (ρ 27))
      obtain hS := hS.flat2 hr18 hr27
      refine .inl ⟨want_none rfl, ocall rfl rfl Try.call42 rfl (wrmake (((hS.sl 1 rfl).zr hk3).mono (by omega)) (((hS.sl 2 rfl).zr hk4).mono (by omega)) (by rw [← hz4.out]; exact ne_mul hy hv) hz5 hz6) (args2 (ev rfl hv18) (ev rfl hv27)) ?_⟩
      rintro _ w9 ⟨_, _, rfl, hTT, hN⟩
      exact ⟨_, rfl, _, _, rfl, hTT, hN⟩
    refine stepsCons rfl ?_ ?_
    · intro Q f' w' ρ S ho hT hS hB
      obtain ⟨p5, n5, c5, p6, n6, c6, hv28, hr28⟩ := (hT 28 32 rfl rfl : (RRt z5 z6 0) (f' 32) (ρ 28))
      obtain hS := hS.flat1 hr28
      have hQ : (.agg #[.bool (ng z5), .slice p5 n5 c5, .bool (ng z6), .slice p6 n6 c6] : Value) = (fun (us : List Value) => (.agg #[.bool (ng z5), (vat (us.getD 0 undef) [0, 1]), .bool (ng z6), (vat (us.getD 0 undef) [0, 3])] : Value)) [f' 32] := by show _ = (.agg #[.bool (ng z5), (vat (f' 32) [0, 1]), .bool (ng z6), (vat (f' 32) [0, 3])] : Value); rw [hv28]; rfl
      exact .inl ⟨want_none rfl, oextract (vs := [.agg #[.bool (ng z5), .slice p5 n5 c5, .bool (ng z6), .slice p6 n6 c6], .int .i64 0]) (v := .agg #[.bool (ng z5), .slice p5 n5 c5, .bool (ng z6), .slice p6 n6 c6]) rfl rfl (ev (v := .tuple #[.agg #[.bool (ng z5), .slice p5 n5 c5, .bool (ng z6), .slice p6 n6 c6], .int .i64 0]) rfl hv28) rfl ⟨_, _, rfl, ⟨hQ, rfl⟩, New.same _⟩⟩
    refine stepsCons rfl ?_ ?_
    · intro Q f' w' ρ S ho hT hS hB
      obtain ⟨p5, n5, c5, p6, n6, c6, hv28, hr28⟩ := (hT 28 32 rfl rfl : (RRt z5 z6 0) (f' 32) (ρ 28))
      obtain hS := hS.flat1 hr28
      exact .inl ⟨want_none rfl, oextract (vs := [.agg #[.bool (ng z5), .slice p5 n5 c5, .bool (ng z6), .slice p6 n6 c6], .int .i64 0]) (v := .int .i64 0) rfl rfl (ev (v := .tuple #[.agg #[.bool (ng z5), .slice p5 n5 c5, .bool (ng z6), .slice p6 n6 c6], .int .i64 0]) rfl hv28) rfl ⟨_, _, rfl, isI, New.same _⟩⟩
    exact stepsNil
  ·
    intro vs ρ w3 f' hf hT hS
    obtain ⟨hv0, hr0⟩ := (hT 0 (by decide) : (Is (.slice pl 2 cl)) (vs 0) (ρ 0))
    obtain ⟨hv1, hr1⟩ := (hT 1 (by decide) : (Is (.pointer (some ⟨gA0, (oA0 + 0 * 4), none⟩))) (vs 1) (ρ 1))
    obtain ⟨hv2, hr2⟩ := (hT 2 (by decide) : (Is (.pointer (some ⟨gA0, ((oA0 + 0 * 4) + 0), none⟩))) (vs 2) (ρ 2))
    obtain ⟨hv3, hr3⟩ := (hT 3 (by decide) : (Is (.agg #[.bool bA, .slice qA nA kA])) (vs 3) (ρ 3))
    obtain ⟨hv4, hr4⟩ := (hT 4 (by decide) : (Is (.slice pl 2 cl)) (vs 4) (ρ 4))
    obtain ⟨hv5, hr5⟩ := (hT 5 (by decide) : (Is (.pointer (some ⟨gC0, (oC0 + 1 * 4), none⟩))) (vs 5) (ρ 5))
    obtain ⟨hv6, hr6⟩ := (hT 6 (by decide) : (Is (.pointer (some ⟨gC0, ((oC0 + 1 * 4) + 2), none⟩))) (vs 6) (ρ 6))
    obtain ⟨hv7, hr7⟩ := (hT 7 (by decide) : (Is (.agg #[.bool bD, .slice qD nD kD])) (vs 7) (ρ 7))
    obtain ⟨p1, n1, c1, hv8, hr8⟩ := (hT 8 (by decide) : (Zt z1) (vs 8) (ρ 8))
    obtain ⟨hv9, hr9⟩ := (hT 9 (by decide) : (Is (.slice pl 2 cl)) (vs 9) (ρ 9))
    obtain ⟨hv10, hr10⟩ := (hT 10 (by decide) : (Is (.pointer (some ⟨gC0, (oC0 + 1 * 4), none⟩))) (vs 10) (ρ 10))
    obtain ⟨hv11, hr11⟩ := (hT 11 (by decide) : (Is (.pointer (some ⟨gC0, ((oC0 + 1 * 4) + 0), none⟩))) (vs 11) (ρ 11))
    obtain ⟨hv12, hr12⟩ := (hT 12 (by decide) : (Is (.agg #[.bool bC, .slice qC nC kC])) (vs 12) (ρ 12))
    obtain ⟨hv13, hr13⟩ := (hT 13 (by decide) : (Is (.slice pl 2 cl)) (vs 13) (ρ 13))
    obtain ⟨hv14, hr14⟩ := (hT 14 (by decide) : (Is (.pointer (some ⟨gA0, (oA0 + 0 * 4), none⟩))) (vs 14) (ρ 14))
    obtain ⟨hv15, hr15⟩ := (hT 15 (by decide) : (Is (.pointer (some ⟨gA0, ((oA0 + 0 * 4) + 2), none⟩))) (vs 15) (ρ 15))
    obtain ⟨hv16, hr16⟩ := (hT 16 (by decide) : (Is (.agg #[.bool bB, .slice qB nB kB])) (vs 16) (ρ 16))
    obtain ⟨p2, n2, c2, hv17, hr17⟩ := (hT 17 (by decide) : (Zt z2) (vs 17) (ρ 17))
    obtain ⟨p3, n3, c3, hv18, hr18⟩ := (hT 18 (by decide) : (Zt z3) (vs 18) (ρ 18))
    obtain ⟨hv19, hr19⟩ := (hT 19 (by decide) : (Is (.slice pl 2 cl)) (vs 19) (ρ 19))
    obtain ⟨hv20, hr20⟩ := (hT 20 (by decide) : (Is (.pointer (some ⟨gA0, (oA0 + 0 * 4), none⟩))) (vs 20) (ρ 20))
    obtain ⟨hv21, hr21⟩ := (hT 21 (by decide) : (Is (.pointer (some ⟨gA0, ((oA0 + 0 * 4) + 2), none⟩))) (vs 21) (ρ 21))
    obtain ⟨hv22, hr22⟩ := (hT 22 (by decide) : (Is (.agg #[.bool bB, .slice qB nB kB])) (vs 22) (ρ 22))
    obtain ⟨hv23, hr23⟩ := (hT 23 (by decide) : (Is (.slice pl 2 cl)) (vs 23) (ρ 23))
    obtain ⟨hv24, hr24⟩ := (hT 24 (by decide) : (Is (.pointer (some ⟨gC0, (oC0 + 1 * 4), none⟩))) (vs 24) (ρ 24))
    obtain ⟨hv25, hr25⟩ := (hT 25 (by decide) : (Is (.pointer (some ⟨gC0, ((oC0 + 1 * 4) + 2), none⟩))) (vs 25) (ρ 25))
    obtain ⟨hv26, hr26⟩ := (hT 26 (by decide) : (Is (.agg #[.bool bD, .slice qD nD kD])) (vs 26) (ρ 26))
    obtain ⟨p4, n4, c4, hv27, hr27⟩ := (hT 27 (by decide) : (Zt z4) (vs 27) (ρ 27))
    obtain ⟨p5, n5, c5, p6, n6, c6, hv28, hr28⟩ := (hT 28 (by decide) : (RRt z5 z6 0) (vs 28) (ρ 28))
    obtain ⟨hv29, hr29⟩ := (hT 29 (by decide) : (fun (us : List Value) => Is (.agg #[.bool (ng z5), (vat (us.getD 0 undef) [0, 1]), .bool (ng z6), (vat (us.getD 0 undef) [0, 3])])) [vs 28] (vs 29) (ρ 29))
    replace hv29 : vs 29 = .agg #[.bool (ng z5), .slice p5 n5 c5, .bool (ng z6), .slice p6 n6 c6] := hv29.trans (by show (.agg #[.bool (ng z5), (vat (vs 28) [0, 1]), .bool (ng z6), (vat (vs 28) [0, 3])] : Value) = _; rw [hv28]; rfl)
    obtain ⟨hv30, hr30⟩ := (hT 30 (by decide) : (Is (.int .i64 0)) (vs 30) (ρ 30))
    simp only [pool, if_true, hr0, hr1, hr2, hr3, hr4, hr5, hr6, hr7, hr8, hr9, hr10, hr11, hr12, hr13, hr14, hr15, hr16, hr17, hr18, hr19, hr20, hr21, hr22, hr23, hr24, hr25, hr26, hr27, hr28, hr29, hr30, List.nil_append, List.cons_append, List.append_nil] at hS
    simp only [layf, hv0, hv1, hv2, hv3, hv4, hv5, hv6, hv7, hv8, hv9, hv10, hv11, hv12, hv13, hv14, hv15, hv16, hv17, hv18, hv19, hv20, hv21, hv22, hv23, hv24, hv25, hv26, hv27, hv28, hv29, hv30] at hf
    subst hf; clear hT hv0 hv1 hv2 hv3 hv4 hv5 hv6 hv7 hv8 hv9 hv10 hv11 hv12 hv13 hv14 hv15 hv16 hv17 hv18 hv19 hv20 hv21 hv22 hv23 hv24 hv25 hv26 hv27 hv28 hv29 hv30 hr0 hr1 hr2 hr3 hr4 hr5 hr6 hr7 hr8 hr9 hr10 hr11 hr12 hr13 hr14 hr15 hr16 hr17 hr18 hr19 hr20 hr21 hr22 hr23 hr24 hr25 hr26 hr27 hr28 hr29 hr30
    refine wlate 31 rfl (by kernel_rfl) (ostore [.bool (ng z5), .slice p5 n5 c5, .bool (ng z6), .slice p6 n6 c6] [.bool (ng z5), .slice p5 n5 c5, .bool (ng z6), .slice p6 n6 c6] Try.sizeOf27 hS 6 rfl rfl (ev rfl rfl) (ev (v := .agg #[.bool (ng z5), .slice p5 n5 c5, .bool (ng z6), .slice p6 n6 c6]) rfl rfl) rfl rfl rfl rfl rfl rfl ?_)
    clear hS; intro w4 hS
    refine ⟨heldNil, ?_⟩
    refine wlate 32 rfl (by kernel_rfl) (oassign (v := .int .i64 0) rfl rfl (ev (v := .int .i64 0) rfl rfl) ?_)
    refine ⟨heldNil, ?_⟩
    refine wdone rfl ?_
    refine thenN ?_
    refine wleave ?_
    refine wret2 Try.results76 (tellC (cs := [.bool (ng z5), .slice p5 n5 c5, .bool (ng z6), .slice p6 n6 c6]) aggR hS 6 rfl rfl rfl rfl) (tellT (v := .int .i64 0) rfl rfl) ?_
    obtain rfl : z5 = z := (by rw [← hz5.out, ← hz3.out, ← hz1.out, ← hz2.out, ← hz4.out]; exact hz.out)
    obtain rfl : z6 = t := (by rw [← hz6.out, ← hz3.out, ← hz1.out, ← hz2.out, ← hz4.out]; exact ht.out)
    exact ⟨_, _, rfl, ⟨_, _, _, _, _, _, rfl, rfl⟩, hS.newM [0, 1] (by decide) rfl rfl⟩

set_option maxRecDepth 100000 in
set_option maxHeartbeats 16000000 in
theorem wrsub1 {z t : Int} {x y u v : Int} {w : World} {pl : Option Addr} {cl : Nat} (hl : Rs w pl 2 [(x, y), (u, v)] 16777216) (hy : y ≠ 0) (hv : v ≠ 0) (hz : Hid (RN (x * v - u * y) (y * v) = z)) (ht : Hid (RD (x * v - u * y) (y * v) = t)) :
    Calls Try.prog 78 #[.slice pl 2 cl] w (Ret (RRt z t 0) w) := by
  obtain ⟨gA0, oA0, bA, qA, nA, kA, bB, qB, nB, kB, hp0, hc0, hzA, hzB⟩ := hl.e0
  obtain ⟨gC0, oC0, bC, qC, nC, kC, bD, qD, nD, kD, hp1, hc1, hzC, hzD⟩ := hl.e1
  have hS := Sep.init w
  refine went Try.func78 rfl (n := 35) rfl rfl ?_
  refine wseq ?_
  refine wreg ?_
  refine wl rfl (oalloc [.bool false, .slice none 0 0, .bool false, .slice none 0 0] hS rfl rfl Try.zeroValue27 rfl ?_)
  clear hS; intro g1 w2 hS
  refine wl rfl (oassign (v := .int .i64 0) rfl rfl (evc (v := .int .i64 0)) ?_)
  refine wnil ?_
  refine thenN ?_
  refine wseq ?_
  obtain ⟨z1, hz1⟩ : ∃ z : Int, Hid (x * v = z) := ⟨_, rfl⟩
  have hk1 : Wd z1 33554432 := Wd.mul hzA.wd hzD.wd hz1 (by omega)
  obtain ⟨z2, hz2⟩ : ∃ z : Int, Hid (u * y = z) := ⟨_, rfl⟩
  have hk2 : Wd z2 33554432 := Wd.mul hzC.wd hzB.wd hz2 (by omega)
  obtain ⟨z3, hz3⟩ : ∃ z : Int, Hid (z1 - z2 = z) := ⟨_, rfl⟩
  have hk3 : Wd z3 33554433 := Wd.sub hk1 hk2 hz3 (by omega)
  obtain ⟨z4, hz4⟩ : ∃ z : Int, Hid (y * v = z) := ⟨_, rfl⟩
  have hk4 : Wd z4 33554432 := Wd.mul hzB.wd hzD.wd hz4 (by omega)
  obtain ⟨z5, hz5⟩ : ∃ z : Int, Hid (RN z3 z4 = z) := ⟨_, rfl⟩
  have hk5 : Wd z5 33554433 := Wd.rn hk3 hz5
  obtain ⟨z6, hz6⟩ : ∃ z : Int, Hid (RD z3 z4 = z) := ⟨_, rfl⟩
  have hk6 : Wd z6 33554432 := Wd.rd hk4 hz6
  refine wstage 31 [4, 5, 6, 7, 8, 9, 10, 11, 12, 13, 14, 15, 16, 17, 18, 19, 20, 21, 22, 23, 24, 25, 26, 27, 28, 29, 30, 31, 32, 33, 34] [[], [0], [1, 0], [2, 0, 1], [], [4], [5, 4], [6, 4, 5], [3, 7, 0, 1, 2, 4, 5, 6], [], [9], [10, 9], [11, 9, 10], [], [13], [14, 13], [15, 13, 14], [12, 16, 0, 1, 2, 3, 4, 5, 6, 7, 8, 9, 10, 11, 13, 14, 15], [8, 17, 0, 1, 2, 3, 4, 5, 6, 7, 9, 10, 11, 12, 13, 14, 15, 16], [], [19], [20, 19], [21, 19, 20], [], [23], [24, 23], [25, 23, 24], [22, 26, 0, 1, 2, 3, 4, 5, 6, 7, 8, 9, 10, 11, 12, 13, 14, 15, 16, 17, 18, 19, 20, 21, 23, 24, 25], [18, 27, 0, 1, 2, 3, 4, 5, 6, 7, 8, 9, 10, 11, 12, 13, 14, 15, 16, 17, 19, 20, 21, 22, 23, 24, 25, 26], [28, 0, 1, 2, 3, 4, 5, 6, 7, 8, 9, 10, 11, 12, 13, 14, 15, 16, 17, 18, 19, 20, 21, 22, 23, 24, 25, 26, 27], [28, 0, 1, 2, 3, 4, 5, 6, 7, 8, 9, 10, 11, 12, 13, 14, 15, 16, 17, 18, 19, 20, 21, 22, 23, 24, 25, 26, 27]] [[], [], [], [], [], [], [], [], [], [], [], [], [], [], [], [], [], [], [], [], [], [], [], [], [], [], [], [], [], [28], []] [] [] (fun i9 => ([fun _ => Is (.slice pl 2 cl), fun _ => Is (.pointer (some ⟨gA0, (oA0 + 0 * 4), none⟩)), fun _ => Is (.pointer (some ⟨gA0, ((oA0 + 0 * 4) + 0), none⟩)), fun _ => Is (.agg #[.bool bA, .slice qA nA kA]), fun _ => Is (.slice pl 2 cl), fun _ => Is (.pointer (some ⟨gC0, (oC0 + 1 * 4), none⟩)), fun _ => Is (.pointer (some ⟨gC0, ((oC0 + 1 * 4) + 2), none⟩)), fun _ => Is (.agg #[.bool bD, .slice qD nD kD]), fun _ => Zt z1, fun _ => Is (.slice pl 2 cl), fun _ => Is (.pointer (some ⟨gC0, (oC0 + 1 * 4), none⟩)), fun _ => Is (.pointer (some ⟨gC0, ((oC0 + 1 * 4) + 0), none⟩)), fun _ => Is (.agg #[.bool bC, .slice qC nC kC]), fun _ => Is (.slice pl 2 cl), fun _ => Is (.pointer (some ⟨gA0, (oA0 + 0 * 4), none⟩)), fun _ => Is (.pointer (some ⟨gA0, ((oA0 + 0 * 4) + 2), none⟩)), fun _ => Is (.agg #[.bool bB, .slice qB nB kB]), fun _ => Zt z2, fun _ => Zt z3, fun _ => Is (.slice pl 2 cl), fun _ => Is (.pointer (some ⟨gA0, (oA0 + 0 * 4), none⟩)), fun _ => Is (.pointer (some ⟨gA0, ((oA0 + 0 * 4) + 2), none⟩)), fun _ => Is (.agg #[.bool bB, .slice qB nB kB]), fun _ => Is (.slice pl 2 cl), fun _ => Is (.pointer (some ⟨gC0, (oC0 + 1 * 4), none⟩)), fun _ => Is (.pointer (some ⟨gC0, ((oC0 + 1 * 4) + 2), none⟩)), fun _ => Is (.agg #[.bool bD, .slice qD nD kD]), fun _ => Zt z4, fun _ => RRt z5 z6 0, fun us => Is (.agg #[.bool (ng z5), (vat (us.getD 0 undef) [0, 1]), .bool (ng z6), (vat (us.getD 0 undef) [0, 3])]), fun _ => Is (.int .i64 0)] : List (List Value → Tell)).getD i9 (fun _ _ _ => False)) (heldNil) (fun d _ _ _ _ h => (by cases d <;> exact h)) (by kernel_rfl) (by kernel_rfl) (by kernel_rfl) hS ?_ ?_
  ·
    refine stepsCons rfl ?_ ?_
    · intro Q f' w' ρ S ho hT hS hB
      exact .inl ⟨want_none rfl, omove (v := .slice pl 2 cl) rfl rfl (ev (v := .slice pl 2 cl) rfl (ho 0 rfl)) ⟨_, _, rfl, isI, New.same _⟩⟩
    refine stepsCons rfl ?_ ?_
    · intro Q f' w' ρ S ho hT hS hB
      obtain ⟨hv0, hr0⟩ := (hT 0 4 rfl rfl : (Is (.slice pl 2 cl)) (f' 4) (ρ 0))
      obtain hS := hS.flat1 hr0
      exact .inl ⟨want_none rfl, oindex (p := pl) (g := gA0) (off := oA0) (m := 2) (k := 0) (j := (oA0 + 0 * 4)) rfl rfl Try.runUnderlying38 Try.sizeOf27 (ev (v := .slice pl 2 cl) rfl hv0) (hp0) (evc (v := .int .i64 ((0 : Nat) : Int))) ((by omega)) rfl ⟨_, _, rfl, isI, New.same _⟩⟩
    refine stepsCons rfl ?_ ?_
    · intro Q f' w' ρ S ho hT hS hB
      obtain ⟨hv1, hr1⟩ := (hT 1 5 rfl rfl : (Is (.pointer (some ⟨gA0, (oA0 + 0 * 4), none⟩))) (f' 5) (ρ 1))
      obtain hS := hS.flat1 hr1
      exact .inl ⟨want_none rfl, ofieldAddr (g := gA0) (off := (oA0 + 0 * 4)) ((oA0 + 0 * 4) + 0) rfl rfl (ev (v := .pointer (some ⟨gA0, (oA0 + 0 * 4), none⟩)) rfl hv1) Try.runUnderlying27 rfl Try.sizeOf25 rfl ⟨_, _, rfl, isI, New.same _⟩⟩
    refine stepsCons rfl ?_ ?_
    · intro Q f' w' ρ S ho hT hS hB
      obtain ⟨hv2, hr2⟩ := (hT 2 6 rfl rfl : (Is (.pointer (some ⟨gA0, ((oA0 + 0 * 4) + 0), none⟩))) (f' 6) (ρ 2))
      obtain hS := hS.flat1 hr2
      exact .inl ⟨want_none rfl, oloadA (vs := [.bool bA, .slice qA nA kA]) aggZ rfl rfl (ev (v := .pointer (some ⟨gA0, ((oA0 + 0 * 4) + 0), none⟩)) rfl hv2) (fun j v hj => hS.cellAt ((cell_sub (us := [.bool bA, .slice qA nA kA]) hc0 0 rfl) j v hj)) rfl ⟨_, _, rfl, isI, New.same _⟩⟩
    refine stepsCons rfl ?_ ?_
    · intro Q f' w' ρ S ho hT hS hB
      exact .inl ⟨want_none rfl, omove (v := .slice pl 2 cl) rfl rfl (ev (v := .slice pl 2 cl) rfl (ho 0 rfl)) ⟨_, _, rfl, isI, New.same _⟩⟩
    refine stepsCons rfl ?_ ?_
    · intro Q f' w' ρ S ho hT hS hB
      obtain ⟨hv4, hr4⟩ := (hT 4 8 rfl rfl : (Is (.slice pl 2 cl)) (f' 8) (ρ 4))
      obtain hS := hS.flat1 hr4
      exact .inl ⟨want_none rfl, oindex (p := pl) (g := gC0) (off := oC0) (m := 2) (k := 1) (j := (oC0 + 1 * 4)) rfl rfl Try.runUnderlying38 Try.sizeOf27 (ev (v := .slice pl 2 cl) rfl hv4) (hp1) (evc (v := .int .i64 ((1 : Nat) : Int))) ((by omega)) rfl ⟨_, _, rfl, isI, New.same _⟩⟩
    refine stepsCons rfl ?_ ?_
    · intro Q f' w' ρ S ho hT hS hB
      obtain ⟨hv5, hr5⟩ := (hT 5 9 rfl rfl : (Is (.pointer (some ⟨gC0, (oC0 + 1 * 4), none⟩))) (f' 9) (ρ 5))
      obtain hS := hS.flat1 hr5
      exact .inl ⟨want_none rfl, ofieldAddr (g := gC0) (off := (oC0 + 1 * 4)) ((oC0 + 1 * 4) + 2) rfl rfl (ev (v := .pointer (some ⟨gC0, (oC0 + 1 * 4), none⟩)) rfl hv5) Try.runUnderlying27 rfl Try.sizeOf25 rfl ⟨_, _, rfl, isI, New.same _⟩⟩
    refine stepsCons rfl ?_ ?_
    · intro Q f' w' ρ S ho hT hS hB
      obtain ⟨hv6, hr6⟩ := (hT 6 10 rfl rfl : (Is (.pointer (some ⟨gC0, ((oC0 + 1 * 4) + 2), none⟩))) (f' 10) (ρ 6))
      obtain hS := hS.flat1 hr6
      exact .inl ⟨want_none rfl, oloadA (vs := [.bool bD, .slice qD nD kD]) aggZ rfl rfl (ev (v := .pointer (some ⟨gC0, ((oC0 + 1 * 4) + 2), none⟩)) rfl hv6) (fun j v hj => hS.cellAt ((cell_sub (us := [.bool bD, .slice qD nD kD]) hc1 2 rfl) j v hj)) rfl ⟨_, _, rfl, isI, New.same _⟩⟩
    refine stepsCons rfl ?_ ?_
    · intro Q f' w' ρ S ho hT hS hB
      obtain ⟨hv3, hr3⟩ := (hT 3 7 rfl rfl : (Is (.agg #[.bool bA, .slice qA nA kA])) (f' 7) (ρ 3))
      obtain ⟨hv7, hr7⟩ := (hT 7 11 rfl rfl : (Is (.agg #[.bool bD, .slice qD nD kD])) (f' 11) (ρ 7))
      obtain hS := hS.flat2 hr3 hr7
      refine .inl ⟨want_none rfl, ocall rfl rfl Try.call56 rfl (wzmul ((hzA.at hS).mono (by omega)) ((hzD.at hS).mono (by omega)) hz1) (args2 (ev rfl hv3) (ev rfl hv7)) ?_⟩
      rintro _ w9 ⟨_, _, rfl, hTT, hN⟩
      exact ⟨_, rfl, _, _, rfl, hTT, hN⟩
    refine stepsCons rfl ?_ ?_
    · intro Q f' w' ρ S ho hT hS hB
      exact .inl ⟨want_none rfl, omove (v := .slice pl 2 cl) rfl rfl (ev (v := .slice pl 2 cl) rfl (ho 0 rfl)) ⟨_, _, rfl, isI, New.same _⟩⟩
    refine stepsCons rfl ?_ ?_
    · intro Q f' w' ρ S ho hT hS hB
      obtain ⟨hv9, hr9⟩ := (hT 9 13 rfl rfl : (Is (.slice pl 2 cl)) (f' 13) (ρ 9))
      obtain hS := hS.flat1 hr9
      exact .inl ⟨want_none rfl, oindex (p := pl) (g := gC0) (off := oC0) (m := 2) (k := 1) (j := (oC0 + 1 * 4)) rfl rfl Try.runUnderlying38 Try.sizeOf27 (ev (v := .slice pl 2 cl) rfl hv9) (hp1) (evc (v := .int .i64 ((1 : Nat) : Int))) ((by omega)) rfl ⟨_, _, rfl, isI, New.same _⟩⟩
    refine stepsCons rfl ?_ ?_
    · intro Q f' w' ρ S ho hT hS hB
      obtain ⟨hv10, hr10⟩ := (hT 10 14 rfl rfl : (Is (.pointer (some ⟨gC0, (oC0 + 1 * 4), none⟩))) (f' 14) (ρ 10))
      obtain hS := hS.flat1 hr10
      exact .inl ⟨want_none rfl, ofieldAddr (g := gC0) (off := (oC0 + 1 * 4)) ((oC0 + 1 * 4) + 0) rfl rfl (ev (v := .pointer (some ⟨gC0, (oC0 + 1 * 4), none⟩)) rfl hv10) Try.runUnderlying27 rfl Try.sizeOf25 rfl ⟨_, _, rfl, isI, New.same _⟩⟩
    refine stepsCons rfl ?_ ?_
    · intro Q f' w' ρ S ho hT hS hB
      obtain ⟨hv11, hr11⟩ := (hT 11 15 rfl rfl : (Is (.pointer (some ⟨gC0, ((oC0 + 1 * 4) + 0), none⟩))) (f' 15) (ρ 11))
      obtain hS := hS.flat1 hr11
      exact .inl ⟨want_none rfl, oloadA (vs := [.bool bC, .slice qC nC kC]) aggZ rfl rfl (ev (v := .pointer (some ⟨gC0, ((oC0 + 1 * 4) + 0), none⟩)) rfl hv11) (fun j v hj => hS.cellAt ((cell_sub (us := [.bool bC, .slice qC nC kC]) hc1 0 rfl) j v hj)) rfl ⟨_, _, rfl, isI, New.same _⟩⟩
    refine stepsCons rfl ?_ ?_
    · intro Q f' w' ρ S ho hT hS hB
      exact .inl ⟨want_none rfl, omove (v := .slice pl 2 cl) rfl rfl (ev (v := .slice pl 2 cl) rfl (ho 0 rfl)) ⟨_, _, rfl, isI, New.same _⟩⟩
    refine stepsCons rfl ?_ ?_
    · intro Q f' w' ρ S ho hT hS hB
      obtain ⟨hv13, hr13⟩ := (hT 13 17 rfl rfl : (Is (.slice pl 2 cl)) (f' 17) (ρ 13))
      obtain hS := hS.flat1 hr13
      exact .inl ⟨want_none rfl, oindex (p := pl) (g := gA0) (off := oA0) (m := 2) (k := 0) (j := (oA0 + 0 * 4)) rfl rfl Try.runUnderlying38 Try.sizeOf27 (ev (v := .slice pl 2 cl) rfl hv13) (hp0) (evc (v := .int .i64 ((0 : Nat) : Int))) ((by omega)) rfl ⟨_, _, rfl, isI, New.same _⟩⟩
    refine stepsCons rfl ?_ ?_
    · intro Q f' w' ρ S ho hT hS hB
      obtain ⟨hv14, hr14⟩ := (hT 14 18 rfl rfl : (Is (.pointer (some ⟨gA0, (oA0 + 0 * 4), none⟩))) (f' 18) (ρ 14))
      obtain hS := hS.flat1 hr14
      exact .inl ⟨want_none rfl, ofieldAddr (g := gA0) (off := (oA0 + 0 * 4)) ((oA0 + 0 * 4) + 2) rfl rfl (ev (v := .pointer (some ⟨gA0, (oA0 + 0 * 4), none⟩)) rfl hv14) Try.runUnderlying27 rfl Try.sizeOf25 rfl ⟨_, _, rfl, isI, New.same _⟩⟩
    refine stepsCons rfl ?_ ?_
    · intro Q f' w' ρ S ho hT hS hB
      obtain ⟨hv15, hr15⟩ := (hT 15 19 rfl rfl : (Is (.pointer (some ⟨gA0, ((oA0 + 0 * 4) + 2), none⟩))) (f' 19) (ρ 15))
      obtain hS := hS.flat1 hr15
      exact .inl ⟨want_none rfl, oloadA (vs := [.bool bB, .slice qB nB kB]) aggZ rfl rfl (ev (v := .pointer (some ⟨gA0, ((oA0 + 0 * 4) + 2), none⟩)) rfl hv15) (fun j v hj => hS.cellAt ((cell_sub (us := [.bool bB, .slice qB nB kB]) hc0 2 rfl) j v hj)) rfl ⟨_, _, rfl, isI, New.same _⟩⟩
    refine stepsCons rfl ?_ ?_
    · intro Q f' w' ρ S ho hT hS hB
      obtain ⟨hv12, hr12⟩ := (hT 12 16 rfl rfl : (Is (.agg #[.bool bC, .slice qC nC kC])) (f' 16) (ρ 12))
      obtain ⟨hv16, hr16⟩ := (hT 16 20 rfl rfl : (Is (.agg #[.bool bB, .slice qB nB kB])) (f' 20) (ρ 16))
      obtain hS := hS.flat2 hr12 hr16
      refine .inl ⟨want_none rfl, ocall rfl rfl Try.call56 rfl (wzmul ((hzC.at hS).mono (by omega)) ((hzB.at hS).mono (by omega)) hz2) (args2 (ev rfl hv12) (ev rfl hv16)) ?_⟩
      rintro _ w9 ⟨_, _, rfl, hTT, hN⟩
      exact ⟨_, rfl, _, _, rfl, hTT, hN⟩
    refine stepsCons rfl ?_ ?_
    · intro Q f' w' ρ S ho hT hS hB
      obtain ⟨p1, n1, c1, hv8, hr8⟩ := (hT 8 12 rfl rfl : (Zt z1) (f' 12) (ρ 8))
      obtain ⟨p2, n2, c2, hv17, hr17⟩ := (hT 17 21 rfl rfl : (Zt z2) (f' 21) (ρ 17))
      obtain hS := hS.flat2 hr8 hr17
      refine .inl ⟨want_none rfl, ocall rfl rfl Try.call79 rfl (wzsub (((hS.sl 1 rfl).zr hk1).mono (by omega)) (((hS.sl 2 rfl).zr hk2).mono (by omega)) hz3) (args2 (ev rfl hv8) (ev rfl hv17)) ?_⟩
      rintro _ w9 ⟨_, _, rfl, hTT, hN⟩
      exact ⟨_, rfl, _, _, rfl, hTT, hN⟩
    refine stepsCons rfl ?_ ?_
    · intro Q f' w' ρ S ho hT hS hB
      exact .inl ⟨want_none rfl, omove (v := .slice pl 2 cl) rfl rfl (ev (v := .slice pl 2 cl) rfl (ho 0 rfl)) ⟨_, _, rfl, isI, New.same _⟩⟩
    refine stepsCons rfl ?_ ?_
    · intro Q f' w' ρ S ho hT hS hB
      obtain ⟨hv19, hr19⟩ := (hT 19 23 rfl rfl : (Is (.slice pl 2 cl)) (f' 23) (ρ 19))
      obtain hS := hS.flat1 hr19
      exact .inl ⟨want_none rfl, oindex (p := pl) (g := gA0) (off := oA0) (m := 2) (k := 0) (j := (oA0 + 0 * 4)) rfl rfl Try.runUnderlying38 Try.sizeOf27 (ev (v := .slice pl 2 cl) rfl hv19) (hp0) (evc (v := .int .i64 ((0 : Nat) : Int))) ((by omega)) rfl ⟨_, _, rfl, isI, New.same _⟩⟩
    refine stepsCons rfl ?_ ?_
    · intro Q f' w' ρ S ho hT hS hB
      obtain ⟨hv20, hr20⟩ := (hT 20 24 rfl rfl : (Is (.pointer (some ⟨gA0, (oA0 + 0 * 4), none⟩))) (f' 24) (ρ 20))
      obtain hS := hS.flat1 hr20
      exact .inl ⟨want_none rfl, ofieldAddr (g := gA0) (off := (oA0 + 0 * 4)) ((oA0 + 0 * 4) + 2) rfl rfl (ev (v := .pointer (some ⟨gA0, (oA0 + 0 * 4), none⟩)) rfl hv20) Try.runUnderlying27 rfl Try.sizeOf25 rfl ⟨_, _, rfl, isI, New.same _⟩⟩
    refine stepsCons rfl ?_ ?_
    · intro Q f' w' ρ S ho hT hS hB
      obtain ⟨hv21, hr21⟩ := (hT 21 25 rfl rfl : (Is (.pointer (some ⟨gA0, ((oA0 + 0 * 4) + 2), none⟩))) (f' 25) (ρ 21))
      obtain hS := hS.flat1 hr21
      exact .inl ⟨want_none rfl, oloadA (vs := [.bool bB, .slice qB nB kB]) aggZ rfl rfl (ev (v := .pointer (some ⟨gA0, ((oA0 + 0 * 4) + 2), none⟩)) rfl hv21) (fun j v hj => hS.cellAt ((cell_sub (us := [.bool bB, .slice qB nB kB]) hc0 2 rfl) j v hj)) rfl ⟨_, _, rfl, isI, New.same _⟩⟩
    refine stepsCons rfl ?_ ?_
    · intro Q f' w' ρ S ho hT hS hB
      exact .inl ⟨want_none rfl, omove (v := .slice pl 2 cl) rfl rfl (ev (v := .slice pl 2 cl) rfl (ho 0 rfl)) ⟨_, _, rfl, isI, New.same _⟩⟩
    refine stepsCons rfl ?_ ?_
    · intro Q f' w' ρ S ho hT hS hB
      obtain ⟨hv23, hr23⟩ := (hT 23 27 rfl rfl : (Is (.slice pl 2 cl)) (f' 27) (ρ 23))
      obtain hS := hS.flat1 hr23
      exact .inl ⟨want_none rfl, oindex (p := pl) (g := gC0) (off := oC0) (m := 2) (k := 1) (j := (oC0 + 1 * 4)) rfl rfl Try.runUnderlying38 Try.sizeOf27 (ev (v := .slice pl 2 cl) rfl hv23) (hp1) (evc (v := .int .i64 ((1 : Nat) : Int))) ((by omega)) rfl ⟨_, _, rfl, isI, New.same _⟩⟩
    refine stepsCons rfl ?_ ?_
    · intro Q f' w' ρ S ho hT hS hB
      obtain ⟨hv24, hr24⟩ := (hT 24 28 rfl rfl : (Is (.pointer (some ⟨gC0, (oC0 + 1 * 4), none⟩))) (f' 28) (ρ 24))
      obtain hS := hS.flat1 hr24
      exact .inl ⟨want_none rfl, ofieldAddr (g := gC0) (off := (oC0 + 1 * 4)) ((oC0 + 1 * 4) + 2) rfl rfl (ev (v := .pointer (some ⟨gC0, (oC0 + 1 * 4), none⟩)) rfl hv24) Try.runUnderlying27 rfl Try.sizeOf25 rfl ⟨_, _, rfl, isI, New.same _⟩⟩
    refine stepsCons rfl ?_ ?_
    · intro Q f' w' ρ S ho hT hS hB
      obtain ⟨hv25, hr25⟩ := (hT 25 29 rfl rfl : (Is (.pointer (some ⟨gC0, ((oC0 + 1 * 4) + 2), none⟩))) (f' 29) (ρ 25))
      obtain hS := hS.flat1 hr25
      exact .inl ⟨want_none rfl, oloadA (vs := [.bool bD, .slice qD nD kD]) aggZ rfl rfl (ev (v := .pointer (some ⟨gC0, ((oC0 + 1 * 4) + 2), none⟩)) rfl hv25) (fun j v hj => hS.cellAt ((cell_sub (us := [.bool bD, .slice qD nD kD]) hc1 2 rfl) j v hj)) rfl ⟨_, _, rfl, isI, New.same _⟩⟩
    refine stepsCons rfl ?_ ?_
    · intro Q f' w' ρ S ho hT hS hB
      obtain ⟨hv22, hr22⟩ := (hT 22 26 rfl rfl : (Is (.agg #[.bool bB, .slice qB nB kB])) (f' 26) (ρ 22))
      obtain ⟨hv26, hr26⟩ := (hT 26 30 rfl rfl : (Is (.agg #[.bool bD, .slice qD nD kD])) (f' 30) (ρ 26))
      obtain hS := hS.flat2 hr22 hr26
      refine .inl ⟨want_none rfl, ocall rfl rfl Try.call56 rfl (wzmul ((hzB.at hS).mono (by omega)) ((hzD.at hS).mono (by omega)) hz4) (args2 (ev rfl hv22) (ev rfl hv26)) ?_⟩
      rintro _ w9 ⟨_, _, rfl, hTT, hN⟩
      exact ⟨_, rfl, _, _, rfl, hTT, hN⟩
    refine stepsCons rfl ?_ ?_
    · intro Q f' w' ρ S ho hT hS hB
      obtain ⟨p3, n3, c3, hv18, hr18⟩ := (hT 18 22 rfl rfl : (Zt z3) (f' 22) (ρ 18))
      obtain ⟨p4, n4, c4, hv27, hr27⟩ := (hT 27 31 rfl rfl : (Zt z4) (f' 31) (ρ 27))
      obtain hS := hS.flat2 hr18 hr27
      refine .inl ⟨want_none rfl, ocall rfl rfl Try.call42 rfl (wrmake (((hS.sl 1 rfl).zr hk3).mono (by omega)) (((hS.sl 2 rfl).zr hk4).mono (by omega)) (by rw [← hz4.out]; exact ne_mul hy hv) hz5 hz6) (args2 (ev rfl hv18) (ev rfl hv27)) ?_⟩
      rintro _ w9 ⟨_, _, rfl, hTT, hN⟩
      exact ⟨_, rfl, _, _, rfl, hTT, hN⟩
    refine stepsCons rfl ?_ ?_
    · intro Q f' w' ρ S ho hT hS hB
      obtain ⟨p5, n5, c5, p6, n6, c6, hv28, hr28⟩ := (hT 28 32 rfl rfl : (RRt z5 z6 0) (f' 32) (ρ 28))
      obtain hS := hS.flat1 hr28
      have hQ : (.agg #[.bool (ng z5), .slice p5 n5 c5, .bool (ng z6), .slice p6 n6 c6] : Value) = (fun (us : List Value) => (.agg #[.bool (ng z5), (vat (us.getD 0 undef) [0, 1]), .bool (ng z6), (vat (us.getD 0 undef) [0, 3])] : Value)) [f' 32] := by show _ = (.agg #[.bool (ng z5), (vat (f' 32) [0, 1]), .bool (ng z6), (vat (f' 32) [0, 3])] : Value); rw [hv28]; rfl
      exact .inl ⟨want_none rfl, oextract (vs := [.agg #[.bool (ng z5), .slice p5 n5 c5, .bool (ng z6), .slice p6 n6 c6], .int .i64 0]) (v := .agg #[.bool (ng z5), .slice p5 n5 c5, .bool (ng z6), .slice p6 n6 c6]) rfl rfl (ev (v := .tuple #[.agg #[.bool (ng z5), .slice p5 n5 c5, .bool (ng z6), .slice p6 n6 c6], .int .i64 0]) rfl hv28) rfl ⟨_, _, rfl, ⟨hQ, rfl⟩, New.same _⟩⟩
    refine stepsCons rfl ?_ ?_
    · intro Q f' w' ρ S ho hT hS hB
      obtain ⟨p5, n5, c5, p6, n6, c6, hv28, hr28⟩ := (hT 28 32 rfl rfl : (RRt z5 z6 0) (f' 32) (ρ 28))
      obtain hS := hS.flat1 hr28
      exact .inl ⟨want_none rfl, oextract (vs := [.agg #[.bool (ng z5), .slice p5 n5 c5, .bool (ng z6), .slice p6 n6 c6], .int .i64 0]) (v := .int .i64 0) rfl rfl (ev (v := .tuple #[.agg #[.bool (ng z5), .slice p5 n5 c5, .bool (ng z6), .slice p6 n6 c6], .int .i64 0]) rfl hv28) rfl ⟨_, _, rfl, isI, New.same _⟩⟩
    exact stepsNil
  ·
    intro vs ρ w3 f' hf hT hS
    obtain ⟨hv0, hr0⟩ := (hT 0 (by decide) : (Is (.slice pl 2 cl)) (vs 0) (ρ 0))
    obtain ⟨hv1, hr1⟩ := (hT 1 (by decide) : (Is (.pointer (some ⟨gA0, (oA0 + 0 * 4), none⟩))) (vs 1) (ρ 1))
    obtain ⟨hv2, hr2⟩ := (hT 2 (by decide) : (Is (.pointer (some ⟨gA0, ((oA0 + 0 * 4) + 0), none⟩))) (vs 2) (ρ 2))
    obtain ⟨hv3, hr3⟩ := (hT 3 (by decide) : (Is (.agg #[.bool bA, .slice qA nA kA])) (vs 3) (ρ 3))
    obtain ⟨hv4, hr4⟩ := (hT 4 (by decide) : (Is (.slice pl 2 cl)) (vs 4) (ρ 4))
    obtain ⟨hv5, hr5⟩ := (hT 5 (by decide) : (Is (.pointer (some ⟨gC0, (oC0 + 1 * 4), none⟩))) (vs 5) (ρ 5))
    obtain ⟨hv6, hr6⟩ := (hT 6 (by decide) : (Is (.pointer (some ⟨gC0, ((oC0 + 1 * 4) + 2), none⟩))) (vs 6) (ρ 6))
    obtain ⟨hv7, hr7⟩ := (hT 7 (by decide) : (Is (.agg #[.bool bD, .slice qD nD kD])) (vs 7) (ρ 7))
    obtain ⟨p1, n1, c1, hv8, hr8⟩ := (hT 8 (by decide) : (Zt z1) (vs 8) (ρ 8))
    obtain ⟨hv9, hr9⟩ := (hT 9 (by decide) : (Is (.slice pl 2 cl)) (vs 9) (ρ 9))
    obtain ⟨hv10, hr10⟩ := (hT 10 (by decide) : (Is (.pointer (some ⟨gC0, (oC0 + 1 * 4), none⟩))) (vs 10) (ρ 10))
    obtain ⟨hv11, hr11⟩ := (hT 11 (by decide) : (Is (.pointer (some ⟨gC0, ((oC0 + 1 * 4) + 0), none⟩))) (vs 11) (ρ 11))
    obtain ⟨hv12, hr12⟩ := (hT 12 (by decide) : (Is (.agg #[.bool bC, .slice qC nC kC])) (vs 12) (ρ 12))
    obtain ⟨hv13, hr13⟩ := (hT 13 (by decide) : (Is (.slice pl 2 cl)) (vs 13) (ρ 13))
    obtain ⟨hv14, hr14⟩ := (hT 14 (by decide) : (Is (.pointer (some ⟨gA0, (oA0 + 0 * 4), none⟩))) (vs 14) (ρ 14))
    obtain ⟨hv15, hr15⟩ := (hT 15 (by decide) : (Is (.pointer (some ⟨gA0, ((oA0 + 0 * 4) + 2), none⟩))) (vs 15) (ρ 15))
    obtain ⟨hv16, hr16⟩ := (hT 16 (by decide) : (Is (.agg #[.bool bB, .slice qB nB kB])) (vs 16) (ρ 16))
    obtain ⟨p2, n2, c2, hv17, hr17⟩ := (hT 17 (by decide) : (Zt z2) (vs 17) (ρ 17))
    obtain ⟨p3, n3, c3, hv18, hr18⟩ := (hT 18 (by decide) : (Zt z3) (vs 18) (ρ 18))
    obtain ⟨hv19, hr19⟩ := (hT 19 (by decide) : (Is (.slice pl 2 cl)) (vs 19) (ρ 19))
    obtain ⟨hv20, hr20⟩ := (hT 20 (by decide) : (Is (.pointer (some ⟨gA0, (oA0 + 0 * 4), none⟩))) (vs 20) (ρ 20))
    obtain ⟨hv21, hr21⟩ := (hT 21 (by decide) : (Is (.pointer (some ⟨gA0, ((oA0 + 0 * 4) + 2), none⟩))) (vs 21) (ρ 21))
    obtain ⟨hv22, hr22⟩ := (hT 22 (by decide) : (Is (.agg #[.bool bB, .slice qB nB kB])) (vs 22) (ρ 22))
    obtain ⟨hv23, hr23⟩ := (hT 23 (by decide) : (Is (.slice pl 2 cl)) (vs 23) (ρ 23))
    obtain ⟨hv24, hr24⟩ := (hT 24 (by decide) : (Is (.pointer (some ⟨gC0, (oC0 + 1 * 4), none⟩))) (vs 24) (ρ 24))
    obtain ⟨hv25, hr25⟩ := (hT 25 (by decide) : (Is (.pointer (some ⟨gC0, ((oC0 + 1 * 4) + 2), none⟩))) (vs 25) (ρ 25))
    obtain ⟨hv26, hr26⟩ := (hT 26 (by decide) : (Is (.agg #[.bool bD, .slice qD nD kD])) (vs 26) (ρ 26))
    obtain ⟨p4, n4, c4, hv27, hr27⟩ := (hT 27 (by decide) : (Zt z4) (vs 27) (ρ 27))
    obtain ⟨p5, n5, c5, p6, n6, c6, hv28, hr28⟩ := (hT 28 (by decide) : (RRt z5 z6 0) (vs 28) (ρ 28))
    obtain ⟨hv29, hr29⟩ := (hT 29 (by decide) : (fun (us : List Value) => Is (.agg #[.bool (ng z5), (vat (us.getD 0 undef) [0, 1]), .bool (ng z6), (vat (us.getD 0 undef) [0, 3])])) [vs 28] (vs 29) (ρ 29))
    replace hv29 : vs 29 = .agg #[.bool (ng z5), .slice p5 n5 c5, .bool (ng z6), .slice p6 n6 c6] := hv29.trans (by show (.agg #[.bool (ng z5), (vat (vs 28) [0, 1]), .bool (ng z6), (vat (vs 28) [0, 3])] : Value) = _; rw [hv28]; rfl)
    obtain ⟨hv30, hr30⟩ := (hT 30 (by decide) : (Is (.int .i64 0)) (vs 30) (ρ 30))
    simp only [pool, if_true, hr0, hr1, hr2, hr3, hr4, hr5, hr6, hr7, hr8, hr9, hr10, hr11, hr12, hr13, hr14, hr15, hr16, hr17, hr18, hr19, hr20, hr21, hr22, hr23, hr24, hr25, hr26, hr27, hr28, hr29, hr30, List.nil_append, List.cons_append, List.append_nil] at hS
    simp only [layf, hv0, hv1, hv2, hv3, hv4, hv5, hv6, hv7, hv8, hv9, hv10, hv11, hv12, hv13, hv14, hv15, hv16, hv17, hv18, hv19, hv20, hv21, hv22, hv23, hv24, hv25, hv26, hv27, hv28, hv29, hv30] at hf
    subst hf; clear hT hv0 hv1 hv2 hv3 hv4 hv5 hv6 hv7 hv8 hv9 hv10 hv11 hv12 hv13 hv14 hv15 hv16 hv17 hv18 hv19 hv20 hv21 hv22 hv23 hv24 hv25 hv26 hv27 hv28 hv29 hv30 hr0 hr1 hr2 hr3 hr4 hr5 hr6 hr7 hr8 hr9 hr10 hr11 hr12 hr13 hr14 hr15 hr16 hr17 hr18 hr19 hr20 hr21 hr22 hr23 hr24 hr25 hr26 hr27 hr28 hr29 hr30
    refine wlate 31 rfl (by kernel_rfl) (ostore [.bool (ng z5), .slice p5 n5 c5, .bool (ng z6), .slice p6 n6 c6] [.bool (ng z5), .slice p5 n5 c5, .bool (ng z6), .slice p6 n6 c6] Try.sizeOf27 hS 6 rfl rfl (ev rfl rfl) (ev (v := .agg #[.bool (ng z5), .slice p5 n5 c5, .bool (ng z6), .slice p6 n6 c6]) rfl rfl) rfl rfl rfl rfl rfl rfl ?_)
    clear hS; intro w4 hS
    refine ⟨heldNil, ?_⟩
    refine wlate 32 rfl (by kernel_rfl) (oassign (v := .int .i64 0) rfl rfl (ev (v := .int .i64 0) rfl rfl) ?_)
    refine ⟨heldNil, ?_⟩
    refine wdone rfl ?_
    refine thenN ?_
    refine wleave ?_
    refine wret2 Try.results78 (tellC (cs := [.bool (ng z5), .slice p5 n5 c5, .bool (ng z6), .slice p6 n6 c6]) aggR hS 6 rfl rfl rfl rfl) (tellT (v := .int .i64 0) rfl rfl) ?_
    obtain rfl : z5 = z := (by rw [← hz5.out, ← hz3.out, ← hz1.out, ← hz2.out, ← hz4.out]; exact hz.out)
    obtain rfl : z6 = t := (by rw [← hz6.out, ← hz3.out, ← hz1.out, ← hz2.out, ← hz4.out]; exact ht.out)
    exact ⟨_, _, rfl, ⟨_, _, _, _, _, _, rfl, rfl⟩, hS.newM [0, 1] (by decide) rfl rfl⟩

set_option maxRecDepth 100000 in
set_option maxHeartbeats 16000000 in
theorem wrmul1 {z t : Int} {x y u v : Int} {w : World} {pl : Option Addr} {cl : Nat} (hl : Rs w pl 2 [(x, y), (u, v)] 16777216) (hy : y ≠ 0) (hv : v ≠ 0) (hz : Hid (RN (x * u) (y * v) = z)) (ht : Hid (RD (x * u) (y * v) = t)) :
    Calls Try.prog 80 #[.slice pl 2 cl] w (Ret (RRt z t 0) w) := by
  obtain ⟨gA0, oA0, bA, qA, nA, kA, bB, qB, nB, kB, hp0, hc0, hzA, hzB⟩ := hl.e0
  obtain ⟨gC0, oC0, bC, qC, nC, kC, bD, qD, nD, kD, hp1, hc1, hzC, hzD⟩ := hl.e1
  have hS := Sep.init w
  refine went Try.func80 rfl (n := 25) rfl rfl ?_
  refine wseq ?_
  refine wreg ?_
  refine wl rfl (oalloc [.bool false, .slice none 0 0, .bool false, .slice none 0 0] hS rfl rfl Try.zeroValue27 rfl ?_)
  clear hS; intro g1 w2 hS
  refine wl rfl (oassign (v := .int .i64 0) rfl rfl (evc (v := .int .i64 0)) ?_)
  refine wnil ?_
  refine thenN ?_
  refine wseq ?_
  obtain ⟨z1, hz1⟩ : ∃ z : Int, Hid (x * u = z) := ⟨_, rfl⟩
  have hk1 : Wd z1 33554432 := Wd.mul hzA.wd hzC.wd hz1 (by omega)
  obtain ⟨z2, hz2⟩ : ∃ z : Int, Hid (y * v = z) := ⟨_, rfl⟩
  have hk2 : Wd z2 33554432 := Wd.mul hzB.wd hzD.wd hz2 (by omega)
  obtain ⟨z3, hz3⟩ : ∃ z : Int, Hid (RN z1 z2 = z) := ⟨_, rfl⟩
  have hk3 : Wd z3 33554432 := Wd.rn hk1 hz3
  obtain ⟨z4, hz4⟩ : ∃ z : Int, Hid (RD z1 z2 = z) := ⟨_, rfl⟩
  have hk4 : Wd z4 33554432 := Wd.rd hk2 hz4
  refine wstage 21 [4, 5, 6, 7, 8, 9, 10, 11, 12, 13, 14, 15, 16, 17, 18, 19, 20, 21, 22, 23, 24] [[], [0], [1, 0], [2, 0, 1], [], [4], [5, 4], [6, 4, 5], [3, 7, 0, 1, 2, 4, 5, 6], [], [9], [10, 9], [11, 9, 10], [], [13], [14, 13], [15, 13, 14], [12, 16, 0, 1, 2, 3, 4, 5, 6, 7, 8, 9, 10, 11, 13, 14, 15], [8, 17, 0, 1, 2, 3, 4, 5, 6, 7, 9, 10, 11, 12, 13, 14, 15, 16], [18, 0, 1, 2, 3, 4, 5, 6, 7, 8, 9, 10, 11, 12, 13, 14, 15, 16, 17], [18, 0, 1, 2, 3, 4, 5, 6, 7, 8, 9, 10, 11, 12, 13, 14, 15, 16, 17]] [[], [], [], [], [], [], [], [], [], [], [], [], [], [], [], [], [], [], [], [18], []] [] [] (fun i9 => ([fun _ => Is (.slice pl 2 cl), fun _ => Is (.pointer (some ⟨gA0, (oA0 + 0 * 4), none⟩)), fun _ => Is (.pointer (some ⟨gA0, ((oA0 + 0 * 4) + 0), none⟩)), fun _ => Is (.agg #[.bool bA, .slice qA nA kA]), fun _ => Is (.slice pl 2 cl), fun _ => Is (.pointer (some ⟨gC0, (oC0 + 1 * 4), none⟩)), fun _ => Is (.pointer (some ⟨gC0, ((oC0 + 1 * 4) + 0), none⟩)), fun _ => Is (.agg #[.bool bC, .slice qC nC kC]), fun _ => Zt z1, fun _ => Is (.slice pl 2 cl), fun _ => Is (.pointer (some ⟨gA0, (oA0 + 0 * 4), none⟩)), fun _ => Is (.pointer (some ⟨gA0, ((oA0 + 0 * 4) + 2), none⟩)), fun _ => Is (.agg #[.bool bB, .slice qB nB kB]), fun _ => Is (.slice pl 2 cl), fun _ => Is (.pointer (some ⟨gC0, (oC0 + 1 * 4), none⟩)), fun _ => Is (.pointer (some ⟨gC0, ((oC0 + 1 * 4) + 2), none⟩)), fun _ => Is (.agg #[.bool bD, .slice qD nD kD]), fun _ => Zt z2, fun _ => RRt z3 z4 0, fun us => Is (.agg #[.bool (ng z3), (vat (us.getD 0 undef) [0, 1]), .bool (ng z4), (vat (us.getD 0 undef) [0, 3])]), fun _ => Is (.int .i64 0)] : List (List Value → Tell)).getD i9 (fun _ _ _ => False)) (heldNil) (fun d _ _ _ _ h => (by cases d <;> exact h)) (by kernel_rfl) (by kernel_rfl) (by kernel_rfl) hS ?_ ?_
  ·
    refine stepsCons rfl ?_ ?_
    · intro Q f' w' ρ S ho hT hS hB
      exact .inl ⟨want_none rfl, omove (v := .slice pl 2 cl) rfl rfl (ev (v := .slice pl 2 cl) rfl (ho 0 rfl)) ⟨_, _, rfl, isI, New.same _⟩⟩
    refine stepsCons rfl ?_ ?_
    · intro Q f' w' ρ S ho hT hS hB
      obtain ⟨hv0, hr0⟩ := (hT 0 4 rfl rfl : (Is (.slice pl 2 cl)) (f' 4) (ρ 0))
      obtain hS := hS.flat1 hr0
      exact .inl ⟨want_none rfl, oindex (p := pl) (g := gA0) (off := oA0) (m := 2) (k := 0) (j := (oA0 + 0 * 4)) rfl rfl Try.runUnderlying38 Try.sizeOf27 (ev (v := .slice pl 2 cl) rfl hv0) (hp0) (evc (v := .int .i64 ((0 : Nat) : Int))) ((by omega)) rfl ⟨_, _, rfl, isI, New.same _⟩⟩
    refine stepsCons rfl ?_ ?_
    · intro Q f' w' ρ S ho hT hS hB
      obtain ⟨hv1, hr1⟩ := (hT 1 5 rfl rfl : (Is (.pointer (some ⟨gA0, (oA0 + 0 * 4), none⟩))) (f' 5) (ρ 1))
      obtain hS := hS.flat1 hr1
      exact .inl ⟨want_none rfl, ofieldAddr (g := gA0) (off := (oA0 + 0 * 4)) ((oA0 + 0 * 4) + 0) rfl rfl (ev (v := .pointer (some ⟨gA0, (oA0 + 0 * 4), none⟩)) rfl hv1) Try.runUnderlying27 rfl Try.sizeOf25 rfl ⟨_, _, rfl, isI, New.same _⟩⟩
    refine stepsCons rfl ?_ ?_
    · intro Q f' w' ρ S ho hT hS hB
      obtain ⟨hv2, hr2⟩ := (hT 2 6 rfl rfl : (Is (.pointer (some ⟨gA0, ((oA0 + 0 * 4) + 0), none⟩))) (f' 6) (ρ 2))
      obtain hS := hS.flat1 hr2
      exact .inl ⟨want_none rfl, oloadA (vs := [.bool bA, .slice qA nA kA]) aggZ rfl rfl (ev (v := .pointer (some ⟨gA0, ((oA0 + 0 * 4) + 0), none⟩)) rfl hv2) (fun j v hj => hS.cellAt ((cell_sub (us := [.bool bA, .slice qA nA kA]) hc0 0 rfl) j v hj)) rfl ⟨_, _, rfl, isI, New.same _⟩⟩
    refine stepsCons rfl ?_ ?_
    · intro Q f' w' ρ S ho hT hS hB
      exact .inl ⟨want_none rfl, omove (v := .slice pl 2 cl) rfl rfl (ev (v := .slice pl 2 cl) rfl (ho 0 rfl)) ⟨_, _, rfl, isI, New.same _⟩⟩
    refine stepsCons rfl ?_ ?_
    · intro Q f' w' ρ S ho hT hS hB
      obtain ⟨hv4, hr4⟩ := (hT 4 8 rfl rfl : (Is (.slice pl 2 cl)) (f' 8) (ρ 4))
      obtain hS := hS.flat1 hr4
      exact .inl ⟨want_none rfl, oindex (p := pl) (g := gC0) (off := oC0) (m := 2) (k := 1) (j := (oC0 + 1 * 4)) rfl rfl Try.runUnderlying38 Try.sizeOf27 (ev (v := .slice pl 2 cl) rfl hv4) (hp1) (evc (v := .int .i64 ((1 : Nat) : Int))) ((by omega)) rfl ⟨_, _, rfl, isI, New.same _⟩⟩
    refine stepsCons rfl ?_ ?_
    · intro Q f' w' ρ S ho hT hS hB
      obtain ⟨hv5, hr5⟩ := (hT 5 9 rfl rfl : (Is (.pointer (some ⟨gC0, (oC0 + 1 * 4), none⟩))) (f' 9) (ρ 5))
      obtain hS := hS.flat1 hr5
      exact .inl ⟨want_none rfl, ofieldAddr (g := gC0) (off := (oC0 + 1 * 4)) ((oC0 + 1 * 4) + 0) rfl rfl (ev (v := .pointer (some ⟨gC0, (oC0 + 1 * 4), none⟩)) rfl hv5) Try.runUnderlying27 rfl Try.sizeOf25 rfl ⟨_, _, rfl, isI, New.same _⟩⟩
    refine stepsCons rfl ?_ ?_
    · intro Q f' w' ρ S ho hT hS hB
      obtain ⟨hv6, hr6⟩ := (hT 6 10 rfl rfl : (Is (.pointer (some ⟨gC0, ((oC0 + 1 * 4) + 0), none⟩))) (f' 10) (ρ 6))
      obtain hS := hS.flat1 hr6
      exact .inl ⟨want_none rfl, oloadA (vs := [.bool bC, .slice qC nC kC]) aggZ rfl rfl (ev (v := .pointer (some ⟨gC0, ((oC0 + 1 * 4) + 0), none⟩)) rfl hv6) (fun j v hj => hS.cellAt ((cell_sub (us := [.bool bC, .slice qC nC kC]) hc1 0 rfl) j v hj)) rfl ⟨_, _, rfl, isI, New.same _⟩⟩
    refine stepsCons rfl ?_ ?_
    · intro Q f' w' ρ S ho hT hS hB
      obtain ⟨hv3, hr3⟩ := (hT 3 7 rfl rfl : (Is (.agg #[.bool bA, .slice qA nA kA])) (f' 7) (ρ 3))
      obtain ⟨hv7, hr7⟩ := (hT 7 11 rfl rfl : (Is (.agg #[.bool bC, .slice qC nC kC])) (f' 11) (ρ 7))
      obtain hS := hS.flat2 hr3 hr7
      refine .inl ⟨want_none rfl, ocall rfl rfl Try.call56 rfl (wzmul ((hzA.at hS).mono (by omega)) ((hzC.at hS).mono (by omega)) hz1) (args2 (ev rfl hv3) (ev rfl hv7)) ?_⟩
      rintro _ w9 ⟨_, _, rfl, hTT, hN⟩
      exact ⟨_, rfl, _, _, rfl, hTT, hN⟩
    refine stepsCons rfl ?_ ?_
    · intro Q f' w' ρ S ho hT hS hB
      exact .inl ⟨want_none rfl, omove (v := .slice pl 2 cl) rfl rfl (ev (v := .slice pl 2 cl) rfl (ho 0 rfl)) ⟨_, _, rfl, isI, New.same _⟩⟩
    refine stepsCons rfl ?_ ?_
    · intro Q f' w' ρ S ho hT hS hB
      obtain ⟨hv9, hr9⟩ := (hT 9 13 rfl rfl : (Is (.slice pl 2 cl)) (f' 13) (ρ 9))
      obtain hS := hS.flat1 hr9
      exact .inl ⟨want_none rfl, oindex (p := pl) (g := gA0) (off := oA0) (m := 2) (k := 0) (j := (oA0 + 0 * 4)) rfl rfl Try.runUnderlying38 Try.sizeOf27 (ev (v := .slice pl 2 cl) rfl hv9) (hp0) (evc (v := .int .i64 ((0 : Nat) : Int))) ((by omega)) rfl ⟨_, _, rfl, isI, New.same _⟩⟩
    refine stepsCons rfl ?_ ?_
    · intro Q f' w' ρ S ho hT hS hB
      obtain ⟨hv10, hr10⟩ := (hT 10 14 rfl rfl : (Is (.pointer (some ⟨gA0, (oA0 + 0 * 4), none⟩))) (f' 14) (ρ 10))
      obtain hS := hS.flat1 hr10
      exact .inl ⟨want_none rfl, ofieldAddr (g := gA0) (off := (oA0 + 0 * 4)) ((oA0 + 0 * 4) + 2) rfl rfl (ev (v := .pointer (some ⟨gA0, (oA0 + 0 * 4), none⟩)) rfl hv10) Try.runUnderlying27 rfl Try.sizeOf25 rfl ⟨_, _, rfl, isI, New.same _⟩⟩
    refine stepsCons rfl ?_ ?_
    · intro Q f' w' ρ S ho hT hS hB
      obtain ⟨hv11, hr11⟩ := (hT 11 15 rfl rfl : (Is (.pointer (some ⟨gA0, ((oA0 + 0 * 4) + 2), none⟩))) (f' 15) (ρ 11))
      obtain hS := hS.flat1 hr11
      exact .inl ⟨want_none rfl, oloadA (vs := [.bool bB, .slice qB nB kB]) aggZ rfl rfl (ev (v := .pointer (some ⟨gA0, ((oA0 + 0 * 4) + 2), none⟩)) rfl hv11) (fun j v hj => hS.cellAt ((cell_sub (us := [.bool bB, .slice qB nB kB]) hc0 2 rfl) j v hj)) rfl ⟨_, _, rfl, isI, New.same _⟩⟩
    refine stepsCons rfl ?_ ?_
    · intro Q f' w' ρ S ho hT hS hB
      exact .inl ⟨want_none rfl, omove (v := .slice pl 2 cl) rfl rfl (ev (v := .slice pl 2 cl) rfl (ho 0 rfl)) ⟨_, _, rfl, isI, New.same _⟩⟩
    refine stepsCons rfl ?_ ?_
    · intro Q f' w' ρ S ho hT hS hB
      obtain ⟨hv13, hr13⟩ := (hT 13 17 rfl rfl : (Is (.slice pl 2 cl)) (f' 17) (ρ 13))
      obtain hS := hS.flat1 hr13
      exact .inl ⟨want_none rfl, oindex (p := pl) (g := gC0) (off := oC0) (m := 2) (k := 1) (j := (oC0 + 1 * 4)) rfl rfl Try.runUnderlying38 Try.sizeOf27 (ev (v := .slice pl 2 cl) rfl hv13) (hp1) (evc (v := .int .i64 ((1 : Nat) : Int))) ((by omega)) rfl ⟨_, _, rfl, isI, New.same _⟩⟩
    refine stepsCons rfl ?_ ?_
    · intro Q f' w' ρ S ho hT hS hB
      obtain ⟨hv14, hr14⟩ := (hT 14 18 rfl rfl : (Is (.pointer (some ⟨gC0, (oC0 + 1 * 4), none⟩))) (f' 18) (ρ 14))
      obtain hS := hS.flat1 hr14
      exact .inl ⟨want_none rfl, ofieldAddr (g := gC0) (off := (oC0 + 1 * 4)) ((oC0 + 1 * 4) + 2) rfl rfl (ev (v := .pointer (some ⟨gC0, (oC0 + 1 * 4), none⟩)) rfl hv14) Try.runUnderlying27 rfl Try.sizeOf25 rfl ⟨_, _, rfl, isI, New.same _⟩⟩
    refine stepsCons rfl ?_ ?_
    · intro Q f' w' ρ S ho hT hS hB
      obtain ⟨hv15, hr15⟩ := (hT 15 19 rfl rfl : (Is (.pointer (some ⟨gC0, ((oC0 + 1 * 4) + 2), none⟩))) (f' 19) (ρ 15))
      obtain hS := hS.flat1 hr15
      exact .inl ⟨want_none rfl, oloadA (vs := [.bool bD, .slice qD nD kD]) aggZ rfl rfl (ev (v := .pointer (some ⟨gC0, ((oC0 + 1 * 4) + 2), none⟩)) rfl hv15) (fun j v hj => hS.cellAt ((cell_sub (us := [.bool bD, .slice qD nD kD]) hc1 2 rfl) j v hj)) rfl ⟨_, _, rfl, isI, New.same _⟩⟩
    refine stepsCons rfl ?_ ?_
    · intro Q f' w' ρ S ho hT hS hB
      obtain ⟨hv12, hr12⟩ := (hT 12 16 rfl rfl : (Is (.agg #[.bool bB, .slice qB nB kB])) (f' 16) (ρ 12))
      obtain ⟨hv16, hr16⟩ := (hT 16 20 rfl rfl : (Is (.agg #[.bool bD, .slice qD nD kD])) (f' 20) (ρ 16))
      obtain hS := hS.flat2 hr12 hr16
      refine .inl ⟨want_none rfl, ocall rfl rfl Try.call56 rfl (wzmul ((hzB.at hS).mono (by omega)) ((hzD.at hS).mono (by omega)) hz2) (args2 (ev rfl hv12) (ev rfl hv16)) ?_⟩
      rintro _ w9 ⟨_, _, rfl, hTT, hN⟩
      exact ⟨_, rfl, _, _, rfl, hTT, hN⟩
    refine stepsCons rfl ?_ ?_
    · intro Q f' w' ρ S ho hT hS hB
      obtain ⟨p1, n1, c1, hv8, hr8⟩ := (hT 8 12 rfl rfl : (Zt z1) (f' 12) (ρ 8))
      obtain ⟨p2, n2, c2, hv17, hr17⟩ := (hT 17 21 rfl rfl : (Zt z2) (f' 21) (ρ 17))
      obtain hS := hS.flat2 hr8 hr17
      refine .inl ⟨want_none rfl, ocall rfl rfl Try.call42 rfl (wrmake (((hS.sl 1 rfl).zr hk1).mono (by omega)) (((hS.sl 2 rfl).zr hk2).mono (by omega)) (by rw [← hz2.out]; exact ne_mul hy hv) hz3 hz4) (args2 (ev rfl hv8) (ev rfl hv17)) ?_⟩
      rintro _ w9 ⟨_, _, rfl, hTT, hN⟩
      exact ⟨_, rfl, _, _, rfl, hTT, hN⟩
    refine stepsCons rfl ?_ ?_
    · intro Q f' w' ρ S ho hT hS hB
      obtain ⟨p3, n3, c3, p4, n4, c4, hv18, hr18⟩ := (hT 18 22 rfl rfl : (RRt z3 z4 0) (f' 22) (ρ 18))
      obtain hS := hS.flat1 hr18
      have hQ : (.agg #[.bool (ng z3), .slice p3 n3 c3, .bool (ng z4), .slice p4 n4 c4] : Value) = (fun (us : List Value) => (.agg #[.bool (ng z3), (vat (us.getD 0 undef) [0, 1]), .bool (ng z4), (vat (us.getD 0 undef) [0, 3])] : Value)) [f' 22] := by show _ = (.agg #[.bool (ng z3), (vat (f' 22) [0, 1]), .bool (ng z4), (vat (f' 22) [0, 3])] : Value); rw [hv18]; rfl
      exact .inl ⟨want_none rfl, oextract (vs := [.agg #[.bool (ng z3), .slice p3 n3 c3, .bool (ng z4), .slice p4 n4 c4], .int .i64 0]) (v := .agg #[.bool (ng z3), .slice p3 n3 c3, .bool (ng z4), .slice p4 n4 c4]) rfl rfl (ev (v := .tuple #[.agg #[.bool (ng z3), .slice p3 n3 c3, .bool (ng z4), .slice p4 n4 c4], .int .i64 0]) rfl hv18) rfl ⟨_, _, rfl, ⟨hQ, rfl⟩, New.same _⟩⟩
    refine stepsCons rfl ?_ ?_
    · intro Q f' w' ρ S ho hT hS hB
      obtain ⟨p3, n3, c3, p4, n4, c4, hv18, hr18⟩ := (hT 18 22 rfl rfl : (RRt z3 z4 0) (f' 22) (ρ 18))
      obtain hS := hS.flat1 hr18
      exact .inl ⟨want_none rfl, oextract (vs := [.agg #[.bool (ng z3), .slice p3 n3 c3, .bool (ng z4), .slice p4 n4 c4], .int .i64 0]) (v := .int .i64 0) rfl rfl (ev (v := .tuple #[.agg #[.bool (ng z3), .slice p3 n3 c3, .bool (ng z4), .slice p4 n4 c4], .int .i64 0]) rfl hv18) rfl ⟨_, _, rfl, isI, New.same _⟩⟩
    exact stepsNil
  ·
    intro vs ρ w3 f' hf hT hS
    obtain ⟨hv0, hr0⟩ := (hT 0 (by decide) : (Is (.slice pl 2 cl)) (vs 0) (ρ 0))
    obtain ⟨hv1, hr1⟩ := (hT 1 (by decide) : (Is (.pointer (some ⟨gA0, (oA0 + 0 * 4), none⟩))) (vs 1) (ρ 1))
    obtain ⟨hv2, hr2⟩ := (hT 2 (by decide) : (Is (.pointer (some ⟨gA0, ((oA0 + 0 * 4) + 0), none⟩))) (vs 2) (ρ 2))
    obtain ⟨hv3, hr3⟩ := (hT 3 (by decide) : (Is (.agg #[.bool bA, .slice qA nA kA])) (vs 3) (ρ 3))
    obtain ⟨hv4, hr4⟩ := (hT 4 (by decide) : (Is (.slice pl 2 cl)) (vs 4) (ρ 4))
    obtain ⟨hv5, hr5⟩ := (hT 5 (by decide) : (Is (.pointer (some ⟨gC0, (oC0 + 1 * 4), none⟩))) (vs 5) (ρ 5))
    obtain ⟨hv6, hr6⟩ := (hT 6 (by decide) : (Is (.pointer (some ⟨gC0, ((oC0 + 1 * 4) + 0), none⟩))) (vs 6) (ρ 6))
    obtain ⟨hv7, hr7⟩ := (hT 7 (by decide) : (Is (.agg #[.bool bC, .slice qC nC kC])) (vs 7) (ρ 7))
    obtain ⟨p1, n1, c1, hv8, hr8⟩ := (hT 8 (by decide) : (Zt z1) (vs 8) (ρ 8))
    obtain ⟨hv9, hr9⟩ := (hT 9 (by decide) : (Is (.slice pl 2 cl)) (vs 9) (ρ 9))
    obtain ⟨hv10, hr10⟩ := (hT 10 (by decide) : (Is (.pointer (some ⟨gA0, (oA0 + 0 * 4), none⟩))) (vs 10) (ρ 10))
    obtain ⟨hv11, hr11⟩ := (hT 11 (by decide) : (Is (.pointer (some ⟨gA0, ((oA0 + 0 * 4) + 2), none⟩))) (vs 11) (ρ 11))
    obtain ⟨hv12, hr12⟩ := (hT 12 (by decide) : (Is (.agg #[.bool bB, .slice qB nB kB])) (vs 12) (ρ 12))
    obtain ⟨hv13, hr13⟩ := (hT 13 (by decide) : (Is (.slice pl 2 cl)) (vs 13) (ρ 13))
    obtain ⟨hv14, hr14⟩ := (hT 14 (by decide) : (Is (.pointer (some ⟨gC0, (oC0 + 1 * 4), none⟩))) (vs 14) (ρ 14))
    obtain ⟨hv15, hr15⟩ := (hT 15 (by decide) : (Is (.pointer (some ⟨gC0, ((oC0 + 1 * 4) + 2), none⟩))) (vs 15) (ρ 15))
    obtain ⟨hv16, hr16⟩ := (hT 16 (by decide) : (Is (.agg #[.bool bD, .slice qD nD kD])) (vs 16) (ρ 16))
    obtain ⟨p2, n2, c2, hv17, hr17⟩ := (hT 17 (by decide) : (Zt z2) (vs 17) (ρ 17))
    obtain ⟨p3, n3, c3, p4, n4, c4, hv18, hr18⟩ := (hT 18 (by decide) : (RRt z3 z4 0) (vs 18) (ρ 18))
    obtain ⟨hv19, hr19⟩ := (hT 19 (by decide) : (fun (us : List Value) => Is (.agg #[.bool (ng z3), (vat (us.getD 0 undef) [0, 1]), .bool (ng z4), (vat (us.getD 0 undef) [0, 3])])) [vs 18] (vs 19) (ρ 19))
    replace hv19 : vs 19 = .agg #[.bool (ng z3), .slice p3 n3 c3, .bool (ng z4), .slice p4 n4 c4] := hv19.trans (by show (.agg #[.bool (ng z3), (vat (vs 18) [0, 1]), .bool (ng z4), (vat (vs 18) [0, 3])] : Value) = _; rw [hv18]; rfl)
    obtain ⟨hv20, hr20⟩ := (hT 20 (by decide) : (Is (.int .i64 0)) (vs 20) (ρ 20))
    simp only [pool, if_true, hr0, hr1, hr2, hr3, hr4, hr5, hr6, hr7, hr8, hr9, hr10, hr11, hr12, hr13, hr14, hr15, hr16, hr17, hr18, hr19, hr20, List.nil_append, List.cons_append, List.append_nil] at hS
    simp only [layf, hv0, hv1, hv2, hv3, hv4, hv5, hv6, hv7, hv8, hv9, hv10, hv11, hv12, hv13, hv14, hv15, hv16, hv17, hv18, hv19, hv20] at hf
    subst hf; clear hT hv0 hv1 hv2 hv3 hv4 hv5 hv6 hv7 hv8 hv9 hv10 hv11 hv12 hv13 hv14 hv15 hv16 hv17 hv18 hv19 hv20 hr0 hr1 hr2 hr3 hr4 hr5 hr6 hr7 hr8 hr9 hr10 hr11 hr12 hr13 hr14 hr15 hr16 hr17 hr18 hr19 hr20
    refine wlate 21 rfl (by kernel_rfl) (ostore [.bool (ng z3), .slice p3 n3 c3, .bool (ng z4), .slice p4 n4 c4] [.bool (ng z3), .slice p3 n3 c3, .bool (ng z4), .slice p4 n4 c4] Try.sizeOf27 hS 4 rfl rfl (ev rfl rfl) (ev (v := .agg #[.bool (ng z3), .slice p3 n3 c3, .bool (ng z4), .slice p4 n4 c4]) rfl rfl) rfl rfl rfl rfl rfl rfl ?_)
    clear hS; intro w4 hS
    refine ⟨heldNil, ?_⟩
    refine wlate 22 rfl (by kernel_rfl) (oassign (v := .int .i64 0) rfl rfl (ev (v := .int .i64 0) rfl rfl) ?_)
    refine ⟨heldNil, ?_⟩
    refine wdone rfl ?_
    refine thenN ?_
    refine wleave ?_
    refine wret2 Try.results80 (tellC (cs := [.bool (ng z3), .slice p3 n3 c3, .bool (ng z4), .slice p4 n4 c4]) aggR hS 4 rfl rfl rfl rfl) (tellT (v := .int .i64 0) rfl rfl) ?_
    obtain rfl : z3 = z := (by rw [← hz3.out, ← hz1.out, ← hz2.out]; exact hz.out)
    obtain rfl : z4 = t := (by rw [← hz4.out, ← hz1.out, ← hz2.out]; exact ht.out)
    exact ⟨_, _, rfl, ⟨_, _, _, _, _, _, rfl, rfl⟩, hS.newM [0, 1] (by decide) rfl rfl⟩

set_option maxRecDepth 100000 in
set_option maxHeartbeats 16000000 in
theorem wrquo1 {z t : Int} {x y u v : Int} {w : World} {pl : Option Addr} {cl : Nat} (hl : Rs w pl 2 [(x, y), (u, v)] 16777216) (hy : y ≠ 0) (hu : u ≠ 0) (hz : Hid (RN (x * v) (y * u) = z)) (ht : Hid (RD (x * v) (y * u) = t)) :
    Calls Try.prog 54 #[.slice pl 2 cl] w (Ret (RRt z t 0) w) := by
  obtain ⟨gA0, oA0, bA, qA, nA, kA, bB, qB, nB, kB, hp0, hc0, hzA, hzB⟩ := hl.e0
  obtain ⟨gC0, oC0, bC, qC, nC, kC, bD, qD, nD, kD, hp1, hc1, hzC, hzD⟩ := hl.e1
  have hS := Sep.init w
  refine went Try.func54 rfl (n := 32) rfl rfl ?_
  refine wseq ?_
  refine wreg ?_
  refine wl rfl (oalloc [.bool false, .slice none 0 0, .bool false, .slice none 0 0] hS rfl rfl Try.zeroValue27 rfl ?_)
  clear hS; intro g1 w2 hS
  refine wl rfl (oassign (v := .int .i64 0) rfl rfl (evc (v := .int .i64 0)) ?_)
  refine wnil ?_
  refine thenN ?_
  refine wseq ?_
  refine wseq ?_
  refine wreg ?_
  refine wl rfl (omove (v := .slice pl 2 cl) rfl rfl (ev (v := .slice pl 2 cl) rfl rfl) ?_)
  refine wl rfl (oindex (p := pl) (g := gC0) (off := oC0) (m := 2) (k := 1) (j := (oC0 + 1 * 4)) rfl rfl Try.runUnderlying38 Try.sizeOf27 (ev (v := .slice pl 2 cl) rfl rfl) (hp1) (evc (v := .int .i64 ((1 : Nat) : Int))) ((by omega)) rfl ?_)
  refine wl rfl (ofieldAddr (g := gC0) (off := (oC0 + 1 * 4)) ((oC0 + 1 * 4) + 0) rfl rfl (ev (v := .pointer (some ⟨gC0, (oC0 + 1 * 4), none⟩)) rfl rfl) Try.runUnderlying27 rfl Try.sizeOf25 rfl ?_)
  refine wl rfl (oloadA (vs := [.bool bC, .slice qC nC kC]) aggZ rfl rfl (ev (v := .pointer (some ⟨gC0, ((oC0 + 1 * 4) + 0), none⟩)) rfl rfl) (fun j v hj => hS.cellAt ((cell_sub (us := [.bool bC, .slice qC nC kC]) hc1 0 rfl) j v hj)) rfl ?_)
  obtain ⟨s1, hs1⟩ : ∃ z : Int, Hid ((u : Int).sign = z) := ⟨_, rfl⟩
  refine wl rfl (ocall rfl rfl Try.call55 rfl (wzsign ((hzC.at hS).mono (by omega)) hs1) (args1 (ev rfl rfl)) ?_)
  rintro _ w3 ⟨_, _, rfl, ⟨rfl, rfl⟩, hN⟩
  refine ⟨_, rfl, ?_⟩
  replace hS := hS.news hN; clear hN
  refine wl rfl (obin (u := .int .i64 s1) (v := .int .i64 0) (z := .bool false) rfl rfl (ev (v := .int .i64 s1) rfl rfl) (evc (v := .int .i64 0)) (bin_eql (sign_ne hs1 hu)) ?_)
  refine wnil ?_
  refine thenN ?_
  refine wF (ev (v := .bool false) rfl rfl) ?_
  refine wskip ?_
  refine thenN ?_
  refine wseq ?_
  obtain ⟨z2, hz2⟩ : ∃ z : Int, Hid (x * v = z) := ⟨_, rfl⟩
  have hk2 : Wd z2 33554432 := Wd.mul hzA.wd hzD.wd hz2 (by omega)
  obtain ⟨z3, hz3⟩ : ∃ z : Int, Hid (y * u = z) := ⟨_, rfl⟩
  have hk3 : Wd z3 33554432 := Wd.mul hzB.wd hzC.wd hz3 (by omega)
  obtain ⟨z4, hz4⟩ : ∃ z : Int, Hid (RN z2 z3 = z) := ⟨_, rfl⟩
  have hk4 : Wd z4 33554432 := Wd.rn hk2 hz4
  obtain ⟨z5, hz5⟩ : ∃ z : Int, Hid (RD z2 z3 = z) := ⟨_, rfl⟩
  have hk5 : Wd z5 33554432 := Wd.rd hk3 hz5
  refine wstage 21 [11, 12, 13, 14, 15, 16, 17, 18, 19, 20, 21, 22, 23, 24, 25, 26, 27, 28, 29, 30, 31] [[], [0], [1, 0], [2, 0, 1], [], [4], [5, 4], [6, 4, 5], [3, 7, 0, 1, 2, 4, 5, 6], [], [9], [10, 9], [11, 9, 10], [], [13], [14, 13], [15, 13, 14], [12, 16, 0, 1, 2, 3, 4, 5, 6, 7, 8, 9, 10, 11, 13, 14, 15], [8, 17, 0, 1, 2, 3, 4, 5, 6, 7, 9, 10, 11, 12, 13, 14, 15, 16], [18, 0, 1, 2, 3, 4, 5, 6, 7, 8, 9, 10, 11, 12, 13, 14, 15, 16, 17], [18, 0, 1, 2, 3, 4, 5, 6, 7, 8, 9, 10, 11, 12, 13, 14, 15, 16, 17]] [[], [], [], [], [], [], [], [], [], [], [], [], [], [], [], [], [], [], [], [18], []] [] [] (fun i9 => ([fun _ => Is (.slice pl 2 cl), fun _ => Is (.pointer (some ⟨gA0, (oA0 + 0 * 4), none⟩)), fun _ => Is (.pointer (some ⟨gA0, ((oA0 + 0 * 4) + 0), none⟩)), fun _ => Is (.agg #[.bool bA, .slice qA nA kA]), fun _ => Is (.slice pl 2 cl), fun _ => Is (.pointer (some ⟨gC0, (oC0 + 1 * 4), none⟩)), fun _ => Is (.pointer (some ⟨gC0, ((oC0 + 1 * 4) + 2), none⟩)), fun _ => Is (.agg #[.bool bD, .slice qD nD kD]), fun _ => Zt z2, fun _ => Is (.slice pl 2 cl), fun _ => Is (.pointer (some ⟨gA0, (oA0 + 0 * 4), none⟩)), fun _ => Is (.pointer (some ⟨gA0, ((oA0 + 0 * 4) + 2), none⟩)), fun _ => Is (.agg #[.bool bB, .slice qB nB kB]), fun _ => Is (.slice pl 2 cl), fun _ => Is (.pointer (some ⟨gC0, (oC0 + 1 * 4), none⟩)), fun _ => Is (.pointer (some ⟨gC0, ((oC0 + 1 * 4) + 0), none⟩)), fun _ => Is (.agg #[.bool bC, .slice qC nC kC]), fun _ => Zt z3, fun _ => RRt z4 z5 0, fun us => Is (.agg #[.bool (ng z4), (vat (us.getD 0 undef) [0, 1]), .bool (ng z5), (vat (us.getD 0 undef) [0, 3])]), fun _ => Is (.int .i64 0)] : List (List Value → Tell)).getD i9 (fun _ _ _ => False)) (heldNil) (fun d _ _ _ _ h => (by cases d <;> exact h)) (by kernel_rfl) (by kernel_rfl) (by kernel_rfl) hS ?_ ?_
  ·
    refine stepsCons rfl ?_ ?_
    · intro Q f' w' ρ S ho hT hS hB
      exact .inl ⟨want_none rfl, omove (v := .slice pl 2 cl) rfl rfl (ev (v := .slice pl 2 cl) rfl (ho 0 rfl)) ⟨_, _, rfl, isI, New.same _⟩⟩
    refine stepsCons rfl ?_ ?_
    · intro Q f' w' ρ S ho hT hS hB
      obtain ⟨hv0, hr0⟩ := (hT 0 11 rfl rfl : (Is (.slice pl 2 cl)) (f' 11) (ρ 0))
      obtain hS := hS.flat1 hr0
      exact .inl ⟨want_none rfl, oindex (p := pl) (g := gA0) (off := oA0) (m := 2) (k := 0) (j := (oA0 + 0 * 4)) rfl rfl Try.runUnderlying38 Try.sizeOf27 (ev (v := .slice pl 2 cl) rfl hv0) (hp0) (evc (v := .int .i64 ((0 : Nat) : Int))) ((by omega)) rfl ⟨_, _, rfl, isI, New.same _⟩⟩
    refine stepsCons rfl ?_ ?_
    · intro Q f' w' ρ S ho hT hS hB
      obtain ⟨hv1, hr1⟩ := (hT 1 12 rfl rfl : (Is (.pointer (some ⟨gA0, (oA0 + 0 * 4), none⟩))) (f' 12) (ρ 1))
      obtain hS := hS.flat1 hr1
      exact .inl ⟨want_none rfl, ofieldAddr (g := gA0) (off := (oA0 + 0 * 4)) ((oA0 + 0 * 4) + 0) rfl rfl (ev (v := .pointer (some ⟨gA0, (oA0 + 0 * 4), none⟩)) rfl hv1) Try.runUnderlying27 rfl Try.sizeOf25 rfl ⟨_, _, rfl, isI, New.same _⟩⟩
    refine stepsCons rfl ?_ ?_
    · intro Q f' w' ρ S ho hT hS hB
      obtain ⟨hv2, hr2⟩ := (hT 2 13 rfl rfl : (Is (.pointer (some ⟨gA0, ((oA0 + 0 * 4) + 0), none⟩))) (f' 13) (ρ 2))
      obtain hS := hS.flat1 hr2
      exact .inl ⟨want_none rfl, oloadA (vs := [.bool bA, .slice qA nA kA]) aggZ rfl rfl (ev (v := .pointer (some ⟨gA0, ((oA0 + 0 * 4) + 0), none⟩)) rfl hv2) (fun j v hj => hS.cellAt ((cell_sub (us := [.bool bA, .slice qA nA kA]) hc0 0 rfl) j v hj)) rfl ⟨_, _, rfl, isI, New.same _⟩⟩
    refine stepsCons rfl ?_ ?_
    · intro Q f' w' ρ S ho hT hS hB
      exact .inl ⟨want_none rfl, omove (v := .slice pl 2 cl) rfl rfl (ev (v := .slice pl 2 cl) rfl (ho 0 rfl)) ⟨_, _, rfl, isI, New.same _⟩⟩
    refine stepsCons rfl ?_ ?_
    · intro Q f' w' ρ S ho hT hS hB
      obtain ⟨hv4, hr4⟩ := (hT 4 15 rfl rfl : (Is (.slice pl 2 cl)) (f' 15) (ρ 4))
      obtain hS := hS.flat1 hr4
      exact .inl ⟨want_none rfl, oindex (p := pl) (g := gC0) (off := oC0) (m := 2) (k := 1) (j := (oC0 + 1 * 4)) rfl rfl Try.runUnderlying38 Try.sizeOf27 (ev (v := .slice pl 2 cl) rfl hv4) (hp1) (evc (v := .int .i64 ((1 : Nat) : Int))) ((by omega)) rfl ⟨_, _, rfl, isI, New.same _⟩⟩
    refine stepsCons rfl ?_ ?_
    · intro Q f' w' ρ S ho hT hS hB
      obtain ⟨hv5, hr5⟩ := (hT 5 16 rfl rfl : (Is (.pointer (some ⟨gC0, (oC0 + 1 * 4), none⟩))) (f' 16) (ρ 5))
      obtain hS := hS.flat1 hr5
      exact .inl ⟨want_none rfl, ofieldAddr (g := gC0) (off := (oC0 + 1 * 4)) ((oC0 + 1 * 4) + 2) rfl rfl (ev (v := .pointer (some ⟨gC0, (oC0 + 1 * 4), none⟩)) rfl hv5) Try.runUnderlying27 rfl Try.sizeOf25 rfl ⟨_, _, rfl, isI, New.same _⟩⟩
    refine stepsCons rfl ?_ ?_
    · intro Q f' w' ρ S ho hT hS hB
      obtain ⟨hv6, hr6⟩ := (hT 6 17 rfl rfl : (Is (.pointer (some ⟨gC0, ((oC0 + 1 * 4) + 2), none⟩))) (f' 17) (ρ 6))
      obtain hS := hS.flat1 hr6
      exact .inl ⟨want_none rfl, oloadA (vs := [.bool bD, .slice qD nD kD]) aggZ rfl rfl (ev (v := .pointer (some ⟨gC0, ((oC0 + 1 * 4) + 2), none⟩)) rfl hv6) (fun j v hj => hS.cellAt ((cell_sub (us := [.bool bD, .slice qD nD kD]) hc1 2 rfl) j v hj)) rfl ⟨_, _, rfl, isI, New.same _⟩⟩
    refine stepsCons rfl ?_ ?_
    · intro Q f' w' ρ S ho hT hS hB
      obtain ⟨hv3, hr3⟩ := (hT 3 14 rfl rfl : (Is (.agg #[.bool bA, .slice qA nA kA])) (f' 14) (ρ 3))
      obtain ⟨hv7, hr7⟩ := (hT 7 18 rfl rfl : (Is (.agg #[.bool bD, .slice qD nD kD])) (f' 18) (ρ 7))
      obtain hS := hS.flat2 hr3 hr7
      refine .inl ⟨want_none rfl, ocall rfl rfl Try.call56 rfl (wzmul ((hzA.at hS).mono (by omega)) ((hzD.at hS).mono (by omega)) hz2) (args2 (ev rfl hv3) (ev rfl hv7)) ?_⟩
      rintro _ w9 ⟨_, _, rfl, hTT, hN⟩
      exact ⟨_, rfl, _, _, rfl, hTT, hN⟩
    refine stepsCons rfl ?_ ?_
    · intro Q f' w' ρ S ho hT hS hB
      exact .inl ⟨want_none rfl, omove (v := .slice pl 2 cl) rfl rfl (ev (v := .slice pl 2 cl) rfl (ho 0 rfl)) ⟨_, _, rfl, isI, New.same _⟩⟩
    refine stepsCons rfl ?_ ?_
    · intro Q f' w' ρ S ho hT hS hB
      obtain ⟨hv9, hr9⟩ := (hT 9 20 rfl rfl : (Is (.slice pl 2 cl)) (f' 20) (ρ 9))
      obtain hS := hS.flat1 hr9
      exact .inl ⟨want_none rfl, oindex (p := pl) (g := gA0) (off := oA0) (m := 2) (k := 0) (j := (oA0 + 0 * 4)) rfl rfl Try.runUnderlying38 Try.sizeOf27 (ev (v := .slice pl 2 cl) rfl hv9) (hp0) (evc (v := .int .i64 ((0 : Nat) : Int))) ((by omega)) rfl ⟨_, _, rfl, isI, New.same _⟩⟩
    refine stepsCons rfl ?_ ?_
    · intro Q f' w' ρ S ho hT hS hB
      obtain ⟨hv10, hr10⟩ := (hT 10 21 rfl rfl : (Is (.pointer (some ⟨gA0, (oA0 + 0 * 4), none⟩))) (f' 21) (ρ 10))
      obtain hS := hS.flat1 hr10
      exact .inl ⟨want_none rfl, ofieldAddr (g := gA0) (off := (oA0 + 0 * 4)) ((oA0 + 0 * 4) + 2) rfl rfl (ev (v := .pointer (some ⟨gA0, (oA0 + 0 * 4), none⟩)) rfl hv10) Try.runUnderlying27 rfl Try.sizeOf25 rfl ⟨_, _, rfl, isI, New.same _⟩⟩
    refine stepsCons rfl ?_ ?_
    · intro Q f' w' ρ S ho hT hS hB
      obtain ⟨hv11, hr11⟩ := (hT 11 22 rfl rfl : (Is (.pointer (some ⟨gA0, ((oA0 + 0 * 4) + 2), none⟩))) (f' 22) (ρ 11))
      obtain hS := hS.flat1 hr11
      exact .inl ⟨want_none rfl, oloadA (vs := [.bool bB, .slice qB nB kB]) aggZ rfl rfl (ev (v := .pointer (some ⟨gA0, ((oA0 + 0 * 4) + 2), none⟩)) rfl hv11) (fun j v hj => hS.cellAt ((cell_sub (us := [.bool bB, .slice qB nB kB]) hc0 2 rfl) j v hj)) rfl ⟨_, _, rfl, isI, New.same _⟩⟩
    refine stepsCons rfl ?_ ?_
    · intro Q f' w' ρ S ho hT hS hB
      exact .inl ⟨want_none rfl, omove (v := .slice pl 2 cl) rfl rfl (ev (v := .slice pl 2 cl) rfl (ho 0 rfl)) ⟨_, _, rfl, isI, New.same _⟩⟩
    refine stepsCons rfl ?_ ?_
    · intro Q f' w' ρ S ho hT hS hB
      obtain ⟨hv13, hr13⟩ := (hT 13 24 rfl rfl : (Is (.slice pl 2 cl)) (f' 24) (ρ 13))
      obtain hS := hS.flat1 hr13
      exact .inl ⟨want_none rfl, oindex (p := pl) (g := gC0) (off := oC0) (m := 2) (k := 1) (j := (oC0 + 1 * 4)) rfl rfl Try.runUnderlying38 Try.sizeOf27 (ev (v := .slice pl 2 cl) rfl hv13) (hp1) (evc (v := .int .i64 ((1 : Nat) : Int))) ((by omega)) rfl ⟨_, _, rfl, isI, New.same _⟩⟩
    refine stepsCons rfl ?_ ?_
    · intro Q f' w' ρ S ho hT hS hB
      obtain ⟨hv14, hr14⟩ := (hT 14 25 rfl rfl : (Is (.pointer (some ⟨gC0, (oC0 + 1 * 4), none⟩))) (f' 25) (ρ 14))
      obtain hS := hS.flat1 hr14
      exact .inl ⟨want_none rfl, ofieldAddr (g := gC0) (off := (oC0 + 1 * 4)) ((oC0 + 1 * 4) + 0) rfl rfl (ev (v := .pointer (some ⟨gC0, (oC0 + 1 * 4), none⟩)) rfl hv14) Try.runUnderlying27 rfl Try.sizeOf25 rfl ⟨_, _, rfl, isI, New.same _⟩⟩
    refine stepsCons rfl ?_ ?_
    · intro Q f' w' ρ S ho hT hS hB
      obtain ⟨hv15, hr15⟩ := (hT 15 26 rfl rfl : (Is (.pointer (some ⟨gC0, ((oC0 + 1 * 4) + 0), none⟩))) (f' 26) (ρ 15))
      obtain hS := hS.flat1 hr15
      exact .inl ⟨want_none rfl, oloadA (vs := [.bool bC, .slice qC nC kC]) aggZ rfl rfl (ev (v := .pointer (some ⟨gC0, ((oC0 + 1 * 4) + 0), none⟩)) rfl hv15) (fun j v hj => hS.cellAt ((cell_sub (us := [.bool bC, .slice qC nC kC]) hc1 0 rfl) j v hj)) rfl ⟨_, _, rfl, isI, New.same _⟩⟩
    refine stepsCons rfl ?_ ?_
    · intro Q f' w' ρ S ho hT hS hB
      obtain ⟨hv12, hr12⟩ := (hT 12 23 rfl rfl : (Is (.agg #[.bool bB, .slice qB nB kB])) (f' 23) (ρ 12))
      obtain ⟨hv16, hr16⟩ := (hT 16 27 rfl rfl : (Is (.agg #[.bool bC, .slice qC nC kC])) (f' 27) (ρ 16))
      obtain hS := hS.flat2 hr12 hr16
      refine .inl ⟨want_none rfl, ocall rfl rfl Try.call56 rfl (wzmul ((hzB.at hS).mono (by omega)) ((hzC.at hS).mono (by omega)) hz3) (args2 (ev rfl hv12) (ev rfl hv16)) ?_⟩
      rintro _ w9 ⟨_, _, rfl, hTT, hN⟩
      exact ⟨_, rfl, _, _, rfl, hTT, hN⟩
    refine stepsCons rfl ?_ ?_
    · intro Q f' w' ρ S ho hT hS hB
      obtain ⟨p2, n2, c2, hv8, hr8⟩ := (hT 8 19 rfl rfl : (Zt z2) (f' 19) (ρ 8))
      obtain ⟨p3, n3, c3, hv17, hr17⟩ := (hT 17 28 rfl rfl : (Zt z3) (f' 28) (ρ 17))
      obtain hS := hS.flat2 hr8 hr17
      refine .inl ⟨want_none rfl, ocall rfl rfl Try.call42 rfl (wrmake (((hS.sl 1 rfl).zr hk2).mono (by omega)) (((hS.sl 2 rfl).zr hk3).mono (by omega)) (by rw [← hz3.out]; exact ne_mul hy hu) hz4 hz5) (args2 (ev rfl hv8) (ev rfl hv17)) ?_⟩
      rintro _ w9 ⟨_, _, rfl, hTT, hN⟩
      exact ⟨_, rfl, _, _, rfl, hTT, hN⟩
    refine stepsCons rfl ?_ ?_
    · intro Q f' w' ρ S ho hT hS hB
      obtain ⟨p4, n4, c4, p5, n5, c5, hv18, hr18⟩ := (hT 18 29 rfl rfl : (RRt z4 z5 0) (f' 29) (ρ 18))
      obtain hS := hS.flat1 hr18
      have hQ : (.agg #[.bool (ng z4), .slice p4 n4 c4, .bool (ng z5), .slice p5 n5 c5] : Value) = (fun (us : List Value) => (.agg #[.bool (ng z4), (vat (us.getD 0 undef) [0, 1]), .bool (ng z5), (vat (us.getD 0 undef) [0, 3])] : Value)) [f' 29] := by show _ = (.agg #[.bool (ng z4), (vat (f' 29) [0, 1]), .bool (ng z5), (vat (f' 29) [0, 3])] : Value); rw [hv18]; rfl
      exact .inl ⟨want_none rfl, oextract (vs := [.agg #[.bool (ng z4), .slice p4 n4 c4, .bool (ng z5), .slice p5 n5 c5], .int .i64 0]) (v := .agg #[.bool (ng z4), .slice p4 n4 c4, .bool (ng z5), .slice p5 n5 c5]) rfl rfl (ev (v := .tuple #[.agg #[.bool (ng z4), .slice p4 n4 c4, .bool (ng z5), .slice p5 n5 c5], .int .i64 0]) rfl hv18) rfl ⟨_, _, rfl, ⟨hQ, rfl⟩, New.same _⟩⟩
    refine stepsCons rfl ?_ ?_
    · intro Q f' w' ρ S ho hT hS hB
      obtain ⟨p4, n4, c4, p5, n5, c5, hv18, hr18⟩ := (hT 18 29 rfl rfl : (RRt z4 z5 0) (f' 29) (ρ 18))
      obtain hS := hS.flat1 hr18
      exact .inl ⟨want_none rfl, oextract (vs := [.agg #[.bool (ng z4), .slice p4 n4 c4, .bool (ng z5), .slice p5 n5 c5], .int .i64 0]) (v := .int .i64 0) rfl rfl (ev (v := .tuple #[.agg #[.bool (ng z4), .slice p4 n4 c4, .bool (ng z5), .slice p5 n5 c5], .int .i64 0]) rfl hv18) rfl ⟨_, _, rfl, isI, New.same _⟩⟩
    exact stepsNil
  ·
    intro vs ρ w4 f' hf hT hS
    obtain ⟨hv0, hr0⟩ := (hT 0 (by decide) : (Is (.slice pl 2 cl)) (vs 0) (ρ 0))
    obtain ⟨hv1, hr1⟩ := (hT 1 (by decide) : (Is (.pointer (some ⟨gA0, (oA0 + 0 * 4), none⟩))) (vs 1) (ρ 1))
    obtain ⟨hv2, hr2⟩ := (hT 2 (by decide) : (Is (.pointer (some ⟨gA0, ((oA0 + 0 * 4) + 0), none⟩))) (vs 2) (ρ 2))
    obtain ⟨hv3, hr3⟩ := (hT 3 (by decide) : (Is (.agg #[.bool bA, .slice qA nA kA])) (vs 3) (ρ 3))
    obtain ⟨hv4, hr4⟩ := (hT 4 (by decide) : (Is (.slice pl 2 cl)) (vs 4) (ρ 4))
    obtain ⟨hv5, hr5⟩ := (hT 5 (by decide) : (Is (.pointer (some ⟨gC0, (oC0 + 1 * 4), none⟩))) (vs 5) (ρ 5))
    obtain ⟨hv6, hr6⟩ := (hT 6 (by decide) : (Is (.pointer (some ⟨gC0, ((oC0 + 1 * 4) + 2), none⟩))) (vs 6) (ρ 6))
    obtain ⟨hv7, hr7⟩ := (hT 7 (by decide) : (Is (.agg #[.bool bD, .slice qD nD kD])) (vs 7) (ρ 7))
    obtain ⟨p2, n2, c2, hv8, hr8⟩ := (hT 8 (by decide) : (Zt z2) (vs 8) (ρ 8))
    obtain ⟨hv9, hr9⟩ := (hT 9 (by decide) : (Is (.slice pl 2 cl)) (vs 9) (ρ 9))
    obtain ⟨hv10, hr10⟩ := (hT 10 (by decide) : (Is (.pointer (some ⟨gA0, (oA0 + 0 * 4), none⟩))) (vs 10) (ρ 10))
    obtain ⟨hv11, hr11⟩ := (hT 11 (by decide) : (Is (.pointer (some ⟨gA0, ((oA0 + 0 * 4) + 2), none⟩))) (vs 11) (ρ 11))
    obtain ⟨hv12, hr12⟩ := (hT 12 (by decide) : (Is (.agg #[.bool bB, .slice qB nB kB])) (vs 12) (ρ 12))
    obtain ⟨hv13, hr13⟩ := (hT 13 (by decide) : (Is (.slice pl 2 cl)) (vs 13) (ρ 13))
    obtain ⟨hv14, hr14⟩ := (hT 14 (by decide) : (Is (.pointer (some ⟨gC0, (oC0 + 1 * 4), none⟩))) (vs 14) (ρ 14))
    obtain ⟨hv15, hr15⟩ := (hT 15 (by decide) : (Is (.pointer (some ⟨gC0, ((oC0 + 1 * 4) + 0), none⟩))) (vs 15) (ρ 15))
    obtain ⟨hv16, hr16⟩ := (hT 16 (by decide) : (Is (.agg #[.bool bC, .slice qC nC kC])) (vs 16) (ρ 16))
    obtain ⟨p3, n3, c3, hv17, hr17⟩ := (hT 17 (by decide) : (Zt z3) (vs 17) (ρ 17))
    obtain ⟨p4, n4, c4, p5, n5, c5, hv18, hr18⟩ := (hT 18 (by decide) : (RRt z4 z5 0) (vs 18) (ρ 18))
    obtain ⟨hv19, hr19⟩ := (hT 19 (by decide) : (fun (us : List Value) => Is (.agg #[.bool (ng z4), (vat (us.getD 0 undef) [0, 1]), .bool (ng z5), (vat (us.getD 0 undef) [0, 3])])) [vs 18] (vs 19) (ρ 19))
    replace hv19 : vs 19 = .agg #[.bool (ng z4), .slice p4 n4 c4, .bool (ng z5), .slice p5 n5 c5] := hv19.trans (by show (.agg #[.bool (ng z4), (vat (vs 18) [0, 1]), .bool (ng z5), (vat (vs 18) [0, 3])] : Value) = _; rw [hv18]; rfl)
    obtain ⟨hv20, hr20⟩ := (hT 20 (by decide) : (Is (.int .i64 0)) (vs 20) (ρ 20))
    simp only [pool, if_true, hr0, hr1, hr2, hr3, hr4, hr5, hr6, hr7, hr8, hr9, hr10, hr11, hr12, hr13, hr14, hr15, hr16, hr17, hr18, hr19, hr20, List.nil_append, List.cons_append, List.append_nil] at hS
    simp only [layf, hv0, hv1, hv2, hv3, hv4, hv5, hv6, hv7, hv8, hv9, hv10, hv11, hv12, hv13, hv14, hv15, hv16, hv17, hv18, hv19, hv20] at hf
    subst hf; clear hT hv0 hv1 hv2 hv3 hv4 hv5 hv6 hv7 hv8 hv9 hv10 hv11 hv12 hv13 hv14 hv15 hv16 hv17 hv18 hv19 hv20 hr0 hr1 hr2 hr3 hr4 hr5 hr6 hr7 hr8 hr9 hr10 hr11 hr12 hr13 hr14 hr15 hr16 hr17 hr18 hr19 hr20
    refine wlate 21 rfl (by kernel_rfl) (ostore [.bool (ng z4), .slice p4 n4 c4, .bool (ng z5), .slice p5 n5 c5] [.bool (ng z4), .slice p4 n4 c4, .bool (ng z5), .slice p5 n5 c5] Try.sizeOf27 hS 4 rfl rfl (ev rfl rfl) (ev (v := .agg #[.bool (ng z4), .slice p4 n4 c4, .bool (ng z5), .slice p5 n5 c5]) rfl rfl) rfl rfl rfl rfl rfl rfl ?_)
    clear hS; intro w5 hS
    refine ⟨heldNil, ?_⟩
    refine wlate 22 rfl (by kernel_rfl) (oassign (v := .int .i64 0) rfl rfl (ev (v := .int .i64 0) rfl rfl) ?_)
    refine ⟨heldNil, ?_⟩
    refine wdone rfl ?_
    refine thenN ?_
    refine wleave ?_
    refine wret2 Try.results54 (tellC (cs := [.bool (ng z4), .slice p4 n4 c4, .bool (ng z5), .slice p5 n5 c5]) aggR hS 4 rfl rfl rfl rfl) (tellT (v := .int .i64 0) rfl rfl) ?_
    obtain rfl : z4 = z := (by rw [← hz4.out, ← hz2.out, ← hz3.out]; exact hz.out)
    obtain rfl : z5 = t := (by rw [← hz5.out, ← hz2.out, ← hz3.out]; exact ht.out)
    exact ⟨_, _, rfl, ⟨_, _, _, _, _, _, rfl, rfl⟩, hS.newM [0, 1] (by decide) rfl rfl⟩

theorem Sep.new00 {R : List Res} {w w' : World} (h : Sep w R w') : New w [.rowm none 0 0 (lim (0 : Int).natAbs), .rowm none 0 0 (lim (0 : Int).natAbs)] w' := by
  have h1 := h.add (Below.refl _ _) (.rowm none 0 0 (lim (0 : Int).natAbs)) (Fr.nil 0 w') (fun g hg => by cases hg)
  have h2 := h1.add (Below.refl _ _) (.rowm none 0 0 (lim (0 : Int).natAbs)) (Fr.nil 0 w') (fun g hg => by cases hg)
  exact h2.newM [0, 1] (by decide) rfl rfl

set_option maxRecDepth 100000 in
set_option maxHeartbeats 16000000 in
theorem wrquo10 {x y u v : Int} {w : World} {pl : Option Addr} {cl : Nat} (hl : Rs w pl 2 [(x, y), (u, v)] 16777216) (hu : u = 0) :
    Calls Try.prog 54 #[.slice pl 2 cl] w (Ret (RRt 0 0 5) w) := by
  obtain ⟨gA0, oA0, bA, qA, nA, kA, bB, qB, nB, kB, hp0, hc0, hzA, hzB⟩ := hl.e0
  obtain ⟨gC0, oC0, bC, qC, nC, kC, bD, qD, nD, kD, hp1, hc1, hzC, hzD⟩ := hl.e1
  have hS := Sep.init w
  refine went Try.func54 rfl (n := 32) rfl rfl ?_
  refine wseq ?_
  refine wreg ?_
  refine wl rfl (oalloc [.bool false, .slice none 0 0, .bool false, .slice none 0 0] hS rfl rfl Try.zeroValue27 rfl ?_)
  clear hS; intro g1 w2 hS
  refine wl rfl (oassign (v := .int .i64 0) rfl rfl (evc (v := .int .i64 0)) ?_)
  refine wnil ?_
  refine thenN ?_
  refine wseq ?_
  refine wseq ?_
  refine wreg ?_
  refine wl rfl (omove (v := .slice pl 2 cl) rfl rfl (ev (v := .slice pl 2 cl) rfl rfl) ?_)
  refine wl rfl (oindex (p := pl) (g := gC0) (off := oC0) (m := 2) (k := 1) (j := (oC0 + 1 * 4)) rfl rfl Try.runUnderlying38 Try.sizeOf27 (ev (v := .slice pl 2 cl) rfl rfl) (hp1) (evc (v := .int .i64 ((1 : Nat) : Int))) ((by omega)) rfl ?_)
  refine wl rfl (ofieldAddr (g := gC0) (off := (oC0 + 1 * 4)) ((oC0 + 1 * 4) + 0) rfl rfl (ev (v := .pointer (some ⟨gC0, (oC0 + 1 * 4), none⟩)) rfl rfl) Try.runUnderlying27 rfl Try.sizeOf25 rfl ?_)
  refine wl rfl (oloadA (vs := [.bool bC, .slice qC nC kC]) aggZ rfl rfl (ev (v := .pointer (some ⟨gC0, ((oC0 + 1 * 4) + 0), none⟩)) rfl rfl) (fun j v hj => hS.cellAt ((cell_sub (us := [.bool bC, .slice qC nC kC]) hc1 0 rfl) j v hj)) rfl ?_)
  obtain ⟨s1, hs1⟩ : ∃ z : Int, Hid ((u : Int).sign = z) := ⟨_, rfl⟩
  refine wl rfl (ocall rfl rfl Try.call55 rfl (wzsign ((hzC.at hS).mono (by omega)) hs1) (args1 (ev rfl rfl)) ?_)
  rintro _ w3 ⟨_, _, rfl, ⟨rfl, rfl⟩, hN⟩
  refine ⟨_, rfl, ?_⟩
  replace hS := hS.news hN; clear hN
  refine wl rfl (obin (u := .int .i64 s1) (v := .int .i64 0) (z := .bool true) rfl rfl (ev (v := .int .i64 s1) rfl rfl) (evc (v := .int .i64 0)) (bin_eql (sign_eq hs1 hu)) ?_)
  refine wnil ?_
  refine thenN ?_
  refine wT (ev (v := .bool true) rfl rfl) ?_
  refine wseq ?_
  refine wreg ?_
  refine wl rfl (obuild (ps := #[]) (v := .agg #[.bool false, .slice none 0 0, .bool false, .slice none 0 0]) rfl rfl (parts0) (fun w => by simp [go_sem, Instr.build, Instr.fill]) ?_)
  refine wl rfl (ostore [.bool false, .slice none 0 0, .bool false, .slice none 0 0] [.bool false, .slice none 0 0, .bool false, .slice none 0 0] Try.sizeOf27 hS 0 rfl rfl (ev rfl rfl) (ev (v := .agg #[.bool false, .slice none 0 0, .bool false, .slice none 0 0]) rfl rfl) rfl rfl rfl rfl rfl rfl ?_)
  clear hS; intro w4 hS
  refine wl rfl (oassign (v := .int .i64 5) rfl rfl (evc (v := .int .i64 5)) ?_)
  refine wnil ?_
  refine thenN ?_
  refine wleave ?_
  refine thenR ?_
  refine wret2 Try.results54 (tellC (cs := [.bool false, .slice none 0 0, .bool false, .slice none 0 0]) aggR hS 0 rfl rfl rfl rfl) (tellT (v := .int .i64 5) rfl rfl) ?_
  exact ⟨_, _, rfl, ⟨_, _, _, _, _, _, rfl, rfl⟩, hS.new00⟩

end Go.Proofs.Ytoinfkimlhhmpaa
