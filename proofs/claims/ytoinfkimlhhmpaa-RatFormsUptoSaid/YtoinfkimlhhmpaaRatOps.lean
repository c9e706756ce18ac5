
/-
  rat's functions of one fraction and of two.
-/
import Derived.Test.YtoinfkimlhhmpaaRatMade
set_option linter.unusedVariables false
set_option linter.unusedSimpArgs false
namespace Go.Proofs.Ytoinfkimlhhmpaa
open Go.RowKit

theorem cell_sub {w : World} {g o : Nat} {vs : List Value} (h : ∀ j v, vs[j]? = some v → w.cell? ⟨g, o + j, none⟩ = some v) (k : Nat) {us : List Value} (hu : us = (vs.drop k).take us.length) : ∀ j v, us[j]? = some v → w.cell? ⟨g, (o + k) + j, none⟩ = some v := by
  intro j v hj
  rw [Nat.add_assoc]
  refine h _ _ ?_
  have hl := (List.getElem?_eq_some_iff.1 hj).1
  rw [hu, List.getElem?_take, if_pos hl, List.getElem?_drop] at hj
  exact hj
theorem Rs.mono {w : World} {p : Option Addr} {m K K' : Nat} {L : List (Int × Int)} (h : Rs w p m L K) (hK : K ≤ K') : Rs w p m L K' := by
  refine ⟨h.1, h.2.1, fun i z hi => ?_⟩
  obtain ⟨g, off, b, q, n, k, b2, q2, n2, k2, hp, h1, h2, h3⟩ := h.2.2 i z hi
  exact ⟨g, off, b, q, n, k, b2, q2, n2, k2, hp, h1, h2.mono hK, h3.mono hK⟩
theorem Rs.e0 {w : World} {p : Option Addr} {m K : Nat} {e : Int × Int} {L : List (Int × Int)} (h : Rs w p m (e :: L) K) : ∃ g off b q n k b2 q2 n2 k2, p = some ⟨g, off, none⟩ ∧ (∀ j v, [Value.bool b, .slice q n k, .bool b2, .slice q2 n2 k2][j]? = some v → w.cell? ⟨g, off + 0 * 4 + j, none⟩ = some v) ∧ Zr w b q n k e.1 K ∧ Zr w b2 q2 n2 k2 e.2 K := h.2.2 0 e rfl
theorem Rs.e1 {w : World} {p : Option Addr} {m K : Nat} {e e2 : Int × Int} {L : List (Int × Int)} (h : Rs w p m (e2 :: e :: L) K) : ∃ g off b q n k b2 q2 n2 k2, p = some ⟨g, off, none⟩ ∧ (∀ j v, [Value.bool b, .slice q n k, .bool b2, .slice q2 n2 k2][j]? = some v → w.cell? ⟨g, off + 1 * 4 + j, none⟩ = some v) ∧ Zr w b q n k e.1 K ∧ Zr w b2 q2 n2 k2 e.2 K := h.2.2 1 e rfl
theorem wmI {F : FuncId} (hF : ∀ args w, (callFunc F args).run Try.prog w = .ok (.enter F args) w) {K : Nat} {z E : Int} {L : List (Int × Int)} {w : World} {pl : Option Addr} {m cl : Nat} (hl : Rs w pl m L K) (hK : K ≤ 67108864) (hall : ∀ e ∈ L, e.2 ≠ 0) (hf : ∀ (w1 : World) (p : Option Addr) (c : Nat), Rs w1 p m (lows L) K → Calls Try.prog F #[.slice p m c] w1 (Ret (Is (.tuple #[.int .i64 z, .int .i64 E])) w1)) :
    Calls Try.prog 67 #[.func (.func F) #[] #[], .slice pl m cl] w (Ret (Is (.tuple #[.int .i64 z, .int .i64 E])) w) :=
  wmadeI hF (hl.mono hK) hall (fun R w0 w1 p c es hes hS => by
    rw [Array.append_empty]
    exact (hf w1 p c (hS.rs 0 rfl hes hl.1 hl.2.1 hl.wd)).mono fun e w' h => giveL hS h)
theorem wmZ {F : FuncId} (hF : ∀ args w, (callFunc F args).run Try.prog w = .ok (.enter F args) w) {K : Nat} {z E : Int} {L : List (Int × Int)} {w : World} {pl : Option Addr} {m cl : Nat} (hl : Rs w pl m L K) (hK : K ≤ 67108864) (hall : ∀ e ∈ L, e.2 ≠ 0) (hf : ∀ (w1 : World) (p : Option Addr) (c : Nat), Rs w1 p m (lows L) K → Calls Try.prog F #[.slice p m c] w1 (Ret (ZEt z E) w1)) :
    Calls Try.prog 93 #[.func (.func F) #[] #[], .slice pl m cl] w (Ret (ZEt z E) w) :=
  wmadeZ hF (hl.mono hK) hall (fun R w0 w1 p c es hes hS => by
    rw [Array.append_empty]
    exact (hf w1 p c (hS.rs 0 rfl hes hl.1 hl.2.1 hl.wd)).mono fun e w' h => giveL hS h)

/-! ### Plain: with lowest terms for the given ones -/
theorem ne_mul {a b : Int} (ha : a ≠ 0) (hb : b ≠ 0) : a * b ≠ 0 := by
  intro h; rcases Int.mul_eq_zero.1 h with h | h
  · exact ha h
  · exact hb h
set_option maxRecDepth 100000 in
set_option maxHeartbeats 16000000 in
theorem wrsign1 {s : Int} {x y : Int} {w : World} {pl : Option Addr} {cl : Nat} (hl : Rs w pl 1 [(x, y)] 16777216) (hs : Hid (x.sign = s)) :
    Calls Try.prog 90 #[.slice pl 1 cl] w (Ret (Is (.tuple #[.int .i64 s, .int .i64 0])) w) := by
  obtain ⟨gA0, oA0, bA, qA, nA, kA, bB, qB, nB, kB, hp0, hc0, hzA, hzB⟩ := hl.e0
  have hS := Sep.init w
  refine went Try.func90 rfl (n := 9) rfl rfl ?_
  refine wseq ?_
  refine wreg ?_
  refine wl rfl (oassign (v := .int .i64 0) rfl rfl (evc (v := .int .i64 0)) ?_)
  refine wl rfl (oassign (v := .int .i64 0) rfl rfl (evc (v := .int .i64 0)) ?_)
  refine wnil ?_
  refine thenN ?_
  refine wseq ?_
  refine wreg ?_
  refine wl rfl (omove (v := .slice pl 1 cl) rfl rfl (ev (v := .slice pl 1 cl) rfl rfl) ?_)
  refine wl rfl (oindex (p := pl) (g := gA0) (off := oA0) (m := 1) (k := 0) (j := (oA0 + 0 * 4)) rfl rfl Try.runUnderlying38 Try.sizeOf27 (ev (v := .slice pl 1 cl) rfl rfl) (hp0) (evc (v := .int .i64 ((0 : Nat) : Int))) ((by omega)) rfl ?_)
  refine wl rfl (ofieldAddr (g := gA0) (off := (oA0 + 0 * 4)) ((oA0 + 0 * 4) + 0) rfl rfl (ev (v := .pointer (some ⟨gA0, (oA0 + 0 * 4), none⟩)) rfl rfl) Try.runUnderlying27 rfl Try.sizeOf25 rfl ?_)
  refine wl rfl (oloadA (vs := [.bool bA, .slice qA nA kA]) aggZ rfl rfl (ev (v := .pointer (some ⟨gA0, ((oA0 + 0 * 4) + 0), none⟩)) rfl rfl) (fun j v hj => hS.cellAt ((cell_sub (us := [.bool bA, .slice qA nA kA]) hc0 0 rfl) j v hj)) rfl ?_)
  obtain ⟨s1, hs1⟩ : ∃ z : Int, Hid ((x : Int).sign = z) := ⟨_, rfl⟩
  refine wl rfl (ocall rfl rfl Try.call55 rfl (wzsign ((hzA.at hS).mono (by omega)) hs1) (args1 (ev rfl rfl)) ?_)
  rintro _ w1 ⟨_, _, rfl, ⟨rfl, rfl⟩, hN⟩
  refine ⟨_, rfl, ?_⟩
  replace hS := hS.news hN; clear hN
  refine wl rfl (oassign (v := .int .i64 s1) rfl rfl (ev (v := .int .i64 s1) rfl rfl) ?_)
  refine wl rfl (oassign (v := .int .i64 0) rfl rfl (evc (v := .int .i64 0)) ?_)
  refine wnil ?_
  refine thenN ?_
  refine wleave ?_
  refine wret2 Try.results90 (tellT (v := .int .i64 s1) rfl rfl) (tellT (v := .int .i64 0) rfl rfl) ?_
  obtain rfl : s1 = s := hs1.out.symm.trans hs.out
  exact ⟨_, _, rfl, isI, hS.new0⟩

set_option maxRecDepth 100000 in
set_option maxHeartbeats 16000000 in
theorem wrcmp1 {s : Int} {x y u v : Int} {w : World} {pl : Option Addr} {cl : Nat} (hl : Rs w pl 2 [(x, y), (u, v)] 16777216) (hs : Hid (cmpZ (x * v) (u * y) = s)) :
    Calls Try.prog 91 #[.slice pl 2 cl] w (Ret (Is (.tuple #[.int .i64 s, .int .i64 0])) w) := by
  obtain ⟨gA0, oA0, bA, qA, nA, kA, bB, qB, nB, kB, hp0, hc0, hzA, hzB⟩ := hl.e0
  obtain ⟨gC0, oC0, bC, qC, nC, kC, bD, qD, nD, kD, hp1, hc1, hzC, hzD⟩ := hl.e1
  have hS := Sep.init w
  refine went Try.func91 rfl (n := 23) rfl rfl ?_
  refine wseq ?_
  refine wreg ?_
  refine wl rfl (oassign (v := .int .i64 0) rfl rfl (evc (v := .int .i64 0)) ?_)
  refine wl rfl (oassign (v := .int .i64 0) rfl rfl (evc (v := .int .i64 0)) ?_)
  refine wnil ?_
  refine thenN ?_
  refine wseq ?_
  obtain ⟨z1, hz1⟩ : ∃ z : Int, Hid (x * v = z) := ⟨_, rfl⟩
  have hk1 : Wd z1 33554432 := Wd.mul hzA.wd hzD.wd hz1 (by omega)
  obtain ⟨z2, hz2⟩ : ∃ z : Int, Hid (u * y = z) := ⟨_, rfl⟩
  have hk2 : Wd z2 33554432 := Wd.mul hzC.wd hzB.wd hz2 (by omega)
  obtain ⟨s3, hs3⟩ : ∃ z : Int, Hid (cmpZ z1 z2 = z) := ⟨_, rfl⟩
  refine wstage 21 [4, 5, 6, 7, 8, 9, 10, 11, 12, 13, 14, 15, 16, 17, 18, 19, 20, 21, 22, 2, 3] [[], [0], [1, 0], [2, 0, 1], [], [4], [5, 4], [6, 4, 5], [3, 7, 0, 1, 2, 4, 5, 6], [], [9], [10, 9], [11, 9, 10], [], [13], [14, 13], [15, 13, 14], [12, 16, 0, 1, 2, 3, 4, 5, 6, 7, 8, 9, 10, 11, 13, 14, 15], [8, 17, 0, 1, 2, 3, 4, 5, 6, 7, 9, 10, 11, 12, 13, 14, 15, 16], [18, 0, 1, 2, 3, 4, 5, 6, 7, 8, 9, 10, 11, 12, 13, 14, 15, 16, 17], [0, 1, 2, 3, 4, 5, 6, 7, 8, 9, 10, 11, 12, 13, 14, 15, 16, 17, 18, 19]] [[], [], [], [], [], [], [], [], [], [], [], [], [], [], [], [], [], [], [], [], []] [] [] (fun i9 => ([fun _ => Is (.slice pl 2 cl), fun _ => Is (.pointer (some ⟨gA0, (oA0 + 0 * 4), none⟩)), fun _ => Is (.pointer (some ⟨gA0, ((oA0 + 0 * 4) + 0), none⟩)), fun _ => Is (.agg #[.bool bA, .slice qA nA kA]), fun _ => Is (.slice pl 2 cl), fun _ => Is (.pointer (some ⟨gC0, (oC0 + 1 * 4), none⟩)), fun _ => Is (.pointer (some ⟨gC0, ((oC0 + 1 * 4) + 2), none⟩)), fun _ => Is (.agg #[.bool bD, .slice qD nD kD]), fun _ => Zt z1, fun _ => Is (.slice pl 2 cl), fun _ => Is (.pointer (some ⟨gC0, (oC0 + 1 * 4), none⟩)), fun _ => Is (.pointer (some ⟨gC0, ((oC0 + 1 * 4) + 0), none⟩)), fun _ => Is (.agg #[.bool bC, .slice qC nC kC]), fun _ => Is (.slice pl 2 cl), fun _ => Is (.pointer (some ⟨gA0, (oA0 + 0 * 4), none⟩)), fun _ => Is (.pointer (some ⟨gA0, ((oA0 + 0 * 4) + 2), none⟩)), fun _ => Is (.agg #[.bool bB, .slice qB nB kB]), fun _ => Zt z2, fun _ => Is (.int .i64 s3), fun _ => Is (.int .i64 s3), fun _ => Is (.int .i64 0)] : List (List Value → Tell)).getD i9 (fun _ _ _ => False)) (heldNil) (fun d _ _ _ _ h => (by cases d <;> exact h)) (by kernel_rfl) (by kernel_rfl) (by kernel_rfl) hS ?_ ?_
  ·
    refine stepsCons rfl ?_ ?_
    · intro Q f' w' ρ S ho hT hS hB
      exact .inl ⟨want_none rfl, omove (v := .slice pl 2 cl) rfl rfl (ev (v := .slice pl 2 cl) rfl (ho 0 rfl)) ⟨_, _, rfl, isI, New.same _⟩⟩
    refine stepsCons rfl ?_ ?_
    · intro Q f' w' ρ S ho hT hS hB
      obtain ⟨hv0, hr0⟩ := (hT 0 4 rfl rfl : (Is (.slice pl 2 cl)) (f' 4) (ρ 0))
      obtain hS := hS.flat1 hr0
      exact .inl ⟨want_none rfl, oindex (p := pl) (g := gA0) (off := oA0) (m := 2) (k := 0) (j := (oA0 + 0 * 4)) rfl rfl Try.runUnderlying38 Try.sizeOf27 (ev (v := .slice pl 2 cl) rfl hv0) (hp0) (evc (v := .int .i64 ((0 : Nat) : Int))) ((by omega)) rfl ⟨_, _, rfl, isI, New.same _⟩⟩
    refine stepsCons rfl ?_ ?_
    · intro Q f' w' ρ S ho hT hS hB
      obtain ⟨hv1, hr1⟩ := (hT 1 5 rfl rfl : (Is (.pointer (some ⟨gA0, (oA0 + 0 * 4), none⟩))) (f' 5) (ρ 1))
      obtain hS := hS.flat1 hr1
      exact .inl ⟨want_none rfl, ofieldAddr (g := gA0) (off := (oA0 + 0 * 4)) ((oA0 + 0 * 4) + 0) rfl rfl (ev (v := .pointer (some ⟨gA0, (oA0 + 0 * 4), none⟩)) rfl hv1) Try.runUnderlying27 rfl Try.sizeOf25 rfl ⟨_, _, rfl, isI, New.same _⟩⟩
    refine stepsCons rfl ?_ ?_
    · intro Q f' w' ρ S ho hT hS hB
      obtain ⟨hv2, hr2⟩ := (hT 2 6 rfl rfl : (Is (.pointer (some ⟨gA0, ((oA0 + 0 * 4) + 0), none⟩))) (f' 6) (ρ 2))
      obtain hS := hS.flat1 hr2
      exact .inl ⟨want_none rfl, oloadA (vs := [.bool bA, .slice qA nA kA]) aggZ rfl rfl (ev (v := .pointer (some ⟨gA0, ((oA0 + 0 * 4) + 0), none⟩)) rfl hv2) (fun j v hj => hS.cellAt ((cell_sub (us := [.bool bA, .slice qA nA kA]) hc0 0 rfl) j v hj)) rfl ⟨_, _, rfl, isI, New.same _⟩⟩
    refine stepsCons rfl ?_ ?_
    · intro Q f' w' ρ S ho hT hS hB
      exact .inl ⟨want_none rfl, omove (v := .slice pl 2 cl) rfl rfl (ev (v := .slice pl 2 cl) rfl (ho 0 rfl)) ⟨_, _, rfl, isI, New.same _⟩⟩
    refine stepsCons rfl ?_ ?_
    · intro Q f' w' ρ S ho hT hS hB
      obtain ⟨hv4, hr4⟩ := (hT 4 8 rfl rfl : (Is (.slice pl 2 cl)) (f' 8) (ρ 4))
      obtain hS := hS.flat1 hr4
      exact .inl ⟨want_none rfl, oindex (p := pl) (g := gC0) (off := oC0) (m := 2) (k := 1) (j := (oC0 + 1 * 4)) rfl rfl Try.runUnderlying38 Try.sizeOf27 (ev (v := .slice pl 2 cl) rfl hv4) (hp1) (evc (v := .int .i64 ((1 : Nat) : Int))) ((by omega)) rfl ⟨_, _, rfl, isI, New.same _⟩⟩
    refine stepsCons rfl ?_ ?_
    · intro Q f' w' ρ S ho hT hS hB
      obtain ⟨hv5, hr5⟩ := (hT 5 9 rfl rfl : (Is (.pointer (some ⟨gC0, (oC0 + 1 * 4), none⟩))) (f' 9) (ρ 5))
      obtain hS := hS.flat1 hr5
      exact .inl ⟨want_none rfl, ofieldAddr (g := gC0) (off := (oC0 + 1 * 4)) ((oC0 + 1 * 4) + 2) rfl rfl (ev (v := .pointer (some ⟨gC0, (oC0 + 1 * 4), none⟩)) rfl hv5) Try.runUnderlying27 rfl Try.sizeOf25 rfl ⟨_, _, rfl, isI, New.same _⟩⟩
    refine stepsCons rfl ?_ ?_
    · intro Q f' w' ρ S ho hT hS hB
      obtain ⟨hv6, hr6⟩ := (hT 6 10 rfl rfl : (Is (.pointer (some ⟨gC0, ((oC0 + 1 * 4) + 2), none⟩))) (f' 10) (ρ 6))
      obtain hS := hS.flat1 hr6
      exact .inl ⟨want_none rfl, oloadA (vs := [.bool bD, .slice qD nD kD]) aggZ rfl rfl (ev (v := .pointer (some ⟨gC0, ((oC0 + 1 * 4) + 2), none⟩)) rfl hv6) (fun j v hj => hS.cellAt ((cell_sub (us := [.bool bD, .slice qD nD kD]) hc1 2 rfl) j v hj)) rfl ⟨_, _, rfl, isI, New.same _⟩⟩
    refine stepsCons rfl ?_ ?_
    · intro Q f' w' ρ S ho hT hS hB
      obtain ⟨hv3, hr3⟩ := (hT 3 7 rfl rfl : (Is (.agg #[.bool bA, .slice qA nA kA])) (f' 7) (ρ 3))
      obtain ⟨hv7, hr7⟩ := (hT 7 11 rfl rfl : (Is (.agg #[.bool bD, .slice qD nD kD])) (f' 11) (ρ 7))
      obtain hS := hS.flat2 hr3 hr7
      refine .inl ⟨want_none rfl, ocall rfl rfl Try.call56 rfl (wzmul ((hzA.at hS).mono (by omega)) ((hzD.at hS).mono (by omega)) hz1) (args2 (ev rfl hv3) (ev rfl hv7)) ?_⟩
      rintro _ w9 ⟨_, _, rfl, hTT, hN⟩
      exact ⟨_, rfl, _, _, rfl, hTT, hN⟩
    refine stepsCons rfl ?_ ?_
    · intro Q f' w' ρ S ho hT hS hB
      exact .inl ⟨want_none rfl, omove (v := .slice pl 2 cl) rfl rfl (ev (v := .slice pl 2 cl) rfl (ho 0 rfl)) ⟨_, _, rfl, isI, New.same _⟩⟩
    refine stepsCons rfl ?_ ?_
    · intro Q f' w' ρ S ho hT hS hB
      obtain ⟨hv9, hr9⟩ := (hT 9 13 rfl rfl : (Is (.slice pl 2 cl)) (f' 13) (ρ 9))
      obtain hS := hS.flat1 hr9
      exact .inl ⟨want_none rfl, oindex (p := pl) (g := gC0) (off := oC0) (m := 2) (k := 1) (j := (oC0 + 1 * 4)) rfl rfl Try.runUnderlying38 Try.sizeOf27 (ev (v := .slice pl 2 cl) rfl hv9) (hp1) (evc (v := .int .i64 ((1 : Nat) : Int))) ((by omega)) rfl ⟨_, _, rfl, isI, New.same _⟩⟩
    refine stepsCons rfl ?_ ?_
    · intro Q f' w' ρ S ho hT hS hB
      obtain ⟨hv10, hr10⟩ := (hT 10 14 rfl rfl : (Is (.pointer (some ⟨gC0, (oC0 + 1 * 4), none⟩))) (f' 14) (ρ 10))
      obtain hS := hS.flat1 hr10
      exact .inl ⟨want_none rfl, ofieldAddr (g := gC0) (off := (oC0 + 1 * 4)) ((oC0 + 1 * 4) + 0) rfl rfl (ev (v := .pointer (some ⟨gC0, (oC0 + 1 * 4), none⟩)) rfl hv10) Try.runUnderlying27 rfl Try.sizeOf25 rfl ⟨_, _, rfl, isI, New.same _⟩⟩
    refine stepsCons rfl ?_ ?_
    · intro Q f' w' ρ S ho hT hS hB
      obtain ⟨hv11, hr11⟩ := (hT 11 15 rfl rfl : (Is (.pointer (some ⟨gC0, ((oC0 + 1 * 4) + 0), none⟩))) (f' 15) (ρ 11))
      obtain hS := hS.flat1 hr11
      exact .inl ⟨want_none rfl, oloadA (vs := [.bool bC, .slice qC nC kC]) aggZ rfl rfl (ev (v := .pointer (some ⟨gC0, ((oC0 + 1 * 4) + 0), none⟩)) rfl hv11) (fun j v hj => hS.cellAt ((cell_sub (us := [.bool bC, .slice qC nC kC]) hc1 0 rfl) j v hj)) rfl ⟨_, _, rfl, isI, New.same _⟩⟩
    refine stepsCons rfl ?_ ?_
    · intro Q f' w' ρ S ho hT hS hB
      exact .inl ⟨want_none rfl, omove (v := .slice pl 2 cl) rfl rfl (ev (v := .slice pl 2 cl) rfl (ho 0 rfl)) ⟨_, _, rfl, isI, New.same _⟩⟩
    refine stepsCons rfl ?_ ?_
    · intro Q f' w' ρ S ho hT hS hB
      obtain ⟨hv13, hr13⟩ := (hT 13 17 rfl rfl : (Is (.slice pl 2 cl)) (f' 17) (ρ 13))
      obtain hS := hS.flat1 hr13
      exact .inl ⟨want_none rfl, oindex (p := pl) (g := gA0) (off := oA0) (m := 2) (k := 0) (j := (oA0 + 0 * 4)) rfl rfl Try.runUnderlying38 Try.sizeOf27 (ev (v := .slice pl 2 cl) rfl hv13) (hp0) (evc (v := .int .i64 ((0 : Nat) : Int))) ((by omega)) rfl ⟨_, _, rfl, isI, New.same _⟩⟩
    refine stepsCons rfl ?_ ?_
    · intro Q f' w' ρ S ho hT hS hB
      obtain ⟨hv14, hr14⟩ := (hT 14 18 rfl rfl : (Is (.pointer (some ⟨gA0, (oA0 + 0 * 4), none⟩))) (f' 18) (ρ 14))
      obtain hS := hS.flat1 hr14
      exact .inl ⟨want_none rfl, ofieldAddr (g := gA0) (off := (oA0 + 0 * 4)) ((oA0 + 0 * 4) + 2) rfl rfl (ev (v := .pointer (some ⟨gA0, (oA0 + 0 * 4), none⟩)) rfl hv14) Try.runUnderlying27 rfl Try.sizeOf25 rfl ⟨_, _, rfl, isI, New.same _⟩⟩
    refine stepsCons rfl ?_ ?_
    · intro Q f' w' ρ S ho hT hS hB
      obtain ⟨hv15, hr15⟩ := (hT 15 19 rfl rfl : (Is (.pointer (some ⟨gA0, ((oA0 + 0 * 4) + 2), none⟩))) (f' 19) (ρ 15))
      obtain hS := hS.flat1 hr15
      exact .inl ⟨want_none rfl, oloadA (vs := [.bool bB, .slice qB nB kB]) aggZ rfl rfl (ev (v := .pointer (some ⟨gA0, ((oA0 + 0 * 4) + 2), none⟩)) rfl hv15) (fun j v hj => hS.cellAt ((cell_sub (us := [.bool bB, .slice qB nB kB]) hc0 2 rfl) j v hj)) rfl ⟨_, _, rfl, isI, New.same _⟩⟩
    refine stepsCons rfl ?_ ?_
    · intro Q f' w' ρ S ho hT hS hB
      obtain ⟨hv12, hr12⟩ := (hT 12 16 rfl rfl : (Is (.agg #[.bool bC, .slice qC nC kC])) (f' 16) (ρ 12))
      obtain ⟨hv16, hr16⟩ := (hT 16 20 rfl rfl : (Is (.agg #[.bool bB, .slice qB nB kB])) (f' 20) (ρ 16))
      obtain hS := hS.flat2 hr12 hr16
      refine .inl ⟨want_none rfl, ocall rfl rfl Try.call56 rfl (wzmul ((hzC.at hS).mono (by omega)) ((hzB.at hS).mono (by omega)) hz2) (args2 (ev rfl hv12) (ev rfl hv16)) ?_⟩
      rintro _ w9 ⟨_, _, rfl, hTT, hN⟩
      exact ⟨_, rfl, _, _, rfl, hTT, hN⟩
    refine stepsCons rfl ?_ ?_
    · intro Q f' w' ρ S ho hT hS hB
      obtain ⟨p1, n1, c1, hv8, hr8⟩ := (hT 8 12 rfl rfl : (Zt z1) (f' 12) (ρ 8))
      obtain ⟨p2, n2, c2, hv17, hr17⟩ := (hT 17 21 rfl rfl : (Zt z2) (f' 21) (ρ 17))
      obtain hS := hS.flat2 hr8 hr17
      refine .inl ⟨want_none rfl, ocall rfl rfl Try.call92 rfl (wzcmp (((hS.sl 0 rfl).zr hk1).mono (by omega)) (((hS.sl 1 rfl).zr hk2).mono (by omega)) hs3) (args2 (ev rfl hv8) (ev rfl hv17)) ?_⟩
      rintro _ w9 ⟨_, _, rfl, hTT, hN⟩
      exact ⟨_, rfl, _, _, rfl, hTT, hN⟩
    refine stepsCons rfl ?_ ?_
    · intro Q f' w' ρ S ho hT hS hB
      obtain ⟨hv18, hr18⟩ := (hT 18 22 rfl rfl : (Is (.int .i64 s3)) (f' 22) (ρ 18))
      obtain hS := hS.flat1 hr18
      exact .inl ⟨want_none rfl, oassign (v := .int .i64 s3) rfl rfl (ev (v := .int .i64 s3) rfl hv18) ⟨_, _, rfl, isI, New.same _⟩⟩
    refine stepsCons rfl ?_ ?_
    · intro Q f' w' ρ S ho hT hS hB
      exact .inl ⟨want_none rfl, oassign (v := .int .i64 0) rfl rfl (evc (v := .int .i64 0)) ⟨_, _, rfl, isI, New.same _⟩⟩
    exact stepsNil
  ·
    intro vs ρ w1 f' hf hT hS
    obtain ⟨hv0, hr0⟩ := (hT 0 (by decide) : (Is (.slice pl 2 cl)) (vs 0) (ρ 0))
    obtain ⟨hv1, hr1⟩ := (hT 1 (by decide) : (Is (.pointer (some ⟨gA0, (oA0 + 0 * 4), none⟩))) (vs 1) (ρ 1))
    obtain ⟨hv2, hr2⟩ := (hT 2 (by decide) : (Is (.pointer (some ⟨gA0, ((oA0 + 0 * 4) + 0), none⟩))) (vs 2) (ρ 2))
    obtain ⟨hv3, hr3⟩ := (hT 3 (by decide) : (Is (.agg #[.bool bA, .slice qA nA kA])) (vs 3) (ρ 3))
    obtain ⟨hv4, hr4⟩ := (hT 4 (by decide) : (Is (.slice pl 2 cl)) (vs 4) (ρ 4))
    obtain ⟨hv5, hr5⟩ := (hT 5 (by decide) : (Is (.pointer (some ⟨gC0, (oC0 + 1 * 4), none⟩))) (vs 5) (ρ 5))
    obtain ⟨hv6, hr6⟩ := (hT 6 (by decide) : (Is (.pointer (some ⟨gC0, ((oC0 + 1 * 4) + 2), none⟩))) (vs 6) (ρ 6))
    obtain ⟨hv7, hr7⟩ := (hT 7 (by decide) : (Is (.agg #[.bool bD, .slice qD nD kD])) (vs 7) (ρ 7))
    obtain ⟨p1, n1, c1, hv8, hr8⟩ := (hT 8 (by decide) : (Zt z1) (vs 8) (ρ 8))
    obtain ⟨hv9, hr9⟩ := (hT 9 (by decide) : (Is (.slice pl 2 cl)) (vs 9) (ρ 9))
    obtain ⟨hv10, hr10⟩ := (hT 10 (by decide) : (Is (.pointer (some ⟨gC0, (oC0 + 1 * 4), none⟩))) (vs 10) (ρ 10))
    obtain ⟨hv11, hr11⟩ := (hT 11 (by decide) : (Is (.pointer (some ⟨gC0, ((oC0 + 1 * 4) + 0), none⟩))) (vs 11) (ρ 11))
    obtain ⟨hv12, hr12⟩ := (hT 12 (by decide) : (Is (.agg #[.bool bC, .slice qC nC kC])) (vs 12) (ρ 12))
    obtain ⟨hv13, hr13⟩ := (hT 13 (by decide) : (Is (.slice pl 2 cl)) (vs 13) (ρ 13))
    obtain ⟨hv14, hr14⟩ := (hT 14 (by decide) : (Is (.pointer (some ⟨gA0, (oA0 + 0 * 4), none⟩))) (vs 14) (ρ 14))
    obtain ⟨hv15, hr15⟩ := (hT 15 (by decide) : (Is (.pointer (some ⟨gA0, ((oA0 + 0 * 4) + 2), none⟩))) (vs 15) (ρ 15))
    obtain ⟨hv16, hr16⟩ := (hT 16 (by decide) : (Is (.agg #[.bool bB, .slice qB nB kB])) (vs 16) (ρ 16))
    obtain ⟨p2, n2, c2, hv17, hr17⟩ := (hT 17 (by decide) : (Zt z2) (vs 17) (ρ 17))
    obtain ⟨hv18, hr18⟩ := (hT 18 (by decide) : (Is (.int .i64 s3)) (vs 18) (ρ 18))
    obtain ⟨hv19, hr19⟩ := (hT 19 (by decide) : (Is (.int .i64 s3)) (vs 19) (ρ 19))
    obtain ⟨hv20, hr20⟩ := (hT 20 (by decide) : (Is (.int .i64 0)) (vs 20) (ρ 20))
    simp only [pool, if_true, hr0, hr1, hr2, hr3, hr4, hr5, hr6, hr7, hr8, hr9, hr10, hr11, hr12, hr13, hr14, hr15, hr16, hr17, hr18, hr19, hr20, List.nil_append, List.cons_append, List.append_nil] at hS
    simp only [layf, hv0, hv1, hv2, hv3, hv4, hv5, hv6, hv7, hv8, hv9, hv10, hv11, hv12, hv13, hv14, hv15, hv16, hv17, hv18, hv19, hv20] at hf
    subst hf; clear hT hv0 hv1 hv2 hv3 hv4 hv5 hv6 hv7 hv8 hv9 hv10 hv11 hv12 hv13 hv14 hv15 hv16 hv17 hv18 hv19 hv20 hr0 hr1 hr2 hr3 hr4 hr5 hr6 hr7 hr8 hr9 hr10 hr11 hr12 hr13 hr14 hr15 hr16 hr17 hr18 hr19 hr20
    refine wdone rfl ?_
    refine thenN ?_
    refine wleave ?_
    refine wret2 Try.results91 (tellT (v := .int .i64 s3) rfl rfl) (tellT (v := .int .i64 0) rfl rfl) ?_
    obtain rfl : s3 = s := by rw [← hs3.out, ← hz1.out, ← hz2.out]; exact hs.out
    exact ⟨_, _, rfl, isI, hS.new0⟩

set_option maxRecDepth 100000 in
set_option maxHeartbeats 16000000 in
theorem wrfloor1 {z : Int} {x y : Int} {w : World} {pl : Option Addr} {cl : Nat} (hl : Rs w pl 1 [(x, y)] 16777216) (hy : y ≠ 0) (hz : Hid (x / y = z)) :
    Calls Try.prog 94 #[.slice pl 1 cl] w (Ret (ZEt z 0) w) := by
  obtain ⟨gA0, oA0, bA, qA, nA, kA, bB, qB, nB, kB, hp0, hc0, hzA, hzB⟩ := hl.e0
  have hS := Sep.init w
  refine went Try.func94 rfl (n := 22) rfl rfl ?_
  refine wseq ?_
  refine wreg ?_
  refine wl rfl (oalloc [.bool false, .slice none 0 0] hS rfl rfl Try.zeroValue25 rfl ?_)
  clear hS; intro g1 w2 hS
  refine wl rfl (oassign (v := .int .i64 0) rfl rfl (evc (v := .int .i64 0)) ?_)
  refine wnil ?_
  refine thenN ?_
  refine wseq ?_
  obtain ⟨z1, hz1⟩ : ∃ z : Int, Hid (x / y = z) := ⟨_, rfl⟩
  have hk1 : Wd z1 16777216 := Wd.ediv hzA.wd hz1
  obtain ⟨z2, hz2⟩ : ∃ z : Int, Hid (x % y = z) := ⟨_, rfl⟩
  have hk2 : Wd z2 16777216 := Wd.emod hzB.wd (hy) hz2
  refine wstage 15 [8, 9, 10, 11, 12, 13, 14, 15, 16, 7, 17, 18, 19, 4, 5] [[], [0], [1, 0], [2, 0, 1], [], [4], [5, 4], [6, 4, 5], [3, 7, 0, 1, 2, 4, 5, 6], [8, 0, 1, 2, 3, 4, 5, 6, 7], [8, 9, 0, 1, 2, 3, 4, 5, 6, 7], [8, 9, 0, 1, 2, 3, 4, 5, 6, 7], [8, 9, 0, 1, 2, 3, 4, 5, 6, 7], [], []] [[], [], [], [], [], [], [], [], [], [8], [8], [8], [], [], []] [11, 12] [] (fun i9 => ([fun _ => Is (.slice pl 1 cl), fun _ => Is (.pointer (some ⟨gA0, (oA0 + 0 * 4), none⟩)), fun _ => Is (.pointer (some ⟨gA0, ((oA0 + 0 * 4) + 0), none⟩)), fun _ => Is (.agg #[.bool bA, .slice qA nA kA]), fun _ => Is (.slice pl 1 cl), fun _ => Is (.pointer (some ⟨gA0, (oA0 + 0 * 4), none⟩)), fun _ => Is (.pointer (some ⟨gA0, ((oA0 + 0 * 4) + 2), none⟩)), fun _ => Is (.agg #[.bool bB, .slice qB nB kB]), fun _ => ZZEt z1 z2 0, fun us => Is (.tuple #[.agg #[.bool (ng z1), (vat (us.getD 0 undef) [0, 1])], .agg #[.bool (ng z2), (vat (us.getD 0 undef) [1, 1])], .int .i64 0]), fun us => Is (.agg #[.bool (ng z1), (vat (us.getD 0 undef) [0, 1])]), fun us => Is (.agg #[.bool (ng z2), (vat (us.getD 0 undef) [1, 1])]), fun _ => Is (.int .i64 0), fun _ => Ptr [.bool false, .slice none 0 0] 25, fun _ => Ptr [.bool false, .slice none 0 0] 25] : List (List Value → Tell)).getD i9 (fun _ _ _ => False)) (heldNil) (fun d _ _ _ _ h => (by cases d <;> exact h)) (by kernel_rfl) (by kernel_rfl) (by kernel_rfl) hS ?_ ?_
  ·
    refine stepsCons rfl ?_ ?_
    · intro Q f' w' ρ S ho hT hS hB
      exact .inl ⟨want_none rfl, omove (v := .slice pl 1 cl) rfl rfl (ev (v := .slice pl 1 cl) rfl (ho 0 rfl)) ⟨_, _, rfl, isI, New.same _⟩⟩
    refine stepsCons rfl ?_ ?_
    · intro Q f' w' ρ S ho hT hS hB
      obtain ⟨hv0, hr0⟩ := (hT 0 8 rfl rfl : (Is (.slice pl 1 cl)) (f' 8) (ρ 0))
      obtain hS := hS.flat1 hr0
      exact .inl ⟨want_none rfl, oindex (p := pl) (g := gA0) (off := oA0) (m := 1) (k := 0) (j := (oA0 + 0 * 4)) rfl rfl Try.runUnderlying38 Try.sizeOf27 (ev (v := .slice pl 1 cl) rfl hv0) (hp0) (evc (v := .int .i64 ((0 : Nat) : Int))) ((by omega)) rfl ⟨_, _, rfl, isI, New.same _⟩⟩
    refine stepsCons rfl ?_ ?_
    · intro Q f' w' ρ S ho hT hS hB
      obtain ⟨hv1, hr1⟩ := (hT 1 9 rfl rfl : (Is (.pointer (some ⟨gA0, (oA0 + 0 * 4), none⟩))) (f' 9) (ρ 1))
      obtain hS := hS.flat1 hr1
      exact .inl ⟨want_none rfl, ofieldAddr (g := gA0) (off := (oA0 + 0 * 4)) ((oA0 + 0 * 4) + 0) rfl rfl (ev (v := .pointer (some ⟨gA0, (oA0 + 0 * 4), none⟩)) rfl hv1) Try.runUnderlying27 rfl Try.sizeOf25 rfl ⟨_, _, rfl, isI, New.same _⟩⟩
    refine stepsCons rfl ?_ ?_
    · intro Q f' w' ρ S ho hT hS hB
      obtain ⟨hv2, hr2⟩ := (hT 2 10 rfl rfl : (Is (.pointer (some ⟨gA0, ((oA0 + 0 * 4) + 0), none⟩))) (f' 10) (ρ 2))
      obtain hS := hS.flat1 hr2
      exact .inl ⟨want_none rfl, oloadA (vs := [.bool bA, .slice qA nA kA]) aggZ rfl rfl (ev (v := .pointer (some ⟨gA0, ((oA0 + 0 * 4) + 0), none⟩)) rfl hv2) (fun j v hj => hS.cellAt ((cell_sub (us := [.bool bA, .slice qA nA kA]) hc0 0 rfl) j v hj)) rfl ⟨_, _, rfl, isI, New.same _⟩⟩
    refine stepsCons rfl ?_ ?_
    · intro Q f' w' ρ S ho hT hS hB
      exact .inl ⟨want_none rfl, omove (v := .slice pl 1 cl) rfl rfl (ev (v := .slice pl 1 cl) rfl (ho 0 rfl)) ⟨_, _, rfl, isI, New.same _⟩⟩
    refine stepsCons rfl ?_ ?_
    · intro Q f' w' ρ S ho hT hS hB
      obtain ⟨hv4, hr4⟩ := (hT 4 12 rfl rfl : (Is (.slice pl 1 cl)) (f' 12) (ρ 4))
      obtain hS := hS.flat1 hr4
      exact .inl ⟨want_none rfl, oindex (p := pl) (g := gA0) (off := oA0) (m := 1) (k := 0) (j := (oA0 + 0 * 4)) rfl rfl Try.runUnderlying38 Try.sizeOf27 (ev (v := .slice pl 1 cl) rfl hv4) (hp0) (evc (v := .int .i64 ((0 : Nat) : Int))) ((by omega)) rfl ⟨_, _, rfl, isI, New.same _⟩⟩
    refine stepsCons rfl ?_ ?_
    · intro Q f' w' ρ S ho hT hS hB
      obtain ⟨hv5, hr5⟩ := (hT 5 13 rfl rfl : (Is (.pointer (some ⟨gA0, (oA0 + 0 * 4), none⟩))) (f' 13) (ρ 5))
      obtain hS := hS.flat1 hr5
      exact .inl ⟨want_none rfl, ofieldAddr (g := gA0) (off := (oA0 + 0 * 4)) ((oA0 + 0 * 4) + 2) rfl rfl (ev (v := .pointer (some ⟨gA0, (oA0 + 0 * 4), none⟩)) rfl hv5) Try.runUnderlying27 rfl Try.sizeOf25 rfl ⟨_, _, rfl, isI, New.same _⟩⟩
    refine stepsCons rfl ?_ ?_
    · intro Q f' w' ρ S ho hT hS hB
      obtain ⟨hv6, hr6⟩ := (hT 6 14 rfl rfl : (Is (.pointer (some ⟨gA0, ((oA0 + 0 * 4) + 2), none⟩))) (f' 14) (ρ 6))
      obtain hS := hS.flat1 hr6
      exact .inl ⟨want_none rfl, oloadA (vs := [.bool bB, .slice qB nB kB]) aggZ rfl rfl (ev (v := .pointer (some ⟨gA0, ((oA0 + 0 * 4) + 2), none⟩)) rfl hv6) (fun j v hj => hS.cellAt ((cell_sub (us := [.bool bB, .slice qB nB kB]) hc0 2 rfl) j v hj)) rfl ⟨_, _, rfl, isI, New.same _⟩⟩
    refine stepsCons rfl ?_ ?_
    · intro Q f' w' ρ S ho hT hS hB
      obtain ⟨hv3, hr3⟩ := (hT 3 11 rfl rfl : (Is (.agg #[.bool bA, .slice qA nA kA])) (f' 11) (ρ 3))
      obtain ⟨hv7, hr7⟩ := (hT 7 15 rfl rfl : (Is (.agg #[.bool bB, .slice qB nB kB])) (f' 15) (ρ 7))
      obtain hS := hS.flat2 hr3 hr7
      refine .inl ⟨want_none rfl, ocall rfl rfl Try.call95 rfl (wzeuclid ((hzA.at hS).mono (by omega)) ((hzB.at hS).mono (by omega)) (hy) hz1 hz2) (args2 (ev rfl hv3) (ev rfl hv7)) ?_⟩
      rintro _ w9 ⟨_, _, rfl, hTT, hN⟩
      exact ⟨_, rfl, _, _, rfl, hTT, hN⟩
    refine stepsCons rfl ?_ ?_
    · intro Q f' w' ρ S ho hT hS hB
      obtain ⟨p1, n1, c1, p2, n2, c2, hv8, hr8⟩ := (hT 8 16 rfl rfl : (ZZEt z1 z2 0) (f' 16) (ρ 8))
      obtain hS := hS.flat1 hr8
      have hQ : (.tuple #[.agg #[.bool (ng z1), .slice p1 n1 c1], .agg #[.bool (ng z2), .slice p2 n2 c2], .int .i64 0] : Value) = (fun (us : List Value) => (.tuple #[.agg #[.bool (ng z1), (vat (us.getD 0 undef) [0, 1])], .agg #[.bool (ng z2), (vat (us.getD 0 undef) [1, 1])], .int .i64 0] : Value)) [f' 16] := by show _ = (.tuple #[.agg #[.bool (ng z1), (vat (f' 16) [0, 1])], .agg #[.bool (ng z2), (vat (f' 16) [1, 1])], .int .i64 0] : Value); rw [hv8]; rfl
      exact .inl ⟨want_none rfl, omove (v := .tuple #[.agg #[.bool (ng z1), .slice p1 n1 c1], .agg #[.bool (ng z2), .slice p2 n2 c2], .int .i64 0]) rfl rfl (ev (v := .tuple #[.agg #[.bool (ng z1), .slice p1 n1 c1], .agg #[.bool (ng z2), .slice p2 n2 c2], .int .i64 0]) rfl hv8) ⟨_, _, rfl, ⟨hQ, rfl⟩, New.same _⟩⟩
    refine stepsCons rfl ?_ ?_
    · intro Q f' w' ρ S ho hT hS hB
      obtain ⟨p1, n1, c1, p2, n2, c2, hv8, hr8⟩ := (hT 8 16 rfl rfl : (ZZEt z1 z2 0) (f' 16) (ρ 8))
      obtain ⟨hv9, hr9⟩ := (hT 9 7 rfl rfl : (fun (us : List Value) => Is (.tuple #[.agg #[.bool (ng z1), (vat (us.getD 0 undef) [0, 1])], .agg #[.bool (ng z2), (vat (us.getD 0 undef) [1, 1])], .int .i64 0])) [f' 16] (f' 7) (ρ 9))
      replace hv9 : f' 7 = .tuple #[.agg #[.bool (ng z1), .slice p1 n1 c1], .agg #[.bool (ng z2), .slice p2 n2 c2], .int .i64 0] := hv9.trans (by show (.tuple #[.agg #[.bool (ng z1), (vat (f' 16) [0, 1])], .agg #[.bool (ng z2), (vat (f' 16) [1, 1])], .int .i64 0] : Value) = _; rw [hv8]; rfl)
      obtain hS := hS.flat2 hr8 hr9
      have hQ : (.agg #[.bool (ng z1), .slice p1 n1 c1] : Value) = (fun (us : List Value) => (.agg #[.bool (ng z1), (vat (us.getD 0 undef) [0, 1])] : Value)) [f' 16] := by show _ = (.agg #[.bool (ng z1), (vat (f' 16) [0, 1])] : Value); rw [hv8]; rfl
      exact .inl ⟨want_none rfl, oextract (vs := [.agg #[.bool (ng z1), .slice p1 n1 c1], .agg #[.bool (ng z2), .slice p2 n2 c2], .int .i64 0]) (v := .agg #[.bool (ng z1), .slice p1 n1 c1]) rfl rfl (ev (v := .tuple #[.agg #[.bool (ng z1), .slice p1 n1 c1], .agg #[.bool (ng z2), .slice p2 n2 c2], .int .i64 0]) rfl hv9) rfl ⟨_, _, rfl, ⟨hQ, rfl⟩, New.same _⟩⟩
    refine stepsPure rfl ?_ ?_
    · intro f' ρ ho hT
      obtain ⟨p1, n1, c1, p2, n2, c2, hv8, hr8⟩ := (hT 8 16 rfl rfl : (ZZEt z1 z2 0) (f' 16) (ρ 8))
      obtain ⟨hv9, hr9⟩ := (hT 9 7 rfl rfl : (fun (us : List Value) => Is (.tuple #[.agg #[.bool (ng z1), (vat (us.getD 0 undef) [0, 1])], .agg #[.bool (ng z2), (vat (us.getD 0 undef) [1, 1])], .int .i64 0])) [f' 16] (f' 7) (ρ 9))
      replace hv9 : f' 7 = .tuple #[.agg #[.bool (ng z1), .slice p1 n1 c1], .agg #[.bool (ng z2), .slice p2 n2 c2], .int .i64 0] := hv9.trans (by show (.tuple #[.agg #[.bool (ng z1), (vat (f' 16) [0, 1])], .agg #[.bool (ng z2), (vat (f' 16) [1, 1])], .int .i64 0] : Value) = _; rw [hv8]; rfl)
      have hQ : (.agg #[.bool (ng z2), .slice p2 n2 c2] : Value) = (fun (us : List Value) => (.agg #[.bool (ng z2), (vat (us.getD 0 undef) [1, 1])] : Value)) [f' 16] := by show _ = (.agg #[.bool (ng z2), (vat (f' 16) [1, 1])] : Value); rw [hv8]; rfl
      exact ⟨_, .inl ⟨want_none rfl, fun w hw => yextract (vs := [.agg #[.bool (ng z1), .slice p1 n1 c1], .agg #[.bool (ng z2), .slice p2 n2 c2], .int .i64 0]) (v := .agg #[.bool (ng z2), .slice p2 n2 c2]) rfl (ev (v := .tuple #[.agg #[.bool (ng z1), .slice p1 n1 c1], .agg #[.bool (ng z2), .slice p2 n2 c2], .int .i64 0]) rfl hv9) rfl w⟩, ⟨hQ, rfl⟩⟩
    refine stepsPure rfl ?_ ?_
    · intro f' ρ ho hT
      obtain ⟨p1, n1, c1, p2, n2, c2, hv8, hr8⟩ := (hT 8 16 rfl rfl : (ZZEt z1 z2 0) (f' 16) (ρ 8))
      obtain ⟨hv9, hr9⟩ := (hT 9 7 rfl rfl : (fun (us : List Value) => Is (.tuple #[.agg #[.bool (ng z1), (vat (us.getD 0 undef) [0, 1])], .agg #[.bool (ng z2), (vat (us.getD 0 undef) [1, 1])], .int .i64 0])) [f' 16] (f' 7) (ρ 9))
      replace hv9 : f' 7 = .tuple #[.agg #[.bool (ng z1), .slice p1 n1 c1], .agg #[.bool (ng z2), .slice p2 n2 c2], .int .i64 0] := hv9.trans (by show (.tuple #[.agg #[.bool (ng z1), (vat (f' 16) [0, 1])], .agg #[.bool (ng z2), (vat (f' 16) [1, 1])], .int .i64 0] : Value) = _; rw [hv8]; rfl)
      exact ⟨_, .inl ⟨want_none rfl, fun w hw => yextract (vs := [.agg #[.bool (ng z1), .slice p1 n1 c1], .agg #[.bool (ng z2), .slice p2 n2 c2], .int .i64 0]) (v := .int .i64 0) rfl (ev (v := .tuple #[.agg #[.bool (ng z1), .slice p1 n1 c1], .agg #[.bool (ng z2), .slice p2 n2 c2], .int .i64 0]) rfl hv9) rfl w⟩, isI⟩
    refine stepsCons rfl ?_ ?_
    · intro Q f' w' ρ S ho hT hS hB
      exact .inl ⟨want_none rfl, oallocN [.bool false, .slice none 0 0] rfl rfl Try.zeroValue25 rfl ⟨_, _, rfl, ptrI, New.blk _ _ _⟩⟩
    refine stepsCons rfl ?_ ?_
    · intro Q f' w' ρ S ho hT hS hB
      exact .inl ⟨want_none rfl, oallocN [.bool false, .slice none 0 0] rfl rfl Try.zeroValue25 rfl ⟨_, _, rfl, ptrI, New.blk _ _ _⟩⟩
    exact stepsNil
  ·
    intro vs ρ w5 f' hf hT hS
    obtain ⟨hv0, hr0⟩ := (hT 0 (by decide) : (Is (.slice pl 1 cl)) (vs 0) (ρ 0))
    obtain ⟨hv1, hr1⟩ := (hT 1 (by decide) : (Is (.pointer (some ⟨gA0, (oA0 + 0 * 4), none⟩))) (vs 1) (ρ 1))
    obtain ⟨hv2, hr2⟩ := (hT 2 (by decide) : (Is (.pointer (some ⟨gA0, ((oA0 + 0 * 4) + 0), none⟩))) (vs 2) (ρ 2))
    obtain ⟨hv3, hr3⟩ := (hT 3 (by decide) : (Is (.agg #[.bool bA, .slice qA nA kA])) (vs 3) (ρ 3))
    obtain ⟨hv4, hr4⟩ := (hT 4 (by decide) : (Is (.slice pl 1 cl)) (vs 4) (ρ 4))
    obtain ⟨hv5, hr5⟩ := (hT 5 (by decide) : (Is (.pointer (some ⟨gA0, (oA0 + 0 * 4), none⟩))) (vs 5) (ρ 5))
    obtain ⟨hv6, hr6⟩ := (hT 6 (by decide) : (Is (.pointer (some ⟨gA0, ((oA0 + 0 * 4) + 2), none⟩))) (vs 6) (ρ 6))
    obtain ⟨hv7, hr7⟩ := (hT 7 (by decide) : (Is (.agg #[.bool bB, .slice qB nB kB])) (vs 7) (ρ 7))
    obtain ⟨p1, n1, c1, p2, n2, c2, hv8, hr8⟩ := (hT 8 (by decide) : (ZZEt z1 z2 0) (vs 8) (ρ 8))
    obtain ⟨hv9, hr9⟩ := (hT 9 (by decide) : (fun (us : List Value) => Is (.tuple #[.agg #[.bool (ng z1), (vat (us.getD 0 undef) [0, 1])], .agg #[.bool (ng z2), (vat (us.getD 0 undef) [1, 1])], .int .i64 0])) [vs 8] (vs 9) (ρ 9))
    replace hv9 : vs 9 = .tuple #[.agg #[.bool (ng z1), .slice p1 n1 c1], .agg #[.bool (ng z2), .slice p2 n2 c2], .int .i64 0] := hv9.trans (by show (.tuple #[.agg #[.bool (ng z1), (vat (vs 8) [0, 1])], .agg #[.bool (ng z2), (vat (vs 8) [1, 1])], .int .i64 0] : Value) = _; rw [hv8]; rfl)
    obtain ⟨hv10, hr10⟩ := (hT 10 (by decide) : (fun (us : List Value) => Is (.agg #[.bool (ng z1), (vat (us.getD 0 undef) [0, 1])])) [vs 8] (vs 10) (ρ 10))
    replace hv10 : vs 10 = .agg #[.bool (ng z1), .slice p1 n1 c1] := hv10.trans (by show (.agg #[.bool (ng z1), (vat (vs 8) [0, 1])] : Value) = _; rw [hv8]; rfl)
    obtain ⟨hv11, hr11⟩ := (hT 11 (by decide) : (fun (us : List Value) => Is (.agg #[.bool (ng z2), (vat (us.getD 0 undef) [1, 1])])) [vs 8] (vs 11) (ρ 11))
    replace hv11 : vs 11 = .agg #[.bool (ng z2), .slice p2 n2 c2] := hv11.trans (by show (.agg #[.bool (ng z2), (vat (vs 8) [1, 1])] : Value) = _; rw [hv8]; rfl)
    obtain ⟨hv12, hr12⟩ := (hT 12 (by decide) : (Is (.int .i64 0)) (vs 12) (ρ 12))
    obtain ⟨g3, hv13, hr13⟩ := (hT 13 (by decide) : (Ptr [.bool false, .slice none 0 0] 25) (vs 13) (ρ 13))
    obtain ⟨g4, hv14, hr14⟩ := (hT 14 (by decide) : (Ptr [.bool false, .slice none 0 0] 25) (vs 14) (ρ 14))
    simp only [pool, if_true, hr0, hr1, hr2, hr3, hr4, hr5, hr6, hr7, hr8, hr9, hr10, hr11, hr12, hr13, hr14, List.nil_append, List.cons_append, List.append_nil] at hS
    simp only [layf, hv0, hv1, hv2, hv3, hv4, hv5, hv6, hv7, hv8, hv9, hv10, hv11, hv12, hv13, hv14] at hf
    subst hf; clear hT hv0 hv1 hv2 hv3 hv4 hv5 hv6 hv7 hv8 hv9 hv10 hv11 hv12 hv13 hv14 hr0 hr1 hr2 hr3 hr4 hr5 hr6 hr7 hr8 hr9 hr10 hr11 hr12 hr13 hr14
    refine wlate 15 rfl (by kernel_rfl) (ostore [.bool (ng z1), .slice p1 n1 c1] [.bool (ng z1), .slice p1 n1 c1] Try.sizeOf25 hS 1 rfl rfl (ev rfl rfl) (ev (v := .agg #[.bool (ng z1), .slice p1 n1 c1]) rfl rfl) rfl rfl rfl rfl rfl rfl ?_)
    clear hS; intro w6 hS
    refine ⟨heldNil, ?_⟩
    refine wlate 16 rfl (by kernel_rfl) (ostore [.bool (ng z2), .slice p2 n2 c2] [.bool (ng z2), .slice p2 n2 c2] Try.sizeOf25 hS 0 rfl rfl (ev rfl rfl) (ev (v := .agg #[.bool (ng z2), .slice p2 n2 c2]) rfl rfl) rfl rfl rfl rfl rfl rfl ?_)
    clear hS; intro w7 hS
    refine ⟨heldNil, ?_⟩
    refine wlate 17 rfl (by kernel_rfl) (oassign (v := .int .i64 0) rfl rfl (ev (v := .int .i64 0) rfl rfl) ?_)
    refine ⟨heldNil, ?_⟩
    refine wdone rfl ?_
    refine thenN ?_
    refine wseq ?_
    refine wreg ?_
    refine wl rfl (oload (vs := [.bool (ng z1), .slice p1 n1 c1]) aggZ hS 1 rfl rfl (ev rfl rfl) rfl rfl rfl ?_)
    refine wl rfl (omove (v := .int .i64 0) rfl rfl (ev (v := .int .i64 0) rfl rfl) ?_)
    refine wl rfl (ostore [.bool (ng z1), .slice p1 n1 c1] [.bool (ng z1), .slice p1 n1 c1] Try.sizeOf25 hS 4 rfl rfl (ev rfl rfl) (ev (v := .agg #[.bool (ng z1), .slice p1 n1 c1]) rfl rfl) rfl rfl rfl rfl rfl rfl ?_)
    clear hS; intro w8 hS
    refine wl rfl (oassign (v := .int .i64 0) rfl rfl (ev (v := .int .i64 0) rfl rfl) ?_)
    refine wnil ?_
    refine thenN ?_
    refine wleave ?_
    refine wret2 Try.results94 (tellC (cs := [.bool (ng z1), .slice p1 n1 c1]) aggZ hS 4 rfl rfl rfl rfl) (tellT (v := .int .i64 0) rfl rfl) ?_
    obtain rfl : z1 = z := hz1.out.symm.trans hz.out
    exact ⟨_, _, rfl, ⟨_, _, _, rfl, rfl⟩, hS.new1 2 rfl⟩

end Go.Proofs.Ytoinfkimlhhmpaa
