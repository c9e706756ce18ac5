
/-
  rat's Neg; the document's Copy.
-/
import Derived.Test.YtoinfkimlhhmpaaRatLaws0
set_option linter.unusedVariables false
set_option linter.unusedSimpArgs false
namespace Go.Proofs.Ytoinfkimlhhmpaa
open Go.RowKit

/-- A fraction whose denominator was there before. -/
def RNgt (z : Int) (b : Bool) (q : Option Addr) (m d : Nat) : Tell := fun v r => ∃ p n c, v = .tuple #[.agg #[.bool (ng z), .slice p n c, .bool b, .slice q m d], .int .i64 0] ∧ r = [.rowm p n c (lim z.natAbs)]
/-- A fraction as it is, in new memory. -/
def Rct (b1 : Bool) (n : Nat) (xs : List Nat) (b2 : Bool) (m : Nat) (ys : List Nat) : Tell := fun v r => ∃ p c q d, v = .agg #[.bool b1, .slice p n c, .bool b2, .slice q m d] ∧ r = [.rowm p n c xs, .rowm q m d ys]

set_option maxRecDepth 100000 in
set_option maxHeartbeats 16000000 in
theorem wrneg1 {x z : Int} {gA0 oA0 : Nat} {bA bB : Bool} {qA qB : Option Addr} {nA kA nB kB : Nat} {w : World} {pl : Option Addr} {cl : Nat} (hp0 : pl = some ⟨gA0, oA0, none⟩) (hc0 : ∀ j v, [Value.bool bA, .slice qA nA kA, .bool bB, .slice qB nB kB][j]? = some v → w.cell? ⟨gA0, oA0 + 0 * 4 + j, none⟩ = some v) (hzA : Zr w bA qA nA kA x 16777216) (hz : Hid (-x = z)) :
    Calls Try.prog 74 #[.slice pl 1 cl] w (Ret (RNgt z bB qB nB kB) w) := by
  have hS := Sep.init w
  refine went Try.func74 rfl (n := 14) rfl rfl ?_
  refine wseq ?_
  refine wreg ?_
  refine wl rfl (oalloc [.bool false, .slice none 0 0, .bool false, .slice none 0 0] hS rfl rfl Try.zeroValue27 rfl ?_)
  clear hS; intro g1 w2 hS
  refine wl rfl (oassign (v := .int .i64 0) rfl rfl (evc (v := .int .i64 0)) ?_)
  refine wnil ?_
  refine thenN ?_
  refine wseq ?_
  obtain ⟨z1, hz1⟩ : ∃ z : Int, Hid (-x = z) := ⟨_, rfl⟩
  have hk1 : Wd z1 16777216 := Wd.neg hzA.wd hz1
  refine wstage 10 [4, 5, 6, 7, 8, 9, 10, 11, 12, 13] [[], [0], [1, 0], [2, 0, 1], [3, 0, 1, 2], [], [5], [6, 5], [7, 5, 6], [4, 8, 0, 1, 2, 3, 5, 6, 7]] [[], [], [], [], [], [], [], [], [], [4]] [] [] (fun i9 => ([fun _ => Is (.slice pl 1 cl), fun _ => Is (.pointer (some ⟨gA0, (oA0 + 0 * 4), none⟩)), fun _ => Is (.pointer (some ⟨gA0, ((oA0 + 0 * 4) + 0), none⟩)), fun _ => Is (.agg #[.bool bA, .slice qA nA kA]), fun _ => Zm z1, fun _ => Is (.slice pl 1 cl), fun _ => Is (.pointer (some ⟨gA0, (oA0 + 0 * 4), none⟩)), fun _ => Is (.pointer (some ⟨gA0, ((oA0 + 0 * 4) + 2), none⟩)), fun _ => Is (.agg #[.bool bB, .slice qB nB kB]), fun us => Is (.agg #[.bool (ng z1), (vat (us.getD 0 undef) [1]), .bool bB, .slice qB nB kB])] : List (List Value → Tell)).getD i9 (fun _ _ _ => False)) (heldNil) (fun d _ _ _ _ h => (by cases d <;> exact h)) (by kernel_rfl) (by kernel_rfl) (by kernel_rfl) hS ?_ ?_
  ·
    refine stepsCons rfl ?_ ?_
    · intro Q f' w' ρ S ho hT hS hB
      exact .inl ⟨want_none rfl, omove (v := .slice pl 1 cl) rfl rfl (ev (v := .slice pl 1 cl) rfl (ho 0 rfl)) ⟨_, _, rfl, isI, New.same _⟩⟩
    refine stepsCons rfl ?_ ?_
    · intro Q f' w' ρ S ho hT hS hB
      obtain ⟨hv0, hr0⟩ := (hT 0 4 rfl rfl : (Is (.slice pl 1 cl)) (f' 4) (ρ 0))
      obtain hS := hS.flat1 hr0
      exact .inl ⟨want_none rfl, oindex (p := pl) (g := gA0) (off := oA0) (m := 1) (k := 0) (j := (oA0 + 0 * 4)) rfl rfl Try.runUnderlying38 Try.sizeOf27 (ev (v := .slice pl 1 cl) rfl hv0) (hp0) (evc (v := .int .i64 ((0 : Nat) : Int))) ((by omega)) rfl ⟨_, _, rfl, isI, New.same _⟩⟩
    refine stepsCons rfl ?_ ?_
    · intro Q f' w' ρ S ho hT hS hB
      obtain ⟨hv1, hr1⟩ := (hT 1 5 rfl rfl : (Is (.pointer (some ⟨gA0, (oA0 + 0 * 4), none⟩))) (f' 5) (ρ 1))
      obtain hS := hS.flat1 hr1
      exact .inl ⟨want_none rfl, ofieldAddr (g := gA0) (off := (oA0 + 0 * 4)) ((oA0 + 0 * 4) + 0) rfl rfl (ev (v := .pointer (some ⟨gA0, (oA0 + 0 * 4), none⟩)) rfl hv1) Try.runUnderlying27 rfl Try.sizeOf25 rfl ⟨_, _, rfl, isI, New.same _⟩⟩
    refine stepsCons rfl ?_ ?_
    · intro Q f' w' ρ S ho hT hS hB
      obtain ⟨hv2, hr2⟩ := (hT 2 6 rfl rfl : (Is (.pointer (some ⟨gA0, ((oA0 + 0 * 4) + 0), none⟩))) (f' 6) (ρ 2))
      obtain hS := hS.flat1 hr2
      exact .inl ⟨want_none rfl, oloadA (vs := [.bool bA, .slice qA nA kA]) aggZ rfl rfl (ev (v := .pointer (some ⟨gA0, ((oA0 + 0 * 4) + 0), none⟩)) rfl hv2) (fun j v hj => hS.cellAt ((cell_sub (us := [.bool bA, .slice qA nA kA]) hc0 0 rfl) j v hj)) rfl ⟨_, _, rfl, isI, New.same _⟩⟩
    refine stepsCons rfl ?_ ?_
    · intro Q f' w' ρ S ho hT hS hB
      obtain ⟨hv3, hr3⟩ := (hT 3 7 rfl rfl : (Is (.agg #[.bool bA, .slice qA nA kA])) (f' 7) (ρ 3))
      obtain hS := hS.flat1 hr3
      refine .inl ⟨want_none rfl, ocall rfl rfl Try.call75 rfl ((wzneg ((hzA.at hS).mono (by omega)) hz1).mono Zt.m) (args1 (ev rfl hv3)) ?_⟩
      rintro _ w9 ⟨_, _, rfl, hTT, hN⟩
      exact ⟨_, rfl, _, _, rfl, hTT, hN⟩
    refine stepsCons rfl ?_ ?_
    · intro Q f' w' ρ S ho hT hS hB
      exact .inl ⟨want_none rfl, omove (v := .slice pl 1 cl) rfl rfl (ev (v := .slice pl 1 cl) rfl (ho 0 rfl)) ⟨_, _, rfl, isI, New.same _⟩⟩
    refine stepsCons rfl ?_ ?_
    · intro Q f' w' ρ S ho hT hS hB
      obtain ⟨hv5, hr5⟩ := (hT 5 9 rfl rfl : (Is (.slice pl 1 cl)) (f' 9) (ρ 5))
      obtain hS := hS.flat1 hr5
      exact .inl ⟨want_none rfl, oindex (p := pl) (g := gA0) (off := oA0) (m := 1) (k := 0) (j := (oA0 + 0 * 4)) rfl rfl Try.runUnderlying38 Try.sizeOf27 (ev (v := .slice pl 1 cl) rfl hv5) (hp0) (evc (v := .int .i64 ((0 : Nat) : Int))) ((by omega)) rfl ⟨_, _, rfl, isI, New.same _⟩⟩
    refine stepsCons rfl ?_ ?_
    · intro Q f' w' ρ S ho hT hS hB
      obtain ⟨hv6, hr6⟩ := (hT 6 10 rfl rfl : (Is (.pointer (some ⟨gA0, (oA0 + 0 * 4), none⟩))) (f' 10) (ρ 6))
      obtain hS := hS.flat1 hr6
      exact .inl ⟨want_none rfl, ofieldAddr (g := gA0) (off := (oA0 + 0 * 4)) ((oA0 + 0 * 4) + 2) rfl rfl (ev (v := .pointer (some ⟨gA0, (oA0 + 0 * 4), none⟩)) rfl hv6) Try.runUnderlying27 rfl Try.sizeOf25 rfl ⟨_, _, rfl, isI, New.same _⟩⟩
    refine stepsCons rfl ?_ ?_
    · intro Q f' w' ρ S ho hT hS hB
      obtain ⟨hv7, hr7⟩ := (hT 7 11 rfl rfl : (Is (.pointer (some ⟨gA0, ((oA0 + 0 * 4) + 2), none⟩))) (f' 11) (ρ 7))
      obtain hS := hS.flat1 hr7
      exact .inl ⟨want_none rfl, oloadA (vs := [.bool bB, .slice qB nB kB]) aggZ rfl rfl (ev (v := .pointer (some ⟨gA0, ((oA0 + 0 * 4) + 2), none⟩)) rfl hv7) (fun j v hj => hS.cellAt ((cell_sub (us := [.bool bB, .slice qB nB kB]) hc0 2 rfl) j v hj)) rfl ⟨_, _, rfl, isI, New.same _⟩⟩
    refine stepsCons rfl ?_ ?_
    · intro Q f' w' ρ S ho hT hS hB
      obtain ⟨p1, n1, c1, hv4, hr4⟩ := (hT 4 8 rfl rfl : (Zm z1) (f' 8) (ρ 4))
      obtain ⟨hv8, hr8⟩ := (hT 8 12 rfl rfl : (Is (.agg #[.bool bB, .slice qB nB kB])) (f' 12) (ρ 8))
      obtain hS := hS.flat2 hr4 hr8
      have hQ : (.agg #[.bool (ng z1), .slice p1 n1 c1, .bool bB, .slice qB nB kB] : Value) = (fun (us : List Value) => (.agg #[.bool (ng z1), (vat (us.getD 0 undef) [1]), .bool bB, .slice qB nB kB] : Value)) [f' 8] := by show _ = (.agg #[.bool (ng z1), (vat (f' 8) [1]), .bool bB, .slice qB nB kB] : Value); rw [hv4]; rfl
      exact .inl ⟨want_none rfl, obuild (ps := #[(0, .agg #[.bool (ng z1), .slice p1 n1 c1]), (1, .agg #[.bool bB, .slice qB nB kB])]) (v := .agg #[.bool (ng z1), .slice p1 n1 c1, .bool bB, .slice qB nB kB]) rfl rfl (parts2 (ev (v := .agg #[.bool (ng z1), .slice p1 n1 c1]) rfl hv4) (ev (v := .agg #[.bool bB, .slice qB nB kB]) rfl hv8)) (fun w => by simp [go_sem, Instr.build, Instr.fill]) ⟨_, _, rfl, ⟨hQ, rfl⟩, New.same _⟩⟩
    exact stepsNil
  ·
    intro vs ρ w3 f' hf hT hS
    obtain ⟨hv0, hr0⟩ := (hT 0 (by decide) : (Is (.slice pl 1 cl)) (vs 0) (ρ 0))
    obtain ⟨hv1, hr1⟩ := (hT 1 (by decide) : (Is (.pointer (some ⟨gA0, (oA0 + 0 * 4), none⟩))) (vs 1) (ρ 1))
    obtain ⟨hv2, hr2⟩ := (hT 2 (by decide) : (Is (.pointer (some ⟨gA0, ((oA0 + 0 * 4) + 0), none⟩))) (vs 2) (ρ 2))
    obtain ⟨hv3, hr3⟩ := (hT 3 (by decide) : (Is (.agg #[.bool bA, .slice qA nA kA])) (vs 3) (ρ 3))
    obtain ⟨p1, n1, c1, hv4, hr4⟩ := (hT 4 (by decide) : (Zm z1) (vs 4) (ρ 4))
    obtain ⟨hv5, hr5⟩ := (hT 5 (by decide) : (Is (.slice pl 1 cl)) (vs 5) (ρ 5))
    obtain ⟨hv6, hr6⟩ := (hT 6 (by decide) : (Is (.pointer (some ⟨gA0, (oA0 + 0 * 4), none⟩))) (vs 6) (ρ 6))
    obtain ⟨hv7, hr7⟩ := (hT 7 (by decide) : (Is (.pointer (some ⟨gA0, ((oA0 + 0 * 4) + 2), none⟩))) (vs 7) (ρ 7))
    obtain ⟨hv8, hr8⟩ := (hT 8 (by decide) : (Is (.agg #[.bool bB, .slice qB nB kB])) (vs 8) (ρ 8))
    obtain ⟨hv9, hr9⟩ := (hT 9 (by decide) : (fun (us : List Value) => Is (.agg #[.bool (ng z1), (vat (us.getD 0 undef) [1]), .bool bB, .slice qB nB kB])) [vs 4] (vs 9) (ρ 9))
    replace hv9 : vs 9 = .agg #[.bool (ng z1), .slice p1 n1 c1, .bool bB, .slice qB nB kB] := hv9.trans (by show (.agg #[.bool (ng z1), (vat (vs 4) [1]), .bool bB, .slice qB nB kB] : Value) = _; rw [hv4]; rfl)
    simp only [pool, if_true, hr0, hr1, hr2, hr3, hr4, hr5, hr6, hr7, hr8, hr9, List.nil_append, List.cons_append, List.append_nil] at hS
    simp only [layf, hv0, hv1, hv2, hv3, hv4, hv5, hv6, hv7, hv8, hv9] at hf
    subst hf; clear hT hv0 hv1 hv2 hv3 hv4 hv5 hv6 hv7 hv8 hv9 hr0 hr1 hr2 hr3 hr4 hr5 hr6 hr7 hr8 hr9
    refine wlate 10 rfl (by kernel_rfl) (ostore [.bool (ng z1), .slice p1 n1 c1, .bool bB, .slice qB nB kB] [.bool (ng z1), .slice p1 n1 c1, .bool bB, .slice qB nB kB] Try.sizeOf27 hS 1 rfl rfl (ev rfl rfl) (ev (v := .agg #[.bool (ng z1), .slice p1 n1 c1, .bool bB, .slice qB nB kB]) rfl rfl) rfl rfl rfl rfl rfl rfl ?_)
    clear hS; intro w4 hS
    refine ⟨heldNil, ?_⟩
    refine wlate 11 rfl (by kernel_rfl) (oassign (v := .int .i64 0) rfl rfl (evc (v := .int .i64 0)) ?_)
    refine ⟨heldNil, ?_⟩
    refine wdone rfl ?_
    refine thenN ?_
    refine wleave ?_
    refine wret2 Try.results74 (tellC (cs := [.bool (ng z1), .slice p1 n1 c1, .bool bB, .slice qB nB kB]) aggR hS 1 rfl rfl rfl rfl) (tellT (v := .int .i64 0) rfl rfl) ?_
    obtain rfl : z1 = z := hz1.out.symm.trans hz.out
    exact ⟨_, _, rfl, ⟨_, _, _, rfl, rfl⟩, hS.newM [0] (by decide) rfl rfl⟩

theorem neg_made {x y z t : Int} {w w1 : World} {R : List Res} {p : Option Addr} {c : Nat} {es : List El} (hy : y ≠ 0) (hkx : Wd x 16777216) (hz : Hid (RN (-x) y = z)) (ht : Hid (RD (-x) y = t)) (hes : REls [(x, y)] 1 es) (hS : Sep w (.lst 27 4 p 1 c es :: R) w1) :
    Calls Try.prog 74 #[.slice p 1 c] w1 (fun e w' => ∃ v s, e = .returned v ∧ RRt z t 0 v s ∧ Sep w (s ++ R) w') := by
  obtain ⟨h0, p1, n1, c1, q, m1, d, he⟩ := hes.2 0 (x, y) (by omega) rfl
  obtain ⟨g, hg, hc, hr⟩ := hS.lstCell 0 rfl he (by omega)
  have hf : Fr 0 w1 p1 n1 c1 (lim (RN x y).natAbs) := hr (.rowm p1 n1 c1 (lim (RN x y).natAbs)) List.mem_cons_self
  have hl := neg_low (x := x) hy
  have e1 : es = [elR (RN x y) p1 n1 c1 (RD x y) q m1 d] := by
    match es, hes.1, he with
    | [a], _, he => simp at he; rw [he]
  refine (wrneg1 (z := z) hg hc (hf.sl.zr (hkx.rn rfl)) (show Hid (_ = _) from hl.1.trans hz.out)).mono fun e w' h => ?_
  obtain ⟨v, r, rfl, ⟨p2, n2, c2, rfl, rfl⟩, hN⟩ := h
  have h1 := hS.news hN
  have h2 : Sep w (.lst 27 4 p 1 c es :: .rowm p2 n2 c2 (lim z.natAbs) :: R) w' := h1.perm (List.Perm.swap _ _ _)
  obtain ⟨_, _, h3⟩ := h2.openL
  rw [e1] at h3
  have h4 : Sep w (.rowm q m1 d (lim (RD x y).natAbs) :: .rowm p2 n2 c2 (lim z.natAbs) :: R) w' := h3.sub ((List.Sublist.refl _).cons _ |>.cons _)
  have h5 := h4.perm (List.Perm.swap _ _ _)
  rw [hl.2.trans ht.out] at h5
  exact ⟨_, _, rfl, ⟨p2, n2, c2, q, m1, d, by rw [hl.2.trans ht.out], rfl⟩, h5⟩

set_option maxRecDepth 100000 in
set_option maxHeartbeats 16000000 in
theorem wrneg {x y z t : Int} {bA bB : Bool} {qA qB : Option Addr} {nA kA nB kB : Nat} {w : World} (hzA : Zr w bA qA nA kA x 16777216) (hzB : Zr w bB qB nB kB y 16777216) (hy : y ≠ 0) (hz : Hid (RN (-x) y = z)) (ht : Hid (RD (-x) y = t)) :
    Calls Try.prog 28 #[.agg #[.bool bA, .slice qA nA kA, .bool bB, .slice qB nB kB]] w (Ret (RRt z t 0) w) := by
  have hS := Sep.init w
  refine went Try.func28 rfl (n := 9) rfl rfl ?_
  refine wseq ?_
  refine wreg ?_
  refine wl rfl (obox [.bool bA, .slice qA nA kA, .bool bB, .slice qB nB kB] hS rfl rfl (ev (v := .agg #[.bool bA, .slice qA nA kA, .bool bB, .slice qB nB kB]) rfl rfl) rfl ?_)
  clear hS; intro g1 w2 hS
  refine wl rfl (oalloc [.bool false, .slice none 0 0, .bool false, .slice none 0 0] hS rfl rfl Try.zeroValue27 rfl ?_)
  clear hS; intro g3 w4 hS
  refine wl rfl (oassign (v := .int .i64 0) rfl rfl (evc (v := .int .i64 0)) ?_)
  refine wnil ?_
  refine thenN ?_
  refine wseq ?_
  refine wreg ?_
  refine wl rfl (oload (vs := [.bool bA, .slice qA nA kA, .bool bB, .slice qB nB kB]) aggR hS 1 rfl rfl (ev rfl rfl) rfl rfl rfl ?_)
  refine wl rfl (obslice (ps := #[(0, .agg #[.bool bA, .slice qA nA kA, .bool bB, .slice qB nB kB])]) (z := .agg #[.bool false, .slice none 0 0, .bool false, .slice none 0 0]) [.bool bA, .slice qA nA kA, .bool bB, .slice qB nB kB] hS rfl rfl Try.runUnderlying38 Try.sizeOf27 Try.zeroValue27 (parts1 (ev (v := .agg #[.bool bA, .slice qA nA kA, .bool bB, .slice qB nB kB]) rfl rfl)) rfl (by decide) fill4_1 ?_)
  clear hS; intro g5 w6 hS
  refine wl rfl (ocall rfl rfl Try.call53 rfl (wmadeR (z := z) (t := t) (E := 0) Try.call74 ((Rs.one (hS.blkAt 0 rfl) (hzA.at hS) (hzB.at hS)).mono (by omega)) (by intro e he; simp only [List.mem_cons, List.not_mem_nil, or_false] at he; subst he; assumption) (fun R w0 w1 p c es hes hS => by rw [Array.append_empty]; exact neg_made hy hzA.wd hz ht hes hS)) (args2 rfl (ev rfl rfl)) ?_)
  rintro _ w7 ⟨_, _, rfl, ⟨pr1, nr1, cr1, pr2, nr2, cr2, rfl, rfl⟩, hN⟩
  refine ⟨_, rfl, ?_⟩
  replace hS := hS.news hN; clear hN
  refine wl rfl (oextract (vs := [.agg #[.bool (ng z), .slice pr1 nr1 cr1, .bool (ng t), .slice pr2 nr2 cr2], .int .i64 0]) (v := .agg #[.bool (ng z), .slice pr1 nr1 cr1, .bool (ng t), .slice pr2 nr2 cr2]) rfl rfl (ev (v := .tuple #[.agg #[.bool (ng z), .slice pr1 nr1 cr1, .bool (ng t), .slice pr2 nr2 cr2], .int .i64 0]) rfl rfl) rfl ?_)
  refine wl rfl (oextract (vs := [.agg #[.bool (ng z), .slice pr1 nr1 cr1, .bool (ng t), .slice pr2 nr2 cr2], .int .i64 0]) (v := .int .i64 0) rfl rfl (ev (v := .tuple #[.agg #[.bool (ng z), .slice pr1 nr1 cr1, .bool (ng t), .slice pr2 nr2 cr2], .int .i64 0]) rfl rfl) rfl ?_)
  refine wl rfl (ostore [.bool (ng z), .slice pr1 nr1 cr1, .bool (ng t), .slice pr2 nr2 cr2] [.bool (ng z), .slice pr1 nr1 cr1, .bool (ng t), .slice pr2 nr2 cr2] Try.sizeOf27 hS 3 rfl rfl (ev rfl rfl) (ev (v := .agg #[.bool (ng z), .slice pr1 nr1 cr1, .bool (ng t), .slice pr2 nr2 cr2]) rfl rfl) rfl rfl rfl rfl rfl rfl ?_)
  clear hS; intro w8 hS
  refine wl rfl (oassign (v := .int .i64 0) rfl rfl (ev (v := .int .i64 0) rfl rfl) ?_)
  refine wnil ?_
  refine thenN ?_
  refine wleave ?_
  refine wret2 Try.results28 (tellC (cs := [.bool (ng z), .slice pr1 nr1 cr1, .bool (ng t), .slice pr2 nr2 cr2]) aggR hS 3 rfl rfl rfl rfl) (tellT (v := .int .i64 0) rfl rfl) ?_
  exact ⟨_, _, rfl, ⟨_, _, _, _, _, _, rfl, rfl⟩, hS.newM [0, 1] (by decide) rfl rfl⟩

set_option maxRecDepth 100000 in
set_option maxHeartbeats 16000000 in
theorem wrneg0 {x y : Int} {bA bB : Bool} {qA qB : Option Addr} {nA kA nB kB : Nat} {w : World} (hzA : Zr w bA qA nA kA x 16777216) (hzB : Zr w bB qB nB kB y 16777216) (h0 : y = 0) :
    Calls Try.prog 28 #[.agg #[.bool bA, .slice qA nA kA, .bool bB, .slice qB nB kB]] w (Ret (Is (.tuple #[.agg #[.bool false, .slice none 0 0, .bool false, .slice none 0 0], .int .i64 6])) w) := by
  have hS := Sep.init w
  refine went Try.func28 rfl (n := 9) rfl rfl ?_
  refine wseq ?_
  refine wreg ?_
  refine wl rfl (obox [.bool bA, .slice qA nA kA, .bool bB, .slice qB nB kB] hS rfl rfl (ev (v := .agg #[.bool bA, .slice qA nA kA, .bool bB, .slice qB nB kB]) rfl rfl) rfl ?_)
  clear hS; intro g1 w2 hS
  refine wl rfl (oalloc [.bool false, .slice none 0 0, .bool false, .slice none 0 0] hS rfl rfl Try.zeroValue27 rfl ?_)
  clear hS; intro g3 w4 hS
  refine wl rfl (oassign (v := .int .i64 0) rfl rfl (evc (v := .int .i64 0)) ?_)
  refine wnil ?_
  refine thenN ?_
  refine wseq ?_
  refine wreg ?_
  refine wl rfl (oload (vs := [.bool bA, .slice qA nA kA, .bool bB, .slice qB nB kB]) aggR hS 1 rfl rfl (ev rfl rfl) rfl rfl rfl ?_)
  refine wl rfl (obslice (ps := #[(0, .agg #[.bool bA, .slice qA nA kA, .bool bB, .slice qB nB kB])]) (z := .agg #[.bool false, .slice none 0 0, .bool false, .slice none 0 0]) [.bool bA, .slice qA nA kA, .bool bB, .slice qB nB kB] hS rfl rfl Try.runUnderlying38 Try.sizeOf27 Try.zeroValue27 (parts1 (ev (v := .agg #[.bool bA, .slice qA nA kA, .bool bB, .slice qB nB kB]) rfl rfl)) rfl (by decide) fill4_1 ?_)
  clear hS; intro g5 w6 hS
  refine wl rfl (ocall rfl rfl Try.call53 rfl (wmadeR0 ((Rs.one (hS.blkAt 0 rfl) (hzA.at hS) (hzB.at hS)).mono (by omega)) ⟨_, List.mem_cons_self, h0⟩) (args2 rfl (ev rfl rfl)) ?_)
  rintro _ w7 ⟨_, _, rfl, ⟨rfl, rfl⟩, hN⟩
  refine ⟨_, rfl, ?_⟩
  replace hS := hS.news hN; clear hN
  refine wl rfl (oextract (vs := [.agg #[.bool false, .slice none 0 0, .bool false, .slice none 0 0], .int .i64 6]) (v := .agg #[.bool false, .slice none 0 0, .bool false, .slice none 0 0]) rfl rfl (ev (v := .tuple #[.agg #[.bool false, .slice none 0 0, .bool false, .slice none 0 0], .int .i64 6]) rfl rfl) rfl ?_)
  refine wl rfl (oextract (vs := [.agg #[.bool false, .slice none 0 0, .bool false, .slice none 0 0], .int .i64 6]) (v := .int .i64 6) rfl rfl (ev (v := .tuple #[.agg #[.bool false, .slice none 0 0, .bool false, .slice none 0 0], .int .i64 6]) rfl rfl) rfl ?_)
  refine wl rfl (ostore [.bool false, .slice none 0 0, .bool false, .slice none 0 0] [.bool false, .slice none 0 0, .bool false, .slice none 0 0] Try.sizeOf27 hS 1 rfl rfl (ev rfl rfl) (ev (v := .agg #[.bool false, .slice none 0 0, .bool false, .slice none 0 0]) rfl rfl) rfl rfl rfl rfl rfl rfl ?_)
  clear hS; intro w8 hS
  refine wl rfl (oassign (v := .int .i64 6) rfl rfl (ev (v := .int .i64 6) rfl rfl) ?_)
  refine wnil ?_
  refine thenN ?_
  refine wleave ?_
  refine wret2 Try.results28 (tellC (cs := [.bool false, .slice none 0 0, .bool false, .slice none 0 0]) aggR hS 1 rfl rfl rfl rfl) (tellT (v := .int .i64 6) rfl rfl) ?_
  exact ⟨_, _, rfl, isI, hS.new0⟩

set_option maxRecDepth 100000 in
set_option maxHeartbeats 16000000 in
theorem wscopy {bA bB : Bool} {qA qB : Option Addr} {nA kA nB kB : Nat} {la lb : List Nat} {w : World} (hsA : Sl w qA nA kA la) (hsB : Sl w qB nB kB lb) (hnA : nA ≤ 1073741824) (hnB : nB ≤ 1073741824) :
    Calls Try.prog 26 #[.agg #[.bool bA, .slice qA nA kA, .bool bB, .slice qB nB kB]] w (Ret (Rct bA nA la bB nB lb) w) := by
  have hS := Sep.init w
  refine went Try.func26 rfl (n := 10) rfl rfl ?_
  refine wseq ?_
  refine wreg ?_
  refine wl rfl (obox [.bool bA, .slice qA nA kA, .bool bB, .slice qB nB kB] hS rfl rfl (ev (v := .agg #[.bool bA, .slice qA nA kA, .bool bB, .slice qB nB kB]) rfl rfl) rfl ?_)
  clear hS; intro g1 w2 hS
  refine wl rfl (oalloc [.bool false, .slice none 0 0, .bool false, .slice none 0 0] hS rfl rfl Try.zeroValue27 rfl ?_)
  clear hS; intro g3 w4 hS
  refine wnil ?_
  refine thenN ?_
  refine wseq ?_
  refine wstage 7 [3, 4, 5, 6, 7, 8, 9] [[], [0], [1, 0], [], [3], [4, 0, 1, 2, 3], [2, 5, 0, 1, 3, 4]] [[], [], [], [], [], [], [2, 5]] [] [] (fun i9 => ([fun _ => Is (.pointer (some ⟨g1, 0, none⟩)), fun _ => Is (.agg #[.bool bA, .slice qA nA kA]), fun _ => Cpm bA nA la, fun _ => Is (.pointer (some ⟨g1, 2, none⟩)), fun _ => Is (.agg #[.bool bB, .slice qB nB kB]), fun _ => Cpm bB nB lb, fun us => Is (.agg #[.bool bA, (vat (us.getD 0 undef) [1]), .bool bB, (vat (us.getD 1 undef) [1])])] : List (List Value → Tell)).getD i9 (fun _ _ _ => False)) (heldNil) (fun d _ _ _ _ h => (by cases d <;> exact h)) (by kernel_rfl) (by kernel_rfl) (by kernel_rfl) hS ?_ ?_
  ·
    refine stepsCons rfl ?_ ?_
    · intro Q f' w' ρ S ho hT hS hB
      exact .inl ⟨want_none rfl, ofieldAddr (g := g1) (off := 0) 0 rfl rfl (ev (v := .pointer (some ⟨g1, 0, none⟩)) rfl (ho 1 rfl)) Try.runUnderlying27 rfl Try.sizeOf25 rfl ⟨_, _, rfl, isI, New.same _⟩⟩
    refine stepsCons rfl ?_ ?_
    · intro Q f' w' ρ S ho hT hS hB
      obtain ⟨hv0, hr0⟩ := (hT 0 3 rfl rfl : (Is (.pointer (some ⟨g1, 0, none⟩))) (f' 3) (ρ 0))
      obtain hS := hS.flat1 hr0
      exact .inl ⟨want_none rfl, oload (vs := [.bool bA, .slice qA nA kA]) aggZ hS 1 rfl rfl (ev rfl hv0) rfl rfl rfl ⟨_, _, rfl, isI, New.same _⟩⟩
    refine stepsCons rfl ?_ ?_
    · intro Q f' w' ρ S ho hT hS hB
      obtain ⟨hv1, hr1⟩ := (hT 1 4 rfl rfl : (Is (.agg #[.bool bA, .slice qA nA kA])) (f' 4) (ρ 1))
      obtain hS := hS.flat1 hr1
      refine .inl ⟨want_none rfl, ocall rfl rfl Try.call73 rfl ((wqcopy (hsA.below hS.below (Nat.le_refl _)) (by omega)).mono Cpt.m) (args1 (ev rfl hv1)) ?_⟩
      rintro _ w9 ⟨_, _, rfl, hTT, hN⟩
      exact ⟨_, rfl, _, _, rfl, hTT, hN⟩
    refine stepsCons rfl ?_ ?_
    · intro Q f' w' ρ S ho hT hS hB
      exact .inl ⟨want_none rfl, ofieldAddr (g := g1) (off := 0) 2 rfl rfl (ev (v := .pointer (some ⟨g1, 0, none⟩)) rfl (ho 1 rfl)) Try.runUnderlying27 rfl Try.sizeOf25 rfl ⟨_, _, rfl, isI, New.same _⟩⟩
    refine stepsCons rfl ?_ ?_
    · intro Q f' w' ρ S ho hT hS hB
      obtain ⟨hv3, hr3⟩ := (hT 3 6 rfl rfl : (Is (.pointer (some ⟨g1, 2, none⟩))) (f' 6) (ρ 3))
      obtain hS := hS.flat1 hr3
      exact .inl ⟨want_none rfl, oload (vs := [.bool bB, .slice qB nB kB]) aggZ hS 1 rfl rfl (ev rfl hv3) rfl rfl rfl ⟨_, _, rfl, isI, New.same _⟩⟩
    refine stepsCons rfl ?_ ?_
    · intro Q f' w' ρ S ho hT hS hB
      obtain ⟨hv4, hr4⟩ := (hT 4 7 rfl rfl : (Is (.agg #[.bool bB, .slice qB nB kB])) (f' 7) (ρ 4))
      obtain hS := hS.flat1 hr4
      refine .inl ⟨want_none rfl, ocall rfl rfl Try.call73 rfl ((wqcopy (hsB.below hS.below (Nat.le_refl _)) (by omega)).mono Cpt.m) (args1 (ev rfl hv4)) ?_⟩
      rintro _ w9 ⟨_, _, rfl, hTT, hN⟩
      exact ⟨_, rfl, _, _, rfl, hTT, hN⟩
    refine stepsCons rfl ?_ ?_
    · intro Q f' w' ρ S ho hT hS hB
      obtain ⟨p1, c1, hv2, hr2⟩ := (hT 2 5 rfl rfl : (Cpm bA nA la) (f' 5) (ρ 2))
      obtain ⟨p2, c2, hv5, hr5⟩ := (hT 5 8 rfl rfl : (Cpm bB nB lb) (f' 8) (ρ 5))
      obtain hS := hS.flat2 hr2 hr5
      have hQ : (.agg #[.bool bA, .slice p1 nA c1, .bool bB, .slice p2 nB c2] : Value) = (fun (us : List Value) => (.agg #[.bool bA, (vat (us.getD 0 undef) [1]), .bool bB, (vat (us.getD 1 undef) [1])] : Value)) [f' 5, f' 8] := by show _ = (.agg #[.bool bA, (vat (f' 5) [1]), .bool bB, (vat (f' 8) [1])] : Value); rw [hv2, hv5]; rfl
      exact .inl ⟨want_none rfl, obuild (ps := #[(0, .agg #[.bool bA, .slice p1 nA c1]), (1, .agg #[.bool bB, .slice p2 nB c2])]) (v := .agg #[.bool bA, .slice p1 nA c1, .bool bB, .slice p2 nB c2]) rfl rfl (parts2 (ev (v := .agg #[.bool bA, .slice p1 nA c1]) rfl hv2) (ev (v := .agg #[.bool bB, .slice p2 nB c2]) rfl hv5)) (fun w => by simp [go_sem, Instr.build, Instr.fill]) ⟨_, _, rfl, ⟨hQ, rfl⟩, New.same _⟩⟩
    exact stepsNil
  ·
    intro vs ρ w5 f' hf hT hS
    obtain ⟨hv0, hr0⟩ := (hT 0 (by decide) : (Is (.pointer (some ⟨g1, 0, none⟩))) (vs 0) (ρ 0))
    obtain ⟨hv1, hr1⟩ := (hT 1 (by decide) : (Is (.agg #[.bool bA, .slice qA nA kA])) (vs 1) (ρ 1))
    obtain ⟨p1, c1, hv2, hr2⟩ := (hT 2 (by decide) : (Cpm bA nA la) (vs 2) (ρ 2))
    obtain ⟨hv3, hr3⟩ := (hT 3 (by decide) : (Is (.pointer (some ⟨g1, 2, none⟩))) (vs 3) (ρ 3))
    obtain ⟨hv4, hr4⟩ := (hT 4 (by decide) : (Is (.agg #[.bool bB, .slice qB nB kB])) (vs 4) (ρ 4))
    obtain ⟨p2, c2, hv5, hr5⟩ := (hT 5 (by decide) : (Cpm bB nB lb) (vs 5) (ρ 5))
    obtain ⟨hv6, hr6⟩ := (hT 6 (by decide) : (fun (us : List Value) => Is (.agg #[.bool bA, (vat (us.getD 0 undef) [1]), .bool bB, (vat (us.getD 1 undef) [1])])) [vs 2, vs 5] (vs 6) (ρ 6))
    replace hv6 : vs 6 = .agg #[.bool bA, .slice p1 nA c1, .bool bB, .slice p2 nB c2] := hv6.trans (by show (.agg #[.bool bA, (vat (vs 2) [1]), .bool bB, (vat (vs 5) [1])] : Value) = _; rw [hv2, hv5]; rfl)
    simp only [pool, if_true, hr0, hr1, hr2, hr3, hr4, hr5, hr6, List.nil_append, List.cons_append, List.append_nil] at hS
    simp only [layf, hv0, hv1, hv2, hv3, hv4, hv5, hv6] at hf
    subst hf; clear hT hv0 hv1 hv2 hv3 hv4 hv5 hv6 hr0 hr1 hr2 hr3 hr4 hr5 hr6
    refine wlate 7 rfl (by kernel_rfl) (ostore [.bool bA, .slice p1 nA c1, .bool bB, .slice p2 nB c2] [.bool bA, .slice p1 nA c1, .bool bB, .slice p2 nB c2] Try.sizeOf27 hS 2 rfl rfl (ev rfl rfl) (ev (v := .agg #[.bool bA, .slice p1 nA c1, .bool bB, .slice p2 nB c2]) rfl rfl) rfl rfl rfl rfl rfl rfl ?_)
    clear hS; intro w6 hS
    refine ⟨heldNil, ?_⟩
    refine wdone rfl ?_
    refine thenN ?_
    refine wleave ?_
    refine wret1 Try.results26 (tellC (cs := [.bool bA, .slice p1 nA c1, .bool bB, .slice p2 nB c2]) aggR hS 2 rfl rfl rfl rfl) ?_
    exact ⟨_, _, rfl, ⟨_, _, _, _, rfl, rfl⟩, hS.newM [1, 0] (by decide) rfl rfl⟩

end Go.Proofs.Ytoinfkimlhhmpaa
