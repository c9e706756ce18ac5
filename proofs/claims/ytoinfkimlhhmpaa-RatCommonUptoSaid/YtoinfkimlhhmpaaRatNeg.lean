
/-
  rat's Neg; the document's Copy.
-/
import Derived.Test.YtoinfkimlhhmpaaRatLaws0
set_option linter.unusedVariables false
set_option linter.unusedSimpArgs false
namespace Go.Proofs.Ytoinfkimlhhmpaa
open Go.RowKit

/-- A fraction whose denominator was there before. -/
def RNgt (z : Int) (b : Bool) (q : Option Addr) (m d : Nat) : Tell := fun v r => ∃ p n c, v = .tuple #[.agg #[.bool (ng z), .slice p n c, .bool b, .slice q m d], .int .i64 0] ∧ r = [.rowm p n c (lim z.natAbs)]
/-- A fraction as it is, in new memory. -/
def Rct (b1 : Bool) (n : Nat) (xs : List Nat) (b2 : Bool) (m : Nat) (ys : List Nat) : Tell := fun v r => ∃ p c q d, v = .agg #[.bool b1, .slice p n c, .bool b2, .slice q m d] ∧ r = [.rowm p n c xs, .rowm q m d ys]

set_option maxRecDepth 100000 in
set_option maxHeartbeats 16000000 in
theorem wscopy {bA bB : Bool} {qA qB : Option Addr} {nA kA nB kB : Nat} {la lb : List Nat} {w : World} (hsA : Sl w qA nA kA la) (hsB : Sl w qB nB kB lb) (hnA : nA ≤ 1073741824) (hnB : nB ≤ 1073741824) :
    Calls Try.prog 26 #[.agg #[.bool bA, .slice qA nA kA, .bool bB, .slice qB nB kB]] w (Ret (Rct bA nA la bB nB lb) w) := by
  have hS := Sep.init w
  refine went Try.func26 rfl (n := 10) rfl rfl ?_
  refine wseq ?_
  refine wreg ?_
  refine wl rfl (obox [.bool bA, .slice qA nA kA, .bool bB, .slice qB nB kB] hS rfl rfl (ev (v := .agg #[.bool bA, .slice qA nA kA, .bool bB, .slice qB nB kB]) rfl rfl) rfl ?_)
  clear hS; intro g1 w2 hS
  refine wl rfl (oalloc [.bool false, .slice none 0 0, .bool false, .slice none 0 0] hS rfl rfl Try.zeroValue27 rfl ?_)
  clear hS; intro g3 w4 hS
  refine wnil ?_
  refine thenN ?_
  refine wseq ?_
  refine wstage 7 [3, 4, 5, 6, 7, 8, 9] [[], [0], [1, 0], [], [3], [4, 0, 1, 2, 3], [2, 5, 0, 1, 3, 4]] [[], [], [], [], [], [], [2, 5]] [] [] (fun i9 => ([fun _ => Is (.pointer (some ⟨g1, 0, none⟩)), fun _ => Is (.agg #[.bool bA, .slice qA nA kA]), fun _ => Cpm bA nA la, fun _ => Is (.pointer (some ⟨g1, 2, none⟩)), fun _ => Is (.agg #[.bool bB, .slice qB nB kB]), fun _ => Cpm bB nB lb, fun us => Is (.agg #[.bool bA, (vat (us.getD 0 undef) [1]), .bool bB, (vat (us.getD 1 undef) [1])])] : List (List Value → Tell)).getD i9 (fun _ _ _ => False)) (heldNil) (fun d _ _ _ _ h => (by cases d <;> exact h)) (by kernel_rfl) (by kernel_rfl) (by kernel_rfl) hS ?_ ?_
  ·
    refine stepsCons rfl ?_ ?_
    · intro Q f' w' ρ S ho hT hS hB
      exact .inl ⟨want_none rfl, ofieldAddr (g := g1) (off := 0) 0 rfl rfl (ev (v := .pointer (some ⟨g1, 0, none⟩)) rfl (ho 1 rfl)) Try.runUnderlying27 rfl Try.sizeOf25 rfl ⟨_, _, rfl, isI, New.same _⟩⟩
    refine stepsCons rfl ?_ ?_
    · intro Q f' w' ρ S ho hT hS hB
      obtain ⟨hv0, hr0⟩ := (hT 0 3 rfl rfl : (Is (.pointer (some ⟨g1, 0, none⟩))) (f' 3) (ρ 0))
      obtain hS := hS.flat1 hr0
      exact .inl ⟨want_none rfl, oload (vs := [.bool bA, .slice qA nA kA]) aggZ hS 1 rfl rfl (ev rfl hv0) rfl rfl rfl ⟨_, _, rfl, isI, New.same _⟩⟩
    refine stepsCons rfl ?_ ?_
    · intro Q f' w' ρ S ho hT hS hB
      obtain ⟨hv1, hr1⟩ := (hT 1 4 rfl rfl : (Is (.agg #[.bool bA, .slice qA nA kA])) (f' 4) (ρ 1))
      obtain hS := hS.flat1 hr1
      refine .inl ⟨want_none rfl, ocall rfl rfl Try.call73 rfl ((wqcopy (hsA.below hS.below (Nat.le_refl _)) (by omega)).mono Cpt.m) (args1 (ev rfl hv1)) ?_⟩
      rintro _ w9 ⟨_, _, rfl, hTT, hN⟩
      exact ⟨_, rfl, _, _, rfl, hTT, hN⟩
    refine stepsCons rfl ?_ ?_
    · intro Q f' w' ρ S ho hT hS hB
      exact .inl ⟨want_none rfl, ofieldAddr (g := g1) (off := 0) 2 rfl rfl (ev (v := .pointer (some ⟨g1, 0, none⟩)) rfl (ho 1 rfl)) Try.runUnderlying27 rfl Try.sizeOf25 rfl ⟨_, _, rfl, isI, New.same _⟩⟩
    refine stepsCons rfl ?_ ?_
    · intro Q f' w' ρ S ho hT hS hB
      obtain ⟨hv3, hr3⟩ := (hT 3 6 rfl rfl : (Is (.pointer (some ⟨g1, 2, none⟩))) (f' 6) (ρ 3))
      obtain hS := hS.flat1 hr3
      exact .inl ⟨want_none rfl, oload (vs := [.bool bB, .slice qB nB kB]) aggZ hS 1 rfl rfl (ev rfl hv3) rfl rfl rfl ⟨_, _, rfl, isI, New.same _⟩⟩
    refine stepsCons rfl ?_ ?_
    · intro Q f' w' ρ S ho hT hS hB
      obtain ⟨hv4, hr4⟩ := (hT 4 7 rfl rfl : (Is (.agg #[.bool bB, .slice qB nB kB])) (f' 7) (ρ 4))
      obtain hS := hS.flat1 hr4
      refine .inl ⟨want_none rfl, ocall rfl rfl Try.call73 rfl ((wqcopy (hsB.below hS.below (Nat.le_refl _)) (by omega)).mono Cpt.m) (args1 (ev rfl hv4)) ?_⟩
      rintro _ w9 ⟨_, _, rfl, hTT, hN⟩
      exact ⟨_, rfl, _, _, rfl, hTT, hN⟩
    refine stepsCons rfl ?_ ?_
    · intro Q f' w' ρ S ho hT hS hB
      obtain ⟨p1, c1, hv2, hr2⟩ := (hT 2 5 rfl rfl : (Cpm bA nA la) (f' 5) (ρ 2))
      obtain ⟨p2, c2, hv5, hr5⟩ := (hT 5 8 rfl rfl : (Cpm bB nB lb) (f' 8) (ρ 5))
      obtain hS := hS.flat2 hr2 hr5
      have hQ : (.agg #[.bool bA, .slice p1 nA c1, .bool bB, .slice p2 nB c2] : Value) = (fun (us : List Value) => (.agg #[.bool bA, (vat (us.getD 0 undef) [1]), .bool bB, (vat (us.getD 1 undef) [1])] : Value)) [f' 5, f' 8] := by show _ = (.agg #[.bool bA, (vat (f' 5) [1]), .bool bB, (vat (f' 8) [1])] : Value); rw [hv2, hv5]; rfl
      exact .inl ⟨want_none rfl, obuild (ps := #[(0, .agg #[.bool bA, .slice p1 nA c1]), (1, .agg #[.bool bB, .slice p2 nB c2])]) (v := .agg #[.bool bA, .slice p1 nA c1, .bool bB, .slice p2 nB c2]) rfl rfl (parts2 (ev (v := .agg #[.bool bA, .slice p1 nA c1]) rfl hv2) (ev (v := .agg #[.bool bB, .slice p2 nB c2]) rfl hv5)) (fun w => by simp [go_sem, Instr.build, Instr.fill]) ⟨_, _, rfl, ⟨hQ, rfl⟩, New.same _⟩⟩
    exact stepsNil
  ·
    intro vs ρ w5 f' hf hT hS
    obtain ⟨hv0, hr0⟩ := (hT 0 (by decide) : (Is (.pointer (some ⟨g1, 0, none⟩))) (vs 0) (ρ 0))
    obtain ⟨hv1, hr1⟩ := (hT 1 (by decide) : (Is (.agg #[.bool bA, .slice qA nA kA])) (vs 1) (ρ 1))
    obtain ⟨p1, c1, hv2, hr2⟩ := (hT 2 (by decide) : (Cpm bA nA la) (vs 2) (ρ 2))
    obtain ⟨hv3, hr3⟩ := (hT 3 (by decide) : (Is (.pointer (some ⟨g1, 2, none⟩))) (vs 3) (ρ 3))
    obtain ⟨hv4, hr4⟩ := (hT 4 (by decide) : (Is (.agg #[.bool bB, .slice qB nB kB])) (vs 4) (ρ 4))
    obtain ⟨p2, c2, hv5, hr5⟩ := (hT 5 (by decide) : (Cpm bB nB lb) (vs 5) (ρ 5))
    obtain ⟨hv6, hr6⟩ := (hT 6 (by decide) : (fun (us : List Value) => Is (.agg #[.bool bA, (vat (us.getD 0 undef) [1]), .bool bB, (vat (us.getD 1 undef) [1])])) [vs 2, vs 5] (vs 6) (ρ 6))
    replace hv6 : vs 6 = .agg #[.bool bA, .slice p1 nA c1, .bool bB, .slice p2 nB c2] := hv6.trans (by show (.agg #[.bool bA, (vat (vs 2) [1]), .bool bB, (vat (vs 5) [1])] : Value) = _; rw [hv2, hv5]; rfl)
    simp only [pool, if_true, hr0, hr1, hr2, hr3, hr4, hr5, hr6, List.nil_append, List.cons_append, List.append_nil] at hS
    simp only [layf, hv0, hv1, hv2, hv3, hv4, hv5, hv6] at hf
    subst hf; clear hT hv0 hv1 hv2 hv3 hv4 hv5 hv6 hr0 hr1 hr2 hr3 hr4 hr5 hr6
    refine wlate 7 rfl (by kernel_rfl) (ostore [.bool bA, .slice p1 nA c1, .bool bB, .slice p2 nB c2] [.bool bA, .slice p1 nA c1, .bool bB, .slice p2 nB c2] Try.sizeOf27 hS 2 rfl rfl (ev rfl rfl) (ev (v := .agg #[.bool bA, .slice p1 nA c1, .bool bB, .slice p2 nB c2]) rfl rfl) rfl rfl rfl rfl rfl rfl ?_)
    clear hS; intro w6 hS
    refine ⟨heldNil, ?_⟩
    refine wdone rfl ?_
    refine thenN ?_
    refine wleave ?_
    refine wret1 Try.results26 (tellC (cs := [.bool bA, .slice p1 nA c1, .bool bB, .slice p2 nB c2]) aggR hS 2 rfl rfl rfl rfl) ?_
    exact ⟨_, _, rfl, ⟨_, _, _, _, rfl, rfl⟩, hS.newM [1, 0] (by decide) rfl rfl⟩

end Go.Proofs.Ytoinfkimlhhmpaa
