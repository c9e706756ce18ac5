
/-
  The document's GcdAll, Sum and Product of a list.
-/
import Derived.Test.YtoinfkimlhhmpaaZFold2
set_option linter.unusedVariables false
set_option linter.unusedSimpArgs false
namespace Go.Proofs.Ytoinfkimlhhmpaa
open Go.RowKit

theorem facc_lcm_nn (l : List Int) (i : Nat) : 0 ≤ facc lcmZ 1 l i := by
  induction i with
  | zero => exact (by decide : (0 : Int) ≤ 1)
  | succ i ih =>
    rcases hz : l[i]? with _ | z
    · have : facc lcmZ 1 l (i + 1) = facc lcmZ 1 l i := by unfold facc; rw [List.take_add_one, hz]; simp
      rw [this]; exact ih
    · rw [facc_succ hz]; unfold lcmZ; omega
theorem facc_lcm_0 {l : List Int} {i : Nat} (h : l[i]? = some 0) : ∀ j, facc lcmZ 1 l (i + 1 + j) = 0 := by
  intro j
  induction j with
  | zero => rw [Nat.add_zero, facc_succ h]; unfold lcmZ; rw [Int.lcm_zero_right]; rfl
  | succ j ih =>
    rcases hz : l[i + 1 + j]? with _ | z
    · have : facc lcmZ 1 l (i + 1 + (j + 1)) = facc lcmZ 1 l (i + 1 + j) := by unfold facc; rw [← Nat.add_assoc, List.take_add_one, hz]; simp
      rw [this]; exact ih
    · rw [← Nat.add_assoc, facc_succ hz, ih]; unfold lcmZ; rw [Int.lcm_zero_left]; rfl
theorem lcm_step {x y a g q z : Int} (h0 : y ≠ 0) (hx : 0 ≤ x) (ha : Hid ((y.natAbs : Int) = a)) (hg : Hid ((Int.gcd x y : Int) = g)) (hq : Hid (a.tdiv g = q)) (hz : Hid (x * q = z)) : lcmZ x y = z := by
  have hp : 0 < Int.gcd x y := Nat.gcd_pos_of_pos_right _ (by omega)
  have e := lcm_eq (x := y) (y := x) (a := a) (b := x) (g := g) (q := q) (z := q * x) (by rw [Int.gcd_comm]; omega) (by rw [Int.gcd_comm]; exact hg) ha hq (by show _ = _; omega) rfl
  unfold lcmZ
  rw [Int.lcm_comm, ← e, ← hz.out, Int.mul_comm]
theorem lcm_dvd2 {x y a g : Int} (hg : Hid ((Int.gcd x y : Int) = g)) (ha : Hid ((y.natAbs : Int) = a)) : a.tmod g = 0 := lcm_dvd (x := y) (y := x) (by rw [Int.gcd_comm]; exact hg) ha

set_option maxRecDepth 100000 in
set_option maxHeartbeats 16000000 in
theorem wqLcm {l : List Int} {w : World} {z : Int} {pl : Option Addr} {m cl : Nat} (hl : Zs w pl m l 67108864) (hW : ∀ i, i ≤ m → Wd (facc lcmZ 1 l i) 1073741824) (hz : Hid (facc lcmZ 1 l m = z)) :
    Calls Try.prog 71 #[.slice pl m cl] w (Ret (Zt z) w) := by
  have hS := Sep.init w
  refine went Try.func71 rfl (n := 33) rfl rfl ?_
  refine wseq ?_
  refine wreg ?_
  refine wl rfl (oalloc [.bool false, .slice none 0 0] hS rfl rfl Try.zeroValue25 rfl ?_)
  clear hS; intro g1 w2 hS
  refine wnil ?_
  refine thenN ?_
  refine wseq ?_
  refine wreg ?_
  have hk1 : Wd 1 2 := Wd.i64 (by omega) (by omega)
  refine wl rfl (ocall rfl rfl Try.call60 rfl (wqof (z := 1) (by omega) (by omega)) (args1 evc) ?_)
  rintro _ w3 ⟨_, _, rfl, ⟨p1, n1, c1, rfl, rfl⟩, hN⟩
  refine ⟨_, rfl, ?_⟩
  replace hS := hS.news hN; clear hN
  refine wl rfl (oalloc [.bool false, .slice none 0 0] hS rfl rfl Try.zeroValue25 rfl ?_)
  clear hS; intro g4 w5 hS
  refine wl rfl (ostore [.bool (ng 1), .slice p1 n1 c1] [.bool (ng 1), .slice p1 n1 c1] Try.sizeOf25 hS 0 rfl rfl (ev rfl rfl) (ev (v := .agg #[.bool (ng 1), .slice p1 n1 c1]) rfl rfl) rfl rfl rfl rfl rfl rfl ?_)
  clear hS; intro w6 hS
  refine wnil ?_
  refine thenN ?_
  refine wseq ?_
  refine wseq ?_
  refine wreg ?_
  refine wl rfl (omove (v := .slice pl m cl) rfl rfl (ev (v := .slice pl m cl) rfl rfl) ?_)
  refine wl rfl (olen rfl rfl rfl Try.runUnderlying40 (p := pl) (k := m) (m := cl) (ev (v := .slice pl m cl) rfl rfl) ?_)
  refine wl rfl (omove (v := .int .i64 0) rfl rfl (evc (v := .int .i64 0)) ?_)
  refine wnil ?_
  refine thenN ?_
  refine wblock ?_
  refine wloop (σ := Nat) (fun i a w' => ∃ (fb : Nat → Value) (pza : Option Addr) (nza : Nat) (cza : Nat), a = act 33 (sets fb [(2, .pointer (some ⟨g1, 0, none⟩)), (3, .pointer (some ⟨g4, 0, none⟩)), (9, .slice pl m cl), (10, .int .i64 (((m : Nat) : Int))), (11, .int .i64 (((i : Nat) : Int)))]) ∧ Sep w [.blk g4 [.bool (ng ((facc lcmZ 1 l i))), .slice pza nza cza] 25, .row pza nza cza (lim ((facc lcmZ 1 l i)).natAbs), .blk g1 [.bool false, .slice none 0 0] 25] w' ∧ (i ≤ m) ∧ (Wd ((facc lcmZ 1 l i)) 1073741824)) (fun i => m - i) (0) ⟨_, _, _, _, act_sets (l := [(2, .pointer (some ⟨g1, 0, none⟩)), (3, .pointer (some ⟨g4, 0, none⟩)), (9, .slice pl m cl), (10, .int .i64 (((m : Nat) : Int))), (11, .int .i64 0)]) ⟨rfl, rfl, rfl, rfl, rfl, trivial⟩, hS, Nat.zero_le _, (hk1).mono (by omega)⟩ ?_
  clear hS; rintro i _ w7 ⟨fb, pza, nza, cza, rfl, hS, hi, hkza⟩
  refine wseq ?_
  refine wreg ?_
  by_cases hlt : i < m
  ·
    refine wl rfl (obin (u := .int .i64 (((i : Nat) : Int))) (v := .int .i64 (((m : Nat) : Int))) (z := .bool true) rfl rfl (ev (v := .int .i64 (((i : Nat) : Int))) rfl rfl) (ev (v := .int .i64 (((m : Nat) : Int))) rfl rfl) (bin_lss (decide_eq_true (by omega))) ?_)
    refine wnil ?_
    refine thenN ?_
    refine wseq ?_
    refine wT (ev (v := .bool true) rfl rfl) ?_
    refine wskip ?_
    refine thenN ?_
    refine wseq ?_
    refine wblock ?_
    refine wseq ?_
    refine wreg ?_
    obtain ⟨ze, ge, oe, be, pe, ne, ce, hle, hpe, hce, hze⟩ := hl.el hlt
    refine wl rfl (oindex (p := pl) (g := ge) (off := oe) (m := m) (k := i) (j := (oe + i * 2)) rfl rfl Try.runUnderlying40 Try.sizeOf25 (ev (v := .slice pl m cl) rfl rfl) (hpe) (ev (v := .int .i64 (((i : Nat) : Int))) rfl rfl) (hlt) rfl ?_)
    refine wl rfl (oloadA (vs := [.bool be, .slice pe ne ce]) aggZ rfl rfl (ev (v := .pointer (some ⟨ge, (oe + i * 2), none⟩)) rfl rfl) (fun j v hj => hS.cellAt (hce j v hj)) rfl ?_)
    refine wl rfl (oalloc [.bool false, .slice none 0 0] hS rfl rfl Try.zeroValue25 rfl ?_)
    clear hS; intro g8 w9 hS
    refine wl rfl (ostore [.bool be, .slice pe ne ce] [.bool be, .slice pe ne ce] Try.sizeOf25 hS 0 rfl rfl (ev rfl rfl) (ev (v := .agg #[.bool be, .slice pe ne ce]) rfl rfl) rfl rfl rfl rfl rfl rfl ?_)
    clear hS; intro w10 hS
    refine wnil ?_
    refine thenN ?_
    refine wseq ?_
    refine wseq ?_
    refine wreg ?_
    refine wl rfl (oload (vs := [.bool be, .slice pe ne ce]) aggZ hS 0 rfl rfl (ev rfl rfl) rfl rfl rfl ?_)
    obtain ⟨s2, hs2⟩ : ∃ z : Int, Hid ((ze : Int).sign = z) := ⟨_, rfl⟩
    refine wl rfl (ocall rfl rfl Try.call57 rfl (wqsign ((hze.at hS).mono (by omega)) hs2) (args1 (ev rfl rfl)) ?_)
    rintro _ w11 ⟨_, _, rfl, ⟨rfl, rfl⟩, hN⟩
    refine ⟨_, rfl, ?_⟩
    replace hS := hS.news hN; clear hN
    by_cases h0 : ze = 0
    ·
      refine wl rfl (obin (u := .int .i64 s2) (v := .int .i64 0) (z := .bool true) rfl rfl (ev (v := .int .i64 s2) rfl rfl) (evc (v := .int .i64 0)) (bin_eql (sign_eq hs2 h0)) ?_)
      refine wnil ?_
      refine thenN ?_
      refine wT (ev (v := .bool true) rfl rfl) ?_
      refine wseq ?_
      refine wreg ?_
      refine wl rfl (obuild (ps := #[]) (v := .agg #[.bool false, .slice none 0 0]) rfl rfl (parts0) (fun w => by simp [go_sem, Instr.build, Instr.fill]) ?_)
      refine wl rfl (ostore [.bool false, .slice none 0 0] [.bool false, .slice none 0 0] Try.sizeOf25 hS 3 rfl rfl (ev rfl rfl) (ev (v := .agg #[.bool false, .slice none 0 0]) rfl rfl) rfl rfl rfl rfl rfl rfl ?_)
      clear hS; intro w12 hS
      refine wnil ?_
      refine thenN ?_
      refine wleave ?_
      refine thenR ?_
      refine blkR ?_
      refine thenR ?_
      refine thenR ?_
      refine blkR ?_
      refine thenR ?_
      refine wret1 Try.results71 (tellC (cs := [.bool false, .slice none 0 0]) aggZ hS 3 rfl rfl rfl rfl) ?_
      obtain rfl : 0 = z := by rw [← hz.out]; subst h0; have := facc_lcm_0 hle (m - (i + 1)); rw [show i + 1 + (m - (i + 1)) = m by omega] at this; exact this.symm
      exact ⟨_, _, rfl, ⟨none, 0, 0, rfl, rfl⟩, New.row hS.below (Fr.nil _ _)⟩
    ·
      refine wl rfl (obin (u := .int .i64 s2) (v := .int .i64 0) (z := .bool false) rfl rfl (ev (v := .int .i64 s2) rfl rfl) (evc (v := .int .i64 0)) (bin_eql (sign_ne hs2 h0)) ?_)
      refine wnil ?_
      refine thenN ?_
      refine wF (ev (v := .bool false) rfl rfl) ?_
      refine wskip ?_
      refine thenN ?_
      refine wseq ?_
      obtain ⟨z3, hz3⟩ : ∃ z : Int, Hid ((Int.natAbs ze : Int) = z) := ⟨_, rfl⟩
      have hk3 : Wd z3 67108864 := Wd.nabs hze.wd hz3
      obtain ⟨z4, hz4⟩ : ∃ z : Int, Hid ((Int.gcd ((facc lcmZ 1 l i)) ze : Int) = z) := ⟨_, rfl⟩
      have hk4 : Wd z4 1073741824 := Wd.gcd hkza hze.wd hz4 (by omega)
      obtain ⟨z5, hz5⟩ : ∃ z : Int, Hid (Int.tdiv z3 z4 = z) := ⟨_, rfl⟩
      have hk5 : Wd z5 67108864 := Wd.tdiv hk3 hz5
      refine wstage 10 [20, 21, 22, 23, 24, 25, 19, 26, 27, 6] [[], [0], [], [], [2, 3, 0, 1], [1, 4, 0, 2, 3], [5, 0, 1, 2, 3, 4], [5, 6, 0, 1, 2, 3, 4], [5, 6, 0, 1, 2, 3, 4], []] [[], [], [], [], [], [], [5], [5], [], []] [8] [] (fun i9 => ([fun _ => Is (.agg #[.bool be, .slice pe ne ce]), fun _ => Zt z3, fun _ => Is (.agg #[.bool (ng ((facc lcmZ 1 l i))), .slice pza nza cza]), fun _ => Is (.agg #[.bool be, .slice pe ne ce]), fun _ => Zt z4, fun _ => ZBt z5 true, fun us => Is (.tuple #[.agg #[.bool (ng z5), (vat (us.getD 0 undef) [0, 1])], .bool true]), fun us => Is (.agg #[.bool (ng z5), (vat (us.getD 0 undef) [0, 1])]), fun _ => Is (.bool true), fun _ => Ptr [.bool false, .slice none 0 0] 25] : List (List Value → Tell)).getD i9 (fun _ _ _ => False)) (heldNil) (fun d _ _ _ _ h => (by cases d <;> exact h)) (by kernel_rfl) (by kernel_rfl) (by kernel_rfl) hS ?_ ?_
      ·
        refine stepsCons rfl ?_ ?_
        · intro Q f' w' ρ S ho hT hS hB
          exact .inl ⟨want_none rfl, oload (vs := [.bool be, .slice pe ne ce]) aggZ hS 0 rfl rfl (ev rfl (ho 5 rfl)) rfl rfl rfl ⟨_, _, rfl, isI, New.same _⟩⟩
        refine stepsCons rfl ?_ ?_
        · intro Q f' w' ρ S ho hT hS hB
          obtain ⟨hv0, hr0⟩ := (hT 0 20 rfl rfl : (Is (.agg #[.bool be, .slice pe ne ce])) (f' 20) (ρ 0))
          obtain hS := hS.flat1 hr0
          refine .inl ⟨want_none rfl, ocall rfl rfl Try.call111 rfl (wqabs ((hze.at hS).mono (by omega)) hz3) (args1 (ev rfl hv0)) ?_⟩
          rintro _ w9 ⟨_, _, rfl, hTT, hN⟩
          exact ⟨_, rfl, _, _, rfl, hTT, hN⟩
        refine stepsCons rfl ?_ ?_
        · intro Q f' w' ρ S ho hT hS hB
          exact .inl ⟨want_none rfl, oload (vs := [.bool (ng ((facc lcmZ 1 l i))), .slice pza nza cza]) aggZ hS 1 rfl rfl (ev rfl (ho 3 rfl)) rfl rfl rfl ⟨_, _, rfl, isI, New.same _⟩⟩
        refine stepsCons rfl ?_ ?_
        · intro Q f' w' ρ S ho hT hS hB
          exact .inl ⟨want_none rfl, oload (vs := [.bool be, .slice pe ne ce]) aggZ hS 0 rfl rfl (ev rfl (ho 5 rfl)) rfl rfl rfl ⟨_, _, rfl, isI, New.same _⟩⟩
        refine stepsCons rfl ?_ ?_
        · intro Q f' w' ρ S ho hT hS hB
          obtain ⟨hv2, hr2⟩ := (hT 2 22 rfl rfl : (Is (.agg #[.bool (ng ((facc lcmZ 1 l i))), .slice pza nza cza])) (f' 22) (ρ 2))
          obtain ⟨hv3, hr3⟩ := (hT 3 23 rfl rfl : (Is (.agg #[.bool be, .slice pe ne ce])) (f' 23) (ρ 3))
          obtain hS := hS.flat2 hr2 hr3
          refine .inl ⟨want_none rfl, ocall rfl rfl Try.call102 rfl (wqgcd (((hS.sl 2 rfl).zr hkza).mono (by omega)) ((hze.at hS).mono (by omega)) hz4) (args2 (ev rfl hv2) (ev rfl hv3)) ?_⟩
          rintro _ w9 ⟨_, _, rfl, hTT, hN⟩
          exact ⟨_, rfl, _, _, rfl, hTT, hN⟩
        refine stepsCons rfl ?_ ?_
        · intro Q f' w' ρ S ho hT hS hB
          obtain ⟨p3, n3, c3, hv1, hr1⟩ := (hT 1 21 rfl rfl : (Zt z3) (f' 21) (ρ 1))
          obtain ⟨p4, n4, c4, hv4, hr4⟩ := (hT 4 24 rfl rfl : (Zt z4) (f' 24) (ρ 4))
          obtain hS := hS.flat2 hr1 hr4
          refine .inl ⟨want_none rfl, ocall rfl rfl Try.call103 rfl (wqexact (((hS.sl 4 rfl).zr hk3).mono (by omega)) (((hS.sl 5 rfl).zr hk4).mono (by omega)) (by have : 0 < Int.gcd (facc lcmZ 1 l i) ze := Nat.gcd_pos_of_pos_right _ (by omega); have := hz4.out; omega) (lcm_dvd2 hz4 hz3) hz5) (args2 (ev rfl hv1) (ev rfl hv4)) ?_⟩
          rintro _ w9 ⟨_, _, rfl, hTT, hN⟩
          exact ⟨_, rfl, _, _, rfl, hTT, hN⟩
        refine stepsCons rfl ?_ ?_
        · intro Q f' w' ρ S ho hT hS hB
          obtain ⟨p5, n5, c5, hv5, hr5⟩ := (hT 5 25 rfl rfl : (ZBt z5 true) (f' 25) (ρ 5))
          obtain hS := hS.flat1 hr5
          have hQ : (.tuple #[.agg #[.bool (ng z5), .slice p5 n5 c5], .bool true] : Value) = (fun (us : List Value) => (.tuple #[.agg #[.bool (ng z5), (vat (us.getD 0 undef) [0, 1])], .bool true] : Value)) [f' 25] := by show _ = (.tuple #[.agg #[.bool (ng z5), (vat (f' 25) [0, 1])], .bool true] : Value); rw [hv5]; rfl
          exact .inl ⟨want_none rfl, omove (v := .tuple #[.agg #[.bool (ng z5), .slice p5 n5 c5], .bool true]) rfl rfl (ev (v := .tuple #[.agg #[.bool (ng z5), .slice p5 n5 c5], .bool true]) rfl hv5) ⟨_, _, rfl, ⟨hQ, rfl⟩, New.same _⟩⟩
        refine stepsCons rfl ?_ ?_
        · intro Q f' w' ρ S ho hT hS hB
          obtain ⟨p5, n5, c5, hv5, hr5⟩ := (hT 5 25 rfl rfl : (ZBt z5 true) (f' 25) (ρ 5))
          obtain ⟨hv6, hr6⟩ := (hT 6 19 rfl rfl : (fun (us : List Value) => Is (.tuple #[.agg #[.bool (ng z5), (vat (us.getD 0 undef) [0, 1])], .bool true])) [f' 25] (f' 19) (ρ 6))
          replace hv6 : f' 19 = .tuple #[.agg #[.bool (ng z5), .slice p5 n5 c5], .bool true] := hv6.trans (by show (.tuple #[.agg #[.bool (ng z5), (vat (f' 25) [0, 1])], .bool true] : Value) = _; rw [hv5]; rfl)
          obtain hS := hS.flat2 hr5 hr6
          have hQ : (.agg #[.bool (ng z5), .slice p5 n5 c5] : Value) = (fun (us : List Value) => (.agg #[.bool (ng z5), (vat (us.getD 0 undef) [0, 1])] : Value)) [f' 25] := by show _ = (.agg #[.bool (ng z5), (vat (f' 25) [0, 1])] : Value); rw [hv5]; rfl
          exact .inl ⟨want_none rfl, oextract (vs := [.agg #[.bool (ng z5), .slice p5 n5 c5], .bool true]) (v := .agg #[.bool (ng z5), .slice p5 n5 c5]) rfl rfl (ev (v := .tuple #[.agg #[.bool (ng z5), .slice p5 n5 c5], .bool true]) rfl hv6) rfl ⟨_, _, rfl, ⟨hQ, rfl⟩, New.same _⟩⟩
        refine stepsPure rfl ?_ ?_
        · intro f' ρ ho hT
          obtain ⟨p5, n5, c5, hv5, hr5⟩ := (hT 5 25 rfl rfl : (ZBt z5 true) (f' 25) (ρ 5))
          obtain ⟨hv6, hr6⟩ := (hT 6 19 rfl rfl : (fun (us : List Value) => Is (.tuple #[.agg #[.bool (ng z5), (vat (us.getD 0 undef) [0, 1])], .bool true])) [f' 25] (f' 19) (ρ 6))
          replace hv6 : f' 19 = .tuple #[.agg #[.bool (ng z5), .slice p5 n5 c5], .bool true] := hv6.trans (by show (.tuple #[.agg #[.bool (ng z5), (vat (f' 25) [0, 1])], .bool true] : Value) = _; rw [hv5]; rfl)
          exact ⟨_, .inl ⟨want_none rfl, fun w hw => yextract (vs := [.agg #[.bool (ng z5), .slice p5 n5 c5], .bool true]) (v := .bool true) rfl (ev (v := .tuple #[.agg #[.bool (ng z5), .slice p5 n5 c5], .bool true]) rfl hv6) rfl w⟩, isI⟩
        refine stepsCons rfl ?_ ?_
        · intro Q f' w' ρ S ho hT hS hB
          exact .inl ⟨want_none rfl, oallocN [.bool false, .slice none 0 0] rfl rfl Try.zeroValue25 rfl ⟨_, _, rfl, ptrI, New.blk _ _ _⟩⟩
        exact stepsNil
      ·
        intro vs ρ w13 f' hf hT hS
        obtain ⟨hv0, hr0⟩ := (hT 0 (by decide) : (Is (.agg #[.bool be, .slice pe ne ce])) (vs 0) (ρ 0))
        obtain ⟨p3, n3, c3, hv1, hr1⟩ := (hT 1 (by decide) : (Zt z3) (vs 1) (ρ 1))
        obtain ⟨hv2, hr2⟩ := (hT 2 (by decide) : (Is (.agg #[.bool (ng ((facc lcmZ 1 l i))), .slice pza nza cza])) (vs 2) (ρ 2))
        obtain ⟨hv3, hr3⟩ := (hT 3 (by decide) : (Is (.agg #[.bool be, .slice pe ne ce])) (vs 3) (ρ 3))
        obtain ⟨p4, n4, c4, hv4, hr4⟩ := (hT 4 (by decide) : (Zt z4) (vs 4) (ρ 4))
        obtain ⟨p5, n5, c5, hv5, hr5⟩ := (hT 5 (by decide) : (ZBt z5 true) (vs 5) (ρ 5))
        obtain ⟨hv6, hr6⟩ := (hT 6 (by decide) : (fun (us : List Value) => Is (.tuple #[.agg #[.bool (ng z5), (vat (us.getD 0 undef) [0, 1])], .bool true])) [vs 5] (vs 6) (ρ 6))
        replace hv6 : vs 6 = .tuple #[.agg #[.bool (ng z5), .slice p5 n5 c5], .bool true] := hv6.trans (by show (.tuple #[.agg #[.bool (ng z5), (vat (vs 5) [0, 1])], .bool true] : Value) = _; rw [hv5]; rfl)
        obtain ⟨hv7, hr7⟩ := (hT 7 (by decide) : (fun (us : List Value) => Is (.agg #[.bool (ng z5), (vat (us.getD 0 undef) [0, 1])])) [vs 5] (vs 7) (ρ 7))
        replace hv7 : vs 7 = .agg #[.bool (ng z5), .slice p5 n5 c5] := hv7.trans (by show (.agg #[.bool (ng z5), (vat (vs 5) [0, 1])] : Value) = _; rw [hv5]; rfl)
        obtain ⟨hv8, hr8⟩ := (hT 8 (by decide) : (Is (.bool true)) (vs 8) (ρ 8))
        obtain ⟨g12, hv9, hr9⟩ := (hT 9 (by decide) : (Ptr [.bool false, .slice none 0 0] 25) (vs 9) (ρ 9))
        simp only [pool, if_true, hr0, hr1, hr2, hr3, hr4, hr5, hr6, hr7, hr8, hr9, List.nil_append, List.cons_append, List.append_nil] at hS
        simp only [layf, hv0, hv1, hv2, hv3, hv4, hv5, hv6, hv7, hv8, hv9] at hf
        subst hf; clear hT hv0 hv1 hv2 hv3 hv4 hv5 hv6 hv7 hv8 hv9 hr0 hr1 hr2 hr3 hr4 hr5 hr6 hr7 hr8 hr9
        refine wlate 10 rfl (by kernel_rfl) (ostore [.bool (ng z5), .slice p5 n5 c5] [.bool (ng z5), .slice p5 n5 c5] Try.sizeOf25 hS 0 rfl rfl (ev rfl rfl) (ev (v := .agg #[.bool (ng z5), .slice p5 n5 c5]) rfl rfl) rfl rfl rfl rfl rfl rfl ?_)
        clear hS; intro w14 hS
        refine ⟨heldNil, ?_⟩
        refine wlate 11 rfl (by kernel_rfl) (oassign (v := .bool true) rfl rfl (ev (v := .bool true) rfl rfl) ?_)
        refine ⟨heldNil, ?_⟩
        refine wdone rfl ?_
        refine thenN ?_
        refine wreg ?_
        refine wl rfl (oload (vs := [.bool (ng ((facc lcmZ 1 l i))), .slice pza nza cza]) aggZ hS 5 rfl rfl (ev rfl rfl) rfl rfl rfl ?_)
        refine wl rfl (oload (vs := [.bool (ng z5), .slice p5 n5 c5]) aggZ hS 0 rfl rfl (ev rfl rfl) rfl rfl rfl ?_)
        obtain ⟨z6, hz6⟩ : ∃ z : Int, Hid (((facc lcmZ 1 l i)) * z5 = z) := ⟨_, rfl⟩
        have hk6 : Wd z6 1140850688 := Wd.mul hkza hk5 hz6 (by omega)
        refine wl rfl (ocall rfl rfl Try.call83 rfl (wqmul (((hS.sl 6 rfl).zr hkza).mono (by omega)) (((hS.sl 1 rfl).zr hk5).mono (by omega)) hz6) (args2 (ev rfl rfl) (ev rfl rfl)) ?_)
        rintro _ w15 ⟨_, _, rfl, ⟨p6, n6, c6, rfl, rfl⟩, hN⟩
        refine ⟨_, rfl, ?_⟩
        replace hS := hS.news hN; clear hN
        refine wl rfl (ostore [.bool (ng z6), .slice p6 n6 c6] [.bool (ng z6), .slice p6 n6 c6] Try.sizeOf25 hS 6 rfl rfl (ev rfl rfl) (ev (v := .agg #[.bool (ng z6), .slice p6 n6 c6]) rfl rfl) rfl rfl rfl rfl rfl rfl ?_)
        clear hS; intro w16 hS
        refine wnil ?_
        refine blkN ?_
        refine thenN ?_
        refine wreg ?_
        obtain rfl : (facc lcmZ 1 l (i + 1)) = z6 := (facc_succ hle).trans (lcm_step h0 (facc_lcm_nn l i) hz3 hz4 hz5 hz6)
        refine wl rfl (obin (u := .int .i64 (((i : Nat) : Int))) (v := .int .i64 1) (z := .int .i64 (((i + 1 : Nat) : Int))) rfl rfl (ev (v := .int .i64 (((i : Nat) : Int))) rfl rfl) (evc (v := .int .i64 1)) (bin_add (wrap_succ (by have := hl.2.1; omega))) ?_)
        refine wl rfl (omove (v := .int .i64 (((i + 1 : Nat) : Int))) rfl rfl (ev (v := .int .i64 (((i + 1 : Nat) : Int))) rfl rfl) ?_)
        refine wnil ?_
        refine thenN ?_
        exact ⟨(i + 1), ⟨_, _, _, _, act_sets (l := [(2, .pointer (some ⟨g1, 0, none⟩)), (3, .pointer (some ⟨g4, 0, none⟩)), (9, .slice pl m cl), (10, .int .i64 (((m : Nat) : Int))), (11, .int .i64 (((i + 1 : Nat) : Int)))]) ⟨rfl, rfl, rfl, rfl, rfl, trivial⟩, hS.pick [6, 0, 8] (by decide) rfl, by omega, hW _ (by omega)⟩, by omega⟩
  ·
    refine wl rfl (obin (u := .int .i64 (((i : Nat) : Int))) (v := .int .i64 (((m : Nat) : Int))) (z := .bool false) rfl rfl (ev (v := .int .i64 (((i : Nat) : Int))) rfl rfl) (ev (v := .int .i64 (((m : Nat) : Int))) rfl rfl) (bin_lss (decide_eq_false (by omega))) ?_)
    refine wnil ?_
    refine thenN ?_
    refine wseq ?_
    refine wF (ev (v := .bool false) rfl rfl) ?_
    refine wexit ?_
    refine thenE ?_
    refine thenE ?_
    refine blkE ?_
    refine thenN ?_
    refine wseq ?_
    refine wreg ?_
    refine wl rfl (oload (vs := [.bool (ng ((facc lcmZ 1 l i))), .slice pza nza cza]) aggZ hS 0 rfl rfl (ev rfl rfl) rfl rfl rfl ?_)
    refine wl rfl (ostore [.bool (ng ((facc lcmZ 1 l i))), .slice pza nza cza] [.bool (ng ((facc lcmZ 1 l i))), .slice pza nza cza] Try.sizeOf25 hS 2 rfl rfl (ev rfl rfl) (ev (v := .agg #[.bool (ng ((facc lcmZ 1 l i))), .slice pza nza cza]) rfl rfl) rfl rfl rfl rfl rfl rfl ?_)
    clear hS; intro w8 hS
    refine wnil ?_
    refine thenN ?_
    refine wleave ?_
    refine wret1 Try.results71 (tellC (cs := [.bool (ng ((facc lcmZ 1 l i))), .slice pza nza cza]) aggZ hS 2 rfl rfl rfl rfl) ?_
    obtain rfl : i = m := by omega
    obtain rfl := hz.out
    exact ⟨_, _, rfl, ⟨_, _, _, rfl, rfl⟩, hS.new1 1 rfl⟩

end Go.Proofs.Ytoinfkimlhhmpaa
