
/-
  The document's SameAll of two lists that read the same.
-/
import Derived.Test.YtoinfkimlhhmpaaZRaw
import Derived.Test.YtoinfkimlhhmpaaWA
set_option linter.unusedVariables false
set_option linter.unusedSimpArgs false
namespace Go.Proofs.Ytoinfkimlhhmpaa
open Go.RowKit

set_option maxRecDepth 100000 in
set_option maxHeartbeats 16000000 in
theorem wqSameAll {L : List (Bool × List Nat)} {w : World} {pl pk : Option Addr} {m cl ck : Nat} (hx : ZL w pl m L 67108864) (hy : ZL w pk m L 67108864) :
    Calls Try.prog 24 #[.slice pl m cl, .slice pk m ck] w (Ret (Is (.bool true)) w) := by
  have hS := Sep.init w
  refine went Try.func24 rfl (n := 27) rfl rfl ?_
  refine wseq ?_
  refine wreg ?_
  refine wl rfl (oassign (v := .bool false) rfl rfl (evc (v := .bool false)) ?_)
  refine wnil ?_
  refine thenN ?_
  refine wseq ?_
  refine wseq ?_
  refine wreg ?_
  refine wl rfl (omove (v := .slice pl m cl) rfl rfl (ev (v := .slice pl m cl) rfl rfl) ?_)
  refine wl rfl (olen rfl rfl rfl Try.runUnderlying40 (p := pl) (k := m) (m := cl) (ev (v := .slice pl m cl) rfl rfl) ?_)
  refine wl rfl (omove (v := .slice pk m ck) rfl rfl (ev (v := .slice pk m ck) rfl rfl) ?_)
  refine wl rfl (olen rfl rfl rfl Try.runUnderlying40 (p := pk) (k := m) (m := ck) (ev (v := .slice pk m ck) rfl rfl) ?_)
  refine wl rfl (obin (u := .int .i64 (((m : Nat) : Int))) (v := .int .i64 (((m : Nat) : Int))) (z := .bool false) rfl rfl (ev (v := .int .i64 (((m : Nat) : Int))) rfl rfl) (ev (v := .int .i64 (((m : Nat) : Int))) rfl rfl) (bin_neq (neF rfl)) ?_)
  refine wnil ?_
  refine thenN ?_
  refine wF (ev (v := .bool false) rfl rfl) ?_
  refine wskip ?_
  refine thenN ?_
  refine wseq ?_
  refine wseq ?_
  refine wreg ?_
  refine wl rfl (omove (v := .slice pl m cl) rfl rfl (ev (v := .slice pl m cl) rfl rfl) ?_)
  refine wl rfl (olen rfl rfl rfl Try.runUnderlying40 (p := pl) (k := m) (m := cl) (ev (v := .slice pl m cl) rfl rfl) ?_)
  refine wl rfl (omove (v := .int .i64 0) rfl rfl (evc (v := .int .i64 0)) ?_)
  refine wnil ?_
  refine thenN ?_
  refine wblock ?_
  refine wloop (σ := Nat) (fun i a w' => ∃ (fb : Nat → Value), a = act 27 (sets fb [(0, .slice pl m cl), (1, .slice pk m ck), (12, .int .i64 (((m : Nat) : Int))), (13, .int .i64 (((i : Nat) : Int)))]) ∧ Sep w [] w' ∧ (i ≤ m)) (fun i => m - i) (0) ⟨_, act_sets (l := [(0, .slice pl m cl), (1, .slice pk m ck), (12, .int .i64 (((m : Nat) : Int))), (13, .int .i64 0)]) ⟨rfl, rfl, rfl, rfl, trivial⟩, hS, Nat.zero_le _⟩ ?_
  clear hS; rintro i _ w1 ⟨fb, rfl, hS, hi⟩
  refine wseq ?_
  refine wreg ?_
  by_cases hlt : i < m
  ·
    refine wl rfl (obin (u := .int .i64 (((i : Nat) : Int))) (v := .int .i64 (((m : Nat) : Int))) (z := .bool true) rfl rfl (ev (v := .int .i64 (((i : Nat) : Int))) rfl rfl) (ev (v := .int .i64 (((m : Nat) : Int))) rfl rfl) (bin_lss (decide_eq_true (by omega))) ?_)
    refine wnil ?_
    refine thenN ?_
    refine wseq ?_
    refine wT (ev (v := .bool true) rfl rfl) ?_
    refine wskip ?_
    refine thenN ?_
    refine wseq ?_
    refine wblock ?_
    refine wseq ?_
    refine wreg ?_
    refine wl rfl (omove (v := .int .i64 (((i : Nat) : Int))) rfl rfl (ev (v := .int .i64 (((i : Nat) : Int))) rfl rfl) ?_)
    refine wl rfl (oassign (v := .int .i64 (((i : Nat) : Int))) rfl rfl (ev (v := .int .i64 (((i : Nat) : Int))) rfl rfl) ?_)
    refine wnil ?_
    refine thenN ?_
    refine wseq ?_
    obtain ⟨e1, g1x, o1, q1, n1, k1, hle, hp1, hc1, hs1, hn1⟩ := hx.el hlt
    obtain ⟨e2, g2x, o2, q2, n2, k2, hle2, hp2, hc2, hs2, hn2⟩ := hy.el hlt
    obtain rfl : e1 = e2 := Option.some.inj (hle.symm.trans hle2)
    refine wstage 10 [16, 17, 18, 19, 20, 21, 22, 23, 24, 25] [[], [], [0, 1], [2, 0, 1], [], [], [4, 5], [6, 4, 5], [3, 7, 0, 1, 2, 4, 5, 6], [8, 0, 1, 2, 3, 4, 5, 6, 7]] [[], [], [], [], [], [], [], [], [], []] [] [] (fun i9 => ([fun _ => Is (.slice pl m cl), fun _ => Is (.int .i64 (((i : Nat) : Int))), fun _ => Is (.pointer (some ⟨g1x, (o1 + i * 2), none⟩)), fun _ => Is (.agg #[.bool e1.1, .slice q1 n1 k1]), fun _ => Is (.slice pk m ck), fun _ => Is (.int .i64 (((i : Nat) : Int))), fun _ => Is (.pointer (some ⟨g2x, (o2 + i * 2), none⟩)), fun _ => Is (.agg #[.bool e1.1, .slice q2 n2 k2]), fun _ => Is (.bool true), fun _ => Is (.bool false)] : List (List Value → Tell)).getD i9 (fun _ _ _ => False)) (heldNil) (fun d _ _ _ _ h => (by cases d <;> exact h)) (by kernel_rfl) (by kernel_rfl) (by kernel_rfl) hS ?_ ?_
    ·
      refine stepsCons rfl ?_ ?_
      · intro Q f' w' ρ S ho hT hS hB
        exact .inl ⟨want_none rfl, omove (v := .slice pl m cl) rfl rfl (ev (v := .slice pl m cl) rfl (ho 0 rfl)) ⟨_, _, rfl, isI, New.same _⟩⟩
      refine stepsCons rfl ?_ ?_
      · intro Q f' w' ρ S ho hT hS hB
        exact .inl ⟨want_none rfl, omove (v := .int .i64 (((i : Nat) : Int))) rfl rfl (ev (v := .int .i64 (((i : Nat) : Int))) rfl (ho 5 rfl)) ⟨_, _, rfl, isI, New.same _⟩⟩
      refine stepsCons rfl ?_ ?_
      · intro Q f' w' ρ S ho hT hS hB
        obtain ⟨hv0, hr0⟩ := (hT 0 16 rfl rfl : (Is (.slice pl m cl)) (f' 16) (ρ 0))
        obtain ⟨hv1, hr1⟩ := (hT 1 17 rfl rfl : (Is (.int .i64 (((i : Nat) : Int)))) (f' 17) (ρ 1))
        obtain hS := hS.flat2 hr0 hr1
        exact .inl ⟨want_none rfl, oindex (p := pl) (g := g1x) (off := o1) (m := m) (k := i) (j := (o1 + i * 2)) rfl rfl Try.runUnderlying40 Try.sizeOf25 (ev (v := .slice pl m cl) rfl hv0) (hp1) (ev (v := .int .i64 (((i : Nat) : Int))) rfl hv1) (hlt) rfl ⟨_, _, rfl, isI, New.same _⟩⟩
      refine stepsCons rfl ?_ ?_
      · intro Q f' w' ρ S ho hT hS hB
        obtain ⟨hv2, hr2⟩ := (hT 2 18 rfl rfl : (Is (.pointer (some ⟨g1x, (o1 + i * 2), none⟩))) (f' 18) (ρ 2))
        obtain hS := hS.flat1 hr2
        exact .inl ⟨want_none rfl, oloadA (vs := [.bool e1.1, .slice q1 n1 k1]) aggZ rfl rfl (ev (v := .pointer (some ⟨g1x, (o1 + i * 2), none⟩)) rfl hv2) (fun j v hj => hS.cellAt (hc1 j v hj)) rfl ⟨_, _, rfl, isI, New.same _⟩⟩
      refine stepsCons rfl ?_ ?_
      · intro Q f' w' ρ S ho hT hS hB
        exact .inl ⟨want_none rfl, omove (v := .slice pk m ck) rfl rfl (ev (v := .slice pk m ck) rfl (ho 1 rfl)) ⟨_, _, rfl, isI, New.same _⟩⟩
      refine stepsCons rfl ?_ ?_
      · intro Q f' w' ρ S ho hT hS hB
        exact .inl ⟨want_none rfl, omove (v := .int .i64 (((i : Nat) : Int))) rfl rfl (ev (v := .int .i64 (((i : Nat) : Int))) rfl (ho 5 rfl)) ⟨_, _, rfl, isI, New.same _⟩⟩
      refine stepsCons rfl ?_ ?_
      · intro Q f' w' ρ S ho hT hS hB
        obtain ⟨hv4, hr4⟩ := (hT 4 20 rfl rfl : (Is (.slice pk m ck)) (f' 20) (ρ 4))
        obtain ⟨hv5, hr5⟩ := (hT 5 21 rfl rfl : (Is (.int .i64 (((i : Nat) : Int)))) (f' 21) (ρ 5))
        obtain hS := hS.flat2 hr4 hr5
        exact .inl ⟨want_none rfl, oindex (p := pk) (g := g2x) (off := o2) (m := m) (k := i) (j := (o2 + i * 2)) rfl rfl Try.runUnderlying40 Try.sizeOf25 (ev (v := .slice pk m ck) rfl hv4) (hp2) (ev (v := .int .i64 (((i : Nat) : Int))) rfl hv5) (hlt) rfl ⟨_, _, rfl, isI, New.same _⟩⟩
      refine stepsCons rfl ?_ ?_
      · intro Q f' w' ρ S ho hT hS hB
        obtain ⟨hv6, hr6⟩ := (hT 6 22 rfl rfl : (Is (.pointer (some ⟨g2x, (o2 + i * 2), none⟩))) (f' 22) (ρ 6))
        obtain hS := hS.flat1 hr6
        exact .inl ⟨want_none rfl, oloadA (vs := [.bool e1.1, .slice q2 n2 k2]) aggZ rfl rfl (ev (v := .pointer (some ⟨g2x, (o2 + i * 2), none⟩)) rfl hv6) (fun j v hj => hS.cellAt (hc2 j v hj)) rfl ⟨_, _, rfl, isI, New.same _⟩⟩
      refine stepsCons rfl ?_ ?_
      · intro Q f' w' ρ S ho hT hS hB
        obtain ⟨hv3, hr3⟩ := (hT 3 19 rfl rfl : (Is (.agg #[.bool e1.1, .slice q1 n1 k1])) (f' 19) (ρ 3))
        obtain ⟨hv7, hr7⟩ := (hT 7 23 rfl rfl : (Is (.agg #[.bool e1.1, .slice q2 n2 k2])) (f' 23) (ρ 7))
        obtain hS := hS.flat2 hr3 hr7
        refine .inl ⟨want_none rfl, ocall rfl rfl Try.call22 rfl ((qsame_yes (hs1.below hS.below (Nat.le_refl _)) (hs2.below hS.below (Nat.le_refl _))).mono RetB.u) (args2 (ev rfl hv3) (ev rfl hv7)) ?_⟩
        rintro _ w9 ⟨_, _, rfl, hTT, hN⟩
        exact ⟨_, rfl, _, _, rfl, hTT, hN⟩
      refine stepsCons rfl ?_ ?_
      · intro Q f' w' ρ S ho hT hS hB
        obtain ⟨hv8, hr8⟩ := (hT 8 24 rfl rfl : (Is (.bool true)) (f' 24) (ρ 8))
        obtain hS := hS.flat1 hr8
        exact .inl ⟨want_none rfl, onot (b := true) rfl rfl (ev (v := .bool true) rfl hv8) ⟨_, _, rfl, isI, New.same _⟩⟩
      exact stepsNil
    ·
      intro vs ρ w2 f' hf hT hS
      obtain ⟨hv0, hr0⟩ := (hT 0 (by decide) : (Is (.slice pl m cl)) (vs 0) (ρ 0))
      obtain ⟨hv1, hr1⟩ := (hT 1 (by decide) : (Is (.int .i64 (((i : Nat) : Int)))) (vs 1) (ρ 1))
      obtain ⟨hv2, hr2⟩ := (hT 2 (by decide) : (Is (.pointer (some ⟨g1x, (o1 + i * 2), none⟩))) (vs 2) (ρ 2))
      obtain ⟨hv3, hr3⟩ := (hT 3 (by decide) : (Is (.agg #[.bool e1.1, .slice q1 n1 k1])) (vs 3) (ρ 3))
      obtain ⟨hv4, hr4⟩ := (hT 4 (by decide) : (Is (.slice pk m ck)) (vs 4) (ρ 4))
      obtain ⟨hv5, hr5⟩ := (hT 5 (by decide) : (Is (.int .i64 (((i : Nat) : Int)))) (vs 5) (ρ 5))
      obtain ⟨hv6, hr6⟩ := (hT 6 (by decide) : (Is (.pointer (some ⟨g2x, (o2 + i * 2), none⟩))) (vs 6) (ρ 6))
      obtain ⟨hv7, hr7⟩ := (hT 7 (by decide) : (Is (.agg #[.bool e1.1, .slice q2 n2 k2])) (vs 7) (ρ 7))
      obtain ⟨hv8, hr8⟩ := (hT 8 (by decide) : (Is (.bool true)) (vs 8) (ρ 8))
      obtain ⟨hv9, hr9⟩ := (hT 9 (by decide) : (Is (.bool false)) (vs 9) (ρ 9))
      simp only [pool, if_true, hr0, hr1, hr2, hr3, hr4, hr5, hr6, hr7, hr8, hr9, List.nil_append, List.cons_append, List.append_nil] at hS
      simp only [layf, hv0, hv1, hv2, hv3, hv4, hv5, hv6, hv7, hv8, hv9] at hf
      subst hf; clear hT hv0 hv1 hv2 hv3 hv4 hv5 hv6 hv7 hv8 hv9 hr0 hr1 hr2 hr3 hr4 hr5 hr6 hr7 hr8 hr9
      refine wdone rfl ?_
      refine thenN ?_
      refine wF (ev (v := .bool false) rfl rfl) ?_
      refine wskip ?_
      refine blkN ?_
      refine thenN ?_
      refine wreg ?_
      refine wl rfl (obin (u := .int .i64 (((i : Nat) : Int))) (v := .int .i64 1) (z := .int .i64 (((i + 1 : Nat) : Int))) rfl rfl (ev (v := .int .i64 (((i : Nat) : Int))) rfl rfl) (evc (v := .int .i64 1)) (bin_add (wrap_succ (by have := hx.2.1; omega))) ?_)
      refine wl rfl (omove (v := .int .i64 (((i + 1 : Nat) : Int))) rfl rfl (ev (v := .int .i64 (((i + 1 : Nat) : Int))) rfl rfl) ?_)
      refine wnil ?_
      refine thenN ?_
      exact ⟨(i + 1), ⟨_, act_sets (l := [(0, .slice pl m cl), (1, .slice pk m ck), (12, .int .i64 (((m : Nat) : Int))), (13, .int .i64 (((i + 1 : Nat) : Int)))]) ⟨rfl, rfl, rfl, rfl, trivial⟩, hS.pick [] (by decide) rfl, by omega⟩, by omega⟩
  ·
    refine wl rfl (obin (u := .int .i64 (((i : Nat) : Int))) (v := .int .i64 (((m : Nat) : Int))) (z := .bool false) rfl rfl (ev (v := .int .i64 (((i : Nat) : Int))) rfl rfl) (ev (v := .int .i64 (((m : Nat) : Int))) rfl rfl) (bin_lss (decide_eq_false (by omega))) ?_)
    refine wnil ?_
    refine thenN ?_
    refine wseq ?_
    refine wF (ev (v := .bool false) rfl rfl) ?_
    refine wexit ?_
    refine thenE ?_
    refine thenE ?_
    refine blkE ?_
    refine thenN ?_
    refine wseq ?_
    refine wreg ?_
    refine wl rfl (oassign (v := .bool true) rfl rfl (evc (v := .bool true)) ?_)
    refine wnil ?_
    refine thenN ?_
    refine wleave ?_
    refine wret1 Try.results24 (tellT (v := .bool true) rfl rfl) ?_
    exact ⟨_, _, rfl, isI, hS.new0⟩

end Go.Proofs.Ytoinfkimlhhmpaa
