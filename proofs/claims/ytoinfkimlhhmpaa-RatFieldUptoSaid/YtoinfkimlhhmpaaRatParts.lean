
/-
  rat's Parts: the iterator over a fraction's parts.
-/
import Derived.Test.YtoinfkimlhhmpaaRatOps
import Derived.Test.YtoinfkimlhhmpaaRange3
import Derived.Test.YtoinfkimlhhmpaaRatPow
set_option linter.unusedVariables false
set_option linter.unusedSimpArgs false
namespace Go.Proofs.Ytoinfkimlhhmpaa
open Go.RowKit

/-- The parts of a / b. -/
inductive Cf : Int → Int → List Int → Prop
  | nil (a : Int) : Cf a 0 []
  | cons {a b : Int} {xs : List Int} (h0 : b ≠ 0) (h : Cf b (a % b) xs) : Cf a b (a / b :: xs)
theorem Cf.step {a b : Int} {ys : List Int} (h : Cf a b ys) (h0 : b ≠ 0) : ∃ zs, ys = a / b :: zs ∧ Cf b (a % b) zs := by
  cases h with
  | nil => exact absurd rfl h0
  | cons _ h => exact ⟨_, rfl, h⟩
theorem Cf.done {a : Int} {ys : List Int} (h : Cf a 0 ys) : ys = [] := by
  cases h with
  | nil => rfl
  | cons h0 _ => exact absurd rfl h0
theorem Cf.ex : ∀ (k : Nat) (a b : Int), b.natAbs < k → ∃ xs, Cf a b xs
  | 0, _, _, h => by omega
  | k + 1, a, b, h => by
    by_cases h0 : b = 0
    · subst h0; exact ⟨[], .nil a⟩
    · have h1 := Int.emod_nonneg a h0
      have h2 : (a % b).natAbs < b.natAbs := by
        rcases Int.lt_or_le b 0 with hb | hb
        · have := Int.emod_lt_of_pos a (show 0 < -b by omega)
          rw [Int.emod_neg] at this
          omega
        · have := Int.emod_lt_of_pos a (show 0 < b by omega)
          omega
      obtain ⟨xs, hx⟩ := Cf.ex k b (a % b) (by omega)
      exact ⟨_, .cons h0 hx⟩
/-- What Parts tells: the iterator's function, what it holds. -/
def PFt (z t : Int) : Tell := fun v r => ∃ ge gr p n c q m d, v = .func (.func 97) #[] #[.pointer (some ⟨ge, 0, none⟩), .pointer (some ⟨gr, 0, none⟩)] ∧
  r = [.blk ge [.int .i64 0] 28, .blk gr [.bool (ng z), .slice p n c, .bool (ng t), .slice q m d] 27, .row p n c (lim z.natAbs), .row q m d (lim t.natAbs)]

theorem parts_iter {xs : List Int} {z t : Int} (hcf0 : Cf z t xs) (hkA : Wd z 4194304) (hkB : Wd t 4194304) (w0 : World) {ge gr : Nat} {pA pB : Option Addr} {nA cA nB cB : Nat} :
    Iter Try.prog 97 #[.pointer (some ⟨ge, 0, none⟩), .pointer (some ⟨gr, 0, none⟩)] Zt xs w0 [.blk ge [.int .i64 0] 28, .blk gr [.bool (ng z), .slice pA nA cA, .bool (ng t), .slice pB nB cB] 27, .row pA nA cA (lim z.natAbs), .row pB nB cB (lim t.natAbs)] := by
  intro l I Ix Rc w hY hI0 hS
  show Calls Try.prog 97 #[.func (.yield l) #[] #[], .pointer (some ⟨ge, 0, none⟩), .pointer (some ⟨gr, 0, none⟩)] w _
  refine went Try.func97 rfl (n := 31) rfl rfl ?_
  refine wseq ?_
  refine wseq ?_
  refine wreg ?_
  refine wl rfl (oload1 (v := .int .i64 0) (show One Try.prog 28 from ⟨Try.isAgg28, Try.sizeOf28⟩) hS 0 rfl rfl (ev rfl rfl) rfl rfl ?_)
  refine wl rfl (obin (u := .int .i64 0) (v := .int .i64 0) (z := .bool false) rfl rfl (ev (v := .int .i64 0) rfl rfl) (evc (v := .int .i64 0)) (bin_neq (by decide)) ?_)
  refine wnil ?_
  refine thenN ?_
  refine wF (ev (v := .bool false) rfl rfl) ?_
  refine wskip ?_
  refine thenN ?_
  refine wseq ?_
  refine wstageP 6 [11, 12, 13, 14, 4, 5] [[], [0], [], [2], [], []] [[], [], [], [], [], []] [2, 3] [(gr, [.bool (ng z), .slice pA nA cA, .bool (ng t), .slice pB nB cB], 27)] (fun i9 => ([fun _ => Is (.pointer (some ⟨gr, 0, none⟩)), fun _ => Is (.agg #[.bool (ng z), .slice pA nA cA]), fun _ => Is (.pointer (some ⟨gr, 2, none⟩)), fun _ => Is (.agg #[.bool (ng t), .slice pB nB cB]), fun _ => Ptr [.bool false, .slice none 0 0] 25, fun _ => Ptr [.bool false, .slice none 0 0] 25] : List (List Value → Tell)).getD i9 (fun _ _ _ => False)) ((heldCons (hS.blkAt 1 rfl) heldNil)) (fun d _ _ _ _ h => (by cases d <;> exact h)) (by kernel_rfl) (by kernel_rfl) (by kernel_rfl) hS ?_ ?_
  ·
    refine stepsCons rfl ?_ ?_
    · intro Q f' w' ρ S ho hT hS hB
      exact .inl ⟨want_none rfl, ofieldAddr (g := gr) (off := 0) 0 rfl rfl (ev (v := .pointer (some ⟨gr, 0, none⟩)) rfl (ho 2 rfl)) Try.runUnderlying27 rfl Try.sizeOf25 rfl ⟨_, _, rfl, isI, New.same _⟩⟩
    refine stepsCons rfl ?_ ?_
    · intro Q f' w' ρ S ho hT hS hB
      obtain ⟨hv0, hr0⟩ := (hT 0 11 rfl rfl : (Is (.pointer (some ⟨gr, 0, none⟩))) (f' 11) (ρ 0))
      obtain hS := (hS.flat1 hr0).front1
      exact .inl ⟨want_none rfl, oload (vs := [.bool (ng z), .slice pA nA cA]) aggZ hS 1 rfl rfl (ev rfl hv0) rfl rfl rfl ⟨_, _, rfl, isI, New.same _⟩⟩
    refine stepsPure rfl ?_ ?_
    · intro f' ρ ho hT
      exact ⟨_, .inl ⟨want_none rfl, fun w hw => yfieldAddr (i := 1) (g := gr) (off := 0) 2 rfl (ev (v := .pointer (some ⟨gr, 0, none⟩)) rfl (ho 2 rfl)) Try.runUnderlying27 rfl Try.sizeOf25 rfl w⟩, isI⟩
    refine stepsPure rfl ?_ ?_
    · intro f' ρ ho hT
      obtain ⟨hv2, hr2⟩ := (hT 2 13 rfl rfl : (Is (.pointer (some ⟨gr, 2, none⟩))) (f' 13) (ρ 2))
      exact ⟨_, .inl ⟨want_none rfl, fun w hw => yload (vs := [.bool (ng t), .slice pB nB cB]) aggZ rfl (ev rfl hv2) (hw.at 0 rfl) rfl rfl⟩, isI⟩
    refine stepsCons rfl ?_ ?_
    · intro Q f' w' ρ S ho hT hS hB
      exact .inl ⟨want_none rfl, oallocN [.bool false, .slice none 0 0] rfl rfl Try.zeroValue25 rfl ⟨_, _, rfl, ptrI, New.blk _ _ _⟩⟩
    refine stepsCons rfl ?_ ?_
    · intro Q f' w' ρ S ho hT hS hB
      exact .inl ⟨want_none rfl, oallocN [.bool false, .slice none 0 0] rfl rfl Try.zeroValue25 rfl ⟨_, _, rfl, ptrI, New.blk _ _ _⟩⟩
    exact stepsNil
  ·
    intro vs ρ w3 f' hf hT hS
    obtain ⟨hv0, hr0⟩ := (hT 0 (by decide) : (Is (.pointer (some ⟨gr, 0, none⟩))) (vs 0) (ρ 0))
    obtain ⟨hv1, hr1⟩ := (hT 1 (by decide) : (Is (.agg #[.bool (ng z), .slice pA nA cA])) (vs 1) (ρ 1))
    obtain ⟨hv2, hr2⟩ := (hT 2 (by decide) : (Is (.pointer (some ⟨gr, 2, none⟩))) (vs 2) (ρ 2))
    obtain ⟨hv3, hr3⟩ := (hT 3 (by decide) : (Is (.agg #[.bool (ng t), .slice pB nB cB])) (vs 3) (ρ 3))
    obtain ⟨g1, hv4, hr4⟩ := (hT 4 (by decide) : (Ptr [.bool false, .slice none 0 0] 25) (vs 4) (ρ 4))
    obtain ⟨g2, hv5, hr5⟩ := (hT 5 (by decide) : (Ptr [.bool false, .slice none 0 0] 25) (vs 5) (ρ 5))
    simp only [pool, if_true, hr0, hr1, hr2, hr3, hr4, hr5, List.nil_append, List.cons_append, List.append_nil] at hS
    simp only [layf, hv0, hv1, hv2, hv3, hv4, hv5] at hf
    subst hf; clear hT hv0 hv1 hv2 hv3 hv4 hv5 hr0 hr1 hr2 hr3 hr4 hr5
    refine wlate 6 rfl (by kernel_rfl) (ostore [.bool (ng z), .slice pA nA cA] [.bool (ng z), .slice pA nA cA] Try.sizeOf25 hS 1 rfl rfl (ev rfl rfl) (ev (v := .agg #[.bool (ng z), .slice pA nA cA]) rfl rfl) rfl rfl rfl rfl rfl rfl ?_)
    clear hS; intro w4 hS
    refine ⟨(heldCons (hS.blkAt 3 rfl) heldNil), ?_⟩
    refine wlate 7 rfl (by kernel_rfl) (ostore [.bool (ng t), .slice pB nB cB] [.bool (ng t), .slice pB nB cB] Try.sizeOf25 hS 0 rfl rfl (ev rfl rfl) (ev (v := .agg #[.bool (ng t), .slice pB nB cB]) rfl rfl) rfl rfl rfl rfl rfl rfl ?_)
    clear hS; intro w5 hS
    refine ⟨(heldCons (hS.blkAt 3 rfl) heldNil), ?_⟩
    refine wdone rfl ?_
    refine thenN ?_
    refine wblock ?_

    refine wloop (σ := List Int) (fun ys a w' => ∃ (fb : Nat → Value) (pre : List Int) (Rc : List Res) (za : Int) (zb : Int) (pza : Option Addr) (nza : Nat) (cza : Nat) (pzb : Option Addr) (nzb : Nat) (czb : Nat), a = act 31 (sets fb [(0, .func (.yield l) #[] #[]), (4, .pointer (some ⟨g1, 0, none⟩)), (5, .pointer (some ⟨g2, 0, none⟩))]) ∧ Sep w0 (.blk g2 [.bool (ng zb), .slice pzb nzb czb] 25 :: .blk g1 [.bool (ng za), .slice pza nza cza] 25 :: .blk ge [.int .i64 0] 28 :: .blk gr [.bool (ng z), .slice pA nA cA, .bool (ng t), .slice pB nB cB] 27 :: .row pza nza cza (lim za.natAbs) :: .row pzb nzb czb (lim zb.natAbs) :: Rc) w' ∧ (xs = pre ++ ys) ∧ (Cf za zb ys) ∧ (I pre Rc) ∧ (Wd za 4194304) ∧ (Wd zb 4194304)) (fun ys => ys.length) (xs) ⟨_, _, _, z, t, _, _, _, _, _, _, act_sets (l := [(0, .func (.yield l) #[] #[]), (4, .pointer (some ⟨g1, 0, none⟩)), (5, .pointer (some ⟨g2, 0, none⟩))]) ⟨rfl, rfl, rfl, trivial⟩, hS, (List.nil_append xs).symm, hcf0, hI0, (hkA).mono (by omega), (hkB).mono (by omega)⟩ ?_
    clear hS; rintro ys _ w6 ⟨fb, pre, Rc, za, zb, pza, nza, cza, pzb, nzb, czb, rfl, hS, hpre, hcf, hI, hkza, hkzb⟩
    refine wseq ?_
    refine wseq ?_
    refine wreg ?_
    refine wl rfl (oload (vs := [.bool (ng zb), .slice pzb nzb czb]) aggZ hS 0 rfl rfl (ev rfl rfl) rfl rfl rfl ?_)
    obtain ⟨s1, hs1⟩ : ∃ z : Int, Hid ((zb : Int).sign = z) := ⟨_, rfl⟩
    refine wl rfl (ocall rfl rfl Try.call55 rfl (wzsign (((hS.sl 5 rfl).zr hkzb).mono (by omega)) hs1) (args1 (ev rfl rfl)) ?_)
    rintro _ w7 ⟨_, _, rfl, ⟨rfl, rfl⟩, hN⟩
    refine ⟨_, rfl, ?_⟩
    replace hS := hS.news hN; clear hN
    by_cases h0 : zb = 0
    ·
      refine wl rfl (obin (u := .int .i64 s1) (v := .int .i64 0) (z := .bool false) rfl rfl (ev (v := .int .i64 s1) rfl rfl) (evc (v := .int .i64 0)) (bin_neq ((by rw [bne, sign_eq hs1 h0]; rfl))) ?_)
      refine wnil ?_
      refine thenN ?_
      refine wF (ev (v := .bool false) rfl rfl) ?_
      refine wexit ?_
      refine thenE ?_
      refine thenE ?_
      refine blkE ?_
      refine wret0n Try.results97 ?_
      exact ⟨⟨_, rfl⟩, .inl ⟨Rc, by rw [show xs = pre by subst h0; rw [hpre, hcf.done, List.append_nil]]; exact hI, Sep.behind [.blk g2 [.bool (ng zb), .slice pzb nzb czb] 25, .blk g1 [.bool (ng za), .slice pza nza cza] 25, .blk ge [.int .i64 0] 28, .blk gr [.bool (ng z), .slice pA nA cA, .bool (ng t), .slice pB nB cB] 27, .row pza nza cza (lim za.natAbs), .row pzb nzb czb (lim zb.natAbs)] hS⟩⟩
    ·
      refine wl rfl (obin (u := .int .i64 s1) (v := .int .i64 0) (z := .bool true) rfl rfl (ev (v := .int .i64 s1) rfl rfl) (evc (v := .int .i64 0)) (bin_neq ((by rw [bne, sign_ne hs1 h0]; rfl))) ?_)
      refine wnil ?_
      refine thenN ?_
      refine wT (ev (v := .bool true) rfl rfl) ?_
      refine wskip ?_
      refine thenN ?_
      refine wblock ?_
      refine wseq ?_
      refine wreg ?_
      refine wl rfl (oload (vs := [.bool (ng za), .slice pza nza cza]) aggZ hS 1 rfl rfl (ev rfl rfl) rfl rfl rfl ?_)
      refine wl rfl (oload (vs := [.bool (ng zb), .slice pzb nzb czb]) aggZ hS 0 rfl rfl (ev rfl rfl) rfl rfl rfl ?_)
      obtain ⟨ys1, rfl, hcf1⟩ := hcf.step h0
      obtain ⟨z2, hz2⟩ : ∃ z : Int, Hid (za / zb = z) := ⟨_, rfl⟩
      have hk2 : Wd z2 4194304 := Wd.ediv hkza hz2
      obtain ⟨z3, hz3⟩ : ∃ z : Int, Hid (za % zb = z) := ⟨_, rfl⟩
      have hk3 : Wd z3 4194304 := Wd.emod hkzb (h0) hz3
      refine wl rfl (ocall rfl rfl Try.call95 rfl (wzeuclid (((hS.sl 4 rfl).zr hkza).mono (by omega)) (((hS.sl 5 rfl).zr hkzb).mono (by omega)) (h0) hz2 hz3) (args2 (ev rfl rfl) (ev rfl rfl)) ?_)
      rintro _ w8 ⟨_, _, rfl, ⟨p2, n2, c2, p3, n3, c3, rfl, rfl⟩, hN⟩
      refine ⟨_, rfl, ?_⟩
      replace hS := hS.news hN; clear hN
      refine wl rfl (omove (v := .tuple #[.agg #[.bool (ng z2), .slice p2 n2 c2], .agg #[.bool (ng z3), .slice p3 n3 c3], .int .i64 0]) rfl rfl (ev (v := .tuple #[.agg #[.bool (ng z2), .slice p2 n2 c2], .agg #[.bool (ng z3), .slice p3 n3 c3], .int .i64 0]) rfl rfl) ?_)
      refine wl rfl (oextract (vs := [.agg #[.bool (ng z2), .slice p2 n2 c2], .agg #[.bool (ng z3), .slice p3 n3 c3], .int .i64 0]) (v := .agg #[.bool (ng z2), .slice p2 n2 c2]) rfl rfl (ev (v := .tuple #[.agg #[.bool (ng z2), .slice p2 n2 c2], .agg #[.bool (ng z3), .slice p3 n3 c3], .int .i64 0]) rfl rfl) rfl ?_)
      refine wl rfl (oextract (vs := [.agg #[.bool (ng z2), .slice p2 n2 c2], .agg #[.bool (ng z3), .slice p3 n3 c3], .int .i64 0]) (v := .agg #[.bool (ng z3), .slice p3 n3 c3]) rfl rfl (ev (v := .tuple #[.agg #[.bool (ng z2), .slice p2 n2 c2], .agg #[.bool (ng z3), .slice p3 n3 c3], .int .i64 0]) rfl rfl) rfl ?_)
      refine wl rfl (oextract (vs := [.agg #[.bool (ng z2), .slice p2 n2 c2], .agg #[.bool (ng z3), .slice p3 n3 c3], .int .i64 0]) (v := .int .i64 0) rfl rfl (ev (v := .tuple #[.agg #[.bool (ng z2), .slice p2 n2 c2], .agg #[.bool (ng z3), .slice p3 n3 c3], .int .i64 0]) rfl rfl) rfl ?_)
      refine wl rfl (oalloc [.bool false, .slice none 0 0] hS rfl rfl Try.zeroValue25 rfl ?_)
      clear hS; intro g9 w10 hS
      refine wl rfl (oalloc [.bool false, .slice none 0 0] hS rfl rfl Try.zeroValue25 rfl ?_)
      clear hS; intro g11 w12 hS
      refine wl rfl (ostore [.bool (ng z2), .slice p2 n2 c2] [.bool (ng z2), .slice p2 n2 c2] Try.sizeOf25 hS 1 rfl rfl (ev rfl rfl) (ev (v := .agg #[.bool (ng z2), .slice p2 n2 c2]) rfl rfl) rfl rfl rfl rfl rfl rfl ?_)
      clear hS; intro w13 hS
      refine wl rfl (ostore [.bool (ng z3), .slice p3 n3 c3] [.bool (ng z3), .slice p3 n3 c3] Try.sizeOf25 hS 0 rfl rfl (ev rfl rfl) (ev (v := .agg #[.bool (ng z3), .slice p3 n3 c3]) rfl rfl) rfl rfl rfl rfl rfl rfl ?_)
      clear hS; intro w14 hS
      refine wl rfl (oassign (v := .int .i64 0) rfl rfl (ev (v := .int .i64 0) rfl rfl) ?_)
      refine wnil ?_
      refine thenN ?_
      refine wseq ?_
      refine wseq ?_
      refine cw_of_cr (m := 0) (rreg ?_)
      refine rl rfl rfl (omove (v := .func (.yield l) #[] #[]) rfl rfl (ev (v := .func (.yield l) #[] #[]) rfl rfl) ?_)
      refine rl rfl rfl (oload (vs := [.bool (ng z2), .slice p2 n2 c2]) aggZ hS 1 rfl rfl (ev rfl rfl) rfl rfl rfl ?_)
      have hpx : pre ++ [z2] <+: xs := ⟨ys1, by rw [hpre, hz2.out]; simp⟩
      rw [hz3.out] at hcf1
      obtain hS := (show Sep w0 (.row p2 n2 c2 (lim z2.natAbs) :: .blk g11 [.bool (ng z3), .slice p3 n3 c3] 25 :: .blk g9 [.bool (ng z2), .slice p2 n2 c2] 25 :: .row p3 n3 c3 (lim z3.natAbs) :: .blk g2 [.bool (ng zb), .slice pzb nzb czb] 25 :: .blk g1 [.bool (ng za), .slice pza nza cza] 25 :: .blk ge [.int .i64 0] 28 :: .blk gr [.bool (ng z), .slice pA nA cA, .bool (ng t), .slice pB nB cB] 27 :: .row pza nza cza (lim za.natAbs) :: .row pzb nzb czb (lim zb.natAbs) :: Rc) w14 from Sep.pickT [.blk g11 [.bool (ng z3), .slice p3 n3 c3] 25, .blk g9 [.bool (ng z2), .slice p2 n2 c2] 25, .row p2 n2 c2 (lim z2.natAbs), .row p3 n3 c3 (lim z3.natAbs), .blk g2 [.bool (ng zb), .slice pzb nzb czb] 25, .blk g1 [.bool (ng za), .slice pza nza cza] 25, .blk ge [.int .i64 0] 28, .blk gr [.bool (ng z), .slice pA nA cA, .bool (ng t), .slice pB nB cB] 27, .row pza nza cza (lim za.natAbs), .row pzb nzb czb (lim zb.natAbs)] [.row p2 n2 c2 (lim z2.natAbs), .blk g11 [.bool (ng z3), .slice p3 n3 c3] 25, .blk g9 [.bool (ng z2), .slice p2 n2 c2] 25, .row p3 n3 c3 (lim z3.natAbs), .blk g2 [.bool (ng zb), .slice pzb nzb czb] 25, .blk g1 [.bool (ng za), .slice pza nza cza] 25, .blk ge [.int .i64 0] 28, .blk gr [.bool (ng z), .slice pA nA cA, .bool (ng t), .slice pB nB cB] 27, .row pza nza cza (lim za.natAbs), .row pzb nzb czb (lim zb.natAbs)] hS [2, 0, 1, 3, 4, 5, 6, 7, 8, 9] (by decide) rfl)
      refine ryield rfl rfl rfl rfl (ev (v := .func (.yield l) #[] #[]) rfl rfl) (args1 (ev (v := .agg #[.bool (ng z2), .slice p2 n2 c2]) rfl rfl)) (hY 0 _ _ _ [.row p2 n2 c2 (lim z2.natAbs)] [.blk g11 [.bool (ng z3), .slice p3 n3 c3] 25, .blk g9 [.bool (ng z2), .slice p2 n2 c2] 25, .row p3 n3 c3 (lim z3.natAbs), .blk g2 [.bool (ng zb), .slice pzb nzb czb] 25, .blk g1 [.bool (ng za), .slice pza nza cza] 25, .blk ge [.int .i64 0] 28, .blk gr [.bool (ng z), .slice pA nA cA, .bool (ng t), .slice pB nB cB] 27, .row pza nza cza (lim za.natAbs), .row pzb nzb czb (lim zb.natAbs)] Rc _ (hpx) (hI) (⟨_, _, _, rfl, rfl⟩) hS) ?_
      intro e16 w15 hye16
      by_cases he16 : e16 = .returned (.bool true)
      ·
        obtain ⟨rfl, Rc, hI, hS⟩ := hye16.resolve_right (fun h => by have h1 := h.1; rw [he16] at h1; cases h1)
        refine ⟨_, rfl, ?_⟩
        refine rl rfl rfl (onot (b := true) rfl rfl (ev (v := .bool true) rfl rfl) ?_)
        refine rnil ?_
        refine thenN ?_
        refine wF (ev (v := .bool false) rfl rfl) ?_
        refine wskip ?_
        refine thenN ?_
        refine wstage 2 [29, 30] [[], []] [[], []] [1] [(g11, [.bool (ng z3), .slice p3 n3 c3], 25)] (fun i9 => ([fun _ => Is (.agg #[.bool (ng zb), .slice pzb nzb czb]), fun _ => Is (.agg #[.bool (ng z3), .slice p3 n3 c3])] : List (List Value → Tell)).getD i9 (fun _ _ _ => False)) ((heldCons (hS.blkAt 0 rfl) heldNil)) (fun d _ _ _ _ h => (by cases d <;> exact h)) (by kernel_rfl) (by kernel_rfl) (by kernel_rfl) hS ?_ ?_
        ·
          refine stepsCons rfl ?_ ?_
          · intro Q f' w' ρ S ho hT hS hB
            exact .inl ⟨want_none rfl, oload (vs := [.bool (ng zb), .slice pzb nzb czb]) aggZ hS 3 rfl rfl (ev rfl (ho 5 rfl)) rfl rfl rfl ⟨_, _, rfl, isI, New.same _⟩⟩
          refine stepsPure rfl ?_ ?_
          · intro f' ρ ho hT
            exact ⟨_, .inl ⟨want_none rfl, fun w hw => yload (vs := [.bool (ng z3), .slice p3 n3 c3]) aggZ rfl (ev rfl (ho 7 rfl)) (hw.at 0 rfl) rfl rfl⟩, isI⟩
          exact stepsNil
        ·
          intro vs ρ w17 f' hf hT hS
          obtain ⟨hv0, hr0⟩ := (hT 0 (by decide) : (Is (.agg #[.bool (ng zb), .slice pzb nzb czb])) (vs 0) (ρ 0))
          obtain ⟨hv1, hr1⟩ := (hT 1 (by decide) : (Is (.agg #[.bool (ng z3), .slice p3 n3 c3])) (vs 1) (ρ 1))
          simp only [pool, if_true, hr0, hr1, List.nil_append, List.cons_append, List.append_nil] at hS
          simp only [layf, hv0, hv1] at hf
          subst hf; clear hT hv0 hv1 hr0 hr1
          refine wlate 2 rfl (by kernel_rfl) (ostore [.bool (ng zb), .slice pzb nzb czb] [.bool (ng zb), .slice pzb nzb czb] Try.sizeOf25 hS 4 rfl rfl (ev rfl rfl) (ev (v := .agg #[.bool (ng zb), .slice pzb nzb czb]) rfl rfl) rfl rfl rfl rfl rfl rfl ?_)
          clear hS; intro w18 hS
          refine ⟨(heldCons (hS.blkAt 0 rfl) heldNil), ?_⟩
          refine wlate 3 rfl (by kernel_rfl) (ostore [.bool (ng z3), .slice p3 n3 c3] [.bool (ng z3), .slice p3 n3 c3] Try.sizeOf25 hS 3 rfl rfl (ev rfl rfl) (ev (v := .agg #[.bool (ng z3), .slice p3 n3 c3]) rfl rfl) rfl rfl rfl rfl rfl rfl ?_)
          clear hS; intro w19 hS
          refine ⟨(heldCons (hS.blkAt 0 rfl) heldNil), ?_⟩
          refine wdone rfl ?_
          refine blkN ?_
          refine thenN ?_
          exact ⟨ys1, ⟨_, _, _, zb, z3, _, _, _, _, _, _, act_sets (l := [(0, .func (.yield l) #[] #[]), (4, .pointer (some ⟨g1, 0, none⟩)), (5, .pointer (some ⟨g2, 0, none⟩))]) ⟨rfl, rfl, rfl, trivial⟩, Sep.pickT [.blk g11 [.bool (ng z3), .slice p3 n3 c3] 25, .blk g9 [.bool (ng z2), .slice p2 n2 c2] 25, .row p3 n3 c3 (lim z3.natAbs), .blk g2 [.bool (ng z3), .slice p3 n3 c3] 25, .blk g1 [.bool (ng zb), .slice pzb nzb czb] 25, .blk ge [.int .i64 0] 28, .blk gr [.bool (ng z), .slice pA nA cA, .bool (ng t), .slice pB nB cB] 27, .row pza nza cza (lim za.natAbs), .row pzb nzb czb (lim zb.natAbs)] [.blk g2 [.bool (ng z3), .slice p3 n3 c3] 25, .blk g1 [.bool (ng zb), .slice pzb nzb czb] 25, .blk ge [.int .i64 0] 28, .blk gr [.bool (ng z), .slice pA nA cA, .bool (ng t), .slice pB nB cB] 27, .row pzb nzb czb (lim zb.natAbs), .row p3 n3 c3 (lim z3.natAbs)] hS [3, 4, 5, 6, 8, 2] (by decide) rfl, by rw [hpre, hz2.out]; simp, hcf1, hI, (hkzb).mono (by omega), (hk3).mono (by omega)⟩, by simp⟩
      ·
        obtain ⟨rfl, Rc, hI, hS⟩ := hye16.resolve_left (fun h => he16 h.1)
        refine ⟨_, rfl, ?_⟩
        refine rl rfl rfl (onot (b := false) rfl rfl (ev (v := .bool false) rfl rfl) ?_)
        refine rnil ?_
        refine thenN ?_
        refine wT (ev (v := .bool true) rfl rfl) ?_
        refine wleave ?_
        refine thenR ?_
        refine blkR ?_
        refine thenR ?_
        refine blkR ?_
        refine wret0 Try.results97 ?_
        exact ⟨⟨_, rfl⟩, .inr ⟨_, Rc, hpx, hI, Sep.behind [.blk g11 [.bool (ng z3), .slice p3 n3 c3] 25, .blk g9 [.bool (ng z2), .slice p2 n2 c2] 25, .row p3 n3 c3 (lim z3.natAbs), .blk g2 [.bool (ng zb), .slice pzb nzb czb] 25, .blk g1 [.bool (ng za), .slice pza nza cza] 25, .blk ge [.int .i64 0] 28, .blk gr [.bool (ng z), .slice pA nA cA, .bool (ng t), .slice pB nB cB] 27, .row pza nza cza (lim za.natAbs), .row pzb nzb czb (lim zb.natAbs)] hS⟩⟩

set_option maxRecDepth 100000 in
set_option maxHeartbeats 16000000 in
theorem wrparts {x y z t : Int} {w : World} {bA bB : Bool} {qA qB : Option Addr} {nA kA nB kB : Nat} (hzA : Zr w bA qA nA kA x 67108864) (hzB : Zr w bB qB nB kB y 67108864) (hy : y ≠ 0) (hz : Hid (RN x y = z)) (ht : Hid (RD x y = t)) :
    Calls Try.prog 51 #[.agg #[.bool bA, .slice qA nA kA, .bool bB, .slice qB nB kB]] w (Ret (PFt z t) w) := by
  have hS := Sep.init w
  refine went Try.func51 rfl (n := 10) rfl rfl ?_
  refine wseq ?_
  refine wreg ?_
  refine wl rfl (obox [.bool bA, .slice qA nA kA, .bool bB, .slice qB nB kB] hS rfl rfl (ev (v := .agg #[.bool bA, .slice qA nA kA, .bool bB, .slice qB nB kB]) rfl rfl) rfl ?_)
  clear hS; intro g1 w2 hS
  refine wl rfl (oassign (v := .nilFunc) rfl rfl (evc (v := .nilFunc)) ?_)
  refine wnil ?_
  refine thenN ?_
  refine wseq ?_
  refine wreg ?_
  refine wl rfl (oload (vs := [.bool bA, .slice qA nA kA, .bool bB, .slice qB nB kB]) aggR hS 0 rfl rfl (ev rfl rfl) rfl rfl rfl ?_)
  obtain ⟨z1, hz1⟩ : ∃ z : Int, Hid (RN x y = z) := ⟨_, rfl⟩
  have hk1 : Wd z1 67108864 := Wd.rn hzA.wd hz1
  obtain ⟨z2, hz2⟩ : ∃ z : Int, Hid (RD x y = z) := ⟨_, rfl⟩
  have hk2 : Wd z2 67108864 := Wd.rd hzB.wd hz2
  refine wl rfl (ocall rfl rfl Try.call43 rfl ((wrnorm (hzA.at hS) (hzB.at hS) (hy) hz1 hz2)) (args1 (ev rfl rfl)) ?_)
  rintro _ w3 ⟨_, _, rfl, ⟨p1, n1, c1, p2, n2, c2, rfl, rfl⟩, hN⟩
  refine ⟨_, rfl, ?_⟩
  replace hS := hS.news hN; clear hN
  refine wl rfl (omove (v := .tuple #[.agg #[.bool (ng z1), .slice p1 n1 c1, .bool (ng z2), .slice p2 n2 c2], .int .i64 0]) rfl rfl (ev (v := .tuple #[.agg #[.bool (ng z1), .slice p1 n1 c1, .bool (ng z2), .slice p2 n2 c2], .int .i64 0]) rfl rfl) ?_)
  refine wl rfl (oextract (vs := [.agg #[.bool (ng z1), .slice p1 n1 c1, .bool (ng z2), .slice p2 n2 c2], .int .i64 0]) (v := .agg #[.bool (ng z1), .slice p1 n1 c1, .bool (ng z2), .slice p2 n2 c2]) rfl rfl (ev (v := .tuple #[.agg #[.bool (ng z1), .slice p1 n1 c1, .bool (ng z2), .slice p2 n2 c2], .int .i64 0]) rfl rfl) rfl ?_)
  refine wl rfl (oextract (vs := [.agg #[.bool (ng z1), .slice p1 n1 c1, .bool (ng z2), .slice p2 n2 c2], .int .i64 0]) (v := .int .i64 0) rfl rfl (ev (v := .tuple #[.agg #[.bool (ng z1), .slice p1 n1 c1, .bool (ng z2), .slice p2 n2 c2], .int .i64 0]) rfl rfl) rfl ?_)
  refine wl rfl (oalloc [.int .i64 0] hS rfl rfl Try.zeroValue28 rfl ?_)
  clear hS; intro g4 w5 hS
  refine wl rfl (ostore [.bool (ng z1), .slice p1 n1 c1, .bool (ng z2), .slice p2 n2 c2] [.bool (ng z1), .slice p1 n1 c1, .bool (ng z2), .slice p2 n2 c2] Try.sizeOf27 hS 3 rfl rfl (ev rfl rfl) (ev (v := .agg #[.bool (ng z1), .slice p1 n1 c1, .bool (ng z2), .slice p2 n2 c2]) rfl rfl) rfl rfl rfl rfl rfl rfl ?_)
  clear hS; intro w6 hS
  refine wl rfl (ostore [.int .i64 0] [.int .i64 0] Try.sizeOf28 hS 0 rfl rfl (ev rfl rfl) (ev (v := .int .i64 0) rfl rfl) rfl rfl rfl rfl rfl rfl ?_)
  clear hS; intro w7 hS
  refine wnil ?_
  refine thenN ?_
  refine wseq ?_
  refine wreg ?_
  refine wl rfl (omakeFunc (cs := #[.pointer (some ⟨g4, 0, none⟩), .pointer (some ⟨g1, 0, none⟩)]) rfl rfl (args2 (ev rfl rfl) (ev rfl rfl)) ?_)
  refine wl rfl (oassign (v := .func (.func 97) #[] #[.pointer (some ⟨g4, 0, none⟩), .pointer (some ⟨g1, 0, none⟩)]) rfl rfl (ev (v := .func (.func 97) #[] #[.pointer (some ⟨g4, 0, none⟩), .pointer (some ⟨g1, 0, none⟩)]) rfl rfl) ?_)
  refine wnil ?_
  refine thenN ?_
  refine wleave ?_
  refine wret1 Try.results51 (tellT (v := .func (.func 97) #[] #[.pointer (some ⟨g4, 0, none⟩), .pointer (some ⟨g1, 0, none⟩)]) rfl rfl) ?_
  obtain rfl := hz.out
  obtain rfl := ht.out
  obtain rfl := hz1.out
  obtain rfl := hz2.out
  obtain hS := (hS.toRow 1 rfl).toRow 2 rfl
  exact ⟨_, _, rfl, ⟨_, _, _, _, _, _, _, _, rfl, rfl⟩, hS.newM [0, 3, 1, 2] (by decide) rfl rfl⟩

end Go.Proofs.Ytoinfkimlhhmpaa
