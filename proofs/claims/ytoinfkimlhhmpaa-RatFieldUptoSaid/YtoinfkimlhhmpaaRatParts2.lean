
/-
  rat.FromParts of a fraction's parts.
-/
import Derived.Test.YtoinfkimlhhmpaaRatParts
import Derived.Test.YtoinfkimlhhmpaaRatFns
set_option linter.unusedVariables false
set_option linter.unusedSimpArgs false
namespace Go.Proofs.Ytoinfkimlhhmpaa
open Go.RowKit

/-- Euclid's pairs. -/
def eu (a b : Int) : Nat → Int × Int
  | 0 => (a, b)
  | k + 1 => eu b (a % b) k
theorem eu_succ : ∀ (k : Nat) (a b : Int), eu a b (k + 1) = ((eu a b k).2, (eu a b k).1 % (eu a b k).2)
  | 0, _, _ => rfl
  | k + 1, a, b => by
    show eu b (a % b) (k + 1) = _
    rw [eu_succ k b (a % b)]; rfl
theorem Cf.z {a b : Int} (h : Cf a b []) : b = 0 := by cases h; rfl
theorem Cf.at {a b : Int} {xs : List Int} (h : Cf a b xs) : ∀ {j : Nat}, j < xs.length → (eu a b j).2 ≠ 0 ∧ xs[j]? = some ((eu a b j).1 / (eu a b j).2) ∧ (j + 1 = xs.length ↔ (eu a b j).1 % (eu a b j).2 = 0) := by
  induction h with
  | nil => intro j hj; simp at hj
  | @cons a b xs h0 h ih =>
    intro j hj
    cases j with
    | zero =>
      refine ⟨h0, rfl, ?_⟩
      constructor
      · intro e
        have e2 := List.length_eq_zero_iff.1 (show _ = 0 by simpa using e.symm)
        subst e2
        exact h.z
      · intro e
        have h' := h
        rw [show a % b = 0 from e] at h'
        rw [h'.done]; rfl
    | succ j =>
      obtain ⟨h1, h2, h3⟩ := ih (j := j) (by simpa using hj)
      exact ⟨h1, h2, by rw [List.length_cons]; exact ⟨fun e => h3.1 (by omega), fun e => by have := h3.2 e; omega⟩⟩
theorem eu_wd {K : Nat} : ∀ (k : Nat) (a b : Int), Wd a K → Wd b K → Wd (eu a b k).1 K ∧ Wd (eu a b k).2 K
  | 0, _, _, ha, hb => ⟨ha, hb⟩
  | k + 1, a, b, ha, hb => by
    by_cases h0 : b = 0
    · subst h0
      show Wd (eu 0 (a % 0) k).1 K ∧ Wd (eu 0 (a % 0) k).2 K
      rw [Int.emod_zero]
      exact eu_wd k 0 a hb ha
    · exact eu_wd k b (a % b) hb (Wd.emod hb h0 rfl)
theorem parts_last {a b : Int} (hb : b ≠ 0) (h : a % b = 0) : RN a b = a / b ∧ RD a b = 1 := by
  have h1 := R_same (x := a) (y := b) (x' := a / b) (y' := 1) hb (by decide) (by
    have := Int.mul_ediv_add_emod a b
    rw [h] at this
    rw [Int.mul_one, Int.mul_comm (a / b)]; omega)
  exact ⟨h1.1.trans (RN_one _), h1.2.trans (RD_one _)⟩
theorem parts_step {a b za zb u v : Int} (hb : b ≠ 0) (hr : a % b ≠ 0) (hza : RN b (a % b) = za) (hzb : RD b (a % b) = zb) (hu : RN zb za = u) (hv : RD zb za = v) :
    za ≠ 0 ∧ zb ≠ 0 ∧ v ≠ 0 ∧ RN (a / b * v + u * 1) (1 * v) = RN a b ∧ RD (a / b * v + u * 1) (1 * v) = RD a b := by
  have z0 : za ≠ 0 := by rw [← hza]; exact fun h => hb ((RN_zero hr).1 h)
  have d0 : zb ≠ 0 := by rw [← hzb]; exact Int.ne_of_gt (RD_pos hr)
  have v0 : v ≠ 0 := by rw [← hv]; exact Int.ne_of_gt (RD_pos z0)
  have c1 := R_cross b (a % b)
  have c2 := R_cross zb za
  rw [hza, hzb] at c1
  rw [hu, hv] at c2
  refine ⟨z0, d0, v0, R_same (by rw [Int.one_mul]; exact v0) hb ?_⟩
  have hd := Int.mul_ediv_add_emod a b
  have key : u * b = a % b * v := by
    refine Int.eq_of_mul_eq_mul_left z0 ?_
    grind
  grind

/-- A list of integers, of whatever length. -/
def Zl (w : World) (p : Option Addr) (m : Nat) (l : List Int) (K : Nat) : Prop :=
  m = l.length ∧ m ≤ 268435456 ∧ ∀ i z, l[i]? = some z → ∃ g off b q n k, p = some ⟨g, off, none⟩ ∧ (∀ j v, [Value.bool b, .slice q n k][j]? = some v → w.cell? ⟨g, off + i * 2 + j, none⟩ = some v) ∧ Zr w b q n k z K
theorem Zl.el {w : World} {p : Option Addr} {m K : Nat} {l : List Int} (h : Zl w p m l K) {i : Nat} (hi : i < m) : ∃ z g off b q n k, l[i]? = some z ∧ p = some ⟨g, off, none⟩ ∧ (∀ j v, [Value.bool b, .slice q n k][j]? = some v → w.cell? ⟨g, off + i * 2 + j, none⟩ = some v) ∧ Zr w b q n k z K := by
  have hi' : i < l.length := by rw [← h.1]; exact hi
  obtain ⟨g, off, b, q, n, k, r⟩ := h.2.2 i l[i] (List.getElem?_eq_getElem hi')
  exact ⟨_, g, off, b, q, n, k, List.getElem?_eq_getElem hi', r⟩
set_option maxRecDepth 100000 in
set_option maxHeartbeats 16000000 in
theorem wrfromparts {xs : List Int} {x0 y0 z t : Int} {w : World} {pl : Option Addr} {m1 cl : Nat} (hl : Zl w pl (m1 + 1) xs 4194304) (hcf : Cf x0 y0 xs) (hb : y0 ≠ 0) (hwa : Wd x0 4194304) (hwb : Wd y0 4194304) (hz : Hid (RN x0 y0 = z)) (ht : Hid (RD x0 y0 = t)) :
    Calls Try.prog 52 #[.slice pl (m1 + 1) cl] w (Ret (RRt z t 0) w) := by
  have hlen := hl.1
  obtain ⟨e1, g1x, o1, bx, qx, nx, kx, hle, hp1, hc1, hzx⟩ := hl.el (show m1 < m1 + 1 by omega)
  have hS := Sep.init w
  refine went Try.func52 rfl (n := 49) rfl rfl ?_
  refine wseq ?_
  refine wreg ?_
  refine wl rfl (oalloc [.bool false, .slice none 0 0, .bool false, .slice none 0 0] hS rfl rfl Try.zeroValue27 rfl ?_)
  clear hS; intro g1 w2 hS
  refine wl rfl (oassign (v := .int .i64 0) rfl rfl (evc (v := .int .i64 0)) ?_)
  refine wnil ?_
  refine thenN ?_
  refine wseq ?_
  refine wseq ?_
  refine wreg ?_
  refine wl rfl (omove (v := .slice pl ((m1 + 1)) cl) rfl rfl (ev (v := .slice pl ((m1 + 1)) cl) rfl rfl) ?_)
  refine wl rfl (olen rfl rfl rfl Try.runUnderlying40 (p := pl) (k := (m1 + 1)) (m := cl) (ev (v := .slice pl ((m1 + 1)) cl) rfl rfl) ?_)
  refine wl rfl (obin (u := .int .i64 ((((m1 + 1) : Nat) : Int))) (v := .int .i64 0) (z := .bool false) rfl rfl (ev (v := .int .i64 ((((m1 + 1) : Nat) : Int))) rfl rfl) (evc (v := .int .i64 0)) (bin_eql ((by simp; omega))) ?_)
  refine wnil ?_
  refine thenN ?_
  refine wF (ev (v := .bool false) rfl rfl) ?_
  refine wskip ?_
  refine thenN ?_
  refine wseq ?_
  refine wreg ?_
  refine wl rfl (omove (v := .slice pl ((m1 + 1)) cl) rfl rfl (ev (v := .slice pl ((m1 + 1)) cl) rfl rfl) ?_)
  refine wl rfl (omove (v := .slice pl ((m1 + 1)) cl) rfl rfl (ev (v := .slice pl ((m1 + 1)) cl) rfl rfl) ?_)
  refine wl rfl (olen rfl rfl rfl Try.runUnderlying40 (p := pl) (k := (m1 + 1)) (m := cl) (ev (v := .slice pl ((m1 + 1)) cl) rfl rfl) ?_)
  obtain ⟨hb1, hq1, hr1⟩ := hcf.at (j := m1) (by omega)
  obtain rfl : e1 = (eu x0 y0 m1).1 / (eu x0 y0 m1).2 := Option.some.inj (hle.symm.trans hq1)
  have hlast := parts_last hb1 (hr1.1 (by omega))
  refine wl rfl (obin (u := .int .i64 ((((m1 + 1) : Nat) : Int))) (v := .int .i64 1) (z := .int .i64 (((m1 : Nat) : Int))) rfl rfl (ev (v := .int .i64 ((((m1 + 1) : Nat) : Int))) rfl rfl) (evc (v := .int .i64 1)) (bin_sub ((by rw [wrap_i64 (by have := hl.2.1; omega) (by have := hl.2.1; omega)]; omega))) ?_)
  refine wl rfl (oindex (p := pl) (g := g1x) (off := o1) (m := (m1 + 1)) (k := m1) (j := (o1 + m1 * 2)) rfl rfl Try.runUnderlying40 Try.sizeOf25 (ev (v := .slice pl ((m1 + 1)) cl) rfl rfl) (hp1) (ev (v := .int .i64 (((m1 : Nat) : Int))) rfl rfl) ((by omega)) rfl ?_)
  refine wl rfl (oloadA (vs := [.bool bx, .slice qx nx kx]) aggZ rfl rfl (ev (v := .pointer (some ⟨g1x, (o1 + m1 * 2), none⟩)) rfl rfl) (fun j v hj => hS.cellAt (hc1 j v hj)) rfl ?_)
  obtain ⟨z1, hz1⟩ : ∃ z : Int, Hid ((((eu x0 y0 m1).1 / (eu x0 y0 m1).2)) = z) := ⟨_, rfl⟩
  have hk1 : Wd z1 4194304 := Wd.same hzx.wd hz1
  refine wl rfl (ocall rfl rfl Try.call98 rfl ((wznorm ((hzx.at hS).mono (by omega)) hz1).mono Zt.m) (args1 (ev rfl rfl)) ?_)
  rintro _ w3 ⟨_, _, rfl, ⟨p1, n1, c1, rfl, rfl⟩, hN⟩
  refine ⟨_, rfl, ?_⟩
  replace hS := hS.news hN; clear hN
  have hk2 : Wd 1 2 := Wd.i64 (by omega) (by omega)
  refine wl rfl (ocall rfl rfl Try.call64 rfl ((wzof (z := 1) (by omega) (by omega)).mono Zt.m) (args1 evc) ?_)
  rintro _ w4 ⟨_, _, rfl, ⟨p2, n2, c2, rfl, rfl⟩, hN⟩
  refine ⟨_, rfl, ?_⟩
  replace hS := hS.news hN; clear hN
  refine wl rfl (obuild (ps := #[(0, .agg #[.bool (ng z1), .slice p1 n1 c1]), (1, .agg #[.bool (ng 1), .slice p2 n2 c2])]) (v := .agg #[.bool (ng z1), .slice p1 n1 c1, .bool (ng 1), .slice p2 n2 c2]) rfl rfl (parts2 (ev (v := .agg #[.bool (ng z1), .slice p1 n1 c1]) rfl rfl) (ev (v := .agg #[.bool (ng 1), .slice p2 n2 c2]) rfl rfl)) (fun w => by simp [go_sem, Instr.build, Instr.fill]) ?_)
  refine wl rfl (oalloc [.bool false, .slice none 0 0, .bool false, .slice none 0 0] hS rfl rfl Try.zeroValue27 rfl ?_)
  clear hS; intro g5 w6 hS
  refine wl rfl (ostore [.bool (ng z1), .slice p1 n1 c1, .bool (ng 1), .slice p2 n2 c2] [.bool (ng z1), .slice p1 n1 c1, .bool (ng 1), .slice p2 n2 c2] Try.sizeOf27 hS 0 rfl rfl (ev rfl rfl) (ev (v := .agg #[.bool (ng z1), .slice p1 n1 c1, .bool (ng 1), .slice p2 n2 c2]) rfl rfl) rfl rfl rfl rfl rfl rfl ?_)
  clear hS; intro w7 hS
  refine wnil ?_
  refine thenN ?_
  refine wseq ?_
  refine wseq ?_
  refine wreg ?_
  refine wl rfl (omove (v := .slice pl ((m1 + 1)) cl) rfl rfl (ev (v := .slice pl ((m1 + 1)) cl) rfl rfl) ?_)
  refine wl rfl (olen rfl rfl rfl Try.runUnderlying40 (p := pl) (k := (m1 + 1)) (m := cl) (ev (v := .slice pl ((m1 + 1)) cl) rfl rfl) ?_)
  have hza0 : z1 = RN (eu x0 y0 m1).1 (eu x0 y0 m1).2 := by rw [hlast.1]; exact hz1.out.symm
  have hzb0 : (1 : Int) = RD (eu x0 y0 m1).1 (eu x0 y0 m1).2 := hlast.2.symm
  refine wl rfl (obin (u := .int .i64 ((((m1 + 1) : Nat) : Int))) (v := .int .i64 2) (z := .int .i64 (((m1 : Nat) : Int) - 1)) rfl rfl (ev (v := .int .i64 ((((m1 + 1) : Nat) : Int))) rfl rfl) (evc (v := .int .i64 2)) (bin_sub ((by rw [wrap_i64 (by have := hl.2.1; omega) (by have := hl.2.1; omega)]; omega))) ?_)
  refine wl rfl (oassign (v := .int .i64 (((m1 : Nat) : Int) - 1)) rfl rfl (ev (v := .int .i64 (((m1 : Nat) : Int) - 1)) rfl rfl) ?_)
  refine wnil ?_
  refine thenN ?_
  refine wblock ?_
  refine wloop (σ := Nat) (fun k a w' => ∃ (fb : Nat → Value) (i : Int) (za : Int) (zb : Int) (pza : Option Addr) (nza : Nat) (cza : Nat) (pzb : Option Addr) (nzb : Nat) (czb : Nat), a = act 49 (sets fb [(0, .slice pl ((m1 + 1)) cl), (2, .pointer (some ⟨g1, 0, none⟩)), (4, .pointer (some ⟨g5, 0, none⟩)), (5, .int .i64 i)]) ∧ Sep w [.blk g5 [.bool (ng za), .slice pza nza cza, .bool (ng zb), .slice pzb nzb czb] 27, .rowm pzb nzb czb (lim zb.natAbs), .rowm pza nza cza (lim za.natAbs), .blk g1 [.bool false, .slice none 0 0, .bool false, .slice none 0 0] 27] w' ∧ (k ≤ m1) ∧ (i = (k : Int) - 1) ∧ (za = RN (eu x0 y0 k).1 (eu x0 y0 k).2) ∧ (zb = RD (eu x0 y0 k).1 (eu x0 y0 k).2) ∧ (Wd za 4194304) ∧ (Wd zb 4194304)) (fun k => k) (m1) ⟨_, _, z1, 1, _, _, _, _, _, _, act_sets (l := [(0, .slice pl ((m1 + 1)) cl), (2, .pointer (some ⟨g1, 0, none⟩)), (4, .pointer (some ⟨g5, 0, none⟩)), (5, .int .i64 (((m1 : Nat) : Int) - 1))]) ⟨rfl, rfl, rfl, rfl, trivial⟩, hS, Nat.le_refl _, rfl, hza0, hzb0, (hk1).mono (by omega), (hk2).mono (by omega)⟩ ?_
  clear hS; rintro k _ w8 ⟨fb, i, za, zb, pza, nza, cza, pzb, nzb, czb, rfl, hS, hk, hik, hza, hzb, hkza, hkzb⟩
  refine wseq ?_
  refine wseq ?_
  refine wreg ?_
  refine wl rfl (omove (v := .int .i64 i) rfl rfl (ev (v := .int .i64 i) rfl rfl) ?_)
  by_cases hk0 : k = 0
  ·
    refine wl rfl (obin (u := .int .i64 i) (v := .int .i64 0) (z := .bool false) rfl rfl (ev (v := .int .i64 i) rfl rfl) (evc (v := .int .i64 0)) (bin_geq (decide_eq_false (by omega))) ?_)
    refine wnil ?_
    refine thenN ?_
    refine wF (ev (v := .bool false) rfl rfl) ?_
    refine wexit ?_
    refine thenE ?_
    refine thenE ?_
    refine blkE ?_
    refine thenN ?_
    refine wseq ?_
    refine wreg ?_
    refine wl rfl (oload (vs := [.bool (ng za), .slice pza nza cza, .bool (ng zb), .slice pzb nzb czb]) aggR hS 0 rfl rfl (ev rfl rfl) rfl rfl rfl ?_)
    refine wl rfl (ostore [.bool (ng za), .slice pza nza cza, .bool (ng zb), .slice pzb nzb czb] [.bool (ng za), .slice pza nza cza, .bool (ng zb), .slice pzb nzb czb] Try.sizeOf27 hS 3 rfl rfl (ev rfl rfl) (ev (v := .agg #[.bool (ng za), .slice pza nza cza, .bool (ng zb), .slice pzb nzb czb]) rfl rfl) rfl rfl rfl rfl rfl rfl ?_)
    clear hS; intro w9 hS
    refine wl rfl (oassign (v := .int .i64 0) rfl rfl (evc (v := .int .i64 0)) ?_)
    refine wnil ?_
    refine thenN ?_
    refine wleave ?_
    refine wret2 Try.results52 (tellC (cs := [.bool (ng za), .slice pza nza cza, .bool (ng zb), .slice pzb nzb czb]) aggR hS 3 rfl rfl rfl rfl) (tellT (v := .int .i64 0) rfl rfl) ?_
    subst hk0
    obtain rfl : za = z := hza.trans hz.out
    obtain rfl : zb = t := hzb.trans ht.out
    exact ⟨_, _, rfl, ⟨_, _, _, _, _, _, rfl, rfl⟩, hS.newM [2, 1] (by decide) rfl rfl⟩
  ·
    refine wl rfl (obin (u := .int .i64 i) (v := .int .i64 0) (z := .bool true) rfl rfl (ev (v := .int .i64 i) rfl rfl) (evc (v := .int .i64 0)) (bin_geq (decide_eq_true (by omega))) ?_)
    refine wnil ?_
    refine thenN ?_
    refine wT (ev (v := .bool true) rfl rfl) ?_
    refine wskip ?_
    refine thenN ?_
    refine wseq ?_
    refine wblock ?_
    refine wseq ?_
    refine wreg ?_
    refine wl rfl (oload (vs := [.bool (ng za), .slice pza nza cza, .bool (ng zb), .slice pzb nzb czb]) aggR hS 0 rfl rfl (ev rfl rfl) rfl rfl rfl ?_)
    obtain ⟨j, rfl⟩ : ∃ j : Nat, k = j + 1 := ⟨k - 1, by omega⟩
    obtain rfl : i = (j : Int) := by omega
    obtain ⟨hb2, hq2, hr2⟩ := hcf.at (j := j) (by omega)
    have hs2 := eu_succ j x0 y0
    rw [hs2] at hza hzb
    have hr0 : (eu x0 y0 j).1 % (eu x0 y0 j).2 ≠ 0 := fun h => by have := hr2.2 h; omega
    obtain ⟨hwa2, hwb2⟩ := eu_wd j x0 y0 hwa hwb
    have hps := parts_step hb2 hr0 hza.symm hzb.symm rfl rfl
    obtain ⟨e2, g2x, o2, by1, qy, ny, ky, hle2, hp2, hc2, hzy⟩ := hl.el (show j < m1 + 1 by omega)
    obtain rfl : e2 = (eu x0 y0 j).1 / (eu x0 y0 j).2 := Option.some.inj (hle2.symm.trans hq2)
    obtain ⟨z3, hz3⟩ : ∃ z : Int, Hid (RN zb za = z) := ⟨_, rfl⟩
    have hk3 : Wd z3 4194304 := Wd.rn hkzb hz3
    obtain ⟨z4, hz4⟩ : ∃ z : Int, Hid (RD zb za = z) := ⟨_, rfl⟩
    have hk4 : Wd z4 4194304 := Wd.rd hkza hz4
    refine wl rfl (ocall rfl rfl Try.call9 rfl (wrinv (((hS.slm 2 rfl).zr hkza).mono (by omega)) (((hS.slm 1 rfl).zr hkzb).mono (by omega)) (hps.2.1) (hps.1) hz3 hz4) (args1 (ev rfl rfl)) ?_)
    rintro _ w9 ⟨_, _, rfl, ⟨p3, n3, c3, p4, n4, c4, rfl, rfl⟩, hN⟩
    refine ⟨_, rfl, ?_⟩
    replace hS := hS.news hN; clear hN
    refine wl rfl (omove (v := .tuple #[.agg #[.bool (ng z3), .slice p3 n3 c3, .bool (ng z4), .slice p4 n4 c4], .int .i64 0]) rfl rfl (ev (v := .tuple #[.agg #[.bool (ng z3), .slice p3 n3 c3, .bool (ng z4), .slice p4 n4 c4], .int .i64 0]) rfl rfl) ?_)
    refine wl rfl (oextract (vs := [.agg #[.bool (ng z3), .slice p3 n3 c3, .bool (ng z4), .slice p4 n4 c4], .int .i64 0]) (v := .agg #[.bool (ng z3), .slice p3 n3 c3, .bool (ng z4), .slice p4 n4 c4]) rfl rfl (ev (v := .tuple #[.agg #[.bool (ng z3), .slice p3 n3 c3, .bool (ng z4), .slice p4 n4 c4], .int .i64 0]) rfl rfl) rfl ?_)
    refine wl rfl (oextract (vs := [.agg #[.bool (ng z3), .slice p3 n3 c3, .bool (ng z4), .slice p4 n4 c4], .int .i64 0]) (v := .int .i64 0) rfl rfl (ev (v := .tuple #[.agg #[.bool (ng z3), .slice p3 n3 c3, .bool (ng z4), .slice p4 n4 c4], .int .i64 0]) rfl rfl) rfl ?_)
    refine wl rfl (oalloc [.bool false, .slice none 0 0, .bool false, .slice none 0 0] hS rfl rfl Try.zeroValue27 rfl ?_)
    clear hS; intro g10 w11 hS
    refine wl rfl (ostore [.bool (ng z3), .slice p3 n3 c3, .bool (ng z4), .slice p4 n4 c4] [.bool (ng z3), .slice p3 n3 c3, .bool (ng z4), .slice p4 n4 c4] Try.sizeOf27 hS 0 rfl rfl (ev rfl rfl) (ev (v := .agg #[.bool (ng z3), .slice p3 n3 c3, .bool (ng z4), .slice p4 n4 c4]) rfl rfl) rfl rfl rfl rfl rfl rfl ?_)
    clear hS; intro w12 hS
    refine wl rfl (oassign (v := .int .i64 0) rfl rfl (ev (v := .int .i64 0) rfl rfl) ?_)
    refine wnil ?_
    refine thenN ?_
    refine wseq ?_
    refine wseq ?_
    refine wreg ?_
    refine wl rfl (omove (v := .int .i64 0) rfl rfl (ev (v := .int .i64 0) rfl rfl) ?_)
    refine wl rfl (obin (u := .int .i64 0) (v := .int .i64 0) (z := .bool false) rfl rfl (ev (v := .int .i64 0) rfl rfl) (evc (v := .int .i64 0)) (bin_neq (by decide)) ?_)
    refine wnil ?_
    refine thenN ?_
    refine wF (ev (v := .bool false) rfl rfl) ?_
    refine wskip ?_
    refine thenN ?_
    have hk5 : Wd 1 2 := Wd.i64 (by omega) (by omega)
    obtain ⟨z6, hz6⟩ : ∃ z : Int, Hid (RN ((((eu x0 y0 j).1 / (eu x0 y0 j).2)) * z4 + z3 * 1) (1 * z4) = z) := ⟨_, rfl⟩
    have hk6 : Wd z6 8388609 := Wd.rn (Wd.add (m := 8388609) (Wd.mul (m := 8388608) hzy.wd hk4 rfl (by omega)) (Wd.mul (m := 4194306) hk3 hk5 rfl (by omega)) rfl (by omega)) hz6
    obtain ⟨z7, hz7⟩ : ∃ z : Int, Hid (RD ((((eu x0 y0 j).1 / (eu x0 y0 j).2)) * z4 + z3 * 1) (1 * z4) = z) := ⟨_, rfl⟩
    have hk7 : Wd z7 4194306 := Wd.rd (Wd.mul (m := 4194306) hk5 hk4 rfl (by omega)) hz7
    refine wstage 11 [38, 39, 40, 41, 42, 43, 44, 45, 37, 46, 47] [[], [], [0, 1], [2, 0, 1], [], [3, 4, 0, 1, 2], [], [4, 5, 6, 0, 1, 2, 3], [7, 0, 1, 2, 3, 4, 5, 6], [7, 8, 0, 1, 2, 3, 4, 5, 6], [7, 8, 0, 1, 2, 3, 4, 5, 6]] [[], [], [], [], [], [4], [], [], [7], [7], []] [10] [] (fun i9 => ([fun _ => Is (.slice pl ((m1 + 1)) cl), fun _ => Is (.int .i64 (((j : Nat) : Int))), fun _ => Is (.pointer (some ⟨g2x, (o2 + j * 2), none⟩)), fun _ => Is (.agg #[.bool by1, .slice qy ny ky]), fun _ => Zt 1, fun us => Is (.agg #[.bool by1, .slice qy ny ky, .bool (ng 1), (vat (us.getD 0 undef) [1])]), fun _ => Is (.agg #[.bool (ng z3), .slice p3 n3 c3, .bool (ng z4), .slice p4 n4 c4]), fun _ => RRt z6 z7 0, fun us => Is (.tuple #[.agg #[.bool (ng z6), (vat (us.getD 0 undef) [0, 1]), .bool (ng z7), (vat (us.getD 0 undef) [0, 3])], .int .i64 0]), fun us => Is (.agg #[.bool (ng z6), (vat (us.getD 0 undef) [0, 1]), .bool (ng z7), (vat (us.getD 0 undef) [0, 3])]), fun _ => Is (.int .i64 0)] : List (List Value → Tell)).getD i9 (fun _ _ _ => False)) (heldNil) (fun d _ _ _ _ h => (by cases d <;> exact h)) (by kernel_rfl) (by kernel_rfl) (by kernel_rfl) hS ?_ ?_
    ·
      refine stepsCons rfl ?_ ?_
      · intro Q f' w' ρ S ho hT hS hB
        exact .inl ⟨want_none rfl, omove (v := .slice pl ((m1 + 1)) cl) rfl rfl (ev (v := .slice pl ((m1 + 1)) cl) rfl (ho 0 rfl)) ⟨_, _, rfl, isI, New.same _⟩⟩
      refine stepsCons rfl ?_ ?_
      · intro Q f' w' ρ S ho hT hS hB
        exact .inl ⟨want_none rfl, omove (v := .int .i64 (((j : Nat) : Int))) rfl rfl (ev (v := .int .i64 (((j : Nat) : Int))) rfl (ho 5 rfl)) ⟨_, _, rfl, isI, New.same _⟩⟩
      refine stepsCons rfl ?_ ?_
      · intro Q f' w' ρ S ho hT hS hB
        obtain ⟨hv0, hr0⟩ := (hT 0 38 rfl rfl : (Is (.slice pl ((m1 + 1)) cl)) (f' 38) (ρ 0))
        obtain ⟨hv1, hr1⟩ := (hT 1 39 rfl rfl : (Is (.int .i64 (((j : Nat) : Int)))) (f' 39) (ρ 1))
        obtain hS := hS.flat2 hr0 hr1
        exact .inl ⟨want_none rfl, oindex (p := pl) (g := g2x) (off := o2) (m := (m1 + 1)) (k := j) (j := (o2 + j * 2)) rfl rfl Try.runUnderlying40 Try.sizeOf25 (ev (v := .slice pl ((m1 + 1)) cl) rfl hv0) (hp2) (ev (v := .int .i64 (((j : Nat) : Int))) rfl hv1) ((by omega)) rfl ⟨_, _, rfl, isI, New.same _⟩⟩
      refine stepsCons rfl ?_ ?_
      · intro Q f' w' ρ S ho hT hS hB
        obtain ⟨hv2, hr2⟩ := (hT 2 40 rfl rfl : (Is (.pointer (some ⟨g2x, (o2 + j * 2), none⟩))) (f' 40) (ρ 2))
        obtain hS := hS.flat1 hr2
        exact .inl ⟨want_none rfl, oloadA (vs := [.bool by1, .slice qy ny ky]) aggZ rfl rfl (ev (v := .pointer (some ⟨g2x, (o2 + j * 2), none⟩)) rfl hv2) (fun j v hj => hS.cellAt (hc2 j v hj)) rfl ⟨_, _, rfl, isI, New.same _⟩⟩
      refine stepsCons rfl ?_ ?_
      · intro Q f' w' ρ S ho hT hS hB
        refine .inl ⟨want_none rfl, ocall rfl rfl Try.call64 rfl (wzof (z := 1) (by omega) (by omega)) (args1 evc) ?_⟩
        rintro _ w9 ⟨_, _, rfl, hTT, hN⟩
        exact ⟨_, rfl, _, _, rfl, hTT, hN⟩
      refine stepsCons rfl ?_ ?_
      · intro Q f' w' ρ S ho hT hS hB
        obtain ⟨hv3, hr3⟩ := (hT 3 41 rfl rfl : (Is (.agg #[.bool by1, .slice qy ny ky])) (f' 41) (ρ 3))
        obtain ⟨p5, n5, c5, hv4, hr4⟩ := (hT 4 42 rfl rfl : (Zt 1) (f' 42) (ρ 4))
        obtain hS := hS.flat2 hr3 hr4
        have hQ : (.agg #[.bool by1, .slice qy ny ky, .bool (ng 1), .slice p5 n5 c5] : Value) = (fun (us : List Value) => (.agg #[.bool by1, .slice qy ny ky, .bool (ng 1), (vat (us.getD 0 undef) [1])] : Value)) [f' 42] := by show _ = (.agg #[.bool by1, .slice qy ny ky, .bool (ng 1), (vat (f' 42) [1])] : Value); rw [hv4]; rfl
        exact .inl ⟨want_none rfl, obuild (ps := #[(0, .agg #[.bool by1, .slice qy ny ky]), (1, .agg #[.bool (ng 1), .slice p5 n5 c5])]) (v := .agg #[.bool by1, .slice qy ny ky, .bool (ng 1), .slice p5 n5 c5]) rfl rfl (parts2 (ev (v := .agg #[.bool by1, .slice qy ny ky]) rfl hv3) (ev (v := .agg #[.bool (ng 1), .slice p5 n5 c5]) rfl hv4)) (fun w => by simp [go_sem, Instr.build, Instr.fill]) ⟨_, _, rfl, ⟨hQ, rfl⟩, New.same _⟩⟩
      refine stepsCons rfl ?_ ?_
      · intro Q f' w' ρ S ho hT hS hB
        exact .inl ⟨want_none rfl, oload (vs := [.bool (ng z3), .slice p3 n3 c3, .bool (ng z4), .slice p4 n4 c4]) aggR hS 0 rfl rfl (ev rfl (ho 6 rfl)) rfl rfl rfl ⟨_, _, rfl, isI, New.same _⟩⟩
      refine stepsCons rfl ?_ ?_
      · intro Q f' w' ρ S ho hT hS hB
        obtain ⟨p5, n5, c5, hv4, hr4⟩ := (hT 4 42 rfl rfl : (Zt 1) (f' 42) (ρ 4))
        obtain ⟨hv5, hr5⟩ := (hT 5 43 rfl rfl : (fun (us : List Value) => Is (.agg #[.bool by1, .slice qy ny ky, .bool (ng 1), (vat (us.getD 0 undef) [1])])) [f' 42] (f' 43) (ρ 5))
        replace hv5 : f' 43 = .agg #[.bool by1, .slice qy ny ky, .bool (ng 1), .slice p5 n5 c5] := hv5.trans (by show (.agg #[.bool by1, .slice qy ny ky, .bool (ng 1), (vat (f' 42) [1])] : Value) = _; rw [hv4]; rfl)
        obtain ⟨hv6, hr6⟩ := (hT 6 44 rfl rfl : (Is (.agg #[.bool (ng z3), .slice p3 n3 c3, .bool (ng z4), .slice p4 n4 c4])) (f' 44) (ρ 6))
        obtain hS := hS.flat3 hr4 hr5 hr6
        refine .inl ⟨want_none rfl, ocall rfl rfl Try.call29 rfl (wradd ((hzy.at hS).mono (by omega)) (((hS.sl 7 rfl).zr hk5).mono (by omega)) (((hS.slm 1 rfl).zr hk3).mono (by omega)) (((hS.slm 2 rfl).zr hk4).mono (by omega)) ((by decide)) ((by rw [← hz4.out]; exact hps.2.2.1)) hz6 hz7) (args2 (ev rfl hv5) (ev rfl hv6)) ?_⟩
        rintro _ w9 ⟨_, _, rfl, hTT, hN⟩
        exact ⟨_, rfl, _, _, rfl, hTT, hN⟩
      refine stepsCons rfl ?_ ?_
      · intro Q f' w' ρ S ho hT hS hB
        obtain ⟨p6, n6, c6, p7, n7, c7, hv7, hr7⟩ := (hT 7 45 rfl rfl : (RRt z6 z7 0) (f' 45) (ρ 7))
        obtain hS := hS.flat1 hr7
        have hQ : (.tuple #[.agg #[.bool (ng z6), .slice p6 n6 c6, .bool (ng z7), .slice p7 n7 c7], .int .i64 0] : Value) = (fun (us : List Value) => (.tuple #[.agg #[.bool (ng z6), (vat (us.getD 0 undef) [0, 1]), .bool (ng z7), (vat (us.getD 0 undef) [0, 3])], .int .i64 0] : Value)) [f' 45] := by show _ = (.tuple #[.agg #[.bool (ng z6), (vat (f' 45) [0, 1]), .bool (ng z7), (vat (f' 45) [0, 3])], .int .i64 0] : Value); rw [hv7]; rfl
        exact .inl ⟨want_none rfl, omove (v := .tuple #[.agg #[.bool (ng z6), .slice p6 n6 c6, .bool (ng z7), .slice p7 n7 c7], .int .i64 0]) rfl rfl (ev (v := .tuple #[.agg #[.bool (ng z6), .slice p6 n6 c6, .bool (ng z7), .slice p7 n7 c7], .int .i64 0]) rfl hv7) ⟨_, _, rfl, ⟨hQ, rfl⟩, New.same _⟩⟩
      refine stepsCons rfl ?_ ?_
      · intro Q f' w' ρ S ho hT hS hB
        obtain ⟨p6, n6, c6, p7, n7, c7, hv7, hr7⟩ := (hT 7 45 rfl rfl : (RRt z6 z7 0) (f' 45) (ρ 7))
        obtain ⟨hv8, hr8⟩ := (hT 8 37 rfl rfl : (fun (us : List Value) => Is (.tuple #[.agg #[.bool (ng z6), (vat (us.getD 0 undef) [0, 1]), .bool (ng z7), (vat (us.getD 0 undef) [0, 3])], .int .i64 0])) [f' 45] (f' 37) (ρ 8))
        replace hv8 : f' 37 = .tuple #[.agg #[.bool (ng z6), .slice p6 n6 c6, .bool (ng z7), .slice p7 n7 c7], .int .i64 0] := hv8.trans (by show (.tuple #[.agg #[.bool (ng z6), (vat (f' 45) [0, 1]), .bool (ng z7), (vat (f' 45) [0, 3])], .int .i64 0] : Value) = _; rw [hv7]; rfl)
        obtain hS := hS.flat2 hr7 hr8
        have hQ : (.agg #[.bool (ng z6), .slice p6 n6 c6, .bool (ng z7), .slice p7 n7 c7] : Value) = (fun (us : List Value) => (.agg #[.bool (ng z6), (vat (us.getD 0 undef) [0, 1]), .bool (ng z7), (vat (us.getD 0 undef) [0, 3])] : Value)) [f' 45] := by show _ = (.agg #[.bool (ng z6), (vat (f' 45) [0, 1]), .bool (ng z7), (vat (f' 45) [0, 3])] : Value); rw [hv7]; rfl
        exact .inl ⟨want_none rfl, oextract (vs := [.agg #[.bool (ng z6), .slice p6 n6 c6, .bool (ng z7), .slice p7 n7 c7], .int .i64 0]) (v := .agg #[.bool (ng z6), .slice p6 n6 c6, .bool (ng z7), .slice p7 n7 c7]) rfl rfl (ev (v := .tuple #[.agg #[.bool (ng z6), .slice p6 n6 c6, .bool (ng z7), .slice p7 n7 c7], .int .i64 0]) rfl hv8) rfl ⟨_, _, rfl, ⟨hQ, rfl⟩, New.same _⟩⟩
      refine stepsPure rfl ?_ ?_
      · intro f' ρ ho hT
        obtain ⟨p6, n6, c6, p7, n7, c7, hv7, hr7⟩ := (hT 7 45 rfl rfl : (RRt z6 z7 0) (f' 45) (ρ 7))
        obtain ⟨hv8, hr8⟩ := (hT 8 37 rfl rfl : (fun (us : List Value) => Is (.tuple #[.agg #[.bool (ng z6), (vat (us.getD 0 undef) [0, 1]), .bool (ng z7), (vat (us.getD 0 undef) [0, 3])], .int .i64 0])) [f' 45] (f' 37) (ρ 8))
        replace hv8 : f' 37 = .tuple #[.agg #[.bool (ng z6), .slice p6 n6 c6, .bool (ng z7), .slice p7 n7 c7], .int .i64 0] := hv8.trans (by show (.tuple #[.agg #[.bool (ng z6), (vat (f' 45) [0, 1]), .bool (ng z7), (vat (f' 45) [0, 3])], .int .i64 0] : Value) = _; rw [hv7]; rfl)
        exact ⟨_, .inl ⟨want_none rfl, fun w hw => yextract (vs := [.agg #[.bool (ng z6), .slice p6 n6 c6, .bool (ng z7), .slice p7 n7 c7], .int .i64 0]) (v := .int .i64 0) rfl (ev (v := .tuple #[.agg #[.bool (ng z6), .slice p6 n6 c6, .bool (ng z7), .slice p7 n7 c7], .int .i64 0]) rfl hv8) rfl w⟩, isI⟩
      exact stepsNil
    ·
      intro vs ρ w13 f' hf hT hS
      obtain ⟨hv0, hr0⟩ := (hT 0 (by decide) : (Is (.slice pl ((m1 + 1)) cl)) (vs 0) (ρ 0))
      obtain ⟨hv1, hr1⟩ := (hT 1 (by decide) : (Is (.int .i64 (((j : Nat) : Int)))) (vs 1) (ρ 1))
      obtain ⟨hv2, hr2⟩ := (hT 2 (by decide) : (Is (.pointer (some ⟨g2x, (o2 + j * 2), none⟩))) (vs 2) (ρ 2))
      obtain ⟨hv3, hr3⟩ := (hT 3 (by decide) : (Is (.agg #[.bool by1, .slice qy ny ky])) (vs 3) (ρ 3))
      obtain ⟨p5, n5, c5, hv4, hr4⟩ := (hT 4 (by decide) : (Zt 1) (vs 4) (ρ 4))
      obtain ⟨hv5, hr5⟩ := (hT 5 (by decide) : (fun (us : List Value) => Is (.agg #[.bool by1, .slice qy ny ky, .bool (ng 1), (vat (us.getD 0 undef) [1])])) [vs 4] (vs 5) (ρ 5))
      replace hv5 : vs 5 = .agg #[.bool by1, .slice qy ny ky, .bool (ng 1), .slice p5 n5 c5] := hv5.trans (by show (.agg #[.bool by1, .slice qy ny ky, .bool (ng 1), (vat (vs 4) [1])] : Value) = _; rw [hv4]; rfl)
      obtain ⟨hv6, hr6⟩ := (hT 6 (by decide) : (Is (.agg #[.bool (ng z3), .slice p3 n3 c3, .bool (ng z4), .slice p4 n4 c4])) (vs 6) (ρ 6))
      obtain ⟨p6, n6, c6, p7, n7, c7, hv7, hr7⟩ := (hT 7 (by decide) : (RRt z6 z7 0) (vs 7) (ρ 7))
      obtain ⟨hv8, hr8⟩ := (hT 8 (by decide) : (fun (us : List Value) => Is (.tuple #[.agg #[.bool (ng z6), (vat (us.getD 0 undef) [0, 1]), .bool (ng z7), (vat (us.getD 0 undef) [0, 3])], .int .i64 0])) [vs 7] (vs 8) (ρ 8))
      replace hv8 : vs 8 = .tuple #[.agg #[.bool (ng z6), .slice p6 n6 c6, .bool (ng z7), .slice p7 n7 c7], .int .i64 0] := hv8.trans (by show (.tuple #[.agg #[.bool (ng z6), (vat (vs 7) [0, 1]), .bool (ng z7), (vat (vs 7) [0, 3])], .int .i64 0] : Value) = _; rw [hv7]; rfl)
      obtain ⟨hv9, hr9⟩ := (hT 9 (by decide) : (fun (us : List Value) => Is (.agg #[.bool (ng z6), (vat (us.getD 0 undef) [0, 1]), .bool (ng z7), (vat (us.getD 0 undef) [0, 3])])) [vs 7] (vs 9) (ρ 9))
      replace hv9 : vs 9 = .agg #[.bool (ng z6), .slice p6 n6 c6, .bool (ng z7), .slice p7 n7 c7] := hv9.trans (by show (.agg #[.bool (ng z6), (vat (vs 7) [0, 1]), .bool (ng z7), (vat (vs 7) [0, 3])] : Value) = _; rw [hv7]; rfl)
      obtain ⟨hv10, hr10⟩ := (hT 10 (by decide) : (Is (.int .i64 0)) (vs 10) (ρ 10))
      simp only [pool, if_true, hr0, hr1, hr2, hr3, hr4, hr5, hr6, hr7, hr8, hr9, hr10, List.nil_append, List.cons_append, List.append_nil] at hS
      simp only [layf, hv0, hv1, hv2, hv3, hv4, hv5, hv6, hv7, hv8, hv9, hv10] at hf
      subst hf; clear hT hv0 hv1 hv2 hv3 hv4 hv5 hv6 hv7 hv8 hv9 hv10 hr0 hr1 hr2 hr3 hr4 hr5 hr6 hr7 hr8 hr9 hr10
      refine wlate 11 rfl (by kernel_rfl) (ostore [.bool (ng z6), .slice p6 n6 c6, .bool (ng z7), .slice p7 n7 c7] [.bool (ng z6), .slice p6 n6 c6, .bool (ng z7), .slice p7 n7 c7] Try.sizeOf27 hS 6 rfl rfl (ev rfl rfl) (ev (v := .agg #[.bool (ng z6), .slice p6 n6 c6, .bool (ng z7), .slice p7 n7 c7]) rfl rfl) rfl rfl rfl rfl rfl rfl ?_)
      clear hS; intro w14 hS
      refine ⟨heldNil, ?_⟩
      refine wdone rfl ?_
      refine blkN ?_
      refine thenN ?_
      refine wreg ?_
      refine wl rfl (omove (v := .int .i64 (((j : Nat) : Int))) rfl rfl (ev (v := .int .i64 (((j : Nat) : Int))) rfl rfl) ?_)
      refine wl rfl (obin (u := .int .i64 (((j : Nat) : Int))) (v := .int .i64 1) (z := .int .i64 (((j : Nat) : Int) - 1)) rfl rfl (ev (v := .int .i64 (((j : Nat) : Int))) rfl rfl) (evc (v := .int .i64 1)) (bin_sub ((by rw [wrap_i64 (by have := hl.2.1; omega) (by have := hl.2.1; omega)]))) ?_)
      refine wl rfl (oassign (v := .int .i64 (((j : Nat) : Int) - 1)) rfl rfl (ev (v := .int .i64 (((j : Nat) : Int) - 1)) rfl rfl) ?_)
      refine wnil ?_
      refine thenN ?_
      exact ⟨j, ⟨_, _, z6, z7, _, _, _, _, _, _, act_sets (l := [(0, .slice pl ((m1 + 1)) cl), (2, .pointer (some ⟨g1, 0, none⟩)), (4, .pointer (some ⟨g5, 0, none⟩)), (5, .int .i64 (((j : Nat) : Int) - 1))]) ⟨rfl, rfl, rfl, rfl, trivial⟩, hS.pick [6, 1, 0, 9] (by decide) rfl, by omega, rfl, by rw [← hz6.out, ← hz3.out, ← hz4.out]; exact hps.2.2.2.1, by rw [← hz7.out, ← hz3.out, ← hz4.out]; exact hps.2.2.2.2, (by rw [← hz6.out, ← hz3.out, ← hz4.out, hps.2.2.2.1]; exact Wd.rn hwa2 rfl), (by rw [← hz7.out, ← hz3.out, ← hz4.out, hps.2.2.2.2]; exact Wd.rd hwb2 rfl)⟩, by omega⟩

end Go.Proofs.Ytoinfkimlhhmpaa
