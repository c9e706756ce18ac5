
/-
  rat's Common and the document's.
-/
import Derived.Test.YtoinfkimlhhmpaaRHeight
import Derived.Test.YtoinfkimlhhmpaaZComA
import Derived.Test.YtoinfkimlhhmpaaZSameAll
set_option linter.unusedVariables false
set_option linter.unusedSimpArgs false
namespace Go.Proofs.Ytoinfkimlhhmpaa
open Go.RowKit

def dens (L : List (Int × Int)) : List Int := L.map (·.2)
theorem dens_at {L : List (Int × Int)} {i : Nat} {e : Int × Int} (h : L[i]? = some e) : (dens L)[i]? = some e.2 := by unfold dens; rw [List.getElem?_map, h]; rfl
theorem facc_lcm_dvd {l : List Int} {j : Nat} {z : Int} (h : l[j]? = some z) : ∀ k, z ∣ facc lcmZ 1 l (j + 1 + k) := by
  intro k
  induction k with
  | zero => rw [Nat.add_zero, facc_succ h]; exact Int.dvd_lcm_right _ _
  | succ k ih =>
    rcases hz : l[j + 1 + k]? with _ | y
    · have : facc lcmZ 1 l (j + 1 + (k + 1)) = facc lcmZ 1 l (j + 1 + k) := by unfold facc; rw [← Nat.add_assoc, List.take_add_one, hz]; simp
      rw [this]; exact ih
    · rw [← Nat.add_assoc, facc_succ hz]; exact Int.dvd_trans ih (Int.dvd_lcm_left _ _)
theorem facc_lcm_mod {l : List Int} {j m : Nat} {z : Int} (h : l[j]? = some z) (hj : j < m) : (facc lcmZ 1 l m).tmod z = 0 := by
  have := facc_lcm_dvd h (m - (j + 1))
  rw [show j + 1 + (m - (j + 1)) = m by omega] at this
  exact Int.tmod_eq_zero_of_dvd this
/-- The numerators over a denominator. -/
def cnum (L : List (Int × Int)) (den : Int) (j : Nat) : Int := match L[j]? with | some e => e.1 * den.tdiv e.2 | none => 0
theorem cnum_at {L : List (Int × Int)} {den : Int} {j : Nat} {e : Int × Int} (h : L[j]? = some e) : cnum L den j = e.1 * den.tdiv e.2 := by unfold cnum; rw [h]
/-- A list of one's own of told integers. -/
def elN (z : Int) (p : Option Addr) (n c : Nat) : El := ⟨[.bool (ng z), .slice p n c], [.rowm p n c (lim z.natAbs)]⟩
def NEls (f : Nat → Int) (i : Nat) (es : List El) : Prop := es.length = i ∧ ∀ j, j < i → ∃ p n c, es[j]? = some (elN (f j) p n c)
theorem NEls.nil (f : Nat → Int) : NEls f 0 [] := ⟨rfl, fun j h => by omega⟩
theorem NEls.app {f : Nat → Int} {i : Nat} {es : List El} (h : NEls f i es) {z : Int} (hz : z = f i) (p : Option Addr) (n c : Nat) : NEls f (i + 1) (es ++ [elN z p n c]) := by
  refine ⟨by simp [h.1], fun j hj => ?_⟩
  by_cases hij : j = i
  · subst hij
    refine ⟨p, n, c, ?_⟩
    rw [List.getElem?_append_right (by rw [h.1]; exact Nat.le_refl _), h.1, Nat.sub_self, hz]
    rfl
  · obtain ⟨p', n', c', h'⟩ := h.2 j (by omega)
    exact ⟨p', n', c', by rw [List.getElem?_append_left (by rw [h.1]; omega)]; exact h'⟩
def NL (f : Nat → Int) (m : Nat) : List (Bool × List Nat) := (List.range m).map fun j => (ng (f j), lim (f j).natAbs)
theorem Sep.nl {w0 w : World} {R : List Res} (hS : Sep w0 R w) (k : Nat) {p : Option Addr} {c m K : Nat} {es : List El} {f : Nat → Int} (hk : R[k]? = some (.lst 25 2 p m c es)) (hz : NEls f m es) (hm : m ≤ 1048576) (hK : ∀ j, j < m → Wd (f j) K) : ZL w p m (NL f m) K := by
  refine ⟨by simp [NL], hm, fun i e hi => ?_⟩
  unfold NL at hi
  rw [List.getElem?_map] at hi
  rcases hr : (List.range m)[i]? with _ | i'
  · rw [hr] at hi; cases hi
  rw [hr] at hi
  simp only [Option.map_some, Option.some.injEq] at hi
  subst hi
  have him : i < m := by have := (List.getElem?_eq_some_iff.1 hr).1; simpa using this
  have hii : i' = i := by rw [List.getElem?_range him] at hr; exact (Option.some.inj hr).symm
  subst hii
  obtain ⟨q, n, c', he⟩ := hz.2 i' him
  obtain ⟨g, hg, hc, hr⟩ := hS.lstCell k hk he (by omega)
  have hf : Fr 0 w q n c' (lim (f i').natAbs) := hr (.rowm q n c' (lim (f i').natAbs)) List.mem_cons_self
  refine ⟨g, 0, q, n, c', hg, hc 0 _ rfl, hc 1 _ rfl, hf.sl, ?_⟩
  have := hf.sl.lln
  have h2 := hK i' him
  unfold Wd at h2
  omega
def CMt (den : Int) (f : Nat → Int) (m : Nat) (E : Int) : Tell := fun v r => ∃ p n c q d es, NEls f m es ∧ v = .tuple #[.agg #[.bool (ng den), .slice p n c, .slice q m d], .int .i64 E] ∧ r = [.row p n c (lim den.natAbs), .lst 25 2 q m d es]
def CTt (den : Int) (f : Nat → Int) (m : Nat) (E : Int) : Tell := fun v r => ∃ p n c q d es, NEls f m es ∧ v = .tuple #[.agg #[.bool (ng den), .slice p n c], .slice q m d, .int .i64 E] ∧ r = [.row p n c (lim den.natAbs), .lst 25 2 q m d es]
def CQt (den : Int) (f : Nat → Int) (m : Nat) : Tell := fun v r => ∃ p n c q d es, NEls f m es ∧ v = .tuple #[.agg #[.bool (ng den), .slice p n c], .slice q m d] ∧ r = [.row p n c (lim den.natAbs), .lst 25 2 q m d es]
theorem Sep.nilLst {w0 w : World} {R : List Res} {e : TypeId} {sz : Nat} (h : Sep w0 R w) : Sep w0 (.lst e sz none 0 0 [] :: R) w := by
  refine h.add (Below.refl _ _) _ ⟨Els.nil, rfl, fun r hr => ?_, by simp [flatR]⟩ (fun g hg => ?_)
  · have hr' : r = Res.own' e sz none 0 0 (flatC []) := by simpa [flatR] using hr
    subst hr'
    exact World.ownsRow_nil _ _ _ _
  · rcases hg with hg | ⟨r, hr, _⟩
    · cases hg
    · simp [flatR] at hr
theorem lcm_low {x y den : Int} (hy : y ≠ 0) (hd : den.tmod (RD x y) = 0) : RN (x * den) (y * 1) = RN x y * den.tdiv (RD x y) := by
  have hD := RD_pos (x := x) hy
  obtain ⟨k, hk⟩ := Int.dvd_of_tmod_eq_zero hd
  have e : den.tdiv (RD x y) = k := by rw [hk]; exact Int.mul_tdiv_cancel_left _ (by omega)
  rw [e]
  have h1 := R_cross x y
  have h2 : RN (x * den) (y * 1) = RN (RN x y * k) 1 := by
    refine RN_same (by omega) (by omega) ?_
    rw [hk]
    generalize RN x y = a at *; generalize RD x y = b at *
    grind
  rw [h2, RN_one]

set_option maxRecDepth 100000 in
set_option maxHeartbeats 16000000 in
theorem wrcommon1 {L : List (Int × Int)} {w : World} {pl : Option Addr} {m cl : Nat} (hl : Rs w pl m L 16777216) (hall : ∀ e ∈ L, e.2 ≠ 0) (hW : ∀ i, i ≤ m → Wd (facc lcmZ 1 (dens L) i) 4194304) :
    Calls Try.prog 63 #[.slice pl m cl] w (Ret (CMt (facc lcmZ 1 (dens L) m) (cnum L (facc lcmZ 1 (dens L) m)) m 0) w) := by
  have hS := Sep.init w
  refine went Try.func63 rfl (n := 52) rfl rfl ?_
  refine wseq ?_
  refine wreg ?_
  refine wl rfl (oalloc [.bool false, .slice none 0 0, .slice none 0 0] hS rfl rfl Try.zeroValue82 rfl ?_)
  clear hS; intro g1 w2 hS
  refine wl rfl (oassign (v := .int .i64 0) rfl rfl (evc (v := .int .i64 0)) ?_)
  refine wnil ?_
  refine thenN ?_
  refine wseq ?_
  refine wreg ?_
  have hk1 : Wd 1 2 := Wd.i64 (by omega) (by omega)
  refine wl rfl (ocall rfl rfl Try.call64 rfl (wzof (z := 1) (by omega) (by omega)) (args1 evc) ?_)
  rintro _ w3 ⟨_, _, rfl, ⟨p1, n1, c1, rfl, rfl⟩, hN⟩
  refine ⟨_, rfl, ?_⟩
  replace hS := hS.news hN; clear hN
  refine wl rfl (obuild (ps := #[(0, .agg #[.bool (ng 1), .slice p1 n1 c1])]) (v := .agg #[.bool (ng 1), .slice p1 n1 c1, .slice none 0 0]) rfl rfl (parts1 (ev (v := .agg #[.bool (ng 1), .slice p1 n1 c1]) rfl rfl)) (fun w => by simp [go_sem, Instr.build, Instr.fill]) ?_)
  refine wl rfl (oalloc [.bool false, .slice none 0 0, .slice none 0 0] hS rfl rfl Try.zeroValue82 rfl ?_)
  clear hS; intro g4 w5 hS
  refine wl rfl (ostore [.bool (ng 1), .slice p1 n1 c1, .slice none 0 0] [.bool (ng 1), .slice p1 n1 c1, .slice none 0 0] Try.sizeOf82 hS 0 rfl rfl (ev rfl rfl) (ev (v := .agg #[.bool (ng 1), .slice p1 n1 c1, .slice none 0 0]) rfl rfl) rfl rfl rfl rfl rfl rfl ?_)
  clear hS; intro w6 hS
  refine wnil ?_
  refine thenN ?_
  refine wseq ?_
  refine wseq ?_
  refine wreg ?_
  refine wl rfl (omove (v := .slice pl m cl) rfl rfl (ev (v := .slice pl m cl) rfl rfl) ?_)
  refine wl rfl (olen rfl rfl rfl Try.runUnderlying38 (p := pl) (k := m) (m := cl) (ev (v := .slice pl m cl) rfl rfl) ?_)
  refine wl rfl (omove (v := .int .i64 0) rfl rfl (evc (v := .int .i64 0)) ?_)
  refine wnil ?_
  refine thenN ?_
  refine wblock ?_
  refine wloop (σ := Nat) (fun i a w' => ∃ (fb : Nat → Value) (pza : Option Addr) (nza : Nat) (cza : Nat), a = act 52 (sets fb [(0, .slice pl m cl), (2, .pointer (some ⟨g1, 0, none⟩)), (3, .int .i64 0), (4, .pointer (some ⟨g4, 0, none⟩)), (13, .slice pl m cl), (14, .int .i64 (((m : Nat) : Int))), (15, .int .i64 (((i : Nat) : Int)))]) ∧ Sep w [.blk g4 [.bool (ng ((facc lcmZ 1 (dens L) i))), .slice pza nza cza, .slice none 0 0] 82, .row pza nza cza (lim ((facc lcmZ 1 (dens L) i)).natAbs), .blk g1 [.bool false, .slice none 0 0, .slice none 0 0] 82] w' ∧ (i ≤ m) ∧ (Wd ((facc lcmZ 1 (dens L) i)) 4194304)) (fun i => m - i) (0) ⟨_, _, _, _, act_sets (l := [(0, .slice pl m cl), (2, .pointer (some ⟨g1, 0, none⟩)), (3, .int .i64 0), (4, .pointer (some ⟨g4, 0, none⟩)), (13, .slice pl m cl), (14, .int .i64 (((m : Nat) : Int))), (15, .int .i64 0)]) ⟨rfl, rfl, rfl, rfl, rfl, rfl, rfl, trivial⟩, hS, Nat.zero_le _, (hk1).mono (by omega)⟩ ?_
  clear hS; rintro i _ w7 ⟨fb, pza, nza, cza, rfl, hS, hi, hkza⟩
  refine wseq ?_
  refine wreg ?_
  by_cases hlt : i < m
  ·
    refine wl rfl (obin (u := .int .i64 (((i : Nat) : Int))) (v := .int .i64 (((m : Nat) : Int))) (z := .bool true) rfl rfl (ev (v := .int .i64 (((i : Nat) : Int))) rfl rfl) (ev (v := .int .i64 (((m : Nat) : Int))) rfl rfl) (bin_lss (decide_eq_true (by omega))) ?_)
    refine wnil ?_
    refine thenN ?_
    refine wseq ?_
    refine wT (ev (v := .bool true) rfl rfl) ?_
    refine wskip ?_
    refine thenN ?_
    refine wseq ?_
    refine wblock ?_
    refine wseq ?_
    refine wreg ?_
    obtain ⟨e1, g1x, o1, bx, qx, nx, kx, by1, qy, ny, ky, hle, hp1, hc1, hzx, hzy⟩ := hl.el hlt
    refine wl rfl (oindex (p := pl) (g := g1x) (off := o1) (m := m) (k := i) (j := (o1 + i * 4)) rfl rfl Try.runUnderlying38 Try.sizeOf27 (ev (v := .slice pl m cl) rfl rfl) (hp1) (ev (v := .int .i64 (((i : Nat) : Int))) rfl rfl) (hlt) rfl ?_)
    refine wl rfl (oloadA (vs := [.bool bx, .slice qx nx kx, .bool by1, .slice qy ny ky]) aggR rfl rfl (ev (v := .pointer (some ⟨g1x, (o1 + i * 4), none⟩)) rfl rfl) (fun j v hj => hS.cellAt (hc1 j v hj)) rfl ?_)
    refine wl rfl (oalloc [.bool false, .slice none 0 0, .bool false, .slice none 0 0] hS rfl rfl Try.zeroValue27 rfl ?_)
    clear hS; intro g8 w9 hS
    refine wl rfl (ostore [.bool bx, .slice qx nx kx, .bool by1, .slice qy ny ky] [.bool bx, .slice qx nx kx, .bool by1, .slice qy ny ky] Try.sizeOf27 hS 0 rfl rfl (ev rfl rfl) (ev (v := .agg #[.bool bx, .slice qx nx kx, .bool by1, .slice qy ny ky]) rfl rfl) rfl rfl rfl rfl rfl rfl ?_)
    clear hS; intro w10 hS
    refine wnil ?_
    refine thenN ?_
    refine wreg ?_
    refine wl rfl (ofieldAddr (g := g4) (off := 0) 0 rfl rfl (ev (v := .pointer (some ⟨g4, 0, none⟩)) rfl rfl) Try.runUnderlying82 rfl Try.sizeOf25 rfl ?_)
    refine wl rfl (oload (vs := [.bool (ng ((facc lcmZ 1 (dens L) i))), .slice pza nza cza]) aggZ hS 1 rfl rfl (ev rfl rfl) rfl rfl rfl ?_)
    refine wl rfl (ofieldAddr (g := g8) (off := 0) 2 rfl rfl (ev (v := .pointer (some ⟨g8, 0, none⟩)) rfl rfl) Try.runUnderlying27 rfl Try.sizeOf25 rfl ?_)
    refine wl rfl (oload (vs := [.bool by1, .slice qy ny ky]) aggZ hS 0 rfl rfl (ev rfl rfl) rfl rfl rfl ?_)
    refine wl rfl (obslice (ps := #[(0, .agg #[.bool (ng ((facc lcmZ 1 (dens L) i))), .slice pza nza cza]), (1, .agg #[.bool by1, .slice qy ny ky])]) (z := .agg #[.bool false, .slice none 0 0]) [.bool (ng ((facc lcmZ 1 (dens L) i))), .slice pza nza cza, .bool by1, .slice qy ny ky] hS rfl rfl Try.runUnderlying40 Try.sizeOf25 Try.zeroValue25 (parts2 (ev (v := .agg #[.bool (ng ((facc lcmZ 1 (dens L) i))), .slice pza nza cza]) rfl rfl) (ev (v := .agg #[.bool by1, .slice qy ny ky]) rfl rfl)) rfl (by decide) fill2 ?_)
    clear hS; intro g11 w12 hS
    obtain ⟨z2, hz2⟩ : ∃ z : Int, Hid ((Int.lcm ((facc lcmZ 1 (dens L) i)) e1.2 : Int) = z) := ⟨_, rfl⟩
    have hk2 : Wd z2 20971520 := Wd.lcm hkza hzy.wd hz2 (by omega)
    refine wl rfl (ocall rfl rfl Try.call65 rfl ((wzLcm_two (hS.blkAt 0 rfl) (((hS.sl 3 rfl).zr hkza).mono (by omega)) ((hzy.at hS).mono (by omega)) hkza hzy.wd hz2)) (args1 (ev rfl rfl)) ?_)
    rintro _ w13 ⟨_, _, rfl, ⟨p2, n2, c2, rfl, rfl⟩, hN⟩
    refine ⟨_, rfl, ?_⟩
    replace hS := hS.news hN; clear hN
    refine wl rfl (ofieldAddr (g := g4) (off := 0) 0 rfl rfl (ev (v := .pointer (some ⟨g4, 0, none⟩)) rfl rfl) Try.runUnderlying82 rfl Try.sizeOf25 rfl ?_)
    refine wl rfl (ostore [.bool (ng z2), .slice p2 n2 c2] [.bool (ng z2), .slice p2 n2 c2, .slice none 0 0] Try.sizeOf25 hS 3 rfl rfl (ev rfl rfl) (ev (v := .agg #[.bool (ng z2), .slice p2 n2 c2]) rfl rfl) rfl rfl rfl rfl rfl rfl ?_)
    clear hS; intro w14 hS
    refine wnil ?_
    refine blkN ?_
    refine thenN ?_
    refine wreg ?_

    obtain rfl : (facc lcmZ 1 (dens L) (i + 1)) = z2 := (facc_succ (dens_at hle)).trans (by show _ = _; exact hz2.out)
    refine wl rfl (obin (u := .int .i64 (((i : Nat) : Int))) (v := .int .i64 1) (z := .int .i64 (((i + 1 : Nat) : Int))) rfl rfl (ev (v := .int .i64 (((i : Nat) : Int))) rfl rfl) (evc (v := .int .i64 1)) (bin_add (wrap_succ (by have := hl.2.1; omega))) ?_)
    refine wl rfl (omove (v := .int .i64 (((i + 1 : Nat) : Int))) rfl rfl (ev (v := .int .i64 (((i + 1 : Nat) : Int))) rfl rfl) ?_)
    refine wnil ?_
    refine thenN ?_
    exact ⟨(i + 1), ⟨_, _, _, _, act_sets (l := [(0, .slice pl m cl), (2, .pointer (some ⟨g1, 0, none⟩)), (3, .int .i64 0), (4, .pointer (some ⟨g4, 0, none⟩)), (13, .slice pl m cl), (14, .int .i64 (((m : Nat) : Int))), (15, .int .i64 (((i + 1 : Nat) : Int)))]) ⟨rfl, rfl, rfl, rfl, rfl, rfl, rfl, trivial⟩, hS.pick [3, 0, 5] (by decide) rfl, by omega, hW _ (by omega)⟩, by omega⟩
  ·
    refine wl rfl (obin (u := .int .i64 (((i : Nat) : Int))) (v := .int .i64 (((m : Nat) : Int))) (z := .bool false) rfl rfl (ev (v := .int .i64 (((i : Nat) : Int))) rfl rfl) (ev (v := .int .i64 (((m : Nat) : Int))) rfl rfl) (bin_lss (decide_eq_false (by omega))) ?_)
    refine wnil ?_
    refine thenN ?_
    refine wseq ?_
    refine wF (ev (v := .bool false) rfl rfl) ?_
    refine wexit ?_
    refine thenE ?_
    refine thenE ?_
    refine blkE ?_
    refine thenN ?_
    refine wseq ?_
    refine wseq ?_
    refine wreg ?_
    refine wl rfl (omove (v := .slice pl m cl) rfl rfl (ev (v := .slice pl m cl) rfl rfl) ?_)
    refine wl rfl (olen rfl rfl rfl Try.runUnderlying38 (p := pl) (k := m) (m := cl) (ev (v := .slice pl m cl) rfl rfl) ?_)
    refine wl rfl (omove (v := .int .i64 0) rfl rfl (evc (v := .int .i64 0)) ?_)
    refine wnil ?_
    refine thenN ?_
    refine wblock ?_
    have him : i = m := by omega
    obtain ⟨den, hden⟩ : ∃ d, d = (facc lcmZ 1 (dens L) m) := ⟨_, rfl⟩
    rw [him, ← hden] at hS hkza
    obtain hS := hS.nilLst (e := 25) (sz := 2)
    refine wloop (σ := Nat) (fun j a w' => ∃ (fb : Nat → Value) (es : List El) (pn : Option Addr) (cn : Nat), a = act 52 (sets fb [(2, .pointer (some ⟨g1, 0, none⟩)), (3, .int .i64 0), (4, .pointer (some ⟨g4, 0, none⟩)), (27, .slice pl m cl), (28, .int .i64 (((m : Nat) : Int))), (29, .int .i64 (((j : Nat) : Int)))]) ∧ Sep w [.lst 25 2 pn j cn es, .blk g4 [.bool (ng den), .slice pza nza cza, .slice pn j cn] 82, .row pza nza cza (lim den.natAbs), .blk g1 [.bool false, .slice none 0 0, .slice none 0 0] 82] w' ∧ (j ≤ m) ∧ (NEls (cnum L den) j es)) (fun j => m - j) (0) ⟨_, _, _, _, act_sets (l := [(2, .pointer (some ⟨g1, 0, none⟩)), (3, .int .i64 0), (4, .pointer (some ⟨g4, 0, none⟩)), (27, .slice pl m cl), (28, .int .i64 (((m : Nat) : Int))), (29, .int .i64 0)]) ⟨rfl, rfl, rfl, rfl, rfl, rfl, trivial⟩, hS, Nat.zero_le _, NEls.nil _⟩ ?_
    clear hS; rintro j _ w8 ⟨fb, es, pn, cn, rfl, hS, hj, hes⟩
    refine wseq ?_
    refine wreg ?_
    by_cases hlt2 : j < m
    ·
      refine wl rfl (obin (u := .int .i64 (((j : Nat) : Int))) (v := .int .i64 (((m : Nat) : Int))) (z := .bool true) rfl rfl (ev (v := .int .i64 (((j : Nat) : Int))) rfl rfl) (ev (v := .int .i64 (((m : Nat) : Int))) rfl rfl) (bin_lss (decide_eq_true (by omega))) ?_)
      refine wnil ?_
      refine thenN ?_
      refine wseq ?_
      refine wT (ev (v := .bool true) rfl rfl) ?_
      refine wskip ?_
      refine thenN ?_
      refine wseq ?_
      refine wblock ?_
      refine wseq ?_
      refine wreg ?_
      obtain ⟨e1, g1x, o1, bx, qx, nx, kx, by1, qy, ny, ky, hle, hp1, hc1, hzx, hzy⟩ := hl.el hlt2
      refine wl rfl (oindex (p := pl) (g := g1x) (off := o1) (m := m) (k := j) (j := (o1 + j * 4)) rfl rfl Try.runUnderlying38 Try.sizeOf27 (ev (v := .slice pl m cl) rfl rfl) (hp1) (ev (v := .int .i64 (((j : Nat) : Int))) rfl rfl) (hlt2) rfl ?_)
      refine wl rfl (oloadA (vs := [.bool bx, .slice qx nx kx, .bool by1, .slice qy ny ky]) aggR rfl rfl (ev (v := .pointer (some ⟨g1x, (o1 + j * 4), none⟩)) rfl rfl) (fun j v hj => hS.cellAt (hc1 j v hj)) rfl ?_)
      refine wl rfl (oalloc [.bool false, .slice none 0 0, .bool false, .slice none 0 0] hS rfl rfl Try.zeroValue27 rfl ?_)
      clear hS; intro g9 w10 hS
      refine wl rfl (ostore [.bool bx, .slice qx nx kx, .bool by1, .slice qy ny ky] [.bool bx, .slice qx nx kx, .bool by1, .slice qy ny ky] Try.sizeOf27 hS 0 rfl rfl (ev rfl rfl) (ev (v := .agg #[.bool bx, .slice qx nx kx, .bool by1, .slice qy ny ky]) rfl rfl) rfl rfl rfl rfl rfl rfl ?_)
      clear hS; intro w11 hS
      refine wnil ?_
      refine thenN ?_
      refine wseq ?_
      refine wreg ?_
      refine wl rfl (ofieldAddr (g := g4) (off := 0) 0 rfl rfl (ev (v := .pointer (some ⟨g4, 0, none⟩)) rfl rfl) Try.runUnderlying82 rfl Try.sizeOf25 rfl ?_)
      refine wl rfl (oload (vs := [.bool (ng den), .slice pza nza cza]) aggZ hS 2 rfl rfl (ev rfl rfl) rfl rfl rfl ?_)
      refine wl rfl (ofieldAddr (g := g9) (off := 0) 2 rfl rfl (ev (v := .pointer (some ⟨g9, 0, none⟩)) rfl rfl) Try.runUnderlying27 rfl Try.sizeOf25 rfl ?_)
      refine wl rfl (oload (vs := [.bool by1, .slice qy ny ky]) aggZ hS 0 rfl rfl (ev rfl rfl) rfl rfl rfl ?_)
      have h0 := hall e1 (List.mem_of_getElem? hle)
      obtain ⟨z2, hz2⟩ : ∃ z : Int, Hid (Int.tdiv den e1.2 = z) := ⟨_, rfl⟩
      have hk2 : Wd z2 4194304 := Wd.tdiv hkza hz2
      refine wl rfl (ocall rfl rfl Try.call66 rfl (wzexact (((hS.sl 3 rfl).zr hkza).mono (by omega)) ((hzy.at hS).mono (by omega)) (h0) (by rw [hden]; exact facc_lcm_mod (dens_at hle) hlt2) hz2) (args2 (ev rfl rfl) (ev rfl rfl)) ?_)
      rintro _ w12 ⟨_, _, rfl, ⟨p2, n2, c2, rfl, rfl⟩, hN⟩
      refine ⟨_, rfl, ?_⟩
      replace hS := hS.news hN; clear hN
      refine wl rfl (omove (v := .tuple #[.agg #[.bool (ng z2), .slice p2 n2 c2], .int .i64 0]) rfl rfl (ev (v := .tuple #[.agg #[.bool (ng z2), .slice p2 n2 c2], .int .i64 0]) rfl rfl) ?_)
      refine wl rfl (oextract (vs := [.agg #[.bool (ng z2), .slice p2 n2 c2], .int .i64 0]) (v := .agg #[.bool (ng z2), .slice p2 n2 c2]) rfl rfl (ev (v := .tuple #[.agg #[.bool (ng z2), .slice p2 n2 c2], .int .i64 0]) rfl rfl) rfl ?_)
      refine wl rfl (oextract (vs := [.agg #[.bool (ng z2), .slice p2 n2 c2], .int .i64 0]) (v := .int .i64 0) rfl rfl (ev (v := .tuple #[.agg #[.bool (ng z2), .slice p2 n2 c2], .int .i64 0]) rfl rfl) rfl ?_)
      refine wl rfl (oalloc [.bool false, .slice none 0 0] hS rfl rfl Try.zeroValue25 rfl ?_)
      clear hS; intro g13 w14 hS
      refine wl rfl (ostore [.bool (ng z2), .slice p2 n2 c2] [.bool (ng z2), .slice p2 n2 c2] Try.sizeOf25 hS 0 rfl rfl (ev rfl rfl) (ev (v := .agg #[.bool (ng z2), .slice p2 n2 c2]) rfl rfl) rfl rfl rfl rfl rfl rfl ?_)
      clear hS; intro w15 hS
      refine wl rfl (oassign (v := .int .i64 0) rfl rfl (ev (v := .int .i64 0) rfl rfl) ?_)
      refine wnil ?_
      refine thenN ?_
      obtain ⟨z3, hz3⟩ : ∃ z : Int, Hid (e1.1 * z2 = z) := ⟨_, rfl⟩
      have hk3 : Wd z3 20971520 := Wd.mul hzx.wd hk2 hz3 (by omega)
      refine wstage 7 [41, 42, 43, 44, 45, 46, 47] [[], [0], [], [2], [], [3, 4, 2], [5, 2, 3, 4]] [[], [], [], [], [], [], [5]] [] [] (fun i9 => ([fun _ => Is (.pointer (some ⟨g4, 2, none⟩)), fun _ => Is (.slice pn j cn), fun _ => Is (.pointer (some ⟨g9, 0, none⟩)), fun _ => Is (.agg #[.bool bx, .slice qx nx kx]), fun _ => Is (.agg #[.bool (ng z2), .slice p2 n2 c2]), fun _ => Zm z3, fun us => Slb [.bool (ng z3), (vat (us.getD 0 undef) [1])] 25 1] : List (List Value → Tell)).getD i9 (fun _ _ _ => False)) (heldNil) (fun d _ _ _ _ h => (by cases d <;> exact h)) (by kernel_rfl) (by kernel_rfl) (by kernel_rfl) hS ?_ ?_
      ·
        refine stepsCons rfl ?_ ?_
        · intro Q f' w' ρ S ho hT hS hB
          exact .inl ⟨want_none rfl, ofieldAddr (g := g4) (off := 0) 2 rfl rfl (ev (v := .pointer (some ⟨g4, 0, none⟩)) rfl (ho 4 rfl)) Try.runUnderlying82 rfl Try.sizeOf40 rfl ⟨_, _, rfl, isI, New.same _⟩⟩
        refine stepsCons rfl ?_ ?_
        · intro Q f' w' ρ S ho hT hS hB
          obtain ⟨hv0, hr0⟩ := (hT 0 41 rfl rfl : (Is (.pointer (some ⟨g4, 2, none⟩))) (f' 41) (ρ 0))
          obtain hS := hS.flat1 hr0
          exact .inl ⟨want_none rfl, oload1 (v := .slice pn j cn) (show One Try.prog 40 from ⟨Try.isAgg40, Try.sizeOf40⟩) hS 4 rfl rfl (ev rfl hv0) rfl rfl ⟨_, _, rfl, isI, New.same _⟩⟩
        refine stepsCons rfl ?_ ?_
        · intro Q f' w' ρ S ho hT hS hB
          exact .inl ⟨want_none rfl, ofieldAddr (g := g9) (off := 0) 0 rfl rfl (ev (v := .pointer (some ⟨g9, 0, none⟩)) rfl (ho 8 rfl)) Try.runUnderlying27 rfl Try.sizeOf25 rfl ⟨_, _, rfl, isI, New.same _⟩⟩
        refine stepsCons rfl ?_ ?_
        · intro Q f' w' ρ S ho hT hS hB
          obtain ⟨hv2, hr2⟩ := (hT 2 43 rfl rfl : (Is (.pointer (some ⟨g9, 0, none⟩))) (f' 43) (ρ 2))
          obtain hS := hS.flat1 hr2
          exact .inl ⟨want_none rfl, oload (vs := [.bool bx, .slice qx nx kx]) aggZ hS 2 rfl rfl (ev rfl hv2) rfl rfl rfl ⟨_, _, rfl, isI, New.same _⟩⟩
        refine stepsCons rfl ?_ ?_
        · intro Q f' w' ρ S ho hT hS hB
          exact .inl ⟨want_none rfl, oload (vs := [.bool (ng z2), .slice p2 n2 c2]) aggZ hS 0 rfl rfl (ev rfl (ho 9 rfl)) rfl rfl rfl ⟨_, _, rfl, isI, New.same _⟩⟩
        refine stepsCons rfl ?_ ?_
        · intro Q f' w' ρ S ho hT hS hB
          obtain ⟨hv3, hr3⟩ := (hT 3 44 rfl rfl : (Is (.agg #[.bool bx, .slice qx nx kx])) (f' 44) (ρ 3))
          obtain ⟨hv4, hr4⟩ := (hT 4 45 rfl rfl : (Is (.agg #[.bool (ng z2), .slice p2 n2 c2])) (f' 45) (ρ 4))
          obtain hS := hS.flat2 hr3 hr4
          refine .inl ⟨want_none rfl, ocall rfl rfl Try.call56 rfl ((wzmul ((hzx.at hS).mono (by omega)) (((hS.sl 1 rfl).zr hk2).mono (by omega)) hz3).mono Zt.m) (args2 (ev rfl hv3) (ev rfl hv4)) ?_⟩
          rintro _ w9 ⟨_, _, rfl, hTT, hN⟩
          exact ⟨_, rfl, _, _, rfl, hTT, hN⟩
        refine stepsCons rfl ?_ ?_
        · intro Q f' w' ρ S ho hT hS hB
          obtain ⟨p3, n3, c3, hv5, hr5⟩ := (hT 5 46 rfl rfl : (Zm z3) (f' 46) (ρ 5))
          obtain hS := hS.flat1 hr5
          have hQ : ([.bool (ng z3), .slice p3 n3 c3] : List Value) = (fun (us : List Value) => ([.bool (ng z3), (vat (us.getD 0 undef) [1])] : List Value)) [f' 46] := by show _ = ([.bool (ng z3), (vat (f' 46) [1])] : List Value); rw [hv5]; rfl
          exact .inl ⟨want_none rfl, obsliceN (ps := #[(0, .agg #[.bool (ng z3), .slice p3 n3 c3])]) (z := .agg #[.bool false, .slice none 0 0]) [.bool (ng z3), .slice p3 n3 c3] rfl rfl Try.runUnderlying40 Try.sizeOf25 Try.zeroValue25 (parts1 (ev (v := .agg #[.bool (ng z3), .slice p3 n3 c3]) rfl hv5)) rfl (by decide) fill2_1 ⟨_, _, rfl, ⟨_, rfl, congrArg (fun l => [Res.blk _ l _]) hQ⟩, New.blk _ _ _⟩⟩
        exact stepsNil
      ·
        intro vs ρ w17 f' hf hT hS
        obtain ⟨hv0, hr0⟩ := (hT 0 (by decide) : (Is (.pointer (some ⟨g4, 2, none⟩))) (vs 0) (ρ 0))
        obtain ⟨hv1, hr1⟩ := (hT 1 (by decide) : (Is (.slice pn j cn)) (vs 1) (ρ 1))
        obtain ⟨hv2, hr2⟩ := (hT 2 (by decide) : (Is (.pointer (some ⟨g9, 0, none⟩))) (vs 2) (ρ 2))
        obtain ⟨hv3, hr3⟩ := (hT 3 (by decide) : (Is (.agg #[.bool bx, .slice qx nx kx])) (vs 3) (ρ 3))
        obtain ⟨hv4, hr4⟩ := (hT 4 (by decide) : (Is (.agg #[.bool (ng z2), .slice p2 n2 c2])) (vs 4) (ρ 4))
        obtain ⟨p3, n3, c3, hv5, hr5⟩ := (hT 5 (by decide) : (Zm z3) (vs 5) (ρ 5))
        obtain ⟨g16, hv6, hr6⟩ := (hT 6 (by decide) : (fun (us : List Value) => Slb [.bool (ng z3), (vat (us.getD 0 undef) [1])] 25 1) [vs 5] (vs 6) (ρ 6))
        replace hr6 : ρ 6 = [.blk g16 [.bool (ng z3), .slice p3 n3 c3] 25] := hr6.trans (by show ([.blk g16 [.bool (ng z3), (vat (vs 5) [1])] 25] : List Res) = _; rw [hv5]; rfl)
        simp only [pool, if_true, hr0, hr1, hr2, hr3, hr4, hr5, hr6, List.nil_append, List.cons_append, List.append_nil] at hS
        simp only [layf, hv0, hv1, hv2, hv3, hv4, hv5, hv6] at hf
        subst hf; clear hT hv0 hv1 hv2 hv3 hv4 hv5 hv6 hr0 hr1 hr2 hr3 hr4 hr5 hr6
        obtain hS := (show Sep w [.rowm p3 n3 c3 (lim z3.natAbs), .lst 25 2 pn j cn es, .blk g16 [.bool (ng z3), .slice p3 n3 c3] 25, .blk g13 [.bool (ng z2), .slice p2 n2 c2] 25, .row p2 n2 c2 (lim z2.natAbs), .blk g9 [.bool bx, .slice qx nx kx, .bool by1, .slice qy ny ky] 27, .blk g4 [.bool (ng den), .slice pza nza cza, .slice pn j cn] 82, .row pza nza cza (lim den.natAbs), .blk g1 [.bool false, .slice none 0 0, .slice none 0 0] 82] w17 from hS.pick [1, 5, 0, 2, 3, 4, 6, 7, 8] (by decide) rfl)
        refine wlate 7 rfl (by kernel_rfl) (oappendL (p := pn) (m := j) (c := cn) (g2 := g16) (c2 := 1) (off := 0) [.bool (ng z3), .slice p3 n3 c3] [.rowm p3 n3 c3 (lim z3.natAbs)] hS rfl rfl Try.underlying40 infoInt rfl (by decide) (ev (v := .slice pn j cn) rfl rfl) (ev (v := .slice (some ⟨g16, 0, none⟩) 1 1) rfl rfl) (fun j v hj => by rw [Nat.zero_add]; exact (blk_cell (hS.blkAt 2 rfl) j).trans hj) rfl rfl rfl (by have := hl.2.1; omega) (by have := hl.2.1; omega) ?_)
        clear hS; intro p19 c20 w18 hS
        refine ⟨heldNil, ?_⟩
        refine wlate 8 rfl (by kernel_rfl) (ofieldAddr (g := g4) (off := 0) 2 rfl rfl (ev (v := .pointer (some ⟨g4, 0, none⟩)) rfl rfl) Try.runUnderlying82 rfl Try.sizeOf40 rfl ?_)
        refine ⟨heldNil, ?_⟩
        refine wlate 9 rfl (by kernel_rfl) (ostore [.slice p19 ((j + 1)) c20] [.bool (ng den), .slice pza nza cza, .slice p19 ((j + 1)) c20] Try.sizeOf40 hS 5 rfl rfl (ev rfl rfl) (ev (v := .slice p19 ((j + 1)) c20) rfl rfl) rfl rfl rfl rfl rfl rfl ?_)
        clear hS; intro w21 hS
        refine ⟨heldNil, ?_⟩
        refine wdone rfl ?_
        refine blkN ?_
        refine thenN ?_
        refine wreg ?_
        refine wl rfl (obin (u := .int .i64 (((j : Nat) : Int))) (v := .int .i64 1) (z := .int .i64 (((j + 1 : Nat) : Int))) rfl rfl (ev (v := .int .i64 (((j : Nat) : Int))) rfl rfl) (evc (v := .int .i64 1)) (bin_add (wrap_succ (by have := hl.2.1; omega))) ?_)
        refine wl rfl (omove (v := .int .i64 (((j + 1 : Nat) : Int))) rfl rfl (ev (v := .int .i64 (((j + 1 : Nat) : Int))) rfl rfl) ?_)
        refine wnil ?_
        refine thenN ?_
        obtain rfl := hz2.out
        obtain rfl := hz3.out
        exact ⟨(j + 1), ⟨_, _, _, _, act_sets (l := [(2, .pointer (some ⟨g1, 0, none⟩)), (3, .int .i64 0), (4, .pointer (some ⟨g4, 0, none⟩)), (27, .slice pl m cl), (28, .int .i64 (((m : Nat) : Int))), (29, .int .i64 (((j + 1 : Nat) : Int)))]) ⟨rfl, rfl, rfl, rfl, rfl, rfl, trivial⟩, hS.pick [0, 5, 6, 7] (by decide) rfl, by omega, hes.app (by rw [cnum_at hle]) _ _ _⟩, by omega⟩
    ·
      refine wl rfl (obin (u := .int .i64 (((j : Nat) : Int))) (v := .int .i64 (((m : Nat) : Int))) (z := .bool false) rfl rfl (ev (v := .int .i64 (((j : Nat) : Int))) rfl rfl) (ev (v := .int .i64 (((m : Nat) : Int))) rfl rfl) (bin_lss (decide_eq_false (by omega))) ?_)
      refine wnil ?_
      refine thenN ?_
      refine wseq ?_
      refine wF (ev (v := .bool false) rfl rfl) ?_
      refine wexit ?_
      refine thenE ?_
      refine thenE ?_
      refine blkE ?_
      refine thenN ?_
      refine wseq ?_
      refine wreg ?_
      refine wl rfl (oload (vs := [.bool (ng den), .slice pza nza cza, .slice pn j cn]) (show Agg Try.prog 82 3 from ⟨Try.isAgg82, Try.sizeOf82⟩) hS 1 rfl rfl (ev rfl rfl) rfl rfl rfl ?_)
      refine wl rfl (ostore [.bool (ng den), .slice pza nza cza, .slice pn j cn] [.bool (ng den), .slice pza nza cza, .slice pn j cn] Try.sizeOf82 hS 3 rfl rfl (ev rfl rfl) (ev (v := .agg #[.bool (ng den), .slice pza nza cza, .slice pn j cn]) rfl rfl) rfl rfl rfl rfl rfl rfl ?_)
      clear hS; intro w9 hS
      refine wl rfl (oassign (v := .int .i64 0) rfl rfl (evc (v := .int .i64 0)) ?_)
      refine wnil ?_
      refine thenN ?_
      refine wleave ?_
      refine wret2 Try.results63 (tellC (cs := [.bool (ng den), .slice pza nza cza, .slice pn j cn]) (show Agg Try.prog 82 3 from ⟨Try.isAgg82, Try.sizeOf82⟩) hS 3 rfl rfl rfl rfl) (tellT (v := .int .i64 0) rfl rfl) ?_
      obtain rfl : j = m := by omega
      subst hden
      exact ⟨_, _, rfl, ⟨_, _, _, _, _, _, hes, rfl, rfl⟩, hS.newM [2, 0] (by decide) rfl rfl⟩

end Go.Proofs.Ytoinfkimlhhmpaa
