
/-
  The walk of similelaw05.RatField.
-/
import Derived.Test.YtoinfkimlhhmpaaRatParts2
import Derived.Test.YtoinfkimlhhmpaaRatLaws0
import Derived.Test.YtoinfkimlhhmpaaRatNeg
import Derived.Test.YtoinfkimlhhmpaaRCommon
set_option linter.unusedVariables false
set_option linter.unusedSimpArgs false
namespace Go.Proofs.Ytoinfkimlhhmpaa
open Go.RowKit

/-! ### Plain -/
theorem field_dist {x y u v r s z1 z2 z3 z4 z5 z6 z7 z8 z9 z10 : Int} (hy : y ≠ 0) (hv : v ≠ 0) (hs : s ≠ 0) (h1 : RN (u * s + r * v) (v * s) = z1) (h2 : RD (u * s + r * v) (v * s) = z2) (h3 : RN (x * z1) (y * z2) = z3) (h4 : RD (x * z1) (y * z2) = z4)
    (h5 : RN (x * u) (y * v) = z5) (h6 : RD (x * u) (y * v) = z6) (h7 : RN (x * r) (y * s) = z7) (h8 : RD (x * r) (y * s) = z8) (h9 : RN (z5 * z8 + z7 * z6) (z6 * z8) = z9) (h10 : RD (z5 * z8 + z7 * z6) (z6 * z8) = z10) : z3 = z9 ∧ z4 = z10 := by
  have c1 := R_cross (u * s + r * v) (v * s)
  have c5 := R_cross (x * u) (y * v)
  have c7 := R_cross (x * r) (y * s)
  have n1 := ne_mul hv hs
  have n5 := ne_mul hy hv
  have n7 := ne_mul hy hs
  have p2 := RD_pos (x := u * s + r * v) n1
  have p6 := RD_pos (x := x * u) n5
  have p8 := RD_pos (x := x * r) n7
  rw [h1, h2] at c1; rw [h5, h6] at c5; rw [h7, h8] at c7
  rw [h2] at p2; rw [h6] at p6; rw [h8] at p8
  rw [← h3, ← h4, ← h9, ← h10]
  refine R_same (ne_mul hy (by omega)) (ne_mul (by omega) (by omega)) ?_
  have hk : (y * (v * s)) * (v * s * y) ≠ 0 := ne_mul (ne_mul hy n1) (ne_mul n1 hy)
  refine Int.eq_of_mul_eq_mul_left hk ?_
  clear h1 h2 h3 h4 h5 h6 h7 h8 h9 h10 p2 p6 p8 hk n1 n5 n7 hy hv hs
  grind
theorem field_sub {x y u v z1 z2 z3 z4 : Int} (hy : y ≠ 0) (hv : v ≠ 0) (h1 : RN (x * v + u * y) (y * v) = z1) (h2 : RD (x * v + u * y) (y * v) = z2) (h3 : RN (z1 * v - u * z2) (z2 * v) = z3) (h4 : RD (z1 * v - u * z2) (z2 * v) = z4) : z2 ≠ 0 ∧ z3 = RN x y ∧ z4 = RD x y := by
  have c1 := R_cross (x * v + u * y) (y * v)
  have n1 := ne_mul hy hv
  have p2 := RD_pos (x := x * v + u * y) n1
  rw [h1, h2] at c1; rw [h2] at p2
  refine ⟨by omega, ?_⟩
  rw [← h3, ← h4]
  refine R_same (ne_mul (by omega) hv) hy ?_
  refine Int.eq_of_mul_eq_mul_left (ne_mul hv hv) ?_
  clear h1 h2 h3 h4 p2 n1 hy hv
  grind
theorem field_quo {x y u v z1 z2 z3 z4 : Int} (hy : y ≠ 0) (hv : v ≠ 0) (hu : u ≠ 0) (h1 : RN (x * u) (y * v) = z1) (h2 : RD (x * u) (y * v) = z2) (h3 : RN (z1 * v) (z2 * u) = z3) (h4 : RD (z1 * v) (z2 * u) = z4) : z3 = RN x y ∧ z4 = RD x y := by
  have c1 := R_cross (x * u) (y * v)
  have n1 := ne_mul hy hv
  have p2 := RD_pos (x := x * u) n1
  rw [h1, h2] at c1; rw [h2] at p2
  rw [← h3, ← h4]
  refine R_same (ne_mul (by omega) hu) hy ?_
  refine Int.eq_of_mul_eq_mul_left hv ?_
  clear h1 h2 h3 h4 p2 n1 hy hv hu
  grind

theorem bin_eql_nilF {P : Program} {w : World} {t : TypeId} {x y : Operand} {a b : Array TypeId} {c : Bool} {fn : Fn} {fs cs : Array Value} (hu : ∀ w, (underlying t).run P w = .ok (.func a b c) w) : (do eqGuard .eql t x y (.func fn fs cs) .nilFunc; binOp .eql t (.func fn fs cs) .nilFunc : Sem Value).run P w = .ok (.bool false) w := by
  have h : (Op.equal t (.func fn fs cs) .nilFunc).run P w = .ok false w := by
    unfold Op.equal
    rw [show Op.maxDepth = 9999 + 1 from rfl]
    unfold Op.equalIn
    simp [hu]
  simp [eqGuard, binOp, h]
theorem box_cells {w : World} {g : Nat} {cs : List Value} {t : TypeId} (h : w.heap[g]? = some (.cells cs.toArray t)) : ∀ j v, cs[j]? = some v → w.cell? ⟨g, 0 + j, none⟩ = some v := fun j v hj => by
  rw [Nat.zero_add]; exact (blk_cell h j).trans hj
theorem oneL : One Try.prog 40 := ⟨Try.isAgg40, Try.sizeOf40⟩
theorem mod_half {B R : Nat} (hR : 0 < R) (h : R < B) : 2 * (B % R) < B := by
  rw [Nat.mod_eq_sub_mod (by omega)]
  have h1 := Nat.mod_lt (B - R) hR
  have h2 := Nat.mod_le (B - R) R
  omega
theorem Cf.short : ∀ (n : Nat) (a : Int) (B : Nat) (xs : List Int), B < 2 ^ n → Cf a (B : Int) xs → xs.length ≤ 2 * n
  | 0, a, B, xs, h, hc => by
    have : B = 0 := by simpa using h
    subst this
    rw [show ((0 : Nat) : Int) = 0 from rfl] at hc
    rw [hc.done]; simp
  | n + 1, a, B, xs, h, hc => by
    by_cases h0 : (B : Int) = 0
    · rw [h0] at hc; rw [hc.done]; simp
    · obtain ⟨ys, rfl, hy⟩ := hc.step h0
      obtain ⟨R, hR⟩ : ∃ R : Nat, a % (B : Int) = R := ⟨(a % (B : Int)).toNat, (Int.toNat_of_nonneg (Int.emod_nonneg a h0)).symm⟩
      have hlt : R < B := by have := Int.emod_lt_of_pos a (show (0 : Int) < B by omega); omega
      rw [hR] at hy
      by_cases h1 : (R : Int) = 0
      · rw [h1] at hy; rw [hy.done]; simp; omega
      · obtain ⟨zs, rfl, hz⟩ := hy.step h1
        have e : (B : Int) % (R : Int) = ((B % R : Nat) : Int) := rfl
        rw [e] at hz
        have h2 := mod_half (B := B) (R := R) (by omega) hlt
        have := Cf.short n _ _ _ (by rw [Nat.pow_succ] at h; omega) hz
        simp only [List.length_cons]
        omega
theorem Cf.long {a b : Int} {xs : List Int} (h : Cf a b xs) (hb : 0 < b) (hw : Wd b 1048577) : xs.length ≤ 67108928 := by
  obtain ⟨B, rfl⟩ : ∃ B : Nat, b = B := ⟨b.toNat, (Int.toNat_of_nonneg (by omega)).symm⟩
  have h1 := Cf.short (blen B) a B xs (lt_blen B) h
  have h2 := blen_wd hw
  rw [Int.natAbs_natCast] at h2
  omega

/-! ### The list that the loop gathers -/
def NRs (pre : List Int) (es : List El) (rows : List Res) : Prop := es.length = pre.length ∧ ∀ (j : Nat) (z : Int), pre[j]? = some z → ∃ p n c, es[j]? = some ⟨[.bool (ng z), .slice p n c], []⟩ ∧ Res.row p n c (lim z.natAbs) ∈ rows
theorem NRs.app {pre : List Int} {es : List El} {rows : List Res} (h : NRs pre es rows) (x : Int) (p : Option Addr) (n c : Nat) : NRs (pre ++ [x]) (es ++ [⟨[.bool (ng x), .slice p n c], []⟩]) (.row p n c (lim x.natAbs) :: rows) := by
  refine ⟨by simp [h.1], fun j z hj => ?_⟩
  rcases Nat.lt_or_ge j pre.length with hl | hl
  · rw [List.getElem?_append_left hl] at hj
    obtain ⟨p', n', c', h1, h2⟩ := h.2 j z hj
    exact ⟨p', n', c', by rw [List.getElem?_append_left (by rw [h.1]; exact hl)]; exact h1, List.mem_cons_of_mem _ h2⟩
  · rw [List.getElem?_append_right hl] at hj
    have : j - pre.length = 0 := by have := (List.getElem?_eq_some_iff.1 hj).1; simp at this; omega
    rw [this] at hj
    simp at hj
    subst hj
    refine ⟨p, n, c, ?_, List.mem_cons_self⟩
    rw [List.getElem?_append_right (by rw [h.1]; exact hl), h.1, this]; rfl
def NLI (g : Nat) (FIX : List Res) (pre : List Int) (Rc : List Res) : Prop := ∃ p c es rows, Rc = .blk g [.slice p pre.length c] 40 :: .lst 25 2 p pre.length c es :: (rows ++ FIX) ∧ NRs pre es rows
def NLA (g n : Nat) (FIX : List Res) (pre : List Int) (x : Int) (f' : Nat → Value) (R' : List Res) : Prop :=
  ∃ fa g25 p m c Rc, f' = upd (upd fa n (.agg #[.bool (ng x), .slice p m c])) 25 (.pointer (some ⟨g25, 0, none⟩)) ∧ fa 23 = .pointer (some ⟨g, 0, none⟩) ∧ R' = .blk g25 [.bool (ng x), .slice p m c] 25 :: .row p m c (lim x.natAbs) :: Rc ∧ NLI g FIX pre Rc
theorem Sep.in2 {w0 W : World} {a b : Res} {Rf Rc : List Res} (h : Sep w0 (a :: ([b] ++ (Rf ++ Rc))) W) : Sep w0 (Rf ++ (a :: b :: Rc)) W := h.perm (by
  show (a :: b :: (Rf ++ Rc)).Perm _
  exact (List.Perm.cons a (List.perm_middle (l₁ := Rf) (l₂ := Rc) (a := b)).symm).trans (List.perm_middle (l₁ := Rf) (l₂ := b :: Rc) (a := a)).symm)
theorem Sep.out4 {w0 W : World} {a b c d : Res} {Rf Rc : List Res} (h : Sep w0 (Rf ++ (a :: b :: c :: d :: Rc)) W) : Sep w0 (d :: c :: a :: b :: (Rf ++ Rc)) W := h.perm (by
  have e : Rf ++ (a :: b :: c :: d :: Rc) = Rf ++ ([a, b, c, d] ++ Rc) := rfl
  rw [e, ← List.append_assoc]
  refine (List.Perm.append_right Rc (List.perm_append_comm (l₁ := Rf) (l₂ := [a, b, c, d]))).trans ?_
  show (a :: b :: c :: d :: (Rf ++ Rc)).Perm _
  exact (List.perm_append_comm (l₁ := [a, b]) (l₂ := [c, d])).append_right (Rf ++ Rc) |>.trans ((List.Perm.swap d c _)))
theorem Sep.back {w0 W : World} {l a b c r : Res} {Rf T : List Res} (h : Sep w0 (l :: a :: b :: c :: r :: (Rf ++ T)) W) : Sep w0 (Rf ++ (b :: l :: r :: T)) W :=
  Sep.front1 (R := [b, l, r]) (r := Rf) (S := T) (Sep.pickT [l, a, b, c, r] [b, l, r] h [2, 0, 4] (by decide) rfl)
theorem Cf.pos {a b : Int} {xs : List Int} (h : Cf a b xs) (hb : b ≠ 0) : ∃ m, xs.length = m + 1 := by
  obtain ⟨ys, rfl, _⟩ := h.step hb
  exact ⟨_, rfl⟩
theorem Cf.wd {a b : Int} {xs : List Int} {K : Nat} (h : Cf a b xs) (ha : Wd a K) (hb : Wd b K) {q : Int} (hq : q ∈ xs) : Wd q K := by
  obtain ⟨j, hj⟩ := List.mem_iff_getElem?.1 hq
  obtain ⟨_, h2, _⟩ := h.at (List.getElem?_eq_some_iff.1 hj).1
  rw [hj] at h2
  rw [Option.some.inj h2]
  exact Wd.ediv (eu_wd j a b ha hb).1 rfl
theorem Sep.nrs {w0 W : World} {R : List Res} {p : Option Addr} {m c K : Nat} {pre : List Int} {es : List El} {rows : List Res} (h : Sep w0 R W) (hl : Res.lst 25 2 p m c es ∈ R) (hr : ∀ r ∈ rows, r ∈ R) (hn : NRs pre es rows) (hm : m = pre.length) (hb : m ≤ 268435456) (hK : ∀ z ∈ pre, Wd z K) : Zl W p m pre K := by
  refine ⟨hm, hb, fun i z hi => ?_⟩
  obtain ⟨q, n, c', he, hrow⟩ := hn.2 i z hi
  obtain ⟨k, hk⟩ := List.mem_iff_getElem?.1 hl
  obtain ⟨g, hg, hc, _⟩ := h.lstCell k hk he (by decide)
  have hf : Fr 0 W q n c' (lim z.natAbs) := h.holds _ (hr _ hrow)
  exact ⟨g, 0, _, q, n, c', hg, hc, hf.sl.zr (hK z (List.mem_of_getElem? hi))⟩
set_option maxRecDepth 100000 in
set_option maxHeartbeats 16000000 in
theorem field_rest {x y u v r s : Int} {c0 c1 c : Code} (hc : (Try.f8).body = some (.seq c0 (.seq c1 c))) {fb : Nat → Value} {g3 g4 g5 : Nat} {t3 t4 t5 : TypeId} (hf : AllAt fb [(3, .pointer (some ⟨g3, 0, none⟩)), (4, .pointer (some ⟨g4, 0, none⟩)), (5, .pointer (some ⟨g5, 0, none⟩))]) {w : World} {bA bB : Bool} {qA qB : Option Addr} {nA kA nB kB : Nat} {bC bD : Bool} {qC qD : Option Addr} {nC kC nD kD : Nat} {bE bF : Bool} {qE qF : Option Addr} {nE kE nF kF : Nat} (hg3 : w.heap[g3]? = some (.cells [.bool bA, .slice qA nA kA, .bool bB, .slice qB nB kB].toArray t3)) (hg4 : w.heap[g4]? = some (.cells [.bool bC, .slice qC nC kC, .bool bD, .slice qD nD kD].toArray t4)) (hg5 : w.heap[g5]? = some (.cells [.bool bE, .slice qE nE kE, .bool bF, .slice qF nF kF].toArray t5)) (hzA : Zr w bA qA nA kA x 1048577) (hzB : Zr w bB qB nB kB y 1048577) (hzC : Zr w bC qC nC kC u 1048577) (hzD : Zr w bD qD nD kD v 1048577) (hzE : Zr w bE qE nE kE r 1048577) (hzF : Zr w bF qF nF kF s 1048577) (hy : y ≠ 0) (hv : v ≠ 0) (hs : s ≠ 0) {E : Ending → World → Prop} (hE : ∀ w', Below w.heap.size w w' → E (.returned (.bool true)) w') :
    CW Try.prog c (postM Try.prog Try.f8 E) (act 139 fb) w := by
  have hS := Sep.init w
  obtain rfl := (Code.seq.inj (Code.seq.inj (Option.some.inj hc)).2).2
  rw [act_sets hf]
  refine wseq ?_
  refine wreg ?_
  refine wl rfl (oloadA (vs := [.bool bC, .slice qC nC kC, .bool bD, .slice qD nD kD]) aggR rfl rfl (ev (v := .pointer (some ⟨g4, 0, none⟩)) rfl rfl) (fun j v hj => hS.cellAt (box_cells (cs := [.bool bC, .slice qC nC kC, .bool bD, .slice qD nD kD]) hg4 j v hj)) rfl ?_)
  refine wl rfl (oloadA (vs := [.bool bE, .slice qE nE kE, .bool bF, .slice qF nF kF]) aggR rfl rfl (ev (v := .pointer (some ⟨g5, 0, none⟩)) rfl rfl) (fun j v hj => hS.cellAt (box_cells (cs := [.bool bE, .slice qE nE kE, .bool bF, .slice qF nF kF]) hg5 j v hj)) rfl ?_)
  obtain ⟨z1, hz1⟩ : ∃ z : Int, Hid (RN (u * s + r * v) (v * s) = z) := ⟨_, rfl⟩
  have hk1 : Wd z1 2097155 := Wd.rn (Wd.add (m := 2097155) (Wd.mul (m := 2097154) hzC.wd hzF.wd rfl (by omega)) (Wd.mul (m := 2097154) hzE.wd hzD.wd rfl (by omega)) rfl (by omega)) hz1
  obtain ⟨z2, hz2⟩ : ∃ z : Int, Hid (RD (u * s + r * v) (v * s) = z) := ⟨_, rfl⟩
  have hk2 : Wd z2 2097154 := Wd.rd (Wd.mul (m := 2097154) hzD.wd hzF.wd rfl (by omega)) hz2
  refine wl rfl (ocall rfl rfl Try.call29 rfl (wradd ((hzC.at hS).mono (by omega)) ((hzD.at hS).mono (by omega)) ((hzE.at hS).mono (by omega)) ((hzF.at hS).mono (by omega)) (hv) (hs) hz1 hz2) (args2 (ev rfl rfl) (ev rfl rfl)) ?_)
  rintro _ w1 ⟨_, _, rfl, ⟨p1, n1, c1, p2, n2, c2, rfl, rfl⟩, hN⟩
  refine ⟨_, rfl, ?_⟩
  replace hS := hS.news hN; clear hN
  refine wl rfl (omove (v := .tuple #[.agg #[.bool (ng z1), .slice p1 n1 c1, .bool (ng z2), .slice p2 n2 c2], .int .i64 0]) rfl rfl (ev (v := .tuple #[.agg #[.bool (ng z1), .slice p1 n1 c1, .bool (ng z2), .slice p2 n2 c2], .int .i64 0]) rfl rfl) ?_)
  refine wl rfl (oextract (vs := [.agg #[.bool (ng z1), .slice p1 n1 c1, .bool (ng z2), .slice p2 n2 c2], .int .i64 0]) (v := .agg #[.bool (ng z1), .slice p1 n1 c1, .bool (ng z2), .slice p2 n2 c2]) rfl rfl (ev (v := .tuple #[.agg #[.bool (ng z1), .slice p1 n1 c1, .bool (ng z2), .slice p2 n2 c2], .int .i64 0]) rfl rfl) rfl ?_)
  refine wl rfl (oextract (vs := [.agg #[.bool (ng z1), .slice p1 n1 c1, .bool (ng z2), .slice p2 n2 c2], .int .i64 0]) (v := .int .i64 0) rfl rfl (ev (v := .tuple #[.agg #[.bool (ng z1), .slice p1 n1 c1, .bool (ng z2), .slice p2 n2 c2], .int .i64 0]) rfl rfl) rfl ?_)
  refine wl rfl (oalloc [.bool false, .slice none 0 0, .bool false, .slice none 0 0] hS rfl rfl Try.zeroValue27 rfl ?_)
  clear hS; intro g2 w3 hS
  refine wl rfl (ostore [.bool (ng z1), .slice p1 n1 c1, .bool (ng z2), .slice p2 n2 c2] [.bool (ng z1), .slice p1 n1 c1, .bool (ng z2), .slice p2 n2 c2] Try.sizeOf27 hS 0 rfl rfl (ev rfl rfl) (ev (v := .agg #[.bool (ng z1), .slice p1 n1 c1, .bool (ng z2), .slice p2 n2 c2]) rfl rfl) rfl rfl rfl rfl rfl rfl ?_)
  clear hS; intro w4 hS
  refine wl rfl (oassign (v := .int .i64 0) rfl rfl (ev (v := .int .i64 0) rfl rfl) ?_)
  refine wnil ?_
  refine thenN ?_
  refine wseq ?_
  refine wreg ?_
  refine wl rfl (oloadA (vs := [.bool bA, .slice qA nA kA, .bool bB, .slice qB nB kB]) aggR rfl rfl (ev (v := .pointer (some ⟨g3, 0, none⟩)) rfl rfl) (fun j v hj => hS.cellAt (box_cells (cs := [.bool bA, .slice qA nA kA, .bool bB, .slice qB nB kB]) hg3 j v hj)) rfl ?_)
  refine wl rfl (oload (vs := [.bool (ng z1), .slice p1 n1 c1, .bool (ng z2), .slice p2 n2 c2]) aggR hS 0 rfl rfl (ev rfl rfl) rfl rfl rfl ?_)
  obtain ⟨z3, hz3⟩ : ∃ z : Int, Hid (RN (x * z1) (y * z2) = z) := ⟨_, rfl⟩
  have hk3 : Wd z3 3145732 := Wd.rn (Wd.mul (m := 3145732) hzA.wd hk1 rfl (by omega)) hz3
  obtain ⟨z4, hz4⟩ : ∃ z : Int, Hid (RD (x * z1) (y * z2) = z) := ⟨_, rfl⟩
  have hk4 : Wd z4 3145731 := Wd.rd (Wd.mul (m := 3145731) hzB.wd hk2 rfl (by omega)) hz4
  refine wl rfl (ocall rfl rfl Try.call31 rfl (wrmul ((hzA.at hS).mono (by omega)) ((hzB.at hS).mono (by omega)) (((hS.slm 1 rfl).zr hk1).mono (by omega)) (((hS.slm 2 rfl).zr hk2).mono (by omega)) (hy) ((by rw [← hz2.out]; exact Int.ne_of_gt (RD_pos (ne_mul hv hs)))) hz3 hz4) (args2 (ev rfl rfl) (ev rfl rfl)) ?_)
  rintro _ w5 ⟨_, _, rfl, ⟨p3, n3, c3, p4, n4, c4, rfl, rfl⟩, hN⟩
  refine ⟨_, rfl, ?_⟩
  replace hS := hS.news hN; clear hN
  refine wl rfl (omove (v := .tuple #[.agg #[.bool (ng z3), .slice p3 n3 c3, .bool (ng z4), .slice p4 n4 c4], .int .i64 0]) rfl rfl (ev (v := .tuple #[.agg #[.bool (ng z3), .slice p3 n3 c3, .bool (ng z4), .slice p4 n4 c4], .int .i64 0]) rfl rfl) ?_)
  refine wl rfl (oextract (vs := [.agg #[.bool (ng z3), .slice p3 n3 c3, .bool (ng z4), .slice p4 n4 c4], .int .i64 0]) (v := .agg #[.bool (ng z3), .slice p3 n3 c3, .bool (ng z4), .slice p4 n4 c4]) rfl rfl (ev (v := .tuple #[.agg #[.bool (ng z3), .slice p3 n3 c3, .bool (ng z4), .slice p4 n4 c4], .int .i64 0]) rfl rfl) rfl ?_)
  refine wl rfl (oextract (vs := [.agg #[.bool (ng z3), .slice p3 n3 c3, .bool (ng z4), .slice p4 n4 c4], .int .i64 0]) (v := .int .i64 0) rfl rfl (ev (v := .tuple #[.agg #[.bool (ng z3), .slice p3 n3 c3, .bool (ng z4), .slice p4 n4 c4], .int .i64 0]) rfl rfl) rfl ?_)
  refine wl rfl (oalloc [.bool false, .slice none 0 0, .bool false, .slice none 0 0] hS rfl rfl Try.zeroValue27 rfl ?_)
  clear hS; intro g6 w7 hS
  refine wl rfl (ostore [.bool (ng z3), .slice p3 n3 c3, .bool (ng z4), .slice p4 n4 c4] [.bool (ng z3), .slice p3 n3 c3, .bool (ng z4), .slice p4 n4 c4] Try.sizeOf27 hS 0 rfl rfl (ev rfl rfl) (ev (v := .agg #[.bool (ng z3), .slice p3 n3 c3, .bool (ng z4), .slice p4 n4 c4]) rfl rfl) rfl rfl rfl rfl rfl rfl ?_)
  clear hS; intro w8 hS
  refine wl rfl (oassign (v := .int .i64 0) rfl rfl (ev (v := .int .i64 0) rfl rfl) ?_)
  refine wnil ?_
  refine thenN ?_
  refine wseq ?_
  refine wreg ?_
  refine wl rfl (oloadA (vs := [.bool bA, .slice qA nA kA, .bool bB, .slice qB nB kB]) aggR rfl rfl (ev (v := .pointer (some ⟨g3, 0, none⟩)) rfl rfl) (fun j v hj => hS.cellAt (box_cells (cs := [.bool bA, .slice qA nA kA, .bool bB, .slice qB nB kB]) hg3 j v hj)) rfl ?_)
  refine wl rfl (oloadA (vs := [.bool bC, .slice qC nC kC, .bool bD, .slice qD nD kD]) aggR rfl rfl (ev (v := .pointer (some ⟨g4, 0, none⟩)) rfl rfl) (fun j v hj => hS.cellAt (box_cells (cs := [.bool bC, .slice qC nC kC, .bool bD, .slice qD nD kD]) hg4 j v hj)) rfl ?_)
  obtain ⟨z5, hz5⟩ : ∃ z : Int, Hid (RN (x * u) (y * v) = z) := ⟨_, rfl⟩
  have hk5 : Wd z5 2097154 := Wd.rn (Wd.mul (m := 2097154) hzA.wd hzC.wd rfl (by omega)) hz5
  obtain ⟨z6, hz6⟩ : ∃ z : Int, Hid (RD (x * u) (y * v) = z) := ⟨_, rfl⟩
  have hk6 : Wd z6 2097154 := Wd.rd (Wd.mul (m := 2097154) hzB.wd hzD.wd rfl (by omega)) hz6
  refine wl rfl (ocall rfl rfl Try.call31 rfl (wrmul ((hzA.at hS).mono (by omega)) ((hzB.at hS).mono (by omega)) ((hzC.at hS).mono (by omega)) ((hzD.at hS).mono (by omega)) (hy) (hv) hz5 hz6) (args2 (ev rfl rfl) (ev rfl rfl)) ?_)
  rintro _ w9 ⟨_, _, rfl, ⟨p5, n5, c5, p6, n6, c6, rfl, rfl⟩, hN⟩
  refine ⟨_, rfl, ?_⟩
  replace hS := hS.news hN; clear hN
  refine wl rfl (omove (v := .tuple #[.agg #[.bool (ng z5), .slice p5 n5 c5, .bool (ng z6), .slice p6 n6 c6], .int .i64 0]) rfl rfl (ev (v := .tuple #[.agg #[.bool (ng z5), .slice p5 n5 c5, .bool (ng z6), .slice p6 n6 c6], .int .i64 0]) rfl rfl) ?_)
  refine wl rfl (oextract (vs := [.agg #[.bool (ng z5), .slice p5 n5 c5, .bool (ng z6), .slice p6 n6 c6], .int .i64 0]) (v := .agg #[.bool (ng z5), .slice p5 n5 c5, .bool (ng z6), .slice p6 n6 c6]) rfl rfl (ev (v := .tuple #[.agg #[.bool (ng z5), .slice p5 n5 c5, .bool (ng z6), .slice p6 n6 c6], .int .i64 0]) rfl rfl) rfl ?_)
  refine wl rfl (oextract (vs := [.agg #[.bool (ng z5), .slice p5 n5 c5, .bool (ng z6), .slice p6 n6 c6], .int .i64 0]) (v := .int .i64 0) rfl rfl (ev (v := .tuple #[.agg #[.bool (ng z5), .slice p5 n5 c5, .bool (ng z6), .slice p6 n6 c6], .int .i64 0]) rfl rfl) rfl ?_)
  refine wl rfl (oalloc [.bool false, .slice none 0 0, .bool false, .slice none 0 0] hS rfl rfl Try.zeroValue27 rfl ?_)
  clear hS; intro g10 w11 hS
  refine wl rfl (ostore [.bool (ng z5), .slice p5 n5 c5, .bool (ng z6), .slice p6 n6 c6] [.bool (ng z5), .slice p5 n5 c5, .bool (ng z6), .slice p6 n6 c6] Try.sizeOf27 hS 0 rfl rfl (ev rfl rfl) (ev (v := .agg #[.bool (ng z5), .slice p5 n5 c5, .bool (ng z6), .slice p6 n6 c6]) rfl rfl) rfl rfl rfl rfl rfl rfl ?_)
  clear hS; intro w12 hS
  refine wl rfl (oassign (v := .int .i64 0) rfl rfl (ev (v := .int .i64 0) rfl rfl) ?_)
  refine wnil ?_
  refine thenN ?_
  refine wseq ?_
  refine wreg ?_
  refine wl rfl (oloadA (vs := [.bool bA, .slice qA nA kA, .bool bB, .slice qB nB kB]) aggR rfl rfl (ev (v := .pointer (some ⟨g3, 0, none⟩)) rfl rfl) (fun j v hj => hS.cellAt (box_cells (cs := [.bool bA, .slice qA nA kA, .bool bB, .slice qB nB kB]) hg3 j v hj)) rfl ?_)
  refine wl rfl (oloadA (vs := [.bool bE, .slice qE nE kE, .bool bF, .slice qF nF kF]) aggR rfl rfl (ev (v := .pointer (some ⟨g5, 0, none⟩)) rfl rfl) (fun j v hj => hS.cellAt (box_cells (cs := [.bool bE, .slice qE nE kE, .bool bF, .slice qF nF kF]) hg5 j v hj)) rfl ?_)
  obtain ⟨z7, hz7⟩ : ∃ z : Int, Hid (RN (x * r) (y * s) = z) := ⟨_, rfl⟩
  have hk7 : Wd z7 2097154 := Wd.rn (Wd.mul (m := 2097154) hzA.wd hzE.wd rfl (by omega)) hz7
  obtain ⟨z8, hz8⟩ : ∃ z : Int, Hid (RD (x * r) (y * s) = z) := ⟨_, rfl⟩
  have hk8 : Wd z8 2097154 := Wd.rd (Wd.mul (m := 2097154) hzB.wd hzF.wd rfl (by omega)) hz8
  refine wl rfl (ocall rfl rfl Try.call31 rfl (wrmul ((hzA.at hS).mono (by omega)) ((hzB.at hS).mono (by omega)) ((hzE.at hS).mono (by omega)) ((hzF.at hS).mono (by omega)) (hy) (hs) hz7 hz8) (args2 (ev rfl rfl) (ev rfl rfl)) ?_)
  rintro _ w13 ⟨_, _, rfl, ⟨p7, n7, c7, p8, n8, c8, rfl, rfl⟩, hN⟩
  refine ⟨_, rfl, ?_⟩
  replace hS := hS.news hN; clear hN
  refine wl rfl (omove (v := .tuple #[.agg #[.bool (ng z7), .slice p7 n7 c7, .bool (ng z8), .slice p8 n8 c8], .int .i64 0]) rfl rfl (ev (v := .tuple #[.agg #[.bool (ng z7), .slice p7 n7 c7, .bool (ng z8), .slice p8 n8 c8], .int .i64 0]) rfl rfl) ?_)
  refine wl rfl (oextract (vs := [.agg #[.bool (ng z7), .slice p7 n7 c7, .bool (ng z8), .slice p8 n8 c8], .int .i64 0]) (v := .agg #[.bool (ng z7), .slice p7 n7 c7, .bool (ng z8), .slice p8 n8 c8]) rfl rfl (ev (v := .tuple #[.agg #[.bool (ng z7), .slice p7 n7 c7, .bool (ng z8), .slice p8 n8 c8], .int .i64 0]) rfl rfl) rfl ?_)
  refine wl rfl (oextract (vs := [.agg #[.bool (ng z7), .slice p7 n7 c7, .bool (ng z8), .slice p8 n8 c8], .int .i64 0]) (v := .int .i64 0) rfl rfl (ev (v := .tuple #[.agg #[.bool (ng z7), .slice p7 n7 c7, .bool (ng z8), .slice p8 n8 c8], .int .i64 0]) rfl rfl) rfl ?_)
  refine wl rfl (oalloc [.bool false, .slice none 0 0, .bool false, .slice none 0 0] hS rfl rfl Try.zeroValue27 rfl ?_)
  clear hS; intro g14 w15 hS
  refine wl rfl (ostore [.bool (ng z7), .slice p7 n7 c7, .bool (ng z8), .slice p8 n8 c8] [.bool (ng z7), .slice p7 n7 c7, .bool (ng z8), .slice p8 n8 c8] Try.sizeOf27 hS 0 rfl rfl (ev rfl rfl) (ev (v := .agg #[.bool (ng z7), .slice p7 n7 c7, .bool (ng z8), .slice p8 n8 c8]) rfl rfl) rfl rfl rfl rfl rfl rfl ?_)
  clear hS; intro w16 hS
  refine wl rfl (oassign (v := .int .i64 0) rfl rfl (ev (v := .int .i64 0) rfl rfl) ?_)
  refine wnil ?_
  refine thenN ?_
  refine wseq ?_
  refine wreg ?_
  refine wl rfl (oload (vs := [.bool (ng z5), .slice p5 n5 c5, .bool (ng z6), .slice p6 n6 c6]) aggR hS 3 rfl rfl (ev rfl rfl) rfl rfl rfl ?_)
  refine wl rfl (oload (vs := [.bool (ng z7), .slice p7 n7 c7, .bool (ng z8), .slice p8 n8 c8]) aggR hS 0 rfl rfl (ev rfl rfl) rfl rfl rfl ?_)
  obtain ⟨z9, hz9⟩ : ∃ z : Int, Hid (RN (z5 * z8 + z7 * z6) (z6 * z8) = z) := ⟨_, rfl⟩
  have hk9 : Wd z9 4194309 := Wd.rn (Wd.add (m := 4194309) (Wd.mul (m := 4194308) hk5 hk8 rfl (by omega)) (Wd.mul (m := 4194308) hk7 hk6 rfl (by omega)) rfl (by omega)) hz9
  obtain ⟨z10, hz10⟩ : ∃ z : Int, Hid (RD (z5 * z8 + z7 * z6) (z6 * z8) = z) := ⟨_, rfl⟩
  have hk10 : Wd z10 4194308 := Wd.rd (Wd.mul (m := 4194308) hk6 hk8 rfl (by omega)) hz10
  refine wl rfl (ocall rfl rfl Try.call29 rfl (wradd (((hS.slm 4 rfl).zr hk5).mono (by omega)) (((hS.slm 5 rfl).zr hk6).mono (by omega)) (((hS.slm 1 rfl).zr hk7).mono (by omega)) (((hS.slm 2 rfl).zr hk8).mono (by omega)) ((by rw [← hz6.out]; exact Int.ne_of_gt (RD_pos (ne_mul hy hv)))) ((by rw [← hz8.out]; exact Int.ne_of_gt (RD_pos (ne_mul hy hs)))) hz9 hz10) (args2 (ev rfl rfl) (ev rfl rfl)) ?_)
  rintro _ w17 ⟨_, _, rfl, ⟨p9, n9, c9, p10, n10, c10, rfl, rfl⟩, hN⟩
  refine ⟨_, rfl, ?_⟩
  replace hS := hS.news hN; clear hN
  refine wl rfl (omove (v := .tuple #[.agg #[.bool (ng z9), .slice p9 n9 c9, .bool (ng z10), .slice p10 n10 c10], .int .i64 0]) rfl rfl (ev (v := .tuple #[.agg #[.bool (ng z9), .slice p9 n9 c9, .bool (ng z10), .slice p10 n10 c10], .int .i64 0]) rfl rfl) ?_)
  refine wl rfl (oextract (vs := [.agg #[.bool (ng z9), .slice p9 n9 c9, .bool (ng z10), .slice p10 n10 c10], .int .i64 0]) (v := .agg #[.bool (ng z9), .slice p9 n9 c9, .bool (ng z10), .slice p10 n10 c10]) rfl rfl (ev (v := .tuple #[.agg #[.bool (ng z9), .slice p9 n9 c9, .bool (ng z10), .slice p10 n10 c10], .int .i64 0]) rfl rfl) rfl ?_)
  refine wl rfl (oextract (vs := [.agg #[.bool (ng z9), .slice p9 n9 c9, .bool (ng z10), .slice p10 n10 c10], .int .i64 0]) (v := .int .i64 0) rfl rfl (ev (v := .tuple #[.agg #[.bool (ng z9), .slice p9 n9 c9, .bool (ng z10), .slice p10 n10 c10], .int .i64 0]) rfl rfl) rfl ?_)
  refine wl rfl (oalloc [.bool false, .slice none 0 0, .bool false, .slice none 0 0] hS rfl rfl Try.zeroValue27 rfl ?_)
  clear hS; intro g18 w19 hS
  refine wl rfl (ostore [.bool (ng z9), .slice p9 n9 c9, .bool (ng z10), .slice p10 n10 c10] [.bool (ng z9), .slice p9 n9 c9, .bool (ng z10), .slice p10 n10 c10] Try.sizeOf27 hS 0 rfl rfl (ev rfl rfl) (ev (v := .agg #[.bool (ng z9), .slice p9 n9 c9, .bool (ng z10), .slice p10 n10 c10]) rfl rfl) rfl rfl rfl rfl rfl rfl ?_)
  clear hS; intro w20 hS
  refine wl rfl (oassign (v := .int .i64 0) rfl rfl (ev (v := .int .i64 0) rfl rfl) ?_)
  refine wnil ?_
  refine thenN ?_
  refine wseq ?_
  refine wreg ?_
  refine wl rfl (oloadA (vs := [.bool bA, .slice qA nA kA, .bool bB, .slice qB nB kB]) aggR rfl rfl (ev (v := .pointer (some ⟨g3, 0, none⟩)) rfl rfl) (fun j v hj => hS.cellAt (box_cells (cs := [.bool bA, .slice qA nA kA, .bool bB, .slice qB nB kB]) hg3 j v hj)) rfl ?_)
  refine wl rfl (oloadA (vs := [.bool bC, .slice qC nC kC, .bool bD, .slice qD nD kD]) aggR rfl rfl (ev (v := .pointer (some ⟨g4, 0, none⟩)) rfl rfl) (fun j v hj => hS.cellAt (box_cells (cs := [.bool bC, .slice qC nC kC, .bool bD, .slice qD nD kD]) hg4 j v hj)) rfl ?_)
  obtain ⟨z11, hz11⟩ : ∃ z : Int, Hid (RN (x * v + u * y) (y * v) = z) := ⟨_, rfl⟩
  have hk11 : Wd z11 2097155 := Wd.rn (Wd.add (m := 2097155) (Wd.mul (m := 2097154) hzA.wd hzD.wd rfl (by omega)) (Wd.mul (m := 2097154) hzC.wd hzB.wd rfl (by omega)) rfl (by omega)) hz11
  obtain ⟨z12, hz12⟩ : ∃ z : Int, Hid (RD (x * v + u * y) (y * v) = z) := ⟨_, rfl⟩
  have hk12 : Wd z12 2097154 := Wd.rd (Wd.mul (m := 2097154) hzB.wd hzD.wd rfl (by omega)) hz12
  refine wl rfl (ocall rfl rfl Try.call29 rfl (wradd ((hzA.at hS).mono (by omega)) ((hzB.at hS).mono (by omega)) ((hzC.at hS).mono (by omega)) ((hzD.at hS).mono (by omega)) (hy) (hv) hz11 hz12) (args2 (ev rfl rfl) (ev rfl rfl)) ?_)
  rintro _ w21 ⟨_, _, rfl, ⟨p11, n11, c11, p12, n12, c12, rfl, rfl⟩, hN⟩
  refine ⟨_, rfl, ?_⟩
  replace hS := hS.news hN; clear hN
  refine wl rfl (omove (v := .tuple #[.agg #[.bool (ng z11), .slice p11 n11 c11, .bool (ng z12), .slice p12 n12 c12], .int .i64 0]) rfl rfl (ev (v := .tuple #[.agg #[.bool (ng z11), .slice p11 n11 c11, .bool (ng z12), .slice p12 n12 c12], .int .i64 0]) rfl rfl) ?_)
  refine wl rfl (oextract (vs := [.agg #[.bool (ng z11), .slice p11 n11 c11, .bool (ng z12), .slice p12 n12 c12], .int .i64 0]) (v := .agg #[.bool (ng z11), .slice p11 n11 c11, .bool (ng z12), .slice p12 n12 c12]) rfl rfl (ev (v := .tuple #[.agg #[.bool (ng z11), .slice p11 n11 c11, .bool (ng z12), .slice p12 n12 c12], .int .i64 0]) rfl rfl) rfl ?_)
  refine wl rfl (oextract (vs := [.agg #[.bool (ng z11), .slice p11 n11 c11, .bool (ng z12), .slice p12 n12 c12], .int .i64 0]) (v := .int .i64 0) rfl rfl (ev (v := .tuple #[.agg #[.bool (ng z11), .slice p11 n11 c11, .bool (ng z12), .slice p12 n12 c12], .int .i64 0]) rfl rfl) rfl ?_)
  refine wl rfl (oalloc [.bool false, .slice none 0 0, .bool false, .slice none 0 0] hS rfl rfl Try.zeroValue27 rfl ?_)
  clear hS; intro g22 w23 hS
  refine wl rfl (ostore [.bool (ng z11), .slice p11 n11 c11, .bool (ng z12), .slice p12 n12 c12] [.bool (ng z11), .slice p11 n11 c11, .bool (ng z12), .slice p12 n12 c12] Try.sizeOf27 hS 0 rfl rfl (ev rfl rfl) (ev (v := .agg #[.bool (ng z11), .slice p11 n11 c11, .bool (ng z12), .slice p12 n12 c12]) rfl rfl) rfl rfl rfl rfl rfl rfl ?_)
  clear hS; intro w24 hS
  refine wl rfl (oassign (v := .int .i64 0) rfl rfl (ev (v := .int .i64 0) rfl rfl) ?_)
  refine wnil ?_
  refine thenN ?_
  refine wseq ?_
  refine wreg ?_
  refine wl rfl (oload (vs := [.bool (ng z11), .slice p11 n11 c11, .bool (ng z12), .slice p12 n12 c12]) aggR hS 0 rfl rfl (ev rfl rfl) rfl rfl rfl ?_)
  refine wl rfl (oloadA (vs := [.bool bC, .slice qC nC kC, .bool bD, .slice qD nD kD]) aggR rfl rfl (ev (v := .pointer (some ⟨g4, 0, none⟩)) rfl rfl) (fun j v hj => hS.cellAt (box_cells (cs := [.bool bC, .slice qC nC kC, .bool bD, .slice qD nD kD]) hg4 j v hj)) rfl ?_)
  obtain ⟨hn12, hs1, hs2⟩ := field_sub hy hv hz11.out hz12.out rfl rfl
  obtain ⟨z13, hz13⟩ : ∃ z : Int, Hid (RN (z11 * v - u * z12) (z12 * v) = z) := ⟨_, rfl⟩
  have hk13 : Wd z13 3145733 := Wd.rn (Wd.sub (m := 3145733) (Wd.mul (m := 3145732) hk11 hzD.wd rfl (by omega)) (Wd.mul (m := 3145731) hzC.wd hk12 rfl (by omega)) rfl (by omega)) hz13
  obtain ⟨z14, hz14⟩ : ∃ z : Int, Hid (RD (z11 * v - u * z12) (z12 * v) = z) := ⟨_, rfl⟩
  have hk14 : Wd z14 3145731 := Wd.rd (Wd.mul (m := 3145731) hk12 hzD.wd rfl (by omega)) hz14
  refine wl rfl (ocall rfl rfl Try.call30 rfl (wrsub (((hS.slm 1 rfl).zr hk11).mono (by omega)) (((hS.slm 2 rfl).zr hk12).mono (by omega)) ((hzC.at hS).mono (by omega)) ((hzD.at hS).mono (by omega)) (hn12) (hv) hz13 hz14) (args2 (ev rfl rfl) (ev rfl rfl)) ?_)
  rintro _ w25 ⟨_, _, rfl, ⟨p13, n13, c13, p14, n14, c14, rfl, rfl⟩, hN⟩
  refine ⟨_, rfl, ?_⟩
  replace hS := hS.news hN; clear hN
  refine wl rfl (omove (v := .tuple #[.agg #[.bool (ng z13), .slice p13 n13 c13, .bool (ng z14), .slice p14 n14 c14], .int .i64 0]) rfl rfl (ev (v := .tuple #[.agg #[.bool (ng z13), .slice p13 n13 c13, .bool (ng z14), .slice p14 n14 c14], .int .i64 0]) rfl rfl) ?_)
  refine wl rfl (oextract (vs := [.agg #[.bool (ng z13), .slice p13 n13 c13, .bool (ng z14), .slice p14 n14 c14], .int .i64 0]) (v := .agg #[.bool (ng z13), .slice p13 n13 c13, .bool (ng z14), .slice p14 n14 c14]) rfl rfl (ev (v := .tuple #[.agg #[.bool (ng z13), .slice p13 n13 c13, .bool (ng z14), .slice p14 n14 c14], .int .i64 0]) rfl rfl) rfl ?_)
  refine wl rfl (oextract (vs := [.agg #[.bool (ng z13), .slice p13 n13 c13, .bool (ng z14), .slice p14 n14 c14], .int .i64 0]) (v := .int .i64 0) rfl rfl (ev (v := .tuple #[.agg #[.bool (ng z13), .slice p13 n13 c13, .bool (ng z14), .slice p14 n14 c14], .int .i64 0]) rfl rfl) rfl ?_)
  refine wl rfl (oalloc [.bool false, .slice none 0 0, .bool false, .slice none 0 0] hS rfl rfl Try.zeroValue27 rfl ?_)
  clear hS; intro g26 w27 hS
  refine wl rfl (ostore [.bool (ng z13), .slice p13 n13 c13, .bool (ng z14), .slice p14 n14 c14] [.bool (ng z13), .slice p13 n13 c13, .bool (ng z14), .slice p14 n14 c14] Try.sizeOf27 hS 0 rfl rfl (ev rfl rfl) (ev (v := .agg #[.bool (ng z13), .slice p13 n13 c13, .bool (ng z14), .slice p14 n14 c14]) rfl rfl) rfl rfl rfl rfl rfl rfl ?_)
  clear hS; intro w28 hS
  refine wl rfl (oassign (v := .int .i64 0) rfl rfl (ev (v := .int .i64 0) rfl rfl) ?_)
  refine wnil ?_
  refine thenN ?_
  refine wseq ?_
  refine wreg ?_
  refine wl rfl (oloadA (vs := [.bool bA, .slice qA nA kA, .bool bB, .slice qB nB kB]) aggR rfl rfl (ev (v := .pointer (some ⟨g3, 0, none⟩)) rfl rfl) (fun j v hj => hS.cellAt (box_cells (cs := [.bool bA, .slice qA nA kA, .bool bB, .slice qB nB kB]) hg3 j v hj)) rfl ?_)
  obtain ⟨z15, hz15⟩ : ∃ z : Int, Hid (RN x y = z) := ⟨_, rfl⟩
  have hk15 : Wd z15 1048577 := Wd.rn hzA.wd hz15
  obtain ⟨z16, hz16⟩ : ∃ z : Int, Hid (RD x y = z) := ⟨_, rfl⟩
  have hk16 : Wd z16 1048577 := Wd.rd hzB.wd hz16
  refine wl rfl (ocall rfl rfl Try.call43 rfl ((wrnorm ((hzA.at hS).mono (by omega)) ((hzB.at hS).mono (by omega)) (hy) hz15 hz16)) (args1 (ev rfl rfl)) ?_)
  rintro _ w29 ⟨_, _, rfl, ⟨p15, n15, c15, p16, n16, c16, rfl, rfl⟩, hN⟩
  refine ⟨_, rfl, ?_⟩
  replace hS := hS.news hN; clear hN
  refine wl rfl (omove (v := .tuple #[.agg #[.bool (ng z15), .slice p15 n15 c15, .bool (ng z16), .slice p16 n16 c16], .int .i64 0]) rfl rfl (ev (v := .tuple #[.agg #[.bool (ng z15), .slice p15 n15 c15, .bool (ng z16), .slice p16 n16 c16], .int .i64 0]) rfl rfl) ?_)
  refine wl rfl (oextract (vs := [.agg #[.bool (ng z15), .slice p15 n15 c15, .bool (ng z16), .slice p16 n16 c16], .int .i64 0]) (v := .agg #[.bool (ng z15), .slice p15 n15 c15, .bool (ng z16), .slice p16 n16 c16]) rfl rfl (ev (v := .tuple #[.agg #[.bool (ng z15), .slice p15 n15 c15, .bool (ng z16), .slice p16 n16 c16], .int .i64 0]) rfl rfl) rfl ?_)
  refine wl rfl (oextract (vs := [.agg #[.bool (ng z15), .slice p15 n15 c15, .bool (ng z16), .slice p16 n16 c16], .int .i64 0]) (v := .int .i64 0) rfl rfl (ev (v := .tuple #[.agg #[.bool (ng z15), .slice p15 n15 c15, .bool (ng z16), .slice p16 n16 c16], .int .i64 0]) rfl rfl) rfl ?_)
  refine wl rfl (oalloc [.bool false, .slice none 0 0, .bool false, .slice none 0 0] hS rfl rfl Try.zeroValue27 rfl ?_)
  clear hS; intro g30 w31 hS
  refine wl rfl (ostore [.bool (ng z15), .slice p15 n15 c15, .bool (ng z16), .slice p16 n16 c16] [.bool (ng z15), .slice p15 n15 c15, .bool (ng z16), .slice p16 n16 c16] Try.sizeOf27 hS 0 rfl rfl (ev rfl rfl) (ev (v := .agg #[.bool (ng z15), .slice p15 n15 c15, .bool (ng z16), .slice p16 n16 c16]) rfl rfl) rfl rfl rfl rfl rfl rfl ?_)
  clear hS; intro w32 hS
  refine wl rfl (oassign (v := .int .i64 0) rfl rfl (ev (v := .int .i64 0) rfl rfl) ?_)
  refine wnil ?_
  refine thenN ?_
  refine wseq ?_
  refine wseq ?_
  refine wreg ?_
  refine wl rfl (omove (v := .int .i64 0) rfl rfl (ev (v := .int .i64 0) rfl rfl) ?_)
  refine wl rfl (obin (u := .int .i64 0) (v := .int .i64 0) (z := .bool false) rfl rfl (ev (v := .int .i64 0) rfl rfl) (evc (v := .int .i64 0)) (bin_neq (by decide)) ?_)
  refine wl rfl (omove (v := .bool false) rfl rfl (ev (v := .bool false) rfl rfl) ?_)
  refine wlOn (e := 83) rfl rfl rfl rfl (oload (vs := [.bool (ng z3), .slice p3 n3 c3, .bool (ng z4), .slice p4 n4 c4]) aggR hS 18 rfl rfl (ev rfl rfl) rfl rfl rfl ?_)
  refine wlOn (e := 83) rfl rfl rfl rfl (oload (vs := [.bool (ng z9), .slice p9 n9 c9, .bool (ng z10), .slice p10 n10 c10]) aggR hS 9 rfl rfl (ev rfl rfl) rfl rfl rfl ?_)
  obtain ⟨hd1, hd2⟩ := field_dist hy hv hs hz1.out hz2.out hz3.out hz4.out hz5.out hz6.out hz7.out hz8.out hz9.out hz10.out

  refine wlOn (e := 83) rfl rfl rfl rfl (ocall rfl rfl Try.call13 rfl (wlsame5 (x := z3) (y := z4) (u := z9) (v := z10) (hS.slm 19 rfl) (hS.slm 20 rfl) (hS.slm 10 rfl) (hS.slm 11 rfl) (hd1) (hd2)) (args2 (ev rfl rfl) (ev rfl rfl)) ?_)
  rintro _ w33 ⟨_, _, rfl, ⟨rfl, rfl⟩, hN⟩
  refine ⟨_, rfl, ?_⟩
  replace hS := hS.news hN; clear hN
  refine wlOn (e := 83) rfl rfl rfl rfl (onot (b := true) rfl rfl (ev (v := .bool true) rfl rfl) ?_)
  refine wl rfl (opick (b := false) (v := .bool false) rfl rfl (ev (v := .bool false) rfl rfl) (ev (v := .bool false) rfl rfl) ?_)
  refine wl rfl (omove (v := .bool false) rfl rfl (ev (v := .bool false) rfl rfl) ?_)
  refine wlOn (e := 89) rfl rfl rfl rfl (oload (vs := [.bool (ng z13), .slice p13 n13 c13, .bool (ng z14), .slice p14 n14 c14]) aggR hS 3 rfl rfl (ev rfl rfl) rfl rfl rfl ?_)
  refine wlOn (e := 89) rfl rfl rfl rfl (oload (vs := [.bool (ng z15), .slice p15 n15 c15, .bool (ng z16), .slice p16 n16 c16]) aggR hS 0 rfl rfl (ev rfl rfl) rfl rfl rfl ?_)
  refine wlOn (e := 89) rfl rfl rfl rfl (ocall rfl rfl Try.call13 rfl (wlsame5 (x := z13) (y := z14) (u := z15) (v := z16) (hS.slm 4 rfl) (hS.slm 5 rfl) (hS.slm 1 rfl) (hS.slm 2 rfl) ((hz13.out.symm.trans hs1).trans hz15.out) ((hz14.out.symm.trans hs2).trans hz16.out)) (args2 (ev rfl rfl) (ev rfl rfl)) ?_)
  rintro _ w34 ⟨_, _, rfl, ⟨rfl, rfl⟩, hN⟩
  refine ⟨_, rfl, ?_⟩
  replace hS := hS.news hN; clear hN
  refine wlOn (e := 89) rfl rfl rfl rfl (onot (b := true) rfl rfl (ev (v := .bool true) rfl rfl) ?_)
  refine wl rfl (opick (b := false) (v := .bool false) rfl rfl (ev (v := .bool false) rfl rfl) (ev (v := .bool false) rfl rfl) ?_)
  refine wnil ?_
  refine thenN ?_
  refine wF (ev (v := .bool false) rfl rfl) ?_
  refine wskip ?_
  refine thenN ?_
  refine wseq ?_
  refine wreg ?_
  refine wl rfl (oalloc [.slice none 0 0] hS rfl rfl Try.zeroValue40 rfl ?_)
  clear hS; intro g35 w36 hS
  refine wnil ?_
  refine thenN ?_
  refine wseq ?_
  refine wreg ?_
  refine wl rfl (oloadA (vs := [.bool bA, .slice qA nA kA, .bool bB, .slice qB nB kB]) aggR rfl rfl (ev (v := .pointer (some ⟨g3, 0, none⟩)) rfl rfl) (fun j v hj => hS.cellAt (box_cells (cs := [.bool bA, .slice qA nA kA, .bool bB, .slice qB nB kB]) hg3 j v hj)) rfl ?_)
  have hk17 := hk15
  have hk18 := hk16
  refine wl rfl (ocall rfl rfl Try.call51 rfl (wrparts ((hzA.at hS).mono (by omega)) ((hzB.at hS).mono (by omega)) hy hz15 hz16) (args1 (ev rfl rfl)) ?_)
  rintro _ w37 ⟨_, _, rfl, ⟨ge, gr, p17, n17, c17, p18, n18, c18, rfl, rfl⟩, hN⟩
  refine ⟨_, rfl, ?_⟩
  replace hS := hS.news hN; clear hN
  refine wl rfl (oassign (v := .func (.func 97) #[] #[.pointer (some ⟨ge, 0, none⟩), .pointer (some ⟨gr, 0, none⟩)]) rfl rfl (ev (v := .func (.func 97) #[] #[.pointer (some ⟨ge, 0, none⟩), .pointer (some ⟨gr, 0, none⟩)]) rfl rfl) ?_)
  refine wnil ?_
  refine thenN ?_
  refine wseq ?_
  refine wseq ?_
  refine wreg ?_
  refine wl rfl (omove (v := .func (.func 97) #[] #[.pointer (some ⟨ge, 0, none⟩), .pointer (some ⟨gr, 0, none⟩)]) rfl rfl (ev (v := .func (.func 97) #[] #[.pointer (some ⟨ge, 0, none⟩), .pointer (some ⟨gr, 0, none⟩)]) rfl rfl) ?_)
  refine wl rfl (obin (u := .func (.func 97) #[] #[.pointer (some ⟨ge, 0, none⟩), .pointer (some ⟨gr, 0, none⟩)]) (v := .nilFunc) (z := .bool false) rfl rfl (ev (v := .func (.func 97) #[] #[.pointer (some ⟨ge, 0, none⟩), .pointer (some ⟨gr, 0, none⟩)]) rfl rfl) (evc (v := .nilFunc)) (bin_eql_nilF Try.runUnderlying70) ?_)
  refine wnil ?_
  refine thenN ?_
  refine wF (ev (v := .bool false) rfl rfl) ?_
  refine wskip ?_
  refine thenN ?_
  refine wseq ?_
  refine wseq ?_
  refine wreg ?_
  refine wl rfl (omove (v := .func (.func 97) #[] #[.pointer (some ⟨ge, 0, none⟩), .pointer (some ⟨gr, 0, none⟩)]) rfl rfl (ev (v := .func (.func 97) #[] #[.pointer (some ⟨ge, 0, none⟩), .pointer (some ⟨gr, 0, none⟩)]) rfl rfl) ?_)
  refine wnil ?_
  refine thenN ?_
  refine wblock ?_
  obtain ⟨xs, hxs⟩ := Cf.ex _ z15 z16 (Nat.lt_succ_self _)
  have hcl := Cf.long hxs (by rw [← hz16.out]; exact RD_pos hy) hk16
  obtain hS := hS.nilLst (e := 25) (sz := 2)
  obtain hS := (show Sep w [.blk ge [.int .i64 0] 28, .blk gr [.bool (ng z15), .slice p17 n17 c17, .bool (ng z16), .slice p18 n18 c18] 27, .row p17 n17 c17 (lim z15.natAbs), .row p18 n18 c18 (lim z16.natAbs), .blk g35 [.slice none 0 0] 40, .lst 25 2 none 0 0 ([]), .blk g30 [.bool (ng z15), .slice p15 n15 c15, .bool (ng z16), .slice p16 n16 c16] 27, .rowm p15 n15 c15 (lim z15.natAbs), .rowm p16 n16 c16 (lim z16.natAbs), .blk g26 [.bool (ng z13), .slice p13 n13 c13, .bool (ng z14), .slice p14 n14 c14] 27, .rowm p13 n13 c13 (lim z13.natAbs), .rowm p14 n14 c14 (lim z14.natAbs), .blk g22 [.bool (ng z11), .slice p11 n11 c11, .bool (ng z12), .slice p12 n12 c12] 27, .rowm p11 n11 c11 (lim z11.natAbs), .rowm p12 n12 c12 (lim z12.natAbs), .blk g18 [.bool (ng z9), .slice p9 n9 c9, .bool (ng z10), .slice p10 n10 c10] 27, .rowm p9 n9 c9 (lim z9.natAbs), .rowm p10 n10 c10 (lim z10.natAbs), .blk g14 [.bool (ng z7), .slice p7 n7 c7, .bool (ng z8), .slice p8 n8 c8] 27, .rowm p7 n7 c7 (lim z7.natAbs), .rowm p8 n8 c8 (lim z8.natAbs), .blk g10 [.bool (ng z5), .slice p5 n5 c5, .bool (ng z6), .slice p6 n6 c6] 27, .rowm p5 n5 c5 (lim z5.natAbs), .rowm p6 n6 c6 (lim z6.natAbs), .blk g6 [.bool (ng z3), .slice p3 n3 c3, .bool (ng z4), .slice p4 n4 c4] 27, .rowm p3 n3 c3 (lim z3.natAbs), .rowm p4 n4 c4 (lim z4.natAbs), .blk g2 [.bool (ng z1), .slice p1 n1 c1, .bool (ng z2), .slice p2 n2 c2] 27, .rowm p1 n1 c1 (lim z1.natAbs), .rowm p2 n2 c2 (lim z2.natAbs)] w37 from hS.pick [1, 2, 3, 4, 5, 0, 6, 7, 8, 9, 10, 11, 12, 13, 14, 15, 16, 17, 18, 19, 20, 21, 22, 23, 24, 25, 26, 27, 28, 29] (by decide) rfl)
  obtain ⟨FIX, hFIX⟩ : ∃ F, F = ([.blk g30 [.bool (ng z15), .slice p15 n15 c15, .bool (ng z16), .slice p16 n16 c16] 27, .rowm p15 n15 c15 (lim z15.natAbs), .rowm p16 n16 c16 (lim z16.natAbs), .blk g26 [.bool (ng z13), .slice p13 n13 c13, .bool (ng z14), .slice p14 n14 c14] 27, .rowm p13 n13 c13 (lim z13.natAbs), .rowm p14 n14 c14 (lim z14.natAbs), .blk g22 [.bool (ng z11), .slice p11 n11 c11, .bool (ng z12), .slice p12 n12 c12] 27, .rowm p11 n11 c11 (lim z11.natAbs), .rowm p12 n12 c12 (lim z12.natAbs), .blk g18 [.bool (ng z9), .slice p9 n9 c9, .bool (ng z10), .slice p10 n10 c10] 27, .rowm p9 n9 c9 (lim z9.natAbs), .rowm p10 n10 c10 (lim z10.natAbs), .blk g14 [.bool (ng z7), .slice p7 n7 c7, .bool (ng z8), .slice p8 n8 c8] 27, .rowm p7 n7 c7 (lim z7.natAbs), .rowm p8 n8 c8 (lim z8.natAbs), .blk g10 [.bool (ng z5), .slice p5 n5 c5, .bool (ng z6), .slice p6 n6 c6] 27, .rowm p5 n5 c5 (lim z5.natAbs), .rowm p6 n6 c6 (lim z6.natAbs), .blk g6 [.bool (ng z3), .slice p3 n3 c3, .bool (ng z4), .slice p4 n4 c4] 27, .rowm p3 n3 c3 (lim z3.natAbs), .rowm p4 n4 c4 (lim z4.natAbs), .blk g2 [.bool (ng z1), .slice p1 n1 c1, .bool (ng z2), .slice p2 n2 c2] 27, .rowm p1 n1 c1 (lim z1.natAbs), .rowm p2 n2 c2 (lim z2.natAbs)] : List Res) := ⟨_, rfl⟩
  refine wrange (T := Zt) (xs := xs) (R := [.blk ge [.int .i64 0] 28, .blk gr [.bool (ng z15), .slice p17 n17 c17, .bool (ng z16), .slice p18 n18 c18] 27, .row p17 n17 c17 (lim z15.natAbs), .row p18 n18 c18 (lim z16.natAbs)]) (Rc := .blk g35 [.slice none 0 0] 40 :: .lst 25 2 none 0 0 ([]) :: FIX) (ev (v := .func (.func 97) #[] #[.pointer (some ⟨ge, 0, none⟩), .pointer (some ⟨gr, 0, none⟩)]) rfl rfl) Try.call97 (parts_iter hxs (hk15.mono (by omega)) (hk16.mono (by omega)) w) (by rw [hFIX]; exact hS) (NLI g35 FIX) (fun _ _ _ => False) ⟨none, 0, [], [], rfl, rfl, fun j z h => by simp at h⟩ (NLA g35 100 FIX) ?_ ?_ ?_ (fun _ _ _ _ _ _ h _ => h.elim)
  · intro l m pre q v9 r9 Rf Rc W hpx hI hT hS
    obtain ⟨p, n, c, rfl, rfl⟩ := hT
    refine rreg ?_
    refine rl rfl rfl (oalloc [.bool false, .slice none 0 0] hS rfl rfl Try.zeroValue25 rfl ?_)
    clear hS; intro g25 W2 hS
    refine rl rfl rfl (ostore [.bool (ng q), .slice p n c] [.bool (ng q), .slice p n c] Try.sizeOf25 hS 0 rfl rfl (ev rfl rfl) (ev (v := .agg #[.bool (ng q), .slice p n c]) rfl rfl) rfl rfl rfl rfl rfl rfl ?_)
    clear hS; intro W3 hS
    refine rnil ?_
    refine thenN ?_
    exact ⟨_, _, rfl, ⟨_, g25, p, n, c, Rc, rfl, rfl, rfl, hI⟩, Sep.in2 hS⟩
  · intro l m pre q f9 Rf R9 W hpx hA hS
    obtain ⟨fa, g25, p, n, c, _, rfl, hfa, rfl, p2, c2, es, rows, rfl, hn⟩ := hA
    have hlen : pre.length + 1 ≤ xs.length := by have := hpx.length_le; simpa using this
    replace hS := Sep.out4 hS
    refine rblock ?_
    refine rreg ?_
    refine rl rfl rfl (oload1 (v := .slice p2 pre.length c2) oneL hS 1 rfl rfl (ev rfl hfa) rfl rfl ?_)
    refine rl rfl rfl (oload (vs := [.bool (ng q), .slice p n c]) aggZ hS 2 rfl rfl (ev rfl rfl) rfl rfl rfl ?_)
    refine rl rfl rfl (obslice (ps := #[(0, .agg #[.bool (ng q), .slice p n c])]) (z := .agg #[.bool false, .slice none 0 0]) [.bool (ng q), .slice p n c] hS rfl rfl Try.runUnderlying40 Try.sizeOf25 Try.zeroValue25 (parts1 (ev (v := .agg #[.bool (ng q), .slice p n c]) rfl rfl)) rfl (by decide) fill2_1 ?_)
    clear hS; intro g5 W2 hS
    have hc5 := hS.blkAt 0 rfl
    have hl : (pre ++ [q]).length = pre.length + 1 := by simp
    replace hS := hS.perm (List.Perm.swap _ _ _)
    refine rl rfl rfl (oappendL (p := p2) (m := pre.length) (c := c2) (g2 := g5) (c2 := 1) (off := 0) [.bool (ng q), .slice p n c] [] hS rfl rfl Try.underlying40 infoInt rfl (by decide) (ev (v := .slice p2 pre.length c2) rfl rfl) (ev (v := .slice (some ⟨g5, 0, none⟩) 1 1) rfl rfl) (fun j v hj => by rw [Nat.zero_add]; exact (blk_cell hc5 j).trans hj) rfl rfl rfl (by omega) (by omega) ?_)
    clear hS; intro p3 c3 W3 hS
    refine rl rfl rfl (ostore [.slice p3 (pre.length + 1) c3] [.slice p3 (pre.length + 1) c3] Try.sizeOf40 hS 2 rfl rfl (ev rfl hfa) (ev (v := .slice p3 (pre.length + 1) c3) rfl rfl) rfl rfl rfl rfl rfl rfl ?_)
    clear hS; intro W4 hS
    refine rnil ?_
    refine blkN ?_
    exact ⟨_, ⟨p3, c3, _, .row p n c (lim q.natAbs) :: rows, by rw [hl]; rfl, hn.app q p n c⟩, Sep.back hS⟩
  · rintro D Rc W ⟨pL, cL, es, rows, rfl, hn⟩ hS
    obtain ⟨m1, hm1⟩ := hxs.pos (by rw [← hz16.out]; exact Int.ne_of_gt (RD_pos hy))
    have hzl := hS.nrs (K := 4194304) (List.mem_cons_of_mem _ (List.mem_cons_of_mem _ List.mem_cons_self)) (fun r hr => List.mem_cons_of_mem _ (List.mem_cons_of_mem _ (List.mem_cons_of_mem _ (List.mem_append_left _ hr)))) hn rfl (by omega) (fun q hq => hxs.wd (hk15.mono (by omega)) (hk16.mono (by omega)) hq)
    replace hS := hS.sub ((((List.sublist_append_right rows FIX).cons _).cons_cons _).cons_cons _)
    rw [hm1] at hS hzl
    subst hFIX
    have hS := hS
    refine blkN ?_
    refine thenN ?_
    refine wseq ?_
    refine mreg ?_
    refine ml rfl (oload1 (v := .slice pL ((m1 + 1)) cL) (show One Try.prog 40 from ⟨Try.isAgg40, Try.sizeOf40⟩) hS 1 rfl rfl (ev rfl rfl) rfl rfl ?_)
    have hk19 := hk15
    have hk20 := hk16
    refine ml rfl (ocall rfl rfl Try.call52 rfl (wrfromparts (z := z15) (t := z16) hzl hxs (by rw [← hz16.out]; exact Int.ne_of_gt (RD_pos hy)) (hk15.mono (by omega)) (hk16.mono (by omega)) (show Hid (_ = _) from by show _ = _; rw [← hz15.out, ← hz16.out]; exact RN_idem hy) (show Hid (_ = _) from by show _ = _; rw [← hz15.out, ← hz16.out]; exact RD_idem hy)) (args1 (ev rfl rfl)) ?_)
    rintro _ w38 ⟨_, _, rfl, ⟨p19, n19, c19, p20, n20, c20, rfl, rfl⟩, hN⟩
    refine ⟨_, rfl, ?_⟩
    replace hS := hS.news hN; clear hN
    refine ml rfl (omove (v := .tuple #[.agg #[.bool (ng z15), .slice p19 n19 c19, .bool (ng z16), .slice p20 n20 c20], .int .i64 0]) rfl rfl (ev (v := .tuple #[.agg #[.bool (ng z15), .slice p19 n19 c19, .bool (ng z16), .slice p20 n20 c20], .int .i64 0]) rfl rfl) ?_)
    refine ml rfl (oextract (vs := [.agg #[.bool (ng z15), .slice p19 n19 c19, .bool (ng z16), .slice p20 n20 c20], .int .i64 0]) (v := .agg #[.bool (ng z15), .slice p19 n19 c19, .bool (ng z16), .slice p20 n20 c20]) rfl rfl (ev (v := .tuple #[.agg #[.bool (ng z15), .slice p19 n19 c19, .bool (ng z16), .slice p20 n20 c20], .int .i64 0]) rfl rfl) rfl ?_)
    refine ml rfl (oextract (vs := [.agg #[.bool (ng z15), .slice p19 n19 c19, .bool (ng z16), .slice p20 n20 c20], .int .i64 0]) (v := .int .i64 0) rfl rfl (ev (v := .tuple #[.agg #[.bool (ng z15), .slice p19 n19 c19, .bool (ng z16), .slice p20 n20 c20], .int .i64 0]) rfl rfl) rfl ?_)
    refine ml rfl (oalloc [.bool false, .slice none 0 0, .bool false, .slice none 0 0] hS rfl rfl Try.zeroValue27 rfl ?_)
    clear hS; intro g39 w40 hS
    refine ml rfl (ostore [.bool (ng z15), .slice p19 n19 c19, .bool (ng z16), .slice p20 n20 c20] [.bool (ng z15), .slice p19 n19 c19, .bool (ng z16), .slice p20 n20 c20] Try.sizeOf27 hS 0 rfl rfl (ev rfl rfl) (ev (v := .agg #[.bool (ng z15), .slice p19 n19 c19, .bool (ng z16), .slice p20 n20 c20]) rfl rfl) rfl rfl rfl rfl rfl rfl ?_)
    clear hS; intro w41 hS
    refine ml rfl (oassign (v := .int .i64 0) rfl rfl (ev (v := .int .i64 0) rfl rfl) ?_)
    refine mnil ?_
    refine thenN ?_
    refine wseq ?_
    refine wseq ?_
    refine mreg ?_
    refine ml rfl (omove (v := .int .i64 0) rfl rfl (ev (v := .int .i64 0) rfl rfl) ?_)
    refine ml rfl (obin (u := .int .i64 0) (v := .int .i64 0) (z := .bool false) rfl rfl (ev (v := .int .i64 0) rfl rfl) (evc (v := .int .i64 0)) (bin_neq (by decide)) ?_)
    refine ml rfl (omove (v := .bool false) rfl rfl (ev (v := .bool false) rfl rfl) ?_)
    refine mlOn (e := 112) rfl rfl rfl rfl (oload (vs := [.bool (ng z15), .slice p19 n19 c19, .bool (ng z16), .slice p20 n20 c20]) aggR hS 0 rfl rfl (ev rfl rfl) rfl rfl rfl ?_)
    refine mlOn (e := 112) rfl rfl rfl rfl (oload (vs := [.bool (ng z15), .slice p15 n15 c15, .bool (ng z16), .slice p16 n16 c16]) aggR hS 5 rfl rfl (ev rfl rfl) rfl rfl rfl ?_)
    refine mlOn (e := 112) rfl rfl rfl rfl (ocall rfl rfl Try.call13 rfl (wlsame5 (x := z15) (y := z16) (u := z15) (v := z16) (hS.slm 1 rfl) (hS.slm 2 rfl) (hS.slm 6 rfl) (hS.slm 7 rfl) ((hz15.out.symm).trans (hz15.out.symm).symm) ((hz16.out.symm).trans (hz16.out.symm).symm)) (args2 (ev rfl rfl) (ev rfl rfl)) ?_)
    rintro _ w42 ⟨_, _, rfl, ⟨rfl, rfl⟩, hN⟩
    refine ⟨_, rfl, ?_⟩
    replace hS := hS.news hN; clear hN
    refine mlOn (e := 112) rfl rfl rfl rfl (onot (b := true) rfl rfl (ev (v := .bool true) rfl rfl) ?_)
    refine ml rfl (opick (b := false) (v := .bool false) rfl rfl (ev (v := .bool false) rfl rfl) (ev (v := .bool false) rfl rfl) ?_)
    refine mnil ?_
    refine thenN ?_
    refine mwF (ev (v := .bool false) rfl rfl) ?_
    refine wskip ?_
    refine thenN ?_
    refine wseq ?_
    refine mreg ?_
    refine ml rfl (oload (vs := [.bool (ng z5), .slice p5 n5 c5, .bool (ng z6), .slice p6 n6 c6]) aggR hS 20 rfl rfl (ev rfl rfl) rfl rfl rfl ?_)
    refine ml rfl (oloadA (vs := [.bool bC, .slice qC nC kC, .bool bD, .slice qD nD kD]) aggR rfl rfl (ev (v := .pointer (some ⟨g4, 0, none⟩)) rfl rfl) (fun j v hj => hS.cellAt (box_cells (cs := [.bool bC, .slice qC nC kC, .bool bD, .slice qD nD kD]) hg4 j v hj)) rfl ?_)
    by_cases hu : u = 0
    ·
      have hk21 : Wd 0 2 := Wd.i64 (by omega) (by omega)
      have hk22 : Wd 0 2 := Wd.i64 (by omega) (by omega)
      refine ml rfl (ocall rfl rfl Try.call10 rfl (wrquoz (((hS.slm 21 rfl).zr hk5).mono (by omega)) (((hS.slm 22 rfl).zr hk6).mono (by omega)) ((hzC.at hS).mono (by omega)) ((hzD.at hS).mono (by omega)) ((by rw [← hz6.out]; exact Int.ne_of_gt (RD_pos (ne_mul hy hv)))) (hv) (hu)) (args2 (ev rfl rfl) (ev rfl rfl)) ?_)
      rintro _ w43 ⟨_, _, rfl, ⟨p21, n21, c21, p22, n22, c22, rfl, rfl⟩, hN⟩
      refine ⟨_, rfl, ?_⟩
      replace hS := hS.news hN; clear hN
      refine ml rfl (omove (v := .tuple #[.agg #[.bool (ng 0), .slice p21 n21 c21, .bool (ng 0), .slice p22 n22 c22], .int .i64 5]) rfl rfl (ev (v := .tuple #[.agg #[.bool (ng 0), .slice p21 n21 c21, .bool (ng 0), .slice p22 n22 c22], .int .i64 5]) rfl rfl) ?_)
      refine ml rfl (oextract (vs := [.agg #[.bool (ng 0), .slice p21 n21 c21, .bool (ng 0), .slice p22 n22 c22], .int .i64 5]) (v := .agg #[.bool (ng 0), .slice p21 n21 c21, .bool (ng 0), .slice p22 n22 c22]) rfl rfl (ev (v := .tuple #[.agg #[.bool (ng 0), .slice p21 n21 c21, .bool (ng 0), .slice p22 n22 c22], .int .i64 5]) rfl rfl) rfl ?_)
      refine ml rfl (oextract (vs := [.agg #[.bool (ng 0), .slice p21 n21 c21, .bool (ng 0), .slice p22 n22 c22], .int .i64 5]) (v := .int .i64 5) rfl rfl (ev (v := .tuple #[.agg #[.bool (ng 0), .slice p21 n21 c21, .bool (ng 0), .slice p22 n22 c22], .int .i64 5]) rfl rfl) rfl ?_)
      refine ml rfl (oalloc [.bool false, .slice none 0 0, .bool false, .slice none 0 0] hS rfl rfl Try.zeroValue27 rfl ?_)
      clear hS; intro g44 w45 hS
      refine ml rfl (ostore [.bool (ng 0), .slice p21 n21 c21, .bool (ng 0), .slice p22 n22 c22] [.bool (ng 0), .slice p21 n21 c21, .bool (ng 0), .slice p22 n22 c22] Try.sizeOf27 hS 0 rfl rfl (ev rfl rfl) (ev (v := .agg #[.bool (ng 0), .slice p21 n21 c21, .bool (ng 0), .slice p22 n22 c22]) rfl rfl) rfl rfl rfl rfl rfl rfl ?_)
      clear hS; intro w46 hS
      refine ml rfl (oassign (v := .int .i64 5) rfl rfl (ev (v := .int .i64 5) rfl rfl) ?_)
      refine mnil ?_
      refine thenN ?_
      refine wseq ?_
      refine mreg ?_
      refine ml rfl (oloadA (vs := [.bool bC, .slice qC nC kC, .bool bD, .slice qD nD kD]) aggR rfl rfl (ev (v := .pointer (some ⟨g4, 0, none⟩)) rfl rfl) (fun j v hj => hS.cellAt (box_cells (cs := [.bool bC, .slice qC nC kC, .bool bD, .slice qD nD kD]) hg4 j v hj)) rfl ?_)
      obtain ⟨s23, hs23⟩ : ∃ z : Int, Hid ((u : Int).sign * (v : Int).sign = z) := ⟨_, rfl⟩
      refine ml rfl (ocall rfl rfl Try.call12 rfl (wssign ((hzC.at hS).mono (by omega)) ((hzD.at hS).mono (by omega)) (hv) hs23) (args1 (ev rfl rfl)) ?_)
      rintro _ w47 ⟨_, _, rfl, ⟨rfl, rfl⟩, hN⟩
      refine ⟨_, rfl, ?_⟩
      replace hS := hS.news hN; clear hN
      refine ml rfl (obin (u := .int .i64 s23) (v := .int .i64 0) (z := .bool true) rfl rfl (ev (v := .int .i64 s23) rfl rfl) (evc (v := .int .i64 0)) (bin_eql (rs_zero hs23 hu)) ?_)
      refine ml rfl (omove (v := .bool true) rfl rfl (ev (v := .bool true) rfl rfl) ?_)
      refine mlOff (e := 127) (d := 128) (b' := true) rfl rfl rfl rfl rfl rfl ?_
      refine mlOff (e := 127) (d := 129) (b' := true) rfl rfl rfl rfl rfl rfl ?_
      refine mlOff (e := 127) (d := 130) (b' := true) rfl rfl rfl rfl rfl rfl ?_
      refine mlUndef (e := 130) (d := 131) rfl rfl rfl rfl rfl ?_
      refine mlUndef (e := 130) (d := 132) rfl rfl rfl rfl rfl ?_
      refine mlUndef (e := 130) (d := 133) rfl rfl rfl rfl rfl ?_
      refine mlOff (e := 127) (d := 134) (b' := true) rfl rfl rfl rfl rfl rfl ?_
      refine ml rfl (opick (b := true) (v := .bool true) rfl rfl (ev (v := .bool true) rfl rfl) (evc (v := .bool true)) ?_)
      refine ml rfl (omove (v := .bool true) rfl rfl (ev (v := .bool true) rfl rfl) ?_)
      refine mlOn (e := 136) rfl rfl rfl rfl (ocall rfl rfl Try.call15 rfl (wllives5) (args0 ) ?_)
      rintro _ w48 ⟨_, _, rfl, ⟨rfl, rfl⟩, hN⟩
      refine ⟨_, rfl, ?_⟩
      replace hS := hS.news hN; clear hN
      refine ml rfl (opick (b := true) (v := .bool true) rfl rfl (ev (v := .bool true) rfl rfl) (ev (v := .bool true) rfl rfl) ?_)
      refine ml rfl (oassign (v := .bool true) rfl rfl (ev (v := .bool true) rfl rfl) ?_)
      refine mnil ?_
      refine thenN ?_
      refine wleave ?_
      obtain hS := (show Sep w [.obj D (.deferred (some [])), .blk g44 [.bool (ng 0), .slice p21 n21 c21, .bool (ng 0), .slice p22 n22 c22] 27, .rowm p21 n21 c21 (lim (0 : Int).natAbs), .rowm p22 n22 c22 (lim (0 : Int).natAbs), .blk g39 [.bool (ng z15), .slice p19 n19 c19, .bool (ng z16), .slice p20 n20 c20] 27, .rowm p19 n19 c19 (lim z15.natAbs), .rowm p20 n20 c20 (lim z16.natAbs), .blk g35 [.slice pL ((m1 + 1)) cL] 40, .blk g30 [.bool (ng z15), .slice p15 n15 c15, .bool (ng z16), .slice p16 n16 c16] 27, .rowm p15 n15 c15 (lim z15.natAbs), .rowm p16 n16 c16 (lim z16.natAbs), .blk g26 [.bool (ng z13), .slice p13 n13 c13, .bool (ng z14), .slice p14 n14 c14] 27, .rowm p13 n13 c13 (lim z13.natAbs), .rowm p14 n14 c14 (lim z14.natAbs), .blk g22 [.bool (ng z11), .slice p11 n11 c11, .bool (ng z12), .slice p12 n12 c12] 27, .rowm p11 n11 c11 (lim z11.natAbs), .rowm p12 n12 c12 (lim z12.natAbs), .blk g18 [.bool (ng z9), .slice p9 n9 c9, .bool (ng z10), .slice p10 n10 c10] 27, .rowm p9 n9 c9 (lim z9.natAbs), .rowm p10 n10 c10 (lim z10.natAbs), .blk g14 [.bool (ng z7), .slice p7 n7 c7, .bool (ng z8), .slice p8 n8 c8] 27, .rowm p7 n7 c7 (lim z7.natAbs), .rowm p8 n8 c8 (lim z8.natAbs), .blk g10 [.bool (ng z5), .slice p5 n5 c5, .bool (ng z6), .slice p6 n6 c6] 27, .rowm p5 n5 c5 (lim z5.natAbs), .rowm p6 n6 c6 (lim z6.natAbs), .blk g6 [.bool (ng z3), .slice p3 n3 c3, .bool (ng z4), .slice p4 n4 c4] 27, .rowm p3 n3 c3 (lim z3.natAbs), .rowm p4 n4 c4 (lim z4.natAbs), .blk g2 [.bool (ng z1), .slice p1 n1 c1, .bool (ng z2), .slice p2 n2 c2] 27, .rowm p1 n1 c1 (lim z1.natAbs), .rowm p2 n2 c2 (lim z2.natAbs)] w48 from hS.pick [6, 0, 1, 2, 3, 4, 5, 7, 8, 9, 10, 11, 12, 13, 14, 15, 16, 17, 18, 19, 20, 21, 22, 23, 24, 25, 26, 27, 28, 29, 30, 31] (by decide) rfl)
      refine mret1 Try.results8 hS (fun _ => (tellT (v := .bool true) rfl rfl)) (fun w9 hS => ?_)
      exact hE _ hS.below
    ·
      obtain ⟨z21, hz21⟩ : ∃ z : Int, Hid (RN (z5 * v) (z6 * u) = z) := ⟨_, rfl⟩
      have hk21 : Wd z21 3145731 := Wd.rn (Wd.mul (m := 3145731) hk5 hzD.wd rfl (by omega)) hz21
      obtain ⟨z22, hz22⟩ : ∃ z : Int, Hid (RD (z5 * v) (z6 * u) = z) := ⟨_, rfl⟩
      have hk22 : Wd z22 3145731 := Wd.rd (Wd.mul (m := 3145731) hk6 hzC.wd rfl (by omega)) hz22
      refine ml rfl (ocall rfl rfl Try.call10 rfl (wrquo (((hS.slm 21 rfl).zr hk5).mono (by omega)) (((hS.slm 22 rfl).zr hk6).mono (by omega)) ((hzC.at hS).mono (by omega)) ((hzD.at hS).mono (by omega)) ((by rw [← hz6.out]; exact Int.ne_of_gt (RD_pos (ne_mul hy hv)))) (hv) (hu) hz21 hz22) (args2 (ev rfl rfl) (ev rfl rfl)) ?_)
      rintro _ w43 ⟨_, _, rfl, ⟨p21, n21, c21, p22, n22, c22, rfl, rfl⟩, hN⟩
      refine ⟨_, rfl, ?_⟩
      replace hS := hS.news hN; clear hN
      refine ml rfl (omove (v := .tuple #[.agg #[.bool (ng z21), .slice p21 n21 c21, .bool (ng z22), .slice p22 n22 c22], .int .i64 0]) rfl rfl (ev (v := .tuple #[.agg #[.bool (ng z21), .slice p21 n21 c21, .bool (ng z22), .slice p22 n22 c22], .int .i64 0]) rfl rfl) ?_)
      refine ml rfl (oextract (vs := [.agg #[.bool (ng z21), .slice p21 n21 c21, .bool (ng z22), .slice p22 n22 c22], .int .i64 0]) (v := .agg #[.bool (ng z21), .slice p21 n21 c21, .bool (ng z22), .slice p22 n22 c22]) rfl rfl (ev (v := .tuple #[.agg #[.bool (ng z21), .slice p21 n21 c21, .bool (ng z22), .slice p22 n22 c22], .int .i64 0]) rfl rfl) rfl ?_)
      refine ml rfl (oextract (vs := [.agg #[.bool (ng z21), .slice p21 n21 c21, .bool (ng z22), .slice p22 n22 c22], .int .i64 0]) (v := .int .i64 0) rfl rfl (ev (v := .tuple #[.agg #[.bool (ng z21), .slice p21 n21 c21, .bool (ng z22), .slice p22 n22 c22], .int .i64 0]) rfl rfl) rfl ?_)
      refine ml rfl (oalloc [.bool false, .slice none 0 0, .bool false, .slice none 0 0] hS rfl rfl Try.zeroValue27 rfl ?_)
      clear hS; intro g44 w45 hS
      refine ml rfl (ostore [.bool (ng z21), .slice p21 n21 c21, .bool (ng z22), .slice p22 n22 c22] [.bool (ng z21), .slice p21 n21 c21, .bool (ng z22), .slice p22 n22 c22] Try.sizeOf27 hS 0 rfl rfl (ev rfl rfl) (ev (v := .agg #[.bool (ng z21), .slice p21 n21 c21, .bool (ng z22), .slice p22 n22 c22]) rfl rfl) rfl rfl rfl rfl rfl rfl ?_)
      clear hS; intro w46 hS
      refine ml rfl (oassign (v := .int .i64 0) rfl rfl (ev (v := .int .i64 0) rfl rfl) ?_)
      refine mnil ?_
      refine thenN ?_
      refine wseq ?_
      refine mreg ?_
      refine ml rfl (oloadA (vs := [.bool bC, .slice qC nC kC, .bool bD, .slice qD nD kD]) aggR rfl rfl (ev (v := .pointer (some ⟨g4, 0, none⟩)) rfl rfl) (fun j v hj => hS.cellAt (box_cells (cs := [.bool bC, .slice qC nC kC, .bool bD, .slice qD nD kD]) hg4 j v hj)) rfl ?_)
      obtain ⟨s23, hs23⟩ : ∃ z : Int, Hid ((u : Int).sign * (v : Int).sign = z) := ⟨_, rfl⟩
      refine ml rfl (ocall rfl rfl Try.call12 rfl (wssign ((hzC.at hS).mono (by omega)) ((hzD.at hS).mono (by omega)) (hv) hs23) (args1 (ev rfl rfl)) ?_)
      rintro _ w47 ⟨_, _, rfl, ⟨rfl, rfl⟩, hN⟩
      refine ⟨_, rfl, ?_⟩
      replace hS := hS.news hN; clear hN
      refine ml rfl (obin (u := .int .i64 s23) (v := .int .i64 0) (z := .bool false) rfl rfl (ev (v := .int .i64 s23) rfl rfl) (evc (v := .int .i64 0)) (bin_eql (rs_ne hs23 hu hv)) ?_)
      refine ml rfl (omove (v := .bool false) rfl rfl (ev (v := .bool false) rfl rfl) ?_)
      refine mlOn (e := 127) rfl rfl rfl rfl (omove (v := .int .i64 0) rfl rfl (ev (v := .int .i64 0) rfl rfl) ?_)
      refine mlOn (e := 127) rfl rfl rfl rfl (obin (u := .int .i64 0) (v := .int .i64 0) (z := .bool true) rfl rfl (ev (v := .int .i64 0) rfl rfl) (evc (v := .int .i64 0)) (bin_eql (by decide)) ?_)
      refine mlOn (e := 127) rfl rfl rfl rfl (omove (v := .bool true) rfl rfl (ev (v := .bool true) rfl rfl) ?_)
      refine mlOn (e := 130) rfl rfl rfl rfl (oload (vs := [.bool (ng z21), .slice p21 n21 c21, .bool (ng z22), .slice p22 n22 c22]) aggR hS 0 rfl rfl (ev rfl rfl) rfl rfl rfl ?_)
      refine mlOn (e := 130) rfl rfl rfl rfl (oload (vs := [.bool (ng z15), .slice p15 n15 c15, .bool (ng z16), .slice p16 n16 c16]) aggR hS 8 rfl rfl (ev rfl rfl) rfl rfl rfl ?_)
      obtain ⟨hq1, hq2⟩ := field_quo hy hv hu hz5.out hz6.out hz21.out hz22.out
      refine mlOn (e := 130) rfl rfl rfl rfl (ocall rfl rfl Try.call13 rfl (wlsame5 (x := z21) (y := z22) (u := z15) (v := z16) (hS.slm 1 rfl) (hS.slm 2 rfl) (hS.slm 9 rfl) (hS.slm 10 rfl) (hq1.trans hz15.out) (hq2.trans hz16.out)) (args2 (ev rfl rfl) (ev rfl rfl)) ?_)
      rintro _ w48 ⟨_, _, rfl, ⟨rfl, rfl⟩, hN⟩
      refine ⟨_, rfl, ?_⟩
      replace hS := hS.news hN; clear hN
      refine mlOn (e := 127) rfl rfl rfl rfl (opick (b := true) (v := .bool true) rfl rfl (ev (v := .bool true) rfl rfl) (ev (v := .bool true) rfl rfl) ?_)
      refine ml rfl (opick (b := false) (v := .bool true) rfl rfl (ev (v := .bool false) rfl rfl) (ev (v := .bool true) rfl rfl) ?_)
      refine ml rfl (omove (v := .bool true) rfl rfl (ev (v := .bool true) rfl rfl) ?_)
      refine mlOn (e := 136) rfl rfl rfl rfl (ocall rfl rfl Try.call15 rfl (wllives5) (args0 ) ?_)
      rintro _ w49 ⟨_, _, rfl, ⟨rfl, rfl⟩, hN⟩
      refine ⟨_, rfl, ?_⟩
      replace hS := hS.news hN; clear hN
      refine ml rfl (opick (b := true) (v := .bool true) rfl rfl (ev (v := .bool true) rfl rfl) (ev (v := .bool true) rfl rfl) ?_)
      refine ml rfl (oassign (v := .bool true) rfl rfl (ev (v := .bool true) rfl rfl) ?_)
      refine mnil ?_
      refine thenN ?_
      refine wleave ?_
      obtain hS := (show Sep w [.obj D (.deferred (some [])), .blk g44 [.bool (ng z21), .slice p21 n21 c21, .bool (ng z22), .slice p22 n22 c22] 27, .rowm p21 n21 c21 (lim z21.natAbs), .rowm p22 n22 c22 (lim z22.natAbs), .blk g39 [.bool (ng z15), .slice p19 n19 c19, .bool (ng z16), .slice p20 n20 c20] 27, .rowm p19 n19 c19 (lim z15.natAbs), .rowm p20 n20 c20 (lim z16.natAbs), .blk g35 [.slice pL ((m1 + 1)) cL] 40, .blk g30 [.bool (ng z15), .slice p15 n15 c15, .bool (ng z16), .slice p16 n16 c16] 27, .rowm p15 n15 c15 (lim z15.natAbs), .rowm p16 n16 c16 (lim z16.natAbs), .blk g26 [.bool (ng z13), .slice p13 n13 c13, .bool (ng z14), .slice p14 n14 c14] 27, .rowm p13 n13 c13 (lim z13.natAbs), .rowm p14 n14 c14 (lim z14.natAbs), .blk g22 [.bool (ng z11), .slice p11 n11 c11, .bool (ng z12), .slice p12 n12 c12] 27, .rowm p11 n11 c11 (lim z11.natAbs), .rowm p12 n12 c12 (lim z12.natAbs), .blk g18 [.bool (ng z9), .slice p9 n9 c9, .bool (ng z10), .slice p10 n10 c10] 27, .rowm p9 n9 c9 (lim z9.natAbs), .rowm p10 n10 c10 (lim z10.natAbs), .blk g14 [.bool (ng z7), .slice p7 n7 c7, .bool (ng z8), .slice p8 n8 c8] 27, .rowm p7 n7 c7 (lim z7.natAbs), .rowm p8 n8 c8 (lim z8.natAbs), .blk g10 [.bool (ng z5), .slice p5 n5 c5, .bool (ng z6), .slice p6 n6 c6] 27, .rowm p5 n5 c5 (lim z5.natAbs), .rowm p6 n6 c6 (lim z6.natAbs), .blk g6 [.bool (ng z3), .slice p3 n3 c3, .bool (ng z4), .slice p4 n4 c4] 27, .rowm p3 n3 c3 (lim z3.natAbs), .rowm p4 n4 c4 (lim z4.natAbs), .blk g2 [.bool (ng z1), .slice p1 n1 c1, .bool (ng z2), .slice p2 n2 c2] 27, .rowm p1 n1 c1 (lim z1.natAbs), .rowm p2 n2 c2 (lim z2.natAbs)] w49 from hS.pick [6, 0, 1, 2, 3, 4, 5, 7, 8, 9, 10, 11, 12, 13, 14, 15, 16, 17, 18, 19, 20, 21, 22, 23, 24, 25, 26, 27, 28, 29, 30, 31] (by decide) rfl)
      refine mret1 Try.results8 hS (fun _ => (tellT (v := .bool true) rfl rfl)) (fun w9 hS => ?_)
      exact hE _ hS.below

set_option maxRecDepth 100000 in
set_option maxHeartbeats 16000000 in
theorem rfield_w {x y u v r s : Int} {w : World} {bA bB : Bool} {qA qB : Option Addr} {nA kA nB kB : Nat} {bC bD : Bool} {qC qD : Option Addr} {nC kC nD kD : Nat} {bE bF : Bool} {qE qF : Option Addr} {nE kE nF kF : Nat} (hzA : Zr w bA qA nA kA x 1048576) (hzB : Zr w bB qB nB kB y 1048576) (hzC : Zr w bC qC nC kC u 1048576) (hzD : Zr w bD qD nD kD v 1048576) (hzE : Zr w bE qE nE kE r 1048576) (hzF : Zr w bF qF nF kF s 1048576) :
    Calls Try.prog 8 #[.agg #[.bool bA, .slice qA nA kA, .bool bB, .slice qB nB kB], .agg #[.bool bC, .slice qC nC kC, .bool bD, .slice qD nD kD], .agg #[.bool bE, .slice qE nE kE, .bool bF, .slice qF nF kF]] w (Ret (Is (.bool true)) w) := by
  have hS := Sep.init w
  refine wentM Try.func8 rfl (n := 139) rfl rfl ?_
  refine wseq ?_
  refine wreg ?_
  refine wl rfl (obox [.bool bA, .slice qA nA kA, .bool bB, .slice qB nB kB] hS rfl rfl (ev (v := .agg #[.bool bA, .slice qA nA kA, .bool bB, .slice qB nB kB]) rfl rfl) rfl ?_)
  clear hS; intro g1 w2 hS
  refine wl rfl (obox [.bool bC, .slice qC nC kC, .bool bD, .slice qD nD kD] hS rfl rfl (ev (v := .agg #[.bool bC, .slice qC nC kC, .bool bD, .slice qD nD kD]) rfl rfl) rfl ?_)
  clear hS; intro g3 w4 hS
  refine wl rfl (obox [.bool bE, .slice qE nE kE, .bool bF, .slice qF nF kF] hS rfl rfl (ev (v := .agg #[.bool bE, .slice qE nE kE, .bool bF, .slice qF nF kF]) rfl rfl) rfl ?_)
  clear hS; intro g5 w6 hS
  refine wl rfl (oassign (v := .bool false) rfl rfl (evc (v := .bool false)) ?_)
  refine wnil ?_
  refine thenN ?_
  refine wseq ?_
  by_cases hy : y = 0
  ·
    by_cases hv : v = 0
    ·
      by_cases hs : s = 0
      ·
        have hk1 : Wd 1 2 := Wd.i64 (by omega) (by omega)
        have hk2 : Wd 1 2 := Wd.i64 (by omega) (by omega)
        have hk3 : Wd 1 2 := Wd.i64 (by omega) (by omega)
        have hk4 : Wd 1 2 := Wd.i64 (by omega) (by omega)
        have hk5 : Wd 1 2 := Wd.i64 (by omega) (by omega)
        have hk6 : Wd 1 2 := Wd.i64 (by omega) (by omega)
        refine wstage 6 [28, 29, 30, 31, 32, 33] [[], [0], [], [2, 0, 1], [], [4, 0, 1, 2, 3]] [[], [], [], [], [], []] [] [] (fun i9 => ([fun _ => Is (.agg #[.bool bA, .slice qA nA kA, .bool bB, .slice qB nB kB]), fun _ => Rrt 1 1, fun _ => Is (.agg #[.bool bC, .slice qC nC kC, .bool bD, .slice qD nD kD]), fun _ => Rrt 1 1, fun _ => Is (.agg #[.bool bE, .slice qE nE kE, .bool bF, .slice qF nF kF]), fun _ => Rrt 1 1] : List (List Value → Tell)).getD i9 (fun _ _ _ => False)) (heldNil) (fun d _ _ _ _ h => (by cases d <;> exact h)) (by kernel_rfl) (by kernel_rfl) (by kernel_rfl) hS ?_ ?_
        ·
          refine stepsCons rfl ?_ ?_
          · intro Q f' w' ρ S ho hT hS hB
            exact .inl ⟨want_none rfl, oload (vs := [.bool bA, .slice qA nA kA, .bool bB, .slice qB nB kB]) aggR hS 2 rfl rfl (ev rfl (ho 3 rfl)) rfl rfl rfl ⟨_, _, rfl, isI, New.same _⟩⟩
          refine stepsCons rfl ?_ ?_
          · intro Q f' w' ρ S ho hT hS hB
            obtain ⟨hv0, hr0⟩ := (hT 0 28 rfl rfl : (Is (.agg #[.bool bA, .slice qA nA kA, .bool bB, .slice qB nB kB])) (f' 28) (ρ 0))
            obtain hS := hS.flat1 hr0
            refine .inl ⟨want_none rfl, ocall rfl rfl Try.call27 rfl (wlsome0 ((hzB.at hS).mono (by omega)) (hy)) (args1 (ev rfl hv0)) ?_⟩
            rintro _ w9 ⟨_, _, rfl, hTT, hN⟩
            exact ⟨_, rfl, _, _, rfl, hTT, hN⟩
          refine stepsCons rfl ?_ ?_
          · intro Q f' w' ρ S ho hT hS hB
            exact .inl ⟨want_none rfl, oload (vs := [.bool bC, .slice qC nC kC, .bool bD, .slice qD nD kD]) aggR hS 1 rfl rfl (ev rfl (ho 4 rfl)) rfl rfl rfl ⟨_, _, rfl, isI, New.same _⟩⟩
          refine stepsCons rfl ?_ ?_
          · intro Q f' w' ρ S ho hT hS hB
            obtain ⟨hv2, hr2⟩ := (hT 2 30 rfl rfl : (Is (.agg #[.bool bC, .slice qC nC kC, .bool bD, .slice qD nD kD])) (f' 30) (ρ 2))
            obtain hS := hS.flat1 hr2
            refine .inl ⟨want_none rfl, ocall rfl rfl Try.call27 rfl (wlsome0 ((hzD.at hS).mono (by omega)) (hv)) (args1 (ev rfl hv2)) ?_⟩
            rintro _ w9 ⟨_, _, rfl, hTT, hN⟩
            exact ⟨_, rfl, _, _, rfl, hTT, hN⟩
          refine stepsCons rfl ?_ ?_
          · intro Q f' w' ρ S ho hT hS hB
            exact .inl ⟨want_none rfl, oload (vs := [.bool bE, .slice qE nE kE, .bool bF, .slice qF nF kF]) aggR hS 0 rfl rfl (ev rfl (ho 5 rfl)) rfl rfl rfl ⟨_, _, rfl, isI, New.same _⟩⟩
          refine stepsCons rfl ?_ ?_
          · intro Q f' w' ρ S ho hT hS hB
            obtain ⟨hv4, hr4⟩ := (hT 4 32 rfl rfl : (Is (.agg #[.bool bE, .slice qE nE kE, .bool bF, .slice qF nF kF])) (f' 32) (ρ 4))
            obtain hS := hS.flat1 hr4
            refine .inl ⟨want_none rfl, ocall rfl rfl Try.call27 rfl (wlsome0 ((hzF.at hS).mono (by omega)) (hs)) (args1 (ev rfl hv4)) ?_⟩
            rintro _ w9 ⟨_, _, rfl, hTT, hN⟩
            exact ⟨_, rfl, _, _, rfl, hTT, hN⟩
          exact stepsNil
        ·
          intro vs ρ w7 f' hf hT hS
          obtain ⟨hv0, hr0⟩ := (hT 0 (by decide) : (Is (.agg #[.bool bA, .slice qA nA kA, .bool bB, .slice qB nB kB])) (vs 0) (ρ 0))
          obtain ⟨p1, n1, c1, p2, n2, c2, hv1, hr1⟩ := (hT 1 (by decide) : (Rrt 1 1) (vs 1) (ρ 1))
          obtain ⟨hv2, hr2⟩ := (hT 2 (by decide) : (Is (.agg #[.bool bC, .slice qC nC kC, .bool bD, .slice qD nD kD])) (vs 2) (ρ 2))
          obtain ⟨p3, n3, c3, p4, n4, c4, hv3, hr3⟩ := (hT 3 (by decide) : (Rrt 1 1) (vs 3) (ρ 3))
          obtain ⟨hv4, hr4⟩ := (hT 4 (by decide) : (Is (.agg #[.bool bE, .slice qE nE kE, .bool bF, .slice qF nF kF])) (vs 4) (ρ 4))
          obtain ⟨p5, n5, c5, p6, n6, c6, hv5, hr5⟩ := (hT 5 (by decide) : (Rrt 1 1) (vs 5) (ρ 5))
          simp only [pool, if_true, hr0, hr1, hr2, hr3, hr4, hr5, List.nil_append, List.cons_append, List.append_nil] at hS
          simp only [layf, hv0, hv1, hv2, hv3, hv4, hv5] at hf
          subst hf; clear hT hv0 hv1 hv2 hv3 hv4 hv5 hr0 hr1 hr2 hr3 hr4 hr5
          refine wlate 6 rfl (by kernel_rfl) (ostore [.bool (ng 1), .slice p1 n1 c1, .bool (ng 1), .slice p2 n2 c2] [.bool (ng 1), .slice p1 n1 c1, .bool (ng 1), .slice p2 n2 c2] Try.sizeOf27 hS 8 rfl rfl (ev rfl rfl) (ev (v := .agg #[.bool (ng 1), .slice p1 n1 c1, .bool (ng 1), .slice p2 n2 c2]) rfl rfl) rfl rfl rfl rfl rfl rfl ?_)
          clear hS; intro w8 hS
          refine ⟨heldNil, ?_⟩
          refine wlate 7 rfl (by kernel_rfl) (ostore [.bool (ng 1), .slice p3 n3 c3, .bool (ng 1), .slice p4 n4 c4] [.bool (ng 1), .slice p3 n3 c3, .bool (ng 1), .slice p4 n4 c4] Try.sizeOf27 hS 7 rfl rfl (ev rfl rfl) (ev (v := .agg #[.bool (ng 1), .slice p3 n3 c3, .bool (ng 1), .slice p4 n4 c4]) rfl rfl) rfl rfl rfl rfl rfl rfl ?_)
          clear hS; intro w9 hS
          refine ⟨heldNil, ?_⟩
          refine wlate 8 rfl (by kernel_rfl) (ostore [.bool (ng 1), .slice p5 n5 c5, .bool (ng 1), .slice p6 n6 c6] [.bool (ng 1), .slice p5 n5 c5, .bool (ng 1), .slice p6 n6 c6] Try.sizeOf27 hS 6 rfl rfl (ev rfl rfl) (ev (v := .agg #[.bool (ng 1), .slice p5 n5 c5, .bool (ng 1), .slice p6 n6 c6]) rfl rfl) rfl rfl rfl rfl rfl rfl ?_)
          clear hS; intro w10 hS
          refine ⟨heldNil, ?_⟩
          refine wdone rfl ?_
          refine thenN ?_
          exact field_rest rfl ⟨rfl, rfl, rfl, trivial⟩ (hS.blkAt 8 rfl) (hS.blkAt 7 rfl) (hS.blkAt 6 rfl) ((((hS.slm 4 rfl).zr hk1).mono (by omega))) ((((hS.slm 5 rfl).zr hk2).mono (by omega))) ((((hS.slm 2 rfl).zr hk3).mono (by omega))) ((((hS.slm 3 rfl).zr hk4).mono (by omega))) ((((hS.slm 0 rfl).zr hk5).mono (by omega))) ((((hS.slm 1 rfl).zr hk6).mono (by omega))) (by first | assumption | decide) (by first | assumption | decide) (by first | assumption | decide) (fun w9 hb => ⟨_, _, rfl, isI, New.nil (hS.below.trans (hb.mono hS.below.size))⟩)
      ·
        have hk1 : Wd 1 2 := Wd.i64 (by omega) (by omega)
        have hk2 : Wd 1 2 := Wd.i64 (by omega) (by omega)
        have hk3 : Wd 1 2 := Wd.i64 (by omega) (by omega)
        have hk4 : Wd 1 2 := Wd.i64 (by omega) (by omega)
        refine wstage 6 [28, 29, 30, 31, 32, 33] [[], [0], [], [2, 0, 1], [], [4, 0, 1, 2, 3]] [[], [], [], [], [], []] [] [] (fun i9 => ([fun _ => Is (.agg #[.bool bA, .slice qA nA kA, .bool bB, .slice qB nB kB]), fun _ => Rrt 1 1, fun _ => Is (.agg #[.bool bC, .slice qC nC kC, .bool bD, .slice qD nD kD]), fun _ => Rrt 1 1, fun _ => Is (.agg #[.bool bE, .slice qE nE kE, .bool bF, .slice qF nF kF]), fun _ => Is (.agg #[.bool bE, .slice qE nE kE, .bool bF, .slice qF nF kF])] : List (List Value → Tell)).getD i9 (fun _ _ _ => False)) (heldNil) (fun d _ _ _ _ h => (by cases d <;> exact h)) (by kernel_rfl) (by kernel_rfl) (by kernel_rfl) hS ?_ ?_
        ·
          refine stepsCons rfl ?_ ?_
          · intro Q f' w' ρ S ho hT hS hB
            exact .inl ⟨want_none rfl, oload (vs := [.bool bA, .slice qA nA kA, .bool bB, .slice qB nB kB]) aggR hS 2 rfl rfl (ev rfl (ho 3 rfl)) rfl rfl rfl ⟨_, _, rfl, isI, New.same _⟩⟩
          refine stepsCons rfl ?_ ?_
          · intro Q f' w' ρ S ho hT hS hB
            obtain ⟨hv0, hr0⟩ := (hT 0 28 rfl rfl : (Is (.agg #[.bool bA, .slice qA nA kA, .bool bB, .slice qB nB kB])) (f' 28) (ρ 0))
            obtain hS := hS.flat1 hr0
            refine .inl ⟨want_none rfl, ocall rfl rfl Try.call27 rfl (wlsome0 ((hzB.at hS).mono (by omega)) (hy)) (args1 (ev rfl hv0)) ?_⟩
            rintro _ w9 ⟨_, _, rfl, hTT, hN⟩
            exact ⟨_, rfl, _, _, rfl, hTT, hN⟩
          refine stepsCons rfl ?_ ?_
          · intro Q f' w' ρ S ho hT hS hB
            exact .inl ⟨want_none rfl, oload (vs := [.bool bC, .slice qC nC kC, .bool bD, .slice qD nD kD]) aggR hS 1 rfl rfl (ev rfl (ho 4 rfl)) rfl rfl rfl ⟨_, _, rfl, isI, New.same _⟩⟩
          refine stepsCons rfl ?_ ?_
          · intro Q f' w' ρ S ho hT hS hB
            obtain ⟨hv2, hr2⟩ := (hT 2 30 rfl rfl : (Is (.agg #[.bool bC, .slice qC nC kC, .bool bD, .slice qD nD kD])) (f' 30) (ρ 2))
            obtain hS := hS.flat1 hr2
            refine .inl ⟨want_none rfl, ocall rfl rfl Try.call27 rfl (wlsome0 ((hzD.at hS).mono (by omega)) (hv)) (args1 (ev rfl hv2)) ?_⟩
            rintro _ w9 ⟨_, _, rfl, hTT, hN⟩
            exact ⟨_, rfl, _, _, rfl, hTT, hN⟩
          refine stepsCons rfl ?_ ?_
          · intro Q f' w' ρ S ho hT hS hB
            exact .inl ⟨want_none rfl, oload (vs := [.bool bE, .slice qE nE kE, .bool bF, .slice qF nF kF]) aggR hS 0 rfl rfl (ev rfl (ho 5 rfl)) rfl rfl rfl ⟨_, _, rfl, isI, New.same _⟩⟩
          refine stepsCons rfl ?_ ?_
          · intro Q f' w' ρ S ho hT hS hB
            obtain ⟨hv4, hr4⟩ := (hT 4 32 rfl rfl : (Is (.agg #[.bool bE, .slice qE nE kE, .bool bF, .slice qF nF kF])) (f' 32) (ρ 4))
            obtain hS := hS.flat1 hr4
            refine .inl ⟨want_none rfl, ocall rfl rfl Try.call27 rfl (wlsome ((hzF.at hS).mono (by omega)) (hs)) (args1 (ev rfl hv4)) ?_⟩
            rintro _ w9 ⟨_, _, rfl, hTT, hN⟩
            exact ⟨_, rfl, _, _, rfl, hTT, hN⟩
          exact stepsNil
        ·
          intro vs ρ w7 f' hf hT hS
          obtain ⟨hv0, hr0⟩ := (hT 0 (by decide) : (Is (.agg #[.bool bA, .slice qA nA kA, .bool bB, .slice qB nB kB])) (vs 0) (ρ 0))
          obtain ⟨p1, n1, c1, p2, n2, c2, hv1, hr1⟩ := (hT 1 (by decide) : (Rrt 1 1) (vs 1) (ρ 1))
          obtain ⟨hv2, hr2⟩ := (hT 2 (by decide) : (Is (.agg #[.bool bC, .slice qC nC kC, .bool bD, .slice qD nD kD])) (vs 2) (ρ 2))
          obtain ⟨p3, n3, c3, p4, n4, c4, hv3, hr3⟩ := (hT 3 (by decide) : (Rrt 1 1) (vs 3) (ρ 3))
          obtain ⟨hv4, hr4⟩ := (hT 4 (by decide) : (Is (.agg #[.bool bE, .slice qE nE kE, .bool bF, .slice qF nF kF])) (vs 4) (ρ 4))
          obtain ⟨hv5, hr5⟩ := (hT 5 (by decide) : (Is (.agg #[.bool bE, .slice qE nE kE, .bool bF, .slice qF nF kF])) (vs 5) (ρ 5))
          simp only [pool, if_true, hr0, hr1, hr2, hr3, hr4, hr5, List.nil_append, List.cons_append, List.append_nil] at hS
          simp only [layf, hv0, hv1, hv2, hv3, hv4, hv5] at hf
          subst hf; clear hT hv0 hv1 hv2 hv3 hv4 hv5 hr0 hr1 hr2 hr3 hr4 hr5
          refine wlate 6 rfl (by kernel_rfl) (ostore [.bool (ng 1), .slice p1 n1 c1, .bool (ng 1), .slice p2 n2 c2] [.bool (ng 1), .slice p1 n1 c1, .bool (ng 1), .slice p2 n2 c2] Try.sizeOf27 hS 6 rfl rfl (ev rfl rfl) (ev (v := .agg #[.bool (ng 1), .slice p1 n1 c1, .bool (ng 1), .slice p2 n2 c2]) rfl rfl) rfl rfl rfl rfl rfl rfl ?_)
          clear hS; intro w8 hS
          refine ⟨heldNil, ?_⟩
          refine wlate 7 rfl (by kernel_rfl) (ostore [.bool (ng 1), .slice p3 n3 c3, .bool (ng 1), .slice p4 n4 c4] [.bool (ng 1), .slice p3 n3 c3, .bool (ng 1), .slice p4 n4 c4] Try.sizeOf27 hS 5 rfl rfl (ev rfl rfl) (ev (v := .agg #[.bool (ng 1), .slice p3 n3 c3, .bool (ng 1), .slice p4 n4 c4]) rfl rfl) rfl rfl rfl rfl rfl rfl ?_)
          clear hS; intro w9 hS
          refine ⟨heldNil, ?_⟩
          refine wlate 8 rfl (by kernel_rfl) (ostore [.bool bE, .slice qE nE kE, .bool bF, .slice qF nF kF] [.bool bE, .slice qE nE kE, .bool bF, .slice qF nF kF] Try.sizeOf27 hS 4 rfl rfl (ev rfl rfl) (ev (v := .agg #[.bool bE, .slice qE nE kE, .bool bF, .slice qF nF kF]) rfl rfl) rfl rfl rfl rfl rfl rfl ?_)
          clear hS; intro w10 hS
          refine ⟨heldNil, ?_⟩
          refine wdone rfl ?_
          refine thenN ?_
          exact field_rest rfl ⟨rfl, rfl, rfl, trivial⟩ (hS.blkAt 6 rfl) (hS.blkAt 5 rfl) (hS.blkAt 4 rfl) ((((hS.slm 2 rfl).zr hk1).mono (by omega))) ((((hS.slm 3 rfl).zr hk2).mono (by omega))) ((((hS.slm 0 rfl).zr hk3).mono (by omega))) ((((hS.slm 1 rfl).zr hk4).mono (by omega))) (((hzE.at hS).mono (by omega))) (((hzF.at hS).mono (by omega))) (by first | assumption | decide) (by first | assumption | decide) (by first | assumption | decide) (fun w9 hb => ⟨_, _, rfl, isI, New.nil (hS.below.trans (hb.mono hS.below.size))⟩)
    ·
      by_cases hs : s = 0
      ·
        have hk1 : Wd 1 2 := Wd.i64 (by omega) (by omega)
        have hk2 : Wd 1 2 := Wd.i64 (by omega) (by omega)
        have hk3 : Wd 1 2 := Wd.i64 (by omega) (by omega)
        have hk4 : Wd 1 2 := Wd.i64 (by omega) (by omega)
        refine wstage 6 [28, 29, 30, 31, 32, 33] [[], [0], [], [2, 0, 1], [], [4, 0, 1, 2, 3]] [[], [], [], [], [], []] [] [] (fun i9 => ([fun _ => Is (.agg #[.bool bA, .slice qA nA kA, .bool bB, .slice qB nB kB]), fun _ => Rrt 1 1, fun _ => Is (.agg #[.bool bC, .slice qC nC kC, .bool bD, .slice qD nD kD]), fun _ => Is (.agg #[.bool bC, .slice qC nC kC, .bool bD, .slice qD nD kD]), fun _ => Is (.agg #[.bool bE, .slice qE nE kE, .bool bF, .slice qF nF kF]), fun _ => Rrt 1 1] : List (List Value → Tell)).getD i9 (fun _ _ _ => False)) (heldNil) (fun d _ _ _ _ h => (by cases d <;> exact h)) (by kernel_rfl) (by kernel_rfl) (by kernel_rfl) hS ?_ ?_
        ·
          refine stepsCons rfl ?_ ?_
          · intro Q f' w' ρ S ho hT hS hB
            exact .inl ⟨want_none rfl, oload (vs := [.bool bA, .slice qA nA kA, .bool bB, .slice qB nB kB]) aggR hS 2 rfl rfl (ev rfl (ho 3 rfl)) rfl rfl rfl ⟨_, _, rfl, isI, New.same _⟩⟩
          refine stepsCons rfl ?_ ?_
          · intro Q f' w' ρ S ho hT hS hB
            obtain ⟨hv0, hr0⟩ := (hT 0 28 rfl rfl : (Is (.agg #[.bool bA, .slice qA nA kA, .bool bB, .slice qB nB kB])) (f' 28) (ρ 0))
            obtain hS := hS.flat1 hr0
            refine .inl ⟨want_none rfl, ocall rfl rfl Try.call27 rfl (wlsome0 ((hzB.at hS).mono (by omega)) (hy)) (args1 (ev rfl hv0)) ?_⟩
            rintro _ w9 ⟨_, _, rfl, hTT, hN⟩
            exact ⟨_, rfl, _, _, rfl, hTT, hN⟩
          refine stepsCons rfl ?_ ?_
          · intro Q f' w' ρ S ho hT hS hB
            exact .inl ⟨want_none rfl, oload (vs := [.bool bC, .slice qC nC kC, .bool bD, .slice qD nD kD]) aggR hS 1 rfl rfl (ev rfl (ho 4 rfl)) rfl rfl rfl ⟨_, _, rfl, isI, New.same _⟩⟩
          refine stepsCons rfl ?_ ?_
          · intro Q f' w' ρ S ho hT hS hB
            obtain ⟨hv2, hr2⟩ := (hT 2 30 rfl rfl : (Is (.agg #[.bool bC, .slice qC nC kC, .bool bD, .slice qD nD kD])) (f' 30) (ρ 2))
            obtain hS := hS.flat1 hr2
            refine .inl ⟨want_none rfl, ocall rfl rfl Try.call27 rfl (wlsome ((hzD.at hS).mono (by omega)) (hv)) (args1 (ev rfl hv2)) ?_⟩
            rintro _ w9 ⟨_, _, rfl, hTT, hN⟩
            exact ⟨_, rfl, _, _, rfl, hTT, hN⟩
          refine stepsCons rfl ?_ ?_
          · intro Q f' w' ρ S ho hT hS hB
            exact .inl ⟨want_none rfl, oload (vs := [.bool bE, .slice qE nE kE, .bool bF, .slice qF nF kF]) aggR hS 0 rfl rfl (ev rfl (ho 5 rfl)) rfl rfl rfl ⟨_, _, rfl, isI, New.same _⟩⟩
          refine stepsCons rfl ?_ ?_
          · intro Q f' w' ρ S ho hT hS hB
            obtain ⟨hv4, hr4⟩ := (hT 4 32 rfl rfl : (Is (.agg #[.bool bE, .slice qE nE kE, .bool bF, .slice qF nF kF])) (f' 32) (ρ 4))
            obtain hS := hS.flat1 hr4
            refine .inl ⟨want_none rfl, ocall rfl rfl Try.call27 rfl (wlsome0 ((hzF.at hS).mono (by omega)) (hs)) (args1 (ev rfl hv4)) ?_⟩
            rintro _ w9 ⟨_, _, rfl, hTT, hN⟩
            exact ⟨_, rfl, _, _, rfl, hTT, hN⟩
          exact stepsNil
        ·
          intro vs ρ w7 f' hf hT hS
          obtain ⟨hv0, hr0⟩ := (hT 0 (by decide) : (Is (.agg #[.bool bA, .slice qA nA kA, .bool bB, .slice qB nB kB])) (vs 0) (ρ 0))
          obtain ⟨p1, n1, c1, p2, n2, c2, hv1, hr1⟩ := (hT 1 (by decide) : (Rrt 1 1) (vs 1) (ρ 1))
          obtain ⟨hv2, hr2⟩ := (hT 2 (by decide) : (Is (.agg #[.bool bC, .slice qC nC kC, .bool bD, .slice qD nD kD])) (vs 2) (ρ 2))
          obtain ⟨hv3, hr3⟩ := (hT 3 (by decide) : (Is (.agg #[.bool bC, .slice qC nC kC, .bool bD, .slice qD nD kD])) (vs 3) (ρ 3))
          obtain ⟨hv4, hr4⟩ := (hT 4 (by decide) : (Is (.agg #[.bool bE, .slice qE nE kE, .bool bF, .slice qF nF kF])) (vs 4) (ρ 4))
          obtain ⟨p3, n3, c3, p4, n4, c4, hv5, hr5⟩ := (hT 5 (by decide) : (Rrt 1 1) (vs 5) (ρ 5))
          simp only [pool, if_true, hr0, hr1, hr2, hr3, hr4, hr5, List.nil_append, List.cons_append, List.append_nil] at hS
          simp only [layf, hv0, hv1, hv2, hv3, hv4, hv5] at hf
          subst hf; clear hT hv0 hv1 hv2 hv3 hv4 hv5 hr0 hr1 hr2 hr3 hr4 hr5
          refine wlate 6 rfl (by kernel_rfl) (ostore [.bool (ng 1), .slice p1 n1 c1, .bool (ng 1), .slice p2 n2 c2] [.bool (ng 1), .slice p1 n1 c1, .bool (ng 1), .slice p2 n2 c2] Try.sizeOf27 hS 6 rfl rfl (ev rfl rfl) (ev (v := .agg #[.bool (ng 1), .slice p1 n1 c1, .bool (ng 1), .slice p2 n2 c2]) rfl rfl) rfl rfl rfl rfl rfl rfl ?_)
          clear hS; intro w8 hS
          refine ⟨heldNil, ?_⟩
          refine wlate 7 rfl (by kernel_rfl) (ostore [.bool bC, .slice qC nC kC, .bool bD, .slice qD nD kD] [.bool bC, .slice qC nC kC, .bool bD, .slice qD nD kD] Try.sizeOf27 hS 5 rfl rfl (ev rfl rfl) (ev (v := .agg #[.bool bC, .slice qC nC kC, .bool bD, .slice qD nD kD]) rfl rfl) rfl rfl rfl rfl rfl rfl ?_)
          clear hS; intro w9 hS
          refine ⟨heldNil, ?_⟩
          refine wlate 8 rfl (by kernel_rfl) (ostore [.bool (ng 1), .slice p3 n3 c3, .bool (ng 1), .slice p4 n4 c4] [.bool (ng 1), .slice p3 n3 c3, .bool (ng 1), .slice p4 n4 c4] Try.sizeOf27 hS 4 rfl rfl (ev rfl rfl) (ev (v := .agg #[.bool (ng 1), .slice p3 n3 c3, .bool (ng 1), .slice p4 n4 c4]) rfl rfl) rfl rfl rfl rfl rfl rfl ?_)
          clear hS; intro w10 hS
          refine ⟨heldNil, ?_⟩
          refine wdone rfl ?_
          refine thenN ?_
          exact field_rest rfl ⟨rfl, rfl, rfl, trivial⟩ (hS.blkAt 6 rfl) (hS.blkAt 5 rfl) (hS.blkAt 4 rfl) ((((hS.slm 2 rfl).zr hk1).mono (by omega))) ((((hS.slm 3 rfl).zr hk2).mono (by omega))) (((hzC.at hS).mono (by omega))) (((hzD.at hS).mono (by omega))) ((((hS.slm 0 rfl).zr hk3).mono (by omega))) ((((hS.slm 1 rfl).zr hk4).mono (by omega))) (by first | assumption | decide) (by first | assumption | decide) (by first | assumption | decide) (fun w9 hb => ⟨_, _, rfl, isI, New.nil (hS.below.trans (hb.mono hS.below.size))⟩)
      ·
        have hk1 : Wd 1 2 := Wd.i64 (by omega) (by omega)
        have hk2 : Wd 1 2 := Wd.i64 (by omega) (by omega)
        refine wstage 6 [28, 29, 30, 31, 32, 33] [[], [0], [], [2, 0, 1], [], [4, 0, 1, 2, 3]] [[], [], [], [], [], []] [] [] (fun i9 => ([fun _ => Is (.agg #[.bool bA, .slice qA nA kA, .bool bB, .slice qB nB kB]), fun _ => Rrt 1 1, fun _ => Is (.agg #[.bool bC, .slice qC nC kC, .bool bD, .slice qD nD kD]), fun _ => Is (.agg #[.bool bC, .slice qC nC kC, .bool bD, .slice qD nD kD]), fun _ => Is (.agg #[.bool bE, .slice qE nE kE, .bool bF, .slice qF nF kF]), fun _ => Is (.agg #[.bool bE, .slice qE nE kE, .bool bF, .slice qF nF kF])] : List (List Value → Tell)).getD i9 (fun _ _ _ => False)) (heldNil) (fun d _ _ _ _ h => (by cases d <;> exact h)) (by kernel_rfl) (by kernel_rfl) (by kernel_rfl) hS ?_ ?_
        ·
          refine stepsCons rfl ?_ ?_
          · intro Q f' w' ρ S ho hT hS hB
            exact .inl ⟨want_none rfl, oload (vs := [.bool bA, .slice qA nA kA, .bool bB, .slice qB nB kB]) aggR hS 2 rfl rfl (ev rfl (ho 3 rfl)) rfl rfl rfl ⟨_, _, rfl, isI, New.same _⟩⟩
          refine stepsCons rfl ?_ ?_
          · intro Q f' w' ρ S ho hT hS hB
            obtain ⟨hv0, hr0⟩ := (hT 0 28 rfl rfl : (Is (.agg #[.bool bA, .slice qA nA kA, .bool bB, .slice qB nB kB])) (f' 28) (ρ 0))
            obtain hS := hS.flat1 hr0
            refine .inl ⟨want_none rfl, ocall rfl rfl Try.call27 rfl (wlsome0 ((hzB.at hS).mono (by omega)) (hy)) (args1 (ev rfl hv0)) ?_⟩
            rintro _ w9 ⟨_, _, rfl, hTT, hN⟩
            exact ⟨_, rfl, _, _, rfl, hTT, hN⟩
          refine stepsCons rfl ?_ ?_
          · intro Q f' w' ρ S ho hT hS hB
            exact .inl ⟨want_none rfl, oload (vs := [.bool bC, .slice qC nC kC, .bool bD, .slice qD nD kD]) aggR hS 1 rfl rfl (ev rfl (ho 4 rfl)) rfl rfl rfl ⟨_, _, rfl, isI, New.same _⟩⟩
          refine stepsCons rfl ?_ ?_
          · intro Q f' w' ρ S ho hT hS hB
            obtain ⟨hv2, hr2⟩ := (hT 2 30 rfl rfl : (Is (.agg #[.bool bC, .slice qC nC kC, .bool bD, .slice qD nD kD])) (f' 30) (ρ 2))
            obtain hS := hS.flat1 hr2
            refine .inl ⟨want_none rfl, ocall rfl rfl Try.call27 rfl (wlsome ((hzD.at hS).mono (by omega)) (hv)) (args1 (ev rfl hv2)) ?_⟩
            rintro _ w9 ⟨_, _, rfl, hTT, hN⟩
            exact ⟨_, rfl, _, _, rfl, hTT, hN⟩
          refine stepsCons rfl ?_ ?_
          · intro Q f' w' ρ S ho hT hS hB
            exact .inl ⟨want_none rfl, oload (vs := [.bool bE, .slice qE nE kE, .bool bF, .slice qF nF kF]) aggR hS 0 rfl rfl (ev rfl (ho 5 rfl)) rfl rfl rfl ⟨_, _, rfl, isI, New.same _⟩⟩
          refine stepsCons rfl ?_ ?_
          · intro Q f' w' ρ S ho hT hS hB
            obtain ⟨hv4, hr4⟩ := (hT 4 32 rfl rfl : (Is (.agg #[.bool bE, .slice qE nE kE, .bool bF, .slice qF nF kF])) (f' 32) (ρ 4))
            obtain hS := hS.flat1 hr4
            refine .inl ⟨want_none rfl, ocall rfl rfl Try.call27 rfl (wlsome ((hzF.at hS).mono (by omega)) (hs)) (args1 (ev rfl hv4)) ?_⟩
            rintro _ w9 ⟨_, _, rfl, hTT, hN⟩
            exact ⟨_, rfl, _, _, rfl, hTT, hN⟩
          exact stepsNil
        ·
          intro vs ρ w7 f' hf hT hS
          obtain ⟨hv0, hr0⟩ := (hT 0 (by decide) : (Is (.agg #[.bool bA, .slice qA nA kA, .bool bB, .slice qB nB kB])) (vs 0) (ρ 0))
          obtain ⟨p1, n1, c1, p2, n2, c2, hv1, hr1⟩ := (hT 1 (by decide) : (Rrt 1 1) (vs 1) (ρ 1))
          obtain ⟨hv2, hr2⟩ := (hT 2 (by decide) : (Is (.agg #[.bool bC, .slice qC nC kC, .bool bD, .slice qD nD kD])) (vs 2) (ρ 2))
          obtain ⟨hv3, hr3⟩ := (hT 3 (by decide) : (Is (.agg #[.bool bC, .slice qC nC kC, .bool bD, .slice qD nD kD])) (vs 3) (ρ 3))
          obtain ⟨hv4, hr4⟩ := (hT 4 (by decide) : (Is (.agg #[.bool bE, .slice qE nE kE, .bool bF, .slice qF nF kF])) (vs 4) (ρ 4))
          obtain ⟨hv5, hr5⟩ := (hT 5 (by decide) : (Is (.agg #[.bool bE, .slice qE nE kE, .bool bF, .slice qF nF kF])) (vs 5) (ρ 5))
          simp only [pool, if_true, hr0, hr1, hr2, hr3, hr4, hr5, List.nil_append, List.cons_append, List.append_nil] at hS
          simp only [layf, hv0, hv1, hv2, hv3, hv4, hv5] at hf
          subst hf; clear hT hv0 hv1 hv2 hv3 hv4 hv5 hr0 hr1 hr2 hr3 hr4 hr5
          refine wlate 6 rfl (by kernel_rfl) (ostore [.bool (ng 1), .slice p1 n1 c1, .bool (ng 1), .slice p2 n2 c2] [.bool (ng 1), .slice p1 n1 c1, .bool (ng 1), .slice p2 n2 c2] Try.sizeOf27 hS 4 rfl rfl (ev rfl rfl) (ev (v := .agg #[.bool (ng 1), .slice p1 n1 c1, .bool (ng 1), .slice p2 n2 c2]) rfl rfl) rfl rfl rfl rfl rfl rfl ?_)
          clear hS; intro w8 hS
          refine ⟨heldNil, ?_⟩
          refine wlate 7 rfl (by kernel_rfl) (ostore [.bool bC, .slice qC nC kC, .bool bD, .slice qD nD kD] [.bool bC, .slice qC nC kC, .bool bD, .slice qD nD kD] Try.sizeOf27 hS 3 rfl rfl (ev rfl rfl) (ev (v := .agg #[.bool bC, .slice qC nC kC, .bool bD, .slice qD nD kD]) rfl rfl) rfl rfl rfl rfl rfl rfl ?_)
          clear hS; intro w9 hS
          refine ⟨heldNil, ?_⟩
          refine wlate 8 rfl (by kernel_rfl) (ostore [.bool bE, .slice qE nE kE, .bool bF, .slice qF nF kF] [.bool bE, .slice qE nE kE, .bool bF, .slice qF nF kF] Try.sizeOf27 hS 2 rfl rfl (ev rfl rfl) (ev (v := .agg #[.bool bE, .slice qE nE kE, .bool bF, .slice qF nF kF]) rfl rfl) rfl rfl rfl rfl rfl rfl ?_)
          clear hS; intro w10 hS
          refine ⟨heldNil, ?_⟩
          refine wdone rfl ?_
          refine thenN ?_
          exact field_rest rfl ⟨rfl, rfl, rfl, trivial⟩ (hS.blkAt 4 rfl) (hS.blkAt 3 rfl) (hS.blkAt 2 rfl) ((((hS.slm 0 rfl).zr hk1).mono (by omega))) ((((hS.slm 1 rfl).zr hk2).mono (by omega))) (((hzC.at hS).mono (by omega))) (((hzD.at hS).mono (by omega))) (((hzE.at hS).mono (by omega))) (((hzF.at hS).mono (by omega))) (by first | assumption | decide) (by first | assumption | decide) (by first | assumption | decide) (fun w9 hb => ⟨_, _, rfl, isI, New.nil (hS.below.trans (hb.mono hS.below.size))⟩)
  ·
    by_cases hv : v = 0
    ·
      by_cases hs : s = 0
      ·
        have hk1 : Wd 1 2 := Wd.i64 (by omega) (by omega)
        have hk2 : Wd 1 2 := Wd.i64 (by omega) (by omega)
        have hk3 : Wd 1 2 := Wd.i64 (by omega) (by omega)
        have hk4 : Wd 1 2 := Wd.i64 (by omega) (by omega)
        refine wstage 6 [28, 29, 30, 31, 32, 33] [[], [0], [], [2, 0, 1], [], [4, 0, 1, 2, 3]] [[], [], [], [], [], []] [] [] (fun i9 => ([fun _ => Is (.agg #[.bool bA, .slice qA nA kA, .bool bB, .slice qB nB kB]), fun _ => Is (.agg #[.bool bA, .slice qA nA kA, .bool bB, .slice qB nB kB]), fun _ => Is (.agg #[.bool bC, .slice qC nC kC, .bool bD, .slice qD nD kD]), fun _ => Rrt 1 1, fun _ => Is (.agg #[.bool bE, .slice qE nE kE, .bool bF, .slice qF nF kF]), fun _ => Rrt 1 1] : List (List Value → Tell)).getD i9 (fun _ _ _ => False)) (heldNil) (fun d _ _ _ _ h => (by cases d <;> exact h)) (by kernel_rfl) (by kernel_rfl) (by kernel_rfl) hS ?_ ?_
        ·
          refine stepsCons rfl ?_ ?_
          · intro Q f' w' ρ S ho hT hS hB
            exact .inl ⟨want_none rfl, oload (vs := [.bool bA, .slice qA nA kA, .bool bB, .slice qB nB kB]) aggR hS 2 rfl rfl (ev rfl (ho 3 rfl)) rfl rfl rfl ⟨_, _, rfl, isI, New.same _⟩⟩
          refine stepsCons rfl ?_ ?_
          · intro Q f' w' ρ S ho hT hS hB
            obtain ⟨hv0, hr0⟩ := (hT 0 28 rfl rfl : (Is (.agg #[.bool bA, .slice qA nA kA, .bool bB, .slice qB nB kB])) (f' 28) (ρ 0))
            obtain hS := hS.flat1 hr0
            refine .inl ⟨want_none rfl, ocall rfl rfl Try.call27 rfl (wlsome ((hzB.at hS).mono (by omega)) (hy)) (args1 (ev rfl hv0)) ?_⟩
            rintro _ w9 ⟨_, _, rfl, hTT, hN⟩
            exact ⟨_, rfl, _, _, rfl, hTT, hN⟩
          refine stepsCons rfl ?_ ?_
          · intro Q f' w' ρ S ho hT hS hB
            exact .inl ⟨want_none rfl, oload (vs := [.bool bC, .slice qC nC kC, .bool bD, .slice qD nD kD]) aggR hS 1 rfl rfl (ev rfl (ho 4 rfl)) rfl rfl rfl ⟨_, _, rfl, isI, New.same _⟩⟩
          refine stepsCons rfl ?_ ?_
          · intro Q f' w' ρ S ho hT hS hB
            obtain ⟨hv2, hr2⟩ := (hT 2 30 rfl rfl : (Is (.agg #[.bool bC, .slice qC nC kC, .bool bD, .slice qD nD kD])) (f' 30) (ρ 2))
            obtain hS := hS.flat1 hr2
            refine .inl ⟨want_none rfl, ocall rfl rfl Try.call27 rfl (wlsome0 ((hzD.at hS).mono (by omega)) (hv)) (args1 (ev rfl hv2)) ?_⟩
            rintro _ w9 ⟨_, _, rfl, hTT, hN⟩
            exact ⟨_, rfl, _, _, rfl, hTT, hN⟩
          refine stepsCons rfl ?_ ?_
          · intro Q f' w' ρ S ho hT hS hB
            exact .inl ⟨want_none rfl, oload (vs := [.bool bE, .slice qE nE kE, .bool bF, .slice qF nF kF]) aggR hS 0 rfl rfl (ev rfl (ho 5 rfl)) rfl rfl rfl ⟨_, _, rfl, isI, New.same _⟩⟩
          refine stepsCons rfl ?_ ?_
          · intro Q f' w' ρ S ho hT hS hB
            obtain ⟨hv4, hr4⟩ := (hT 4 32 rfl rfl : (Is (.agg #[.bool bE, .slice qE nE kE, .bool bF, .slice qF nF kF])) (f' 32) (ρ 4))
            obtain hS := hS.flat1 hr4
            refine .inl ⟨want_none rfl, ocall rfl rfl Try.call27 rfl (wlsome0 ((hzF.at hS).mono (by omega)) (hs)) (args1 (ev rfl hv4)) ?_⟩
            rintro _ w9 ⟨_, _, rfl, hTT, hN⟩
            exact ⟨_, rfl, _, _, rfl, hTT, hN⟩
          exact stepsNil
        ·
          intro vs ρ w7 f' hf hT hS
          obtain ⟨hv0, hr0⟩ := (hT 0 (by decide) : (Is (.agg #[.bool bA, .slice qA nA kA, .bool bB, .slice qB nB kB])) (vs 0) (ρ 0))
          obtain ⟨hv1, hr1⟩ := (hT 1 (by decide) : (Is (.agg #[.bool bA, .slice qA nA kA, .bool bB, .slice qB nB kB])) (vs 1) (ρ 1))
          obtain ⟨hv2, hr2⟩ := (hT 2 (by decide) : (Is (.agg #[.bool bC, .slice qC nC kC, .bool bD, .slice qD nD kD])) (vs 2) (ρ 2))
          obtain ⟨p1, n1, c1, p2, n2, c2, hv3, hr3⟩ := (hT 3 (by decide) : (Rrt 1 1) (vs 3) (ρ 3))
          obtain ⟨hv4, hr4⟩ := (hT 4 (by decide) : (Is (.agg #[.bool bE, .slice qE nE kE, .bool bF, .slice qF nF kF])) (vs 4) (ρ 4))
          obtain ⟨p3, n3, c3, p4, n4, c4, hv5, hr5⟩ := (hT 5 (by decide) : (Rrt 1 1) (vs 5) (ρ 5))
          simp only [pool, if_true, hr0, hr1, hr2, hr3, hr4, hr5, List.nil_append, List.cons_append, List.append_nil] at hS
          simp only [layf, hv0, hv1, hv2, hv3, hv4, hv5] at hf
          subst hf; clear hT hv0 hv1 hv2 hv3 hv4 hv5 hr0 hr1 hr2 hr3 hr4 hr5
          refine wlate 6 rfl (by kernel_rfl) (ostore [.bool bA, .slice qA nA kA, .bool bB, .slice qB nB kB] [.bool bA, .slice qA nA kA, .bool bB, .slice qB nB kB] Try.sizeOf27 hS 6 rfl rfl (ev rfl rfl) (ev (v := .agg #[.bool bA, .slice qA nA kA, .bool bB, .slice qB nB kB]) rfl rfl) rfl rfl rfl rfl rfl rfl ?_)
          clear hS; intro w8 hS
          refine ⟨heldNil, ?_⟩
          refine wlate 7 rfl (by kernel_rfl) (ostore [.bool (ng 1), .slice p1 n1 c1, .bool (ng 1), .slice p2 n2 c2] [.bool (ng 1), .slice p1 n1 c1, .bool (ng 1), .slice p2 n2 c2] Try.sizeOf27 hS 5 rfl rfl (ev rfl rfl) (ev (v := .agg #[.bool (ng 1), .slice p1 n1 c1, .bool (ng 1), .slice p2 n2 c2]) rfl rfl) rfl rfl rfl rfl rfl rfl ?_)
          clear hS; intro w9 hS
          refine ⟨heldNil, ?_⟩
          refine wlate 8 rfl (by kernel_rfl) (ostore [.bool (ng 1), .slice p3 n3 c3, .bool (ng 1), .slice p4 n4 c4] [.bool (ng 1), .slice p3 n3 c3, .bool (ng 1), .slice p4 n4 c4] Try.sizeOf27 hS 4 rfl rfl (ev rfl rfl) (ev (v := .agg #[.bool (ng 1), .slice p3 n3 c3, .bool (ng 1), .slice p4 n4 c4]) rfl rfl) rfl rfl rfl rfl rfl rfl ?_)
          clear hS; intro w10 hS
          refine ⟨heldNil, ?_⟩
          refine wdone rfl ?_
          refine thenN ?_
          exact field_rest rfl ⟨rfl, rfl, rfl, trivial⟩ (hS.blkAt 6 rfl) (hS.blkAt 5 rfl) (hS.blkAt 4 rfl) (((hzA.at hS).mono (by omega))) (((hzB.at hS).mono (by omega))) ((((hS.slm 2 rfl).zr hk1).mono (by omega))) ((((hS.slm 3 rfl).zr hk2).mono (by omega))) ((((hS.slm 0 rfl).zr hk3).mono (by omega))) ((((hS.slm 1 rfl).zr hk4).mono (by omega))) (by first | assumption | decide) (by first | assumption | decide) (by first | assumption | decide) (fun w9 hb => ⟨_, _, rfl, isI, New.nil (hS.below.trans (hb.mono hS.below.size))⟩)
      ·
        have hk1 : Wd 1 2 := Wd.i64 (by omega) (by omega)
        have hk2 : Wd 1 2 := Wd.i64 (by omega) (by omega)
        refine wstage 6 [28, 29, 30, 31, 32, 33] [[], [0], [], [2, 0, 1], [], [4, 0, 1, 2, 3]] [[], [], [], [], [], []] [] [] (fun i9 => ([fun _ => Is (.agg #[.bool bA, .slice qA nA kA, .bool bB, .slice qB nB kB]), fun _ => Is (.agg #[.bool bA, .slice qA nA kA, .bool bB, .slice qB nB kB]), fun _ => Is (.agg #[.bool bC, .slice qC nC kC, .bool bD, .slice qD nD kD]), fun _ => Rrt 1 1, fun _ => Is (.agg #[.bool bE, .slice qE nE kE, .bool bF, .slice qF nF kF]), fun _ => Is (.agg #[.bool bE, .slice qE nE kE, .bool bF, .slice qF nF kF])] : List (List Value → Tell)).getD i9 (fun _ _ _ => False)) (heldNil) (fun d _ _ _ _ h => (by cases d <;> exact h)) (by kernel_rfl) (by kernel_rfl) (by kernel_rfl) hS ?_ ?_
        ·
          refine stepsCons rfl ?_ ?_
          · intro Q f' w' ρ S ho hT hS hB
            exact .inl ⟨want_none rfl, oload (vs := [.bool bA, .slice qA nA kA, .bool bB, .slice qB nB kB]) aggR hS 2 rfl rfl (ev rfl (ho 3 rfl)) rfl rfl rfl ⟨_, _, rfl, isI, New.same _⟩⟩
          refine stepsCons rfl ?_ ?_
          · intro Q f' w' ρ S ho hT hS hB
            obtain ⟨hv0, hr0⟩ := (hT 0 28 rfl rfl : (Is (.agg #[.bool bA, .slice qA nA kA, .bool bB, .slice qB nB kB])) (f' 28) (ρ 0))
            obtain hS := hS.flat1 hr0
            refine .inl ⟨want_none rfl, ocall rfl rfl Try.call27 rfl (wlsome ((hzB.at hS).mono (by omega)) (hy)) (args1 (ev rfl hv0)) ?_⟩
            rintro _ w9 ⟨_, _, rfl, hTT, hN⟩
            exact ⟨_, rfl, _, _, rfl, hTT, hN⟩
          refine stepsCons rfl ?_ ?_
          · intro Q f' w' ρ S ho hT hS hB
            exact .inl ⟨want_none rfl, oload (vs := [.bool bC, .slice qC nC kC, .bool bD, .slice qD nD kD]) aggR hS 1 rfl rfl (ev rfl (ho 4 rfl)) rfl rfl rfl ⟨_, _, rfl, isI, New.same _⟩⟩
          refine stepsCons rfl ?_ ?_
          · intro Q f' w' ρ S ho hT hS hB
            obtain ⟨hv2, hr2⟩ := (hT 2 30 rfl rfl : (Is (.agg #[.bool bC, .slice qC nC kC, .bool bD, .slice qD nD kD])) (f' 30) (ρ 2))
            obtain hS := hS.flat1 hr2
            refine .inl ⟨want_none rfl, ocall rfl rfl Try.call27 rfl (wlsome0 ((hzD.at hS).mono (by omega)) (hv)) (args1 (ev rfl hv2)) ?_⟩
            rintro _ w9 ⟨_, _, rfl, hTT, hN⟩
            exact ⟨_, rfl, _, _, rfl, hTT, hN⟩
          refine stepsCons rfl ?_ ?_
          · intro Q f' w' ρ S ho hT hS hB
            exact .inl ⟨want_none rfl, oload (vs := [.bool bE, .slice qE nE kE, .bool bF, .slice qF nF kF]) aggR hS 0 rfl rfl (ev rfl (ho 5 rfl)) rfl rfl rfl ⟨_, _, rfl, isI, New.same _⟩⟩
          refine stepsCons rfl ?_ ?_
          · intro Q f' w' ρ S ho hT hS hB
            obtain ⟨hv4, hr4⟩ := (hT 4 32 rfl rfl : (Is (.agg #[.bool bE, .slice qE nE kE, .bool bF, .slice qF nF kF])) (f' 32) (ρ 4))
            obtain hS := hS.flat1 hr4
            refine .inl ⟨want_none rfl, ocall rfl rfl Try.call27 rfl (wlsome ((hzF.at hS).mono (by omega)) (hs)) (args1 (ev rfl hv4)) ?_⟩
            rintro _ w9 ⟨_, _, rfl, hTT, hN⟩
            exact ⟨_, rfl, _, _, rfl, hTT, hN⟩
          exact stepsNil
        ·
          intro vs ρ w7 f' hf hT hS
          obtain ⟨hv0, hr0⟩ := (hT 0 (by decide) : (Is (.agg #[.bool bA, .slice qA nA kA, .bool bB, .slice qB nB kB])) (vs 0) (ρ 0))
          obtain ⟨hv1, hr1⟩ := (hT 1 (by decide) : (Is (.agg #[.bool bA, .slice qA nA kA, .bool bB, .slice qB nB kB])) (vs 1) (ρ 1))
          obtain ⟨hv2, hr2⟩ := (hT 2 (by decide) : (Is (.agg #[.bool bC, .slice qC nC kC, .bool bD, .slice qD nD kD])) (vs 2) (ρ 2))
          obtain ⟨p1, n1, c1, p2, n2, c2, hv3, hr3⟩ := (hT 3 (by decide) : (Rrt 1 1) (vs 3) (ρ 3))
          obtain ⟨hv4, hr4⟩ := (hT 4 (by decide) : (Is (.agg #[.bool bE, .slice qE nE kE, .bool bF, .slice qF nF kF])) (vs 4) (ρ 4))
          obtain ⟨hv5, hr5⟩ := (hT 5 (by decide) : (Is (.agg #[.bool bE, .slice qE nE kE, .bool bF, .slice qF nF kF])) (vs 5) (ρ 5))
          simp only [pool, if_true, hr0, hr1, hr2, hr3, hr4, hr5, List.nil_append, List.cons_append, List.append_nil] at hS
          simp only [layf, hv0, hv1, hv2, hv3, hv4, hv5] at hf
          subst hf; clear hT hv0 hv1 hv2 hv3 hv4 hv5 hr0 hr1 hr2 hr3 hr4 hr5
          refine wlate 6 rfl (by kernel_rfl) (ostore [.bool bA, .slice qA nA kA, .bool bB, .slice qB nB kB] [.bool bA, .slice qA nA kA, .bool bB, .slice qB nB kB] Try.sizeOf27 hS 4 rfl rfl (ev rfl rfl) (ev (v := .agg #[.bool bA, .slice qA nA kA, .bool bB, .slice qB nB kB]) rfl rfl) rfl rfl rfl rfl rfl rfl ?_)
          clear hS; intro w8 hS
          refine ⟨heldNil, ?_⟩
          refine wlate 7 rfl (by kernel_rfl) (ostore [.bool (ng 1), .slice p1 n1 c1, .bool (ng 1), .slice p2 n2 c2] [.bool (ng 1), .slice p1 n1 c1, .bool (ng 1), .slice p2 n2 c2] Try.sizeOf27 hS 3 rfl rfl (ev rfl rfl) (ev (v := .agg #[.bool (ng 1), .slice p1 n1 c1, .bool (ng 1), .slice p2 n2 c2]) rfl rfl) rfl rfl rfl rfl rfl rfl ?_)
          clear hS; intro w9 hS
          refine ⟨heldNil, ?_⟩
          refine wlate 8 rfl (by kernel_rfl) (ostore [.bool bE, .slice qE nE kE, .bool bF, .slice qF nF kF] [.bool bE, .slice qE nE kE, .bool bF, .slice qF nF kF] Try.sizeOf27 hS 2 rfl rfl (ev rfl rfl) (ev (v := .agg #[.bool bE, .slice qE nE kE, .bool bF, .slice qF nF kF]) rfl rfl) rfl rfl rfl rfl rfl rfl ?_)
          clear hS; intro w10 hS
          refine ⟨heldNil, ?_⟩
          refine wdone rfl ?_
          refine thenN ?_
          exact field_rest rfl ⟨rfl, rfl, rfl, trivial⟩ (hS.blkAt 4 rfl) (hS.blkAt 3 rfl) (hS.blkAt 2 rfl) (((hzA.at hS).mono (by omega))) (((hzB.at hS).mono (by omega))) ((((hS.slm 0 rfl).zr hk1).mono (by omega))) ((((hS.slm 1 rfl).zr hk2).mono (by omega))) (((hzE.at hS).mono (by omega))) (((hzF.at hS).mono (by omega))) (by first | assumption | decide) (by first | assumption | decide) (by first | assumption | decide) (fun w9 hb => ⟨_, _, rfl, isI, New.nil (hS.below.trans (hb.mono hS.below.size))⟩)
    ·
      by_cases hs : s = 0
      ·
        have hk1 : Wd 1 2 := Wd.i64 (by omega) (by omega)
        have hk2 : Wd 1 2 := Wd.i64 (by omega) (by omega)
        refine wstage 6 [28, 29, 30, 31, 32, 33] [[], [0], [], [2, 0, 1], [], [4, 0, 1, 2, 3]] [[], [], [], [], [], []] [] [] (fun i9 => ([fun _ => Is (.agg #[.bool bA, .slice qA nA kA, .bool bB, .slice qB nB kB]), fun _ => Is (.agg #[.bool bA, .slice qA nA kA, .bool bB, .slice qB nB kB]), fun _ => Is (.agg #[.bool bC, .slice qC nC kC, .bool bD, .slice qD nD kD]), fun _ => Is (.agg #[.bool bC, .slice qC nC kC, .bool bD, .slice qD nD kD]), fun _ => Is (.agg #[.bool bE, .slice qE nE kE, .bool bF, .slice qF nF kF]), fun _ => Rrt 1 1] : List (List Value → Tell)).getD i9 (fun _ _ _ => False)) (heldNil) (fun d _ _ _ _ h => (by cases d <;> exact h)) (by kernel_rfl) (by kernel_rfl) (by kernel_rfl) hS ?_ ?_
        ·
          refine stepsCons rfl ?_ ?_
          · intro Q f' w' ρ S ho hT hS hB
            exact .inl ⟨want_none rfl, oload (vs := [.bool bA, .slice qA nA kA, .bool bB, .slice qB nB kB]) aggR hS 2 rfl rfl (ev rfl (ho 3 rfl)) rfl rfl rfl ⟨_, _, rfl, isI, New.same _⟩⟩
          refine stepsCons rfl ?_ ?_
          · intro Q f' w' ρ S ho hT hS hB
            obtain ⟨hv0, hr0⟩ := (hT 0 28 rfl rfl : (Is (.agg #[.bool bA, .slice qA nA kA, .bool bB, .slice qB nB kB])) (f' 28) (ρ 0))
            obtain hS := hS.flat1 hr0
            refine .inl ⟨want_none rfl, ocall rfl rfl Try.call27 rfl (wlsome ((hzB.at hS).mono (by omega)) (hy)) (args1 (ev rfl hv0)) ?_⟩
            rintro _ w9 ⟨_, _, rfl, hTT, hN⟩
            exact ⟨_, rfl, _, _, rfl, hTT, hN⟩
          refine stepsCons rfl ?_ ?_
          · intro Q f' w' ρ S ho hT hS hB
            exact .inl ⟨want_none rfl, oload (vs := [.bool bC, .slice qC nC kC, .bool bD, .slice qD nD kD]) aggR hS 1 rfl rfl (ev rfl (ho 4 rfl)) rfl rfl rfl ⟨_, _, rfl, isI, New.same _⟩⟩
          refine stepsCons rfl ?_ ?_
          · intro Q f' w' ρ S ho hT hS hB
            obtain ⟨hv2, hr2⟩ := (hT 2 30 rfl rfl : (Is (.agg #[.bool bC, .slice qC nC kC, .bool bD, .slice qD nD kD])) (f' 30) (ρ 2))
            obtain hS := hS.flat1 hr2
            refine .inl ⟨want_none rfl, ocall rfl rfl Try.call27 rfl (wlsome ((hzD.at hS).mono (by omega)) (hv)) (args1 (ev rfl hv2)) ?_⟩
            rintro _ w9 ⟨_, _, rfl, hTT, hN⟩
            exact ⟨_, rfl, _, _, rfl, hTT, hN⟩
          refine stepsCons rfl ?_ ?_
          · intro Q f' w' ρ S ho hT hS hB
            exact .inl ⟨want_none rfl, oload (vs := [.bool bE, .slice qE nE kE, .bool bF, .slice qF nF kF]) aggR hS 0 rfl rfl (ev rfl (ho 5 rfl)) rfl rfl rfl ⟨_, _, rfl, isI, New.same _⟩⟩
          refine stepsCons rfl ?_ ?_
          · intro Q f' w' ρ S ho hT hS hB
            obtain ⟨hv4, hr4⟩ := (hT 4 32 rfl rfl : (Is (.agg #[.bool bE, .slice qE nE kE, .bool bF, .slice qF nF kF])) (f' 32) (ρ 4))
            obtain hS := hS.flat1 hr4
            refine .inl ⟨want_none rfl, ocall rfl rfl Try.call27 rfl (wlsome0 ((hzF.at hS).mono (by omega)) (hs)) (args1 (ev rfl hv4)) ?_⟩
            rintro _ w9 ⟨_, _, rfl, hTT, hN⟩
            exact ⟨_, rfl, _, _, rfl, hTT, hN⟩
          exact stepsNil
        ·
          intro vs ρ w7 f' hf hT hS
          obtain ⟨hv0, hr0⟩ := (hT 0 (by decide) : (Is (.agg #[.bool bA, .slice qA nA kA, .bool bB, .slice qB nB kB])) (vs 0) (ρ 0))
          obtain ⟨hv1, hr1⟩ := (hT 1 (by decide) : (Is (.agg #[.bool bA, .slice qA nA kA, .bool bB, .slice qB nB kB])) (vs 1) (ρ 1))
          obtain ⟨hv2, hr2⟩ := (hT 2 (by decide) : (Is (.agg #[.bool bC, .slice qC nC kC, .bool bD, .slice qD nD kD])) (vs 2) (ρ 2))
          obtain ⟨hv3, hr3⟩ := (hT 3 (by decide) : (Is (.agg #[.bool bC, .slice qC nC kC, .bool bD, .slice qD nD kD])) (vs 3) (ρ 3))
          obtain ⟨hv4, hr4⟩ := (hT 4 (by decide) : (Is (.agg #[.bool bE, .slice qE nE kE, .bool bF, .slice qF nF kF])) (vs 4) (ρ 4))
          obtain ⟨p1, n1, c1, p2, n2, c2, hv5, hr5⟩ := (hT 5 (by decide) : (Rrt 1 1) (vs 5) (ρ 5))
          simp only [pool, if_true, hr0, hr1, hr2, hr3, hr4, hr5, List.nil_append, List.cons_append, List.append_nil] at hS
          simp only [layf, hv0, hv1, hv2, hv3, hv4, hv5] at hf
          subst hf; clear hT hv0 hv1 hv2 hv3 hv4 hv5 hr0 hr1 hr2 hr3 hr4 hr5
          refine wlate 6 rfl (by kernel_rfl) (ostore [.bool bA, .slice qA nA kA, .bool bB, .slice qB nB kB] [.bool bA, .slice qA nA kA, .bool bB, .slice qB nB kB] Try.sizeOf27 hS 4 rfl rfl (ev rfl rfl) (ev (v := .agg #[.bool bA, .slice qA nA kA, .bool bB, .slice qB nB kB]) rfl rfl) rfl rfl rfl rfl rfl rfl ?_)
          clear hS; intro w8 hS
          refine ⟨heldNil, ?_⟩
          refine wlate 7 rfl (by kernel_rfl) (ostore [.bool bC, .slice qC nC kC, .bool bD, .slice qD nD kD] [.bool bC, .slice qC nC kC, .bool bD, .slice qD nD kD] Try.sizeOf27 hS 3 rfl rfl (ev rfl rfl) (ev (v := .agg #[.bool bC, .slice qC nC kC, .bool bD, .slice qD nD kD]) rfl rfl) rfl rfl rfl rfl rfl rfl ?_)
          clear hS; intro w9 hS
          refine ⟨heldNil, ?_⟩
          refine wlate 8 rfl (by kernel_rfl) (ostore [.bool (ng 1), .slice p1 n1 c1, .bool (ng 1), .slice p2 n2 c2] [.bool (ng 1), .slice p1 n1 c1, .bool (ng 1), .slice p2 n2 c2] Try.sizeOf27 hS 2 rfl rfl (ev rfl rfl) (ev (v := .agg #[.bool (ng 1), .slice p1 n1 c1, .bool (ng 1), .slice p2 n2 c2]) rfl rfl) rfl rfl rfl rfl rfl rfl ?_)
          clear hS; intro w10 hS
          refine ⟨heldNil, ?_⟩
          refine wdone rfl ?_
          refine thenN ?_
          exact field_rest rfl ⟨rfl, rfl, rfl, trivial⟩ (hS.blkAt 4 rfl) (hS.blkAt 3 rfl) (hS.blkAt 2 rfl) (((hzA.at hS).mono (by omega))) (((hzB.at hS).mono (by omega))) (((hzC.at hS).mono (by omega))) (((hzD.at hS).mono (by omega))) ((((hS.slm 0 rfl).zr hk1).mono (by omega))) ((((hS.slm 1 rfl).zr hk2).mono (by omega))) (by first | assumption | decide) (by first | assumption | decide) (by first | assumption | decide) (fun w9 hb => ⟨_, _, rfl, isI, New.nil (hS.below.trans (hb.mono hS.below.size))⟩)
      ·
        refine wstage 6 [28, 29, 30, 31, 32, 33] [[], [0], [], [2, 0, 1], [], [4, 0, 1, 2, 3]] [[], [], [], [], [], []] [] [] (fun i9 => ([fun _ => Is (.agg #[.bool bA, .slice qA nA kA, .bool bB, .slice qB nB kB]), fun _ => Is (.agg #[.bool bA, .slice qA nA kA, .bool bB, .slice qB nB kB]), fun _ => Is (.agg #[.bool bC, .slice qC nC kC, .bool bD, .slice qD nD kD]), fun _ => Is (.agg #[.bool bC, .slice qC nC kC, .bool bD, .slice qD nD kD]), fun _ => Is (.agg #[.bool bE, .slice qE nE kE, .bool bF, .slice qF nF kF]), fun _ => Is (.agg #[.bool bE, .slice qE nE kE, .bool bF, .slice qF nF kF])] : List (List Value → Tell)).getD i9 (fun _ _ _ => False)) (heldNil) (fun d _ _ _ _ h => (by cases d <;> exact h)) (by kernel_rfl) (by kernel_rfl) (by kernel_rfl) hS ?_ ?_
        ·
          refine stepsCons rfl ?_ ?_
          · intro Q f' w' ρ S ho hT hS hB
            exact .inl ⟨want_none rfl, oload (vs := [.bool bA, .slice qA nA kA, .bool bB, .slice qB nB kB]) aggR hS 2 rfl rfl (ev rfl (ho 3 rfl)) rfl rfl rfl ⟨_, _, rfl, isI, New.same _⟩⟩
          refine stepsCons rfl ?_ ?_
          · intro Q f' w' ρ S ho hT hS hB
            obtain ⟨hv0, hr0⟩ := (hT 0 28 rfl rfl : (Is (.agg #[.bool bA, .slice qA nA kA, .bool bB, .slice qB nB kB])) (f' 28) (ρ 0))
            obtain hS := hS.flat1 hr0
            refine .inl ⟨want_none rfl, ocall rfl rfl Try.call27 rfl (wlsome ((hzB.at hS).mono (by omega)) (hy)) (args1 (ev rfl hv0)) ?_⟩
            rintro _ w9 ⟨_, _, rfl, hTT, hN⟩
            exact ⟨_, rfl, _, _, rfl, hTT, hN⟩
          refine stepsCons rfl ?_ ?_
          · intro Q f' w' ρ S ho hT hS hB
            exact .inl ⟨want_none rfl, oload (vs := [.bool bC, .slice qC nC kC, .bool bD, .slice qD nD kD]) aggR hS 1 rfl rfl (ev rfl (ho 4 rfl)) rfl rfl rfl ⟨_, _, rfl, isI, New.same _⟩⟩
          refine stepsCons rfl ?_ ?_
          · intro Q f' w' ρ S ho hT hS hB
            obtain ⟨hv2, hr2⟩ := (hT 2 30 rfl rfl : (Is (.agg #[.bool bC, .slice qC nC kC, .bool bD, .slice qD nD kD])) (f' 30) (ρ 2))
            obtain hS := hS.flat1 hr2
            refine .inl ⟨want_none rfl, ocall rfl rfl Try.call27 rfl (wlsome ((hzD.at hS).mono (by omega)) (hv)) (args1 (ev rfl hv2)) ?_⟩
            rintro _ w9 ⟨_, _, rfl, hTT, hN⟩
            exact ⟨_, rfl, _, _, rfl, hTT, hN⟩
          refine stepsCons rfl ?_ ?_
          · intro Q f' w' ρ S ho hT hS hB
            exact .inl ⟨want_none rfl, oload (vs := [.bool bE, .slice qE nE kE, .bool bF, .slice qF nF kF]) aggR hS 0 rfl rfl (ev rfl (ho 5 rfl)) rfl rfl rfl ⟨_, _, rfl, isI, New.same _⟩⟩
          refine stepsCons rfl ?_ ?_
          · intro Q f' w' ρ S ho hT hS hB
            obtain ⟨hv4, hr4⟩ := (hT 4 32 rfl rfl : (Is (.agg #[.bool bE, .slice qE nE kE, .bool bF, .slice qF nF kF])) (f' 32) (ρ 4))
            obtain hS := hS.flat1 hr4
            refine .inl ⟨want_none rfl, ocall rfl rfl Try.call27 rfl (wlsome ((hzF.at hS).mono (by omega)) (hs)) (args1 (ev rfl hv4)) ?_⟩
            rintro _ w9 ⟨_, _, rfl, hTT, hN⟩
            exact ⟨_, rfl, _, _, rfl, hTT, hN⟩
          exact stepsNil
        ·
          intro vs ρ w7 f' hf hT hS
          obtain ⟨hv0, hr0⟩ := (hT 0 (by decide) : (Is (.agg #[.bool bA, .slice qA nA kA, .bool bB, .slice qB nB kB])) (vs 0) (ρ 0))
          obtain ⟨hv1, hr1⟩ := (hT 1 (by decide) : (Is (.agg #[.bool bA, .slice qA nA kA, .bool bB, .slice qB nB kB])) (vs 1) (ρ 1))
          obtain ⟨hv2, hr2⟩ := (hT 2 (by decide) : (Is (.agg #[.bool bC, .slice qC nC kC, .bool bD, .slice qD nD kD])) (vs 2) (ρ 2))
          obtain ⟨hv3, hr3⟩ := (hT 3 (by decide) : (Is (.agg #[.bool bC, .slice qC nC kC, .bool bD, .slice qD nD kD])) (vs 3) (ρ 3))
          obtain ⟨hv4, hr4⟩ := (hT 4 (by decide) : (Is (.agg #[.bool bE, .slice qE nE kE, .bool bF, .slice qF nF kF])) (vs 4) (ρ 4))
          obtain ⟨hv5, hr5⟩ := (hT 5 (by decide) : (Is (.agg #[.bool bE, .slice qE nE kE, .bool bF, .slice qF nF kF])) (vs 5) (ρ 5))
          simp only [pool, if_true, hr0, hr1, hr2, hr3, hr4, hr5, List.nil_append, List.cons_append, List.append_nil] at hS
          simp only [layf, hv0, hv1, hv2, hv3, hv4, hv5] at hf
          subst hf; clear hT hv0 hv1 hv2 hv3 hv4 hv5 hr0 hr1 hr2 hr3 hr4 hr5
          refine wlate 6 rfl (by kernel_rfl) (ostore [.bool bA, .slice qA nA kA, .bool bB, .slice qB nB kB] [.bool bA, .slice qA nA kA, .bool bB, .slice qB nB kB] Try.sizeOf27 hS 2 rfl rfl (ev rfl rfl) (ev (v := .agg #[.bool bA, .slice qA nA kA, .bool bB, .slice qB nB kB]) rfl rfl) rfl rfl rfl rfl rfl rfl ?_)
          clear hS; intro w8 hS
          refine ⟨heldNil, ?_⟩
          refine wlate 7 rfl (by kernel_rfl) (ostore [.bool bC, .slice qC nC kC, .bool bD, .slice qD nD kD] [.bool bC, .slice qC nC kC, .bool bD, .slice qD nD kD] Try.sizeOf27 hS 1 rfl rfl (ev rfl rfl) (ev (v := .agg #[.bool bC, .slice qC nC kC, .bool bD, .slice qD nD kD]) rfl rfl) rfl rfl rfl rfl rfl rfl ?_)
          clear hS; intro w9 hS
          refine ⟨heldNil, ?_⟩
          refine wlate 8 rfl (by kernel_rfl) (ostore [.bool bE, .slice qE nE kE, .bool bF, .slice qF nF kF] [.bool bE, .slice qE nE kE, .bool bF, .slice qF nF kF] Try.sizeOf27 hS 0 rfl rfl (ev rfl rfl) (ev (v := .agg #[.bool bE, .slice qE nE kE, .bool bF, .slice qF nF kF]) rfl rfl) rfl rfl rfl rfl rfl rfl ?_)
          clear hS; intro w10 hS
          refine ⟨heldNil, ?_⟩
          refine wdone rfl ?_
          refine thenN ?_
          exact field_rest rfl ⟨rfl, rfl, rfl, trivial⟩ (hS.blkAt 2 rfl) (hS.blkAt 1 rfl) (hS.blkAt 0 rfl) (((hzA.at hS).mono (by omega))) (((hzB.at hS).mono (by omega))) (((hzC.at hS).mono (by omega))) (((hzD.at hS).mono (by omega))) (((hzE.at hS).mono (by omega))) (((hzF.at hS).mono (by omega))) (by first | assumption | decide) (by first | assumption | decide) (by first | assumption | decide) (fun w9 hb => ⟨_, _, rfl, isI, New.nil (hS.below.trans (hb.mono hS.below.size))⟩)

theorem rfield_law {bA bB : Bool} {qA qB : Option Addr} {nA kA nB kB : Nat} {bC bD : Bool} {qC qD : Option Addr} {nC kC nD kD : Nat} {bE bF : Bool} {qE qF : Option Addr} {nE kE nF kF : Nat} {lA lB lC lD lE lF : List Nat} {w : World} (hsA : Sl w qA nA kA lA) (hsB : Sl w qB nB kB lB) (hsC : Sl w qC nC kC lC) (hsD : Sl w qD nD kD lD) (hsE : Sl w qE nE kE lE) (hsF : Sl w qF nF kF lF) (hA : nA ≤ 1048576 ∧ nB ≤ 1048576) (hB : nC ≤ 1048576 ∧ nD ≤ 1048576) (hC : nE ≤ 1048576 ∧ nF ≤ 1048576) :
    Calls Try.prog 8 #[.agg #[.bool bA, .slice qA nA kA, .bool bB, .slice qB nB kB], .agg #[.bool bC, .slice qC nC kC, .bool bD, .slice qD nD kD], .agg #[.bool bE, .slice qE nE kE, .bool bF, .slice qF nF kF]] w (RetB w true) :=
  (rfield_w ⟨_, hsA, rfl, hA.1⟩ ⟨_, hsB, rfl, hA.2⟩ ⟨_, hsC, rfl, hB.1⟩ ⟨_, hsD, rfl, hB.2⟩ ⟨_, hsE, rfl, hC.1⟩ ⟨_, hsF, rfl, hC.2⟩).mono Ret.b

end Go.Proofs.Ytoinfkimlhhmpaa
