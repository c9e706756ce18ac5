/-
  Contracts and lemmas, joined in one text.
-/
import Derived.Test.YtndilfigdbenoaaDoorWB
import Derived.Test.YtndilfigdbenoaaDoorM6
set_option linter.unusedVariables false
set_option linter.unusedSimpArgs false
/-
  What comes late, where two parts of what was told may be taken in either order.
-/
set_option maxRecDepth 100000
set_option maxHeartbeats 16000000
namespace Go.Proofs.YtndilfigdbenoaaDoor
open Go.RowKit
def isReady (ops : Array Oper) (L : Nat → Bool) (k : Nat) : Bool :=
  match ops[k]? with
  | some o => o.guard.isNone && !L k && (needs o).all fun i => L i && Nat.blt i ops.size
  | none => false
def lateS (ops : Array Oper) (L : Nat → Bool) (rs : List Nat) : Bool :=
  rs.all (isReady ops L) && !rs.isEmpty && (List.range ops.size).all fun k => rs.contains k || L k || match ops[k]? with | some o => (needs o).any fun i => !L i | none => true
structure LateS (P : Program) (ops : Array Oper) (Q : Exit → Act → World → Prop) (Bl : List (Nat × List Value × TypeId)) (L : Nat → Bool) (cnt : Nat) (a : Act) (w : World) : Prop where
  out : ∀ fuel listed, ops.size ≤ fuel + cnt → listed.size = ops.size → (∀ i, i < ops.size → Up listed i = L i) → wpAnyH P .any ops Q (HeldS Bl) fuel listed a w
section
variable {P : Program} {Q : Exit → Act → World → Prop} {Bl : List (Nat × List Value × TypeId)} {a : Act} {w : World} {ops : Array Oper}
theorem LateS.step {L : Nat → Bool} {cnt : Nat} (rs : List Nat) (hB : lateS ops L rs = true) (hc : cnt < ops.size)
  (h : ∀ i ∈ rs, ∀ o, ops[i]? = some o → OW P o a w (fun a' w' => HeldS Bl w' ∧ LateS P ops Q Bl (fun k => L k || k == i) (cnt + 1) a' w') Q) : LateS P ops Q Bl L cnt a w := by
 refine ⟨?_⟩
 intro fuel listed hfuel hsz hup
 unfold lateS at hB
 simp only [Bool.and_eq_true] at hB
 obtain ⟨⟨h1, h2⟩, h3⟩ := hB
 have hblt : ∀ i k, Nat.blt i k = true ↔ i < k := fun i k => by rw [Nat.blt_eq]
 have hin : ∀ i, i ∈ Region.ready .any ops listed → i ∈ rs ∧ i < ops.size := fun i hi => by
  obtain ⟨hu, o2, ho2, hall⟩ := mem_ready.1 hi
  have hil : i < ops.size := (Array.getElem?_eq_some_iff.1 ho2).1
  have hu' : Up listed i = false := (getD_same (by omega)).symm.trans hu
  rw [hup i hil] at hu'
  have h4 := List.all_eq_true.1 h3 i (List.mem_range.2 hil)
  rw [ho2, hu', Bool.or_false] at h4
  refine ⟨?_, hil⟩
  rcases Bool.or_eq_true_iff.1 h4 with h4 | h4
  ·exact List.contains_iff_mem.1 h4
  ·obtain ⟨k, hk, hjk⟩ := List.any_eq_true.1 h4
   obtain ⟨e, he, hb, rfl⟩ := mem_needs.1 hk
   have hl : Up listed e.on = true := hall e he hb
   have hel : e.on < ops.size := by
    rcases Nat.lt_or_ge e.on listed.size with h | h
    ·omega
    ·unfold Up at hl; simp [Array.getD, Nat.not_lt.2 h] at hl
   rw [hup e.on hel] at hl
   rw [hl] at hjk
   cases hjk
 have hr : ∀ i, i ∈ rs → i < ops.size ∧ i ∈ Region.ready .any ops listed ∧ ∃ o, ops[i]? = some o ∧ o.guard = none := fun i hi => by
  have h4 := List.all_eq_true.1 h1 i hi
  unfold isReady at h4
  cases ho : ops[i]? with
  | none => rw [ho] at h4; cases h4
  | some o =>
   rw [ho] at h4
   simp only [Bool.and_eq_true, Bool.not_eq_true'] at h4
   obtain ⟨⟨g1, g2⟩, g3⟩ := h4
   have hil : i < ops.size := (Array.getElem?_eq_some_iff.1 ho).1
   refine ⟨hil, mem_ready.2 ⟨(getD_same (by omega)).trans ((hup i hil).trans g2), o, ho, fun e he hb => ?_⟩, o, rfl, by simpa using g1⟩
   have h5 := List.all_eq_true.1 g3 e.on (mem_needs.2 ⟨e, he, hb, rfl⟩)
   rw [Bool.and_eq_true] at h5
   have : Up listed e.on = true := (hup e.on ((hblt _ _).1 h5.2)).trans h5.1
   exact this
 obtain ⟨fuel, rfl⟩ : ∃ k, fuel = k + 1 := ⟨fuel - 1, by omega⟩
 refine ⟨fun hnil => ?_, fun i hi => ?_⟩
 ·cases rs with
  | nil => simp at h2
  | cons x l => have := (hr x List.mem_cons_self).2.1; rw [hnil] at this; cases this
 ·obtain ⟨hi2, hil⟩ := hin i hi
  obtain ⟨_, _, o, ho, hg⟩ := hr i hi2
  unfold wpOp
  rw [ho]
  have hw : Region.wanted o (yielded ops a.tmps) = true := by simp [Region.wanted, hg]
  simp only [hw, if_true]
  refine .inl (Oper.wp_mono (fun a' w' h' => ⟨h'.1, ?_⟩) (h i hi2 o ho).out)
  refine h'.2.out fuel _ (by omega) (by simp [hsz]) (fun k hk => ?_)
  rw [up_set (by omega)]
  show (Up listed k || k == i) = (L k || k == i)
  rw [hup k hk]
theorem LateS.late {j : Nat} (h : LateS P ops Q Bl (fun k => Nat.blt k j) j a w) : Late P ops Q Bl j a w := ⟨h.out⟩
theorem Late.set {j : Nat} {L : Nat → Bool} (h : Late P ops Q Bl j a w) (hL : ∀ i, L i = Nat.blt i j) : LateS P ops Q Bl L j a w := ⟨fun fuel listed h1 h2 h3 => h.out fuel listed h1 h2 fun i hi => (h3 i hi).trans (hL i)⟩
end
def late3 (ops : Array Oper) (j : Nat) : Bool :=
  lateS ops (fun k => Nat.blt k j) [j, j + 1] && lateS ops (fun k => Nat.blt k j || k == j) [j + 1, j + 2] && lateS ops (fun k => Nat.blt k j || k == j + 1) [j] &&
  lateS ops (fun k => (Nat.blt k j || k == j) || k == j + 1) [j + 2] && lateS ops (fun k => (Nat.blt k j || k == j) || k == j + 2) [j + 1] && lateS ops (fun k => (Nat.blt k j || k == j + 1) || k == j) [j + 2]
end Go.Proofs.YtndilfigdbenoaaDoor
/-
  modmat's Rank; Det of any matrix.
-/
namespace Go.Proofs.YtndilfigdbenoaaDoor
open Go.RowKit
theorem modM_id {p C : Nat} {M : List (List Nat)} (h : Shp p C M) : modM p M = M := by
  unfold modM
  conv => rhs; rw [← List.map_id M]
  refine List.map_congr_left fun r hr => ?_
  conv => rhs; rw [id, ← List.map_id r]
  exact List.map_congr_left fun x hx => Nat.mod_eq_of_lt ((h r hr).2 x hx)
def rkP (p : Nat) (M : List (List Nat)) : Nat := (redTo p (modM p M) (colsM M)).2.length
def dtP (p : Nat) (M : List (List Nat)) : Nat := if M.length ≠ 0 ∧ M.length = colsM M then detTo p (modM p M) (colsM M) else 0
def deP (M : List (List Nat)) : Nat := if M.length ≠ 0 ∧ M.length = colsM M then 0 else 3
end Go.Proofs.YtndilfigdbenoaaDoor
