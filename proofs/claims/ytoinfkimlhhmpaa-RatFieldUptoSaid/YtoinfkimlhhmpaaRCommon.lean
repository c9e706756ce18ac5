
/-
  rat's Common and the document's.
-/
import Derived.Test.YtoinfkimlhhmpaaRHeight
import Derived.Test.YtoinfkimlhhmpaaZComA
import Derived.Test.YtoinfkimlhhmpaaZSameAll
set_option linter.unusedVariables false
set_option linter.unusedSimpArgs false
namespace Go.Proofs.Ytoinfkimlhhmpaa
open Go.RowKit

def dens (L : List (Int × Int)) : List Int := L.map (·.2)
/-- The numerators over a denominator. -/
def cnum (L : List (Int × Int)) (den : Int) (j : Nat) : Int := match L[j]? with | some e => e.1 * den.tdiv e.2 | none => 0
/-- A list of one's own of told integers. -/
def elN (z : Int) (p : Option Addr) (n c : Nat) : El := ⟨[.bool (ng z), .slice p n c], [.rowm p n c (lim z.natAbs)]⟩
def NEls (f : Nat → Int) (i : Nat) (es : List El) : Prop := es.length = i ∧ ∀ j, j < i → ∃ p n c, es[j]? = some (elN (f j) p n c)
theorem NEls.nil (f : Nat → Int) : NEls f 0 [] := ⟨rfl, fun j h => by omega⟩
theorem NEls.app {f : Nat → Int} {i : Nat} {es : List El} (h : NEls f i es) {z : Int} (hz : z = f i) (p : Option Addr) (n c : Nat) : NEls f (i + 1) (es ++ [elN z p n c]) := by
  refine ⟨by simp [h.1], fun j hj => ?_⟩
  by_cases hij : j = i
  · subst hij
    refine ⟨p, n, c, ?_⟩
    rw [List.getElem?_append_right (by rw [h.1]; exact Nat.le_refl _), h.1, Nat.sub_self, hz]
    rfl
  · obtain ⟨p', n', c', h'⟩ := h.2 j (by omega)
    exact ⟨p', n', c', by rw [List.getElem?_append_left (by rw [h.1]; omega)]; exact h'⟩
def NL (f : Nat → Int) (m : Nat) : List (Bool × List Nat) := (List.range m).map fun j => (ng (f j), lim (f j).natAbs)
def CMt (den : Int) (f : Nat → Int) (m : Nat) (E : Int) : Tell := fun v r => ∃ p n c q d es, NEls f m es ∧ v = .tuple #[.agg #[.bool (ng den), .slice p n c, .slice q m d], .int .i64 E] ∧ r = [.row p n c (lim den.natAbs), .lst 25 2 q m d es]
def CTt (den : Int) (f : Nat → Int) (m : Nat) (E : Int) : Tell := fun v r => ∃ p n c q d es, NEls f m es ∧ v = .tuple #[.agg #[.bool (ng den), .slice p n c], .slice q m d, .int .i64 E] ∧ r = [.row p n c (lim den.natAbs), .lst 25 2 q m d es]
def CQt (den : Int) (f : Nat → Int) (m : Nat) : Tell := fun v r => ∃ p n c q d es, NEls f m es ∧ v = .tuple #[.agg #[.bool (ng den), .slice p n c], .slice q m d] ∧ r = [.row p n c (lim den.natAbs), .lst 25 2 q m d es]
theorem Sep.nilLst {w0 w : World} {R : List Res} {e : TypeId} {sz : Nat} (h : Sep w0 R w) : Sep w0 (.lst e sz none 0 0 [] :: R) w := by
  refine h.add (Below.refl _ _) _ ⟨Els.nil, rfl, fun r hr => ?_, by simp [flatR]⟩ (fun g hg => ?_)
  · have hr' : r = Res.own' e sz none 0 0 (flatC []) := by simpa [flatR] using hr
    subst hr'
    exact World.ownsRow_nil _ _ _ _
  · rcases hg with hg | ⟨r, hr, _⟩
    · cases hg
    · simp [flatR] at hr
end Go.Proofs.Ytoinfkimlhhmpaa
