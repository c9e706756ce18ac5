
/-
  rat's functions of one fraction and of two.
-/
import Derived.Test.YtjbcjlbbipohjaaGreatDoorRA
set_option linter.unusedVariables false
set_option linter.unusedSimpArgs false
namespace Go.Proofs.YtjbcjlbbipohjaaGreatDoor
open Go.RowKit
theorem cell_sub {w:World} {g o:Nat} {vs:List Value} (h:∀ j v,vs[j]? = some v → w.cell? ⟨g,o + j,none⟩ = some v) (k:Nat) {us:List Value} (hu:us = (vs.drop k).take us.length):∀ j v,us[j]? = some v → w.cell? ⟨g,(o + k) + j,none⟩ = some v:=by
  intro j v hj
  rw [Nat.add_assoc]
  refine h _ _ ?_
  have hl:=(List.getElem?_eq_some_iff.1 hj).1
  rw [hu,List.getElem?_take,if_pos hl,List.getElem?_drop] at hj
  exact hj
theorem Rs.mono {w:World} {p:Option Addr} {m K K':Nat} {L:List (Int × Int)} (h:Rs w p m L K) (hK:K ≤ K'):Rs w p m L K':=by
  refine ⟨h.1,h.2.1,fun i z hi => ?_⟩
  obtain ⟨g,off,b,q,n,k,b2,q2,n2,k2,hp,h1,h2,h3⟩:=h.2.2 i z hi
  exact ⟨g,off,b,q,n,k,b2,q2,n2,k2,hp,h1,h2.mono hK,h3.mono hK⟩
theorem Rs.e1 {w:World} {p:Option Addr} {m K:Nat} {e e2:Int × Int} {L:List (Int × Int)} (h:Rs w p m (e2 :: e :: L) K):∃ g off b q n k b2 q2 n2 k2,p = some ⟨g,off,none⟩ ∧ (∀ j v,[Value.bool b,.slice q n k,.bool b2,.slice q2 n2 k2][j]? = some v → w.cell? ⟨g,off + 1 * 4 + j,none⟩ = some v) ∧ Zr w b q n k e.1 K ∧ Zr w b2 q2 n2 k2 e.2 K:=h.2.2 1 e rfl
end Go.Proofs.YtjbcjlbbipohjaaGreatDoor
