/-
  Contracts and lemmas, joined in one text.
-/
import Derived.Test.YtcfcdbeemhjhgaaDoorRA
import Derived.Test.YtcfcdbeemhjhgaaDoorWA
set_option linter.unusedVariables false
set_option linter.unusedSimpArgs false
/-
  rat's functions of one fraction and of two.
-/
set_option maxRecDepth 100000
set_option maxHeartbeats 16000000
namespace Go.Proofs.YtcfcdbeemhjhgaaDoor
open Go.RowKit
theorem Rs.mono {w:World} {p:Option Addr} {m K K':Nat} {L:List (Int × Int)} (h:Rs w p m L K) (hK:K ≤ K'):Rs w p m L K':=by
  refine ⟨h.1,h.2.1,fun i z hi => ?_⟩
  obtain ⟨g,off,b,q,n,k,b2,q2,n2,k2,hp,h1,h2,h3⟩:=h.2.2 i z hi
  exact ⟨g,off,b,q,n,k,b2,q2,n2,k2,hp,h1,h2.mono hK,h3.mono hK⟩
theorem Rs.e0 {w:World} {p:Option Addr} {m K:Nat} {e:Int × Int} {L:List (Int × Int)} (h:Rs w p m (e :: L) K):∃ g off b q n k b2 q2 n2 k2,p = some ⟨g,off,none⟩ ∧ (∀ j v,[Value.bool b,.slice q n k,.bool b2,.slice q2 n2 k2][j]? = some v → w.cell? ⟨g,off + 0 * 4 + j,none⟩ = some v) ∧ Zr w b q n k e.1 K ∧ Zr w b2 q2 n2 k2 e.2 K:=h.2.2 0 e rfl
theorem Rs.e1 {w:World} {p:Option Addr} {m K:Nat} {e e2:Int × Int} {L:List (Int × Int)} (h:Rs w p m (e2 :: e :: L) K):∃ g off b q n k b2 q2 n2 k2,p = some ⟨g,off,none⟩ ∧ (∀ j v,[Value.bool b,.slice q n k,.bool b2,.slice q2 n2 k2][j]? = some v → w.cell? ⟨g,off + 1 * 4 + j,none⟩ = some v) ∧ Zr w b q n k e.1 K ∧ Zr w b2 q2 n2 k2 e.2 K:=h.2.2 1 e rfl
end Go.Proofs.YtcfcdbeemhjhgaaDoor
/-
  The walks of simileref03.Euclid,Near,Mod and of zint.Mod.
-/
namespace Go.Proofs.YtcfcdbeemhjhgaaDoor
open Go.RowKit
end Go.Proofs.YtcfcdbeemhjhgaaDoor
