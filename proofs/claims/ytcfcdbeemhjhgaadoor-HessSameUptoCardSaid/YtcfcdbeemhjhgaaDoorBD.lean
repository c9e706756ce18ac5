/-
  Contracts and lemmas, joined in one text.
-/
import Derived.Test.YtcfcdbeemhjhgaaDoorBB
import Derived.Test.YtcfcdbeemhjhgaaDoorBC
import Derived.Deep.RegionHeld3
import Derived.Deep.Cut
set_option linter.unusedVariables false
set_option linter.unusedSimpArgs false
/-
  Words for calls that lay their struct arguments and results in boxes of two cells.
-/
namespace Go.Proofs.YtcfcdbeemhjhgaaDoor
open Go.RowKit
theorem cell_on {W w4:World} {b i:Nat} {v:Value} (h:W.cell? ⟨b,i,none⟩ = some v) (hb:Below W.heap.size W w4):w4.cell? ⟨b,i,none⟩ = some v:=by
  rw [(below_cell hb).1 _ i (World.block_lt_of_cell? W _ h)]; exact h
theorem frozen_on {W w4:World} {b i j:Nat} {v:Value} (h:W.cell? ⟨b,j,none⟩ = some v) (hf:W.frozen? ⟨b,i,none⟩ = false) (hb:Below W.heap.size W w4):w4.frozen? ⟨b,i,none⟩ = false:=by
  rw [(below_cell hb).2 _ i (World.block_lt_of_cell? W _ h)]; exact hf
structure Cel (r:Nat) (w:World):Prop where
  c0:∃ u,w.cell? ⟨r,0,none⟩ = some u
  c1:∃ u,w.cell? ⟨r,1,none⟩ = some u
  f0:w.frozen? ⟨r,0,none⟩ = false
  f1:w.frozen? ⟨r,1,none⟩ = false
theorem Cel.on {r:Nat} {W w4:World} (h:Cel r W) (hb:Below W.heap.size W w4):Cel r w4:=by
  obtain ⟨⟨u,hu⟩,⟨v,hv⟩,h2,h3⟩:=h
  exact ⟨⟨u,cell_on hu hb⟩,⟨v,cell_on hv hb⟩,frozen_on hu h2 hb,frozen_on hv h3 hb⟩
theorem Cel.drew {r:Nat} {W:World} (h:Cel r W):Cel r W.drew:=by
  obtain ⟨⟨u,hu⟩,⟨v,hv⟩,h2,h3⟩:=h
  exact ⟨⟨u,by simpa using hu⟩,⟨v,by simpa using hv⟩,by simpa using h2,by simpa using h3⟩
theorem Cel.set {r:Nat} {W:World} (h:Cel r W) (s j:Nat) (x:Value):Cel r (W.setCell ⟨s,j,none⟩ x):=by
  obtain ⟨⟨u,hu⟩,⟨v,hv⟩,h2,h3⟩:=h
  obtain ⟨u',hu'⟩:=cell?_setCell_some (w:=W) (p:=⟨s,j,none⟩) (x:=x) (q:=⟨r,0,none⟩) (v:=u) hu
  obtain ⟨v',hv'⟩:=cell?_setCell_some (w:=W) (p:=⟨s,j,none⟩) (x:=x) (q:=⟨r,1,none⟩) (v:=v) hv
  exact ⟨⟨u',hu'⟩,⟨v',hv'⟩,by rw [World.frozen?_setCell]; exact h2,by rw [World.frozen?_setCell]; exact h3⟩
structure Box (w:World) (k:Nat) (w':World):Prop where
  lt:k < w'.heap.size
  below:Below w.heap.size w w'
theorem Box.on {w w1 w2:World} {k:Nat} (h:Box w k w1) (hb:Below w1.heap.size w1 w2):Box w k w2 :=
  ⟨Nat.lt_of_lt_of_le h.lt hb.size,h.below.trans (hb.mono h.below.size)⟩
theorem Box.drew {w w1:World} {k:Nat} (h:Box w k w1):Box w k w1.drew:=⟨by simpa using h.lt,h.below.drew⟩
theorem Box.set {w w1:World} {k r:Nat} (h:Box w k w1) (hr:w.heap.size ≤ r) (j:Nat) (x:Value):Box w k (w1.setCell ⟨r,j,none⟩ x):=⟨by simpa using h.lt,h.below.setCell (p:=⟨r,j,none⟩) hr _⟩
def RetMk (w:World) (b:Bool) (p:Option Addr) (n c:Nat) (e:Ending) (w':World):Prop :=
  e = .returned (.agg #[.bool b,.slice p n c]) ∧ Below w.heap.size w w'
def RetZ (w:World) (z:Int) (e:Ending) (w':World):Prop :=
  ∃ p n c,e = .returned (.agg #[.bool (ng z),.slice p n c]) ∧ Fr w.heap.size w' p n c (lim z.natAbs) ∧ Below w.heap.size w w'
def RetZE (w:World) (z:Int) (E:Int) (e:Ending) (w':World):Prop :=
  ∃ p n c,e = .returned (.tuple #[.agg #[.bool (ng z),.slice p n c],.int .i64 E]) ∧ Fr w.heap.size w' p n c (lim z.natAbs) ∧ Below w.heap.size w w'
def RetZZE (w:World) (x y:Int) (E:Int) (e:Ending) (w':World):Prop :=
  ∃ p n c q m d,e = .returned (.tuple #[.agg #[.bool (ng x),.slice p n c],.agg #[.bool (ng y),.slice q m d],.int .i64 E]) ∧ Fr w.heap.size w' p n c (lim x.natAbs) ∧ Fr w.heap.size w' q m d (lim y.natAbs) ∧ Below w.heap.size w w'
def RetZZ (w:World) (x y:Int) (e:Ending) (w':World):Prop :=
  ∃ p n c q m d,e = .returned (.tuple #[.agg #[.bool (ng x),.slice p n c],.agg #[.bool (ng y),.slice q m d]]) ∧ Fr w.heap.size w' p n c (lim x.natAbs) ∧ Fr w.heap.size w' q m d (lim y.natAbs) ∧ Below w.heap.size w w'
def RetZB (w:World) (z:Int) (b:Bool) (e:Ending) (w':World):Prop :=
  ∃ p n c,e = .returned (.tuple #[.agg #[.bool (ng z),.slice p n c],.bool b]) ∧ Fr w.heap.size w' p n c (lim z.natAbs) ∧ Below w.heap.size w w'
def RetZZZ (w:World) (x y z:Int) (e:Ending) (w':World):Prop :=
  ∃ p n c q m d r k f,e = .returned (.tuple #[.agg #[.bool (ng x),.slice p n c],.agg #[.bool (ng y),.slice q m d],.agg #[.bool (ng z),.slice r k f]]) ∧ Fr w.heap.size w' p n c (lim x.natAbs) ∧ Fr w.heap.size w' q m d (lim y.natAbs) ∧ Fr w.heap.size w' r k f (lim z.natAbs) ∧ Below w.heap.size w w'
end Go.Proofs.YtcfcdbeemhjhgaaDoor
/-
  The walks of zint: make1,Norm.
-/
namespace Go.Proofs.YtcfcdbeemhjhgaaDoor
open Go.RowKit
end Go.Proofs.YtcfcdbeemhjhgaaDoor
/-
  The walks of zint: Sign,Neg,joined,Add,Sub,Cmp,Of,Trunc.
-/
namespace Go.Proofs.YtcfcdbeemhjhgaaDoor
open Go.RowKit
end Go.Proofs.YtcfcdbeemhjhgaaDoor
/-
  The walks of zint: Add,Sub,Cmp,Of,Trunc.
-/
namespace Go.Proofs.YtcfcdbeemhjhgaaDoor
open Go.RowKit
end Go.Proofs.YtcfcdbeemhjhgaaDoor
/-
  The walks of zint: Trunc,Exact.
-/
namespace Go.Proofs.YtcfcdbeemhjhgaaDoor
open Go.RowKit
end Go.Proofs.YtcfcdbeemhjhgaaDoor
