/-
  Contracts and lemmas, joined in one text.
-/
import Derived.Test.YtcfcdbeemhjhgaaDoorNatH
import Derived.Test.YtcfcdbeemhjhgaaDoorBB
import Derived.Deep.LoopGhost
import Derived.Test.YtcfcdbeemhjhgaaDoorBA
import Derived.Laws.BitsAllLaws
set_option linter.unusedVariables false
set_option linter.unusedSimpArgs false
/-
  The walk of nat.Div.
-/
namespace Go.Proofs.YtcfcdbeemhjhgaaDoor
open Go.RowKit
end Go.Proofs.YtcfcdbeemhjhgaaDoor
/-
  The walk of nat.Gcd.
-/
namespace Go.Proofs.YtcfcdbeemhjhgaaDoor
open Go.RowKit
def GcdAt (w:World) (L G k:Nat) (a b:Value) (wr:World):Prop :=
  ∃ p n c q m d A C,a = .slice p n c ∧ b = .slice q m d ∧ Fr w.heap.size wr p n c (lim A) ∧ Fr w.heap.size wr q m d (lim C) ∧ Below w.heap.size w wr ∧ n ≤ L ∧ m ≤ L ∧ Hid (Nat.gcd A C = G) ∧ Hid (C = k)
end Go.Proofs.YtcfcdbeemhjhgaaDoor
/-
  The walk of nat.Sqrt.
-/
namespace Go.Proofs.YtcfcdbeemhjhgaaDoor
open Go.RowKit
def RootAt (w:World) (L N k:Nat) (x:Value) (wr:World):Prop :=
  ∃ p n c X,x = .slice p n c ∧ Fr w.heap.size wr p n c (lim X) ∧ Below w.heap.size w wr ∧ n ≤ L ∧ 0 < X ∧ rt N ≤ X ∧ Hid (X = k)
end Go.Proofs.YtcfcdbeemhjhgaaDoor
/-
  The walk of nat.Pow.
-/
namespace Go.Proofs.YtcfcdbeemhjhgaaDoor
open Go.RowKit
end Go.Proofs.YtcfcdbeemhjhgaaDoor
/-
  The walk of simileref01: Pow.
-/
namespace Go.Proofs.YtcfcdbeemhjhgaaDoor
open Go.RowKit
def RetNB (w:World) (xs:List Nat) (b:Bool) (e:Ending) (w':World):Prop :=
  ∃ p n c,e = .returned (.tuple #[.slice p n c,.bool b]) ∧ Fr w.heap.size w' p n c xs ∧ Below w.heap.size w w'
end Go.Proofs.YtcfcdbeemhjhgaaDoor
/-
  Plain facts on integers by sign and size.
-/
namespace Go.Proofs.YtcfcdbeemhjhgaaDoor
def zv (b:Bool) (n:Nat):Int:=if b then -(n:Int) else (n:Int)
def ng (z:Int):Bool:=decide (z < 0)
theorem zv_ng (z:Int):zv (ng z) z.natAbs = z:=by
  unfold zv ng
  by_cases h:z < 0
  · rw [decide_eq_true h]; simp; omega
  · rw [decide_eq_false h]; simp; omega
def cmpZ (a b:Int):Int:=if a < b then -1 else if a = b then 0 else 1
def nearP (a b:Int):Int:=if b < a % b + a % b ∨ b = a % b + a % b ∧ (a / b).natAbs % 2 = 1 then a / b + 1 else a / b
def nearZ (a b:Int):Int:=if b < 0 then nearP (-a) (-b) else nearP a b
end Go.Proofs.YtcfcdbeemhjhgaaDoor
