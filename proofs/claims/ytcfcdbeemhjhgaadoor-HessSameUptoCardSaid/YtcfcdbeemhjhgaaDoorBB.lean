/-
  Contracts and lemmas, joined in one text.
-/
import Derived.Test.YtcfcdbeemhjhgaaDoorBA
import Derived.Laws.BitsAllLaws
import Derived.Deep.QuietTactic
import Derived.BigQuiet
import Derived.OwnWalk
import Derived.Deep.RegionHeld3
import Derived.Deep.LoopGhost
set_option linter.unusedVariables false
set_option linter.unusedSimpArgs false
/-
  The walks of nat.trim,nat.own,nat.Norm.
-/
namespace Go.Proofs.YtcfcdbeemhjhgaaDoor
open Go.RowKit
def RetTrim (w:World) (p:Option Addr) (n c:Nat) (N:Nat) (e:Ending) (w':World):Prop :=
  ∃ m,e = .returned (.slice p m c) ∧ Sl w p m c (lim N) ∧ m ≤ n ∧ w = w'
end Go.Proofs.YtcfcdbeemhjhgaaDoor
/-
  The walks of nat.each with the two closures,nat.Add,nat.less.
-/
namespace Go.Proofs.YtcfcdbeemhjhgaaDoor
open Go.RowKit
def RetEach (w0:World) (M:Nat) (T:Nat) (e:Ending) (w':World):Prop :=
 ∃ g L ys s,e = .returned (.slice (some ⟨g,0,none⟩) L (L + 1)) ∧ Fr (w0.heap.size + 1) w' (some ⟨g,0,none⟩) L (L + 1) ys ∧ L ≤ M ∧ Below w0.heap.size w0 w' ∧ w0.heap.size + 1 < w'.heap.size ∧
  w'.cell? ⟨w0.heap.size,0,none⟩ = some (.int .u32 ((s:Nat):Int)) ∧ w'.frozen? ⟨w0.heap.size,0,none⟩ = false ∧ s ≤ 1 ∧ Hid (val ys + s * 4294967296 ^ ys.length = T)
def EachAt (w0 w:World) (L:Nat) (xs ys:List Nat) (k:Nat) (wr:World):Prop :=
 ∃ zs s,Fr w.heap.size wr (some ⟨w.heap.size,0,none⟩) L (L + 1) zs ∧ Below w0.heap.size w0 wr ∧ wr.heap.size = w.heap.size + 1 ∧
  wr.cell? ⟨w0.heap.size,0,none⟩ = some (.int .u32 ((s:Nat):Int)) ∧ wr.frozen? ⟨w0.heap.size,0,none⟩ = false ∧ s ≤ 1 ∧ sm (nd zs) k + s * 4294967296 ^ k = sm (nd xs) k + sm (nd ys) k
end Go.Proofs.YtcfcdbeemhjhgaaDoor
/-
  The walks of nat.Add,nat.less,nat.Cmp,nat.Sub.
-/
namespace Go.Proofs.YtcfcdbeemhjhgaaDoor
open Go.RowKit
end Go.Proofs.YtcfcdbeemhjhgaaDoor
/-
  The walk of nat.less: the closure that borrows.
-/
namespace Go.Proofs.YtcfcdbeemhjhgaaDoor
open Go.RowKit
def RetSub1 (cb x y s:Nat) (w:World) (e:Ending) (w':World):Prop :=
  ∃ d b,e = .returned (.int .u32 ((d:Nat):Int)) ∧ w.setCell ⟨cb,0,none⟩ (.int .u32 ((b:Nat):Int)) = w' ∧ d < 4294967296 ∧ b ≤ 1 ∧ Hid (d + y + s = x + 4294967296 * b)
def RetEachS (w0:World) (M:Nat) (T:Nat × Nat) (e:Ending) (w':World):Prop :=
 ∃ g L ys s,e = .returned (.slice (some ⟨g,0,none⟩) L (L + 1)) ∧ Fr (w0.heap.size + 1) w' (some ⟨g,0,none⟩) L (L + 1) ys ∧ L ≤ M ∧ Below w0.heap.size w0 w' ∧ w0.heap.size + 1 < w'.heap.size ∧
  w'.cell? ⟨w0.heap.size,0,none⟩ = some (.int .u32 ((s:Nat):Int)) ∧ w'.frozen? ⟨w0.heap.size,0,none⟩ = false ∧ s ≤ 1 ∧ Hid (val ys + T.2 = T.1 + s * 4294967296 ^ ys.length)
def EachAtS (w0 w:World) (L:Nat) (xs ys:List Nat) (k:Nat) (wr:World):Prop :=
 ∃ zs s,Fr w.heap.size wr (some ⟨w.heap.size,0,none⟩) L (L + 1) zs ∧ Below w0.heap.size w0 wr ∧ wr.heap.size = w.heap.size + 1 ∧
  wr.cell? ⟨w0.heap.size,0,none⟩ = some (.int .u32 ((s:Nat):Int)) ∧ wr.frozen? ⟨w0.heap.size,0,none⟩ = false ∧ s ≤ 1 ∧ sm (nd zs) k + sm (nd ys) k = sm (nd xs) k + s * 4294967296 ^ k
end Go.Proofs.YtcfcdbeemhjhgaaDoor
/-
  The walks of nat.Cmp,nat.Sub,nat.Of,nat.Norm.
-/
namespace Go.Proofs.YtcfcdbeemhjhgaaDoor
open Go.RowKit
end Go.Proofs.YtcfcdbeemhjhgaaDoor
/-
  The walk of nat.Mul.
-/
namespace Go.Proofs.YtcfcdbeemhjhgaaDoor
open Go.RowKit
def MulAt (w:World) (L m:Nat) (xs ys:List Nat) (i:Nat) (wr:World):Prop :=
  ∃ zs,Fr w.heap.size wr (some ⟨w.heap.size,0,none⟩) L L zs ∧ Below w.heap.size w wr ∧ Hid (sm (nd zs) (i + m) = sm (nd xs) i * val ys ∧ ∀ j,i + m ≤ j → nd zs j = 0)
def MulIn (w:World) (L m:Nat) (xs ys:List Nat) (i k c:Nat) (wr:World):Prop :=
 ∃ zs,Fr w.heap.size wr (some ⟨w.heap.size,0,none⟩) L L zs ∧ Below w.heap.size w wr ∧
  Hid (∃ z0:Nat → Nat,(∀ j,i + k ≤ j → nd zs j = z0 j) ∧ (∀ j,i + m ≤ j → z0 j = 0) ∧ sm z0 (i + m) = sm (nd xs) i * val ys ∧ sm (nd zs) (i + k) + c * 4294967296 ^ (i + k) = sm z0 (i + k) + nd xs i * sm (nd ys) k * 4294967296 ^ i)
end Go.Proofs.YtcfcdbeemhjhgaaDoor
/-
  The walks of nat.short,nat.left,nat.Len,nat.Left,nat.Right.
-/
namespace Go.Proofs.YtcfcdbeemhjhgaaDoor
open Go.RowKit
def RetShort (w:World) (N b:Nat) (e:Ending) (w':World):Prop :=
  ∃ p n c r,e = .returned (.tuple #[.slice p n c,.int .u32 ((r:Nat):Int)]) ∧ Fr w.heap.size w' p n c (lim (N / b)) ∧ Below w.heap.size w w' ∧ Hid (r = N % b) ∧ r < 4294967296
def RetLeft (w:World) (N s:Nat) (e:Ending) (w':World):Prop :=
  ∃ p n c zs,e = .returned (.slice p n c) ∧ Fr w.heap.size w' p n c zs ∧ Below w.heap.size w w' ∧ Hid (val zs = N * 2 ^ s) ∧ s / 32 + ll N ≤ n ∧ n ≤ s / 32 + ll N + 1 ∧ Hid (n = s / 32 + ll N + 1 → 4294967296 ^ (s / 32 + ll N) ≤ N * 2 ^ s)
end Go.Proofs.YtcfcdbeemhjhgaaDoor
/-
  The walks of nat.Len,nat.Left,nat.Right.
-/
namespace Go.Proofs.YtcfcdbeemhjhgaaDoor
open Go.RowKit
def RetLen (w:World) (k:Nat) (e:Ending) (w':World):Prop:=e = .returned (.int .i64 (k:Int)) ∧ w = w'
def RightAt (w:World) (L M k:Nat) (wr:World):Prop :=
  ∃ zs,Fr w.heap.size wr (some ⟨w.heap.size,0,none⟩) L L zs ∧ Below w.heap.size w wr ∧ Hid (∀ j,j < k → nd zs j = M / 4294967296 ^ j % 4294967296)
end Go.Proofs.YtcfcdbeemhjhgaaDoor
/-
  The walk of nat.Div: by nothing,and by one limb.
-/
namespace Go.Proofs.YtcfcdbeemhjhgaaDoor
open Go.RowKit
def RetTE (w:World) (Q R:Nat) (E:Int) (e:Ending) (w':World):Prop :=
  ∃ p n c q m d,e = .returned (.tuple #[.slice p n c,.slice q m d,.int .i64 E]) ∧ Fr w.heap.size w' p n c (lim Q) ∧ Fr w.heap.size w' q m d (lim R) ∧ Below w.heap.size w w'
end Go.Proofs.YtcfcdbeemhjhgaaDoor
/-
  The walks of simileref01: limb,Norm,Zero,Same,Cmp,Add,Sub,Small,shift.
-/
namespace Go.Proofs.YtcfcdbeemhjhgaaDoor
open Go.RowKit
theorem Sl.lln {w:World} {p:Option Addr} {n c N:Nat} (h:Sl w p n c (lim N)):n = ll N:=by rw [← h.len,length_lim]
def RetB (w:World) (b:Bool) (e:Ending) (w':World):Prop:=e = .returned (.bool b) ∧ Below w.heap.size w w'
def Filling (w:World) (g L:Nat) (f:Nat → Nat) (k:Nat) (wr:World):Prop :=
  ∃ zs,Fr w.heap.size wr (some ⟨g,0,none⟩) L L zs ∧ Below w.heap.size w wr ∧ Hid (∀ j,j < k → nd zs j = f j)
end Go.Proofs.YtcfcdbeemhjhgaaDoor
/-
  Small lemmas that several walks want.
-/
namespace Go.Proofs.YtcfcdbeemhjhgaaDoor
open Go.RowKit
end Go.Proofs.YtcfcdbeemhjhgaaDoor
/-
  The walks of simileref01: Cmp,Add,Sub,Small,shift.
-/
namespace Go.Proofs.YtcfcdbeemhjhgaaDoor
open Go.RowKit
end Go.Proofs.YtcfcdbeemhjhgaaDoor
/-
  The walks of simileref01: Mul.
-/
namespace Go.Proofs.YtcfcdbeemhjhgaaDoor
open Go.RowKit
end Go.Proofs.YtcfcdbeemhjhgaaDoor
/-
  The walks of simileref01: Div.
-/
namespace Go.Proofs.YtcfcdbeemhjhgaaDoor
open Go.RowKit
def RetDD (w:World) (Q R:Nat) (e:Ending) (w':World):Prop :=
  ∃ p n c q m d,e = .returned (.tuple #[.slice p n c,.slice q m d]) ∧ Fr w.heap.size w' p n c (lim Q) ∧ Fr w.heap.size w' q m d (lim R) ∧ Below w.heap.size w w'
def DivAt (w2:World) (n1 C:Nat) (us:List Nat) (k:Nat) (o:Value) (wr:World):Prop :=
  ∃ p3 n3 c3 zs,o = .slice p3 n3 c3 ∧ Fr w2.heap.size wr p3 n3 c3 (lim (val (us.drop k) % C)) ∧ Fr w2.heap.size wr (some ⟨w2.heap.size,0,none⟩) n1 n1 zs ∧ Below w2.heap.size w2 wr ∧ Hid ((∀ i,i < k → nd zs i = 0) ∧ val (zs.drop k) = val (us.drop k) / C)
end Go.Proofs.YtcfcdbeemhjhgaaDoor
/-
  The walks of simileref01: Len,half,Lend,Kept.
-/
namespace Go.Proofs.YtcfcdbeemhjhgaaDoor
open Go.RowKit
def RetLend (w:World) (n:Nat) (xs:List Nat) (e:Ending) (w':World):Prop :=
  ∃ g,e = .returned (.tuple #[.slice (some ⟨g,0,none⟩) (n + 2) (n + 2),.slice (some ⟨g,1,none⟩) n (n + 1)]) ∧ Fr w.heap.size w' (some ⟨g,0,none⟩) (n + 2) (n + 2) (2779096485 :: xs ++ [2779096485]) ∧ Sl w' (some ⟨g,1,none⟩) n (n + 1) xs ∧ Below w.heap.size w w'
end Go.Proofs.YtcfcdbeemhjhgaaDoor
/-
  The walks of simileref01: Left,Right.
-/
namespace Go.Proofs.YtcfcdbeemhjhgaaDoor
open Go.RowKit
theorem Fr.made {B:Nat} (w:World) (n:Nat) (hB:B ≤ w.heap.size) (b2:n ≤ 35184372088832):Fr B (w.alloc (.cells (madeCells #[.int .u32 0] n) 24)) (some ⟨w.heap.size,0,none⟩) n n (List.replicate n 0):=by
  have hm:maxLen = 9223372036854775807:=rfl
  refine ⟨by simp,lims_zeros n,?_⟩
  have:=World.ownsRow_lit (base:=B) (e:=24) (size:=1) w (madeCells #[.int .u32 0] n) n hB (by omega) (by rw [size_madeCells,Nat.mul_one])
  rw [toList_madeCells_one] at this
  have e:(List.replicate n 0).map (fun x:Nat => Value.int .u32 (x:Int)) = List.replicate n (.int .u32 0):=by simp
  rw [e]
  exact this
end Go.Proofs.YtcfcdbeemhjhgaaDoor
/-
  The walk of simileref01: Gcd.
-/
namespace Go.Proofs.YtcfcdbeemhjhgaaDoor
open Go.RowKit
def Own (w:World) (L:Nat) (A:Nat) (v:Value) (wr:World):Prop := ∃ p n c,v = .slice p n c ∧ Fr w.heap.size wr p n c (lim A) ∧ n ≤ L
def GcdOne (w:World) (L G A k:Nat) (a b t:Value) (wr:World):Prop :=
 ∃ p n c q m d X Y s,a = .slice p n c ∧ b = .slice q m d ∧ t = .int .i64 ((s:Nat):Int) ∧ Fr w.heap.size wr p n c (lim X) ∧ Fr w.heap.size wr q m d (lim Y) ∧ Below w.heap.size w wr ∧ n ≤ L ∧ m ≤ L ∧ 0 < n ∧ 0 < m ∧ s ≤ 17592186044416 ∧
  Hid (Nat.gcd X Y * 2 ^ s = G) ∧ Hid (X * 2 ^ s = A) ∧ Hid (X = k)
def GcdTwo (w:World) (L G k:Nat) (a b:Value) (wr:World):Prop :=
  ∃ p n c q m d X Y,a = .slice p n c ∧ b = .slice q m d ∧ Fr w.heap.size wr p n c (lim X) ∧ Fr w.heap.size wr q m d (lim Y) ∧ Below w.heap.size w wr ∧ n ≤ L ∧ m ≤ L ∧ Hid (Nat.gcd X Y = G) ∧ Hid (X + Y = k)
def GcdIn (w:World) (L G:Nat) (q:Option Addr) (m d Y X0 k:Nat) (a:Value) (wr:World):Prop :=
  ∃ p n c X,a = .slice p n c ∧ Fr w.heap.size wr p n c (lim X) ∧ Fr w.heap.size wr q m d (lim Y) ∧ Below w.heap.size w wr ∧ n ≤ L ∧ 0 < n ∧ X ≤ X0 ∧ Hid (Nat.gcd X Y = G) ∧ Hid (X = k)
end Go.Proofs.YtcfcdbeemhjhgaaDoor
/-
  The walk of simileref01: Sqrt.
-/
namespace Go.Proofs.YtcfcdbeemhjhgaaDoor
open Go.RowKit
def RRootAt (w:World) (N L j:Nat) (s:Value) (wr:World):Prop :=
  ∃ p n c S,s = .slice p n c ∧ Fr w.heap.size wr p n c (lim S) ∧ Below w.heap.size w wr ∧ n ≤ L ∧ Hid (S * S ≤ N) ∧ Hid (N < (S + 2 ^ j) * (S + 2 ^ j))
end Go.Proofs.YtcfcdbeemhjhgaaDoor
