/-
  Contracts and lemmas, joined in one text.
-/
import Derived.Test.YtcfcdbeemhjhgaaDoorBB
import Derived.Test.YtcfcdbeemhjhgaaDoorBC
import Derived.Deep.RegionHeld3
import Derived.Deep.Cut
set_option linter.unusedVariables false
set_option linter.unusedSimpArgs false
/-
  Words for calls that lay their struct arguments and results in boxes of two cells.
-/
namespace Go.Proofs.YtcfcdbeemhjhgaaDoor
open Go.RowKit
theorem cOn {W w4:World} {b i:Nat} {v:Value} (h:W.cell? ⟨b,i,none⟩ = some v) (hb:Below W.heap.size W w4):w4.cell? ⟨b,i,none⟩ = some v:=by
  rw [(below_cell hb).1 _ i (World.block_lt_of_cell? W _ h)]; exact h
theorem frozen_on {W w4:World} {b i j:Nat} {v:Value} (h:W.cell? ⟨b,j,none⟩ = some v) (hf:W.frozen? ⟨b,i,none⟩ = false) (hb:Below W.heap.size W w4):w4.frozen? ⟨b,i,none⟩ = false:=by
  rw [(below_cell hb).2 _ i (World.block_lt_of_cell? W _ h)]; exact hf
theorem cSt {W:World} {b i r j:Nat} {v x:Value} (h:W.cell? ⟨b,i,none⟩ = some v) (hne:b ≠ r):(W.setCell ⟨r,j,none⟩ x).cell? ⟨b,i,none⟩ = some v:=by
  rw [World.cell?_of_block (w:=W) (Below.heap_setCell W ⟨r,j,none⟩ x b hne)]; exact h
theorem cell_same {W:World} {b i:Nat} {v x:Value} (h:W.cell? ⟨b,i,none⟩ = some v):(W.setCell ⟨b,i,none⟩ x).cell? ⟨b,i,none⟩ = some x:=World.cell?_setCell_same _ _ _ h
theorem cell_idx {W:World} {b i r j:Nat} {v x:Value} (h:W.cell? ⟨b,i,none⟩ = some v) (hne:i ≠ j):(W.setCell ⟨r,j,none⟩ x).cell? ⟨b,i,none⟩ = some v:=by
  rw [World.cell?_setCell_other]
  · exact h
  intro e; simp only [Addr.mk.injEq] at e; omega
structure Cel (r:Nat) (w:World):Prop where
  c0:∃ u,w.cell? ⟨r,0,none⟩ = some u
  c1:∃ u,w.cell? ⟨r,1,none⟩ = some u
  f0:w.frozen? ⟨r,0,none⟩ = false
  f1:w.frozen? ⟨r,1,none⟩ = false
theorem Cel.on {r:Nat} {W w4:World} (h:Cel r W) (hb:Below W.heap.size W w4):Cel r w4:=by
  obtain ⟨⟨u,hu⟩,⟨v,hv⟩,h2,h3⟩:=h
  exact ⟨⟨u,cOn hu hb⟩,⟨v,cOn hv hb⟩,frozen_on hu h2 hb,frozen_on hv h3 hb⟩
theorem Cel.drew {r:Nat} {W:World} (h:Cel r W):Cel r W.drew:=by
  obtain ⟨⟨u,hu⟩,⟨v,hv⟩,h2,h3⟩:=h
  exact ⟨⟨u,by simpa using hu⟩,⟨v,by simpa using hv⟩,by simpa using h2,by simpa using h3⟩
theorem Cel.set {r:Nat} {W:World} (h:Cel r W) (s j:Nat) (x:Value):Cel r (W.setCell ⟨s,j,none⟩ x):=by
  obtain ⟨⟨u,hu⟩,⟨v,hv⟩,h2,h3⟩:=h
  obtain ⟨u',hu'⟩:=cell?_setCell_some (w:=W) (p:=⟨s,j,none⟩) (x:=x) (q:=⟨r,0,none⟩) (v:=u) hu
  obtain ⟨v',hv'⟩:=cell?_setCell_some (w:=W) (p:=⟨s,j,none⟩) (x:=x) (q:=⟨r,1,none⟩) (v:=v) hv
  exact ⟨⟨u',hu'⟩,⟨v',hv'⟩,by rw [World.frozen?_setCell]; exact h2,by rw [World.frozen?_setCell]; exact h3⟩
theorem Cel.ofAlloc {W:World} {u v:Value} {t:TypeId} {r:Nat} (hr:r = W.heap.size):Cel r (W.alloc (.cells #[u,v] t)):=by
  subst hr
  exact ⟨⟨u,by simp⟩,⟨v,by simp⟩,by simp,by simp⟩
theorem box_c0 {W:World} {u v:Value} {t:TypeId} {r:Nat} (hr:r = W.heap.size):(W.alloc (.cells #[u,v] t)).cell? ⟨r,0,none⟩ = some u:=by subst hr; simp
theorem box_c1 {W:World} {u v:Value} {t:TypeId} {r:Nat} (hr:r = W.heap.size):(W.alloc (.cells #[u,v] t)).cell? ⟨r,1,none⟩ = some v:=by subst hr; simp
theorem bAl (W:World) (x:Obj):Below W.heap.size W (W.alloc x):=(Below.refl _ _).alloc (Nat.le_refl _) _
structure Box (w:World) (k:Nat) (w':World):Prop where
  lt:k < w'.heap.size
  below:Below w.heap.size w w'
theorem Box.on {w w1 w2:World} {k:Nat} (h:Box w k w1) (hb:Below w1.heap.size w1 w2):Box w k w2 :=
  ⟨Nat.lt_of_lt_of_le h.lt hb.size,h.below.trans (hb.mono h.below.size)⟩
theorem Box.drew {w w1:World} {k:Nat} (h:Box w k w1):Box w k w1.drew:=⟨by simpa using h.lt,h.below.drew⟩
theorem Box.set {w w1:World} {k r:Nat} (h:Box w k w1) (hr:w.heap.size ≤ r) (j:Nat) (x:Value):Box w k (w1.setCell ⟨r,j,none⟩ x):=⟨by simpa using h.lt,h.below.setCell (p:=⟨r,j,none⟩) hr _⟩
theorem Fr.setLow {B:Nat} {w:World} {p:Option Addr} {n c:Nat} {xs:List Nat} (h:Fr B w p n c xs) {r:Nat} (hr:r < B) (j:Nat) (v:Value):Fr B (w.setCell ⟨r,j,none⟩ v) p n c xs :=
  h.setOther (a:=⟨r,j,none⟩) (fun g hg => by subst hg; have:=h.block; show g ≠ r; omega) v
def RetMk (w:World) (b:Bool) (p:Option Addr) (n c:Nat) (e:Ending) (w':World):Prop :=
  e = .returned (.agg #[.bool b,.slice p n c]) ∧ Below w.heap.size w w'
def RetZ (w:World) (z:Int) (e:Ending) (w':World):Prop :=
  ∃ p n c,e = .returned (.agg #[.bool (ng z),.slice p n c]) ∧ Fr w.heap.size w' p n c (lim z.natAbs) ∧ Below w.heap.size w w'
theorem mk_ng {b:Bool} {N n:Nat} (h:n = ll N):(b && decide (0 < n)) = ng (zv b N):=by
 rw [ng_zv]
 congr 1
 rw [Bool.eq_iff_iff]
 simp only [decide_eq_true_eq]
 rw [h]
 constructor
 ·intro h1
  rcases Nat.eq_zero_or_pos N with h0 | h0
  ·rw [h0] at h1; exact absurd h1 (Nat.lt_irrefl _)
  exact h0
 intro h1; exact ll_pos (by omega)
theorem retZ_box {w W:World} {B r n c N:Nat} {p:Option Addr} {b:Bool} {u v:Value} {z:Int} (hf:Fr B W p n c (lim N)) (hr:r < B) (hw:w.heap.size ≤ r) (hb:Below w.heap.size w ((W.setCell ⟨r,0,none⟩ u).setCell ⟨r,1,none⟩ v)) (hz:z = zv b N) :
  RetZ w z (.returned (.agg #[.bool (b && decide (0 < n)),.slice p n c])) ((W.setCell ⟨r,0,none⟩ u).setCell ⟨r,1,none⟩ v):=by
 subst hz
 rw [mk_ng hf.sl.lln]
 exact ⟨p,n,c,rfl,by rw [natAbs_zv]; exact ((hf.setLow hr 0 u).setLow hr 1 v).mono (by omega),hb⟩
theorem z_len {w:World} {B n c k:Nat} {p:Option Addr} {z:Int} (h:Fr B w p n c (lim z.natAbs)) (hz:ll z.natAbs ≤ k):n ≤ k:=by rw [h.sl.lln]; exact hz
theorem z_same {w w':World} {B n c m d:Nat} {p q:Option Addr} {xs:List Nat} (hx:Sl w p n c xs) (h:Fr B w' q m d (lim (val xs))):m ≤ n:=norm_len hx h
def RetZE (w:World) (z:Int) (E:Int) (e:Ending) (w':World):Prop :=
  ∃ p n c,e = .returned (.tuple #[.agg #[.bool (ng z),.slice p n c],.int .i64 E]) ∧ Fr w.heap.size w' p n c (lim z.natAbs) ∧ Below w.heap.size w w'
def RetZZE (w:World) (x y:Int) (E:Int) (e:Ending) (w':World):Prop :=
  ∃ p n c q m d,e = .returned (.tuple #[.agg #[.bool (ng x),.slice p n c],.agg #[.bool (ng y),.slice q m d],.int .i64 E]) ∧ Fr w.heap.size w' p n c (lim x.natAbs) ∧ Fr w.heap.size w' q m d (lim y.natAbs) ∧ Below w.heap.size w w'
def RetZZ (w:World) (x y:Int) (e:Ending) (w':World):Prop :=
  ∃ p n c q m d,e = .returned (.tuple #[.agg #[.bool (ng x),.slice p n c],.agg #[.bool (ng y),.slice q m d]]) ∧ Fr w.heap.size w' p n c (lim x.natAbs) ∧ Fr w.heap.size w' q m d (lim y.natAbs) ∧ Below w.heap.size w w'
def RetZB (w:World) (z:Int) (b:Bool) (e:Ending) (w':World):Prop :=
  ∃ p n c,e = .returned (.tuple #[.agg #[.bool (ng z),.slice p n c],.bool b]) ∧ Fr w.heap.size w' p n c (lim z.natAbs) ∧ Below w.heap.size w w'
def RetZZZ (w:World) (x y z:Int) (e:Ending) (w':World):Prop :=
  ∃ p n c q m d r k f,e = .returned (.tuple #[.agg #[.bool (ng x),.slice p n c],.agg #[.bool (ng y),.slice q m d],.agg #[.bool (ng z),.slice r k f]]) ∧ Fr w.heap.size w' p n c (lim x.natAbs) ∧ Fr w.heap.size w' q m d (lim y.natAbs) ∧ Fr w.heap.size w' r k f (lim z.natAbs) ∧ Below w.heap.size w w'
theorem Fr.setBox {B B' r:Nat} {w:World} {p:Option Addr} {n c:Nat} {xs:List Nat} {u v:Value} (h:Fr B w p n c xs) (hr:r < B) (hB:B' ≤ B):Fr B' ((w.setCell ⟨r,0,none⟩ u).setCell ⟨r,1,none⟩ v) p n c xs :=
  ((h.setLow hr 0 u).setLow hr 1 v).mono hB
theorem retZ_cp {w W:World} {B r n c:Nat} {p:Option Addr} {u v:Value} {z:Int} (hf:Fr B W p n c (lim z.natAbs)) (hr:r < B) (hw:w.heap.size ≤ r) (hb:Below w.heap.size w ((W.setCell ⟨r,0,none⟩ u).setCell ⟨r,1,none⟩ v)) :
  RetZ w z (.returned (.agg #[.bool (ng z),.slice p n c])) ((W.setCell ⟨r,0,none⟩ u).setCell ⟨r,1,none⟩ v) :=
 ⟨p,n,c,rfl,hf.setBox hr (by omega),hb⟩
open Go.RowKit
open Go.RowKit
theorem sign_zv_zero {b:Bool} {n:Nat} (h:n = 0):(zv b n).sign = 0:=by rw [h,zv_zero]; rfl
theorem sign_zv_neg {n:Nat} (h:n ≠ 0):(zv true n).sign = -1:=Int.sign_eq_neg_one_of_neg (by rw [zv_true]; omega)
theorem sign_zv_pos {n:Nat} (h:n ≠ 0):(zv false n).sign = 1:=Int.sign_eq_one_of_pos (by rw [zv_false]; omega)
open Go.RowKit
open Go.RowKit
end Go.Proofs.YtcfcdbeemhjhgaaDoor
