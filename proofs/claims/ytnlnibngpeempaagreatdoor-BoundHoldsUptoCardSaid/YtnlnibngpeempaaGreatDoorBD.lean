/-
  Contracts and lemmas, joined in one text.
-/
import Derived.Test.YtnlnibngpeempaaGreatDoorBB
import Derived.Test.YtnlnibngpeempaaGreatDoorBC
import Derived.Deep.RegionHeld3
import Derived.Deep.Cut
set_option linter.unusedVariables false
set_option linter.unusedSimpArgs false
/-
  Words for calls that lay their struct arguments and results in boxes of two cells.
-/
namespace Go.Proofs.YtnlnibngpeempaaGreatDoor
open Go.RowKit
theorem cOn {W w4:World} {b i:Nat} {v:Value} (h:W.cell? ⟨b,i,none⟩ = some v) (hb:Below W.heap.size W w4):w4.cell? ⟨b,i,none⟩ = some v:=by
  rw [(below_cell hb).1 _ i (World.block_lt_of_cell? W _ h)]; exact h
theorem frozen_on {W w4:World} {b i j:Nat} {v:Value} (h:W.cell? ⟨b,j,none⟩ = some v) (hf:W.frozen? ⟨b,i,none⟩ = false) (hb:Below W.heap.size W w4):w4.frozen? ⟨b,i,none⟩ = false:=by
  rw [(below_cell hb).2 _ i (World.block_lt_of_cell? W _ h)]; exact hf
theorem cSt {W:World} {b i r j:Nat} {v x:Value} (h:W.cell? ⟨b,i,none⟩ = some v) (hne:b ≠ r):(W.setCell ⟨r,j,none⟩ x).cell? ⟨b,i,none⟩ = some v:=by
  rw [World.cell?_of_block (w:=W) (Below.heap_setCell W ⟨r,j,none⟩ x b hne)]; exact h
theorem cell_same {W:World} {b i:Nat} {v x:Value} (h:W.cell? ⟨b,i,none⟩ = some v):(W.setCell ⟨b,i,none⟩ x).cell? ⟨b,i,none⟩ = some x:=World.cell?_setCell_same _ _ _ h
theorem cell_idx {W:World} {b i r j:Nat} {v x:Value} (h:W.cell? ⟨b,i,none⟩ = some v) (hne:i ≠ j):(W.setCell ⟨r,j,none⟩ x).cell? ⟨b,i,none⟩ = some v:=by
  rw [World.cell?_setCell_other]
  · exact h
  intro e; simp only [Addr.mk.injEq] at e; omega
structure Cel (r:Nat) (w:World):Prop where
  c0:∃ u,w.cell? ⟨r,0,none⟩ = some u
  c1:∃ u,w.cell? ⟨r,1,none⟩ = some u
  f0:w.frozen? ⟨r,0,none⟩ = false
  f1:w.frozen? ⟨r,1,none⟩ = false
theorem Cel.on {r:Nat} {W w4:World} (h:Cel r W) (hb:Below W.heap.size W w4):Cel r w4:=by
  obtain ⟨⟨u,hu⟩,⟨v,hv⟩,h2,h3⟩:=h
  exact ⟨⟨u,cOn hu hb⟩,⟨v,cOn hv hb⟩,frozen_on hu h2 hb,frozen_on hv h3 hb⟩
theorem Cel.drew {r:Nat} {W:World} (h:Cel r W):Cel r W.drew:=by
  obtain ⟨⟨u,hu⟩,⟨v,hv⟩,h2,h3⟩:=h
  exact ⟨⟨u,by simpa using hu⟩,⟨v,by simpa using hv⟩,by simpa using h2,by simpa using h3⟩
theorem Cel.set {r:Nat} {W:World} (h:Cel r W) (s j:Nat) (x:Value):Cel r (W.setCell ⟨s,j,none⟩ x):=by
  obtain ⟨⟨u,hu⟩,⟨v,hv⟩,h2,h3⟩:=h
  obtain ⟨u',hu'⟩:=cell?_setCell_some (w:=W) (p:=⟨s,j,none⟩) (x:=x) (q:=⟨r,0,none⟩) (v:=u) hu
  obtain ⟨v',hv'⟩:=cell?_setCell_some (w:=W) (p:=⟨s,j,none⟩) (x:=x) (q:=⟨r,1,none⟩) (v:=v) hv
  exact ⟨⟨u',hu'⟩,⟨v',hv'⟩,by rw [World.frozen?_setCell]; exact h2,by rw [World.frozen?_setCell]; exact h3⟩
theorem Cel.ofAlloc {W:World} {u v:Value} {t:TypeId} {r:Nat} (hr:r = W.heap.size):Cel r (W.alloc (.cells #[u,v] t)):=by
  subst hr
  exact ⟨⟨u,by simp⟩,⟨v,by simp⟩,by simp,by simp⟩
theorem box_c0 {W:World} {u v:Value} {t:TypeId} {r:Nat} (hr:r = W.heap.size):(W.alloc (.cells #[u,v] t)).cell? ⟨r,0,none⟩ = some u:=by subst hr; simp
theorem box_c1 {W:World} {u v:Value} {t:TypeId} {r:Nat} (hr:r = W.heap.size):(W.alloc (.cells #[u,v] t)).cell? ⟨r,1,none⟩ = some v:=by subst hr; simp
theorem bAl (W:World) (x:Obj):Below W.heap.size W (W.alloc x):=(Below.refl _ _).alloc (Nat.le_refl _) _
theorem cell_onB {W w4:World} {b i B:Nat} {v:Value} (h:W.cell? ⟨b,i,none⟩ = some v) (hb:Below B W w4) (hlt:b < B):w4.cell? ⟨b,i,none⟩ = some v:=by
  rw [(below_cell hb).1 _ i hlt]; exact h
theorem Cel.onB {r:Nat} {W w4:World} {B:Nat} (h:Cel r W) (hb:Below B W w4) (hlt:r < B):Cel r w4:=by
  obtain ⟨⟨u,hu⟩,⟨v,hv⟩,h2,h3⟩:=h
  exact ⟨⟨u,cell_onB hu hb hlt⟩,⟨v,cell_onB hv hb hlt⟩,by rw [(below_cell hb).2 _ 0 hlt]; exact h2,by rw [(below_cell hb).2 _ 1 hlt]; exact h3⟩
structure Box (w:World) (k:Nat) (w':World):Prop where
  lt:k < w'.heap.size
  below:Below w.heap.size w w'
theorem Box.on {w w1 w2:World} {k:Nat} (h:Box w k w1) (hb:Below w1.heap.size w1 w2):Box w k w2 :=
  ⟨Nat.lt_of_lt_of_le h.lt hb.size,h.below.trans (hb.mono h.below.size)⟩
theorem Box.onB {w w1 w2:World} {k B:Nat} (h:Box w k w1) (hb:Below B w1 w2) (hk:w.heap.size ≤ B):Box w k w2 :=
  ⟨Nat.lt_of_lt_of_le h.lt hb.size,h.below.trans (hb.mono hk)⟩
theorem Box.drew {w w1:World} {k:Nat} (h:Box w k w1):Box w k w1.drew:=⟨by simpa using h.lt,h.below.drew⟩
theorem Box.set {w w1:World} {k r:Nat} (h:Box w k w1) (hr:w.heap.size ≤ r) (j:Nat) (x:Value):Box w k (w1.setCell ⟨r,j,none⟩ x):=⟨by simpa using h.lt,h.below.setCell (p:=⟨r,j,none⟩) hr _⟩
theorem Fr.setLow {B:Nat} {w:World} {p:Option Addr} {n c:Nat} {xs:List Nat} (h:Fr B w p n c xs) {r:Nat} (hr:r < B) (j:Nat) (v:Value):Fr B (w.setCell ⟨r,j,none⟩ v) p n c xs :=
  h.setOther (a:=⟨r,j,none⟩) (fun g hg => by subst hg; have:=h.block; show g ≠ r; omega) v
theorem Fr.setHigh {B:Nat} {w:World} {p:Option Addr} {n c:Nat} {xs:List Nat} (h:Fr B w p n c xs) {r:Nat} (hr:Hid (∀ g,p = some ⟨g,0,none⟩ → g < r)) (j:Nat) (v:Value):Fr B (w.setCell ⟨r,j,none⟩ v) p n c xs :=
  h.setOther (a:=⟨r,j,none⟩) (fun g hg => by have:=hr.out g hg; show g ≠ r; omega) v
theorem Fr.under {B:Nat} {w:World} {p:Option Addr} {n c:Nat} {xs:List Nat} (h:Fr B w p n c xs) {r:Nat} (hr:w.heap.size ≤ r):Hid (∀ g,p = some ⟨g,0,none⟩ → g < r):=fun g hg => by
  subst hg
  have:=h.block.2
  omega
def RetMk (w:World) (b:Bool) (p:Option Addr) (n c:Nat) (e:Ending) (w':World):Prop :=
  e = .returned (.agg #[.bool b,.slice p n c]) ∧ Below w.heap.size w w'
def RetZ (w:World) (z:Int) (e:Ending) (w':World):Prop :=
  ∃ p n c,e = .returned (.agg #[.bool (ng z),.slice p n c]) ∧ Fr w.heap.size w' p n c (lim z.natAbs) ∧ Below w.heap.size w w'
theorem mk_ng {b:Bool} {N n:Nat} (h:n = ll N):(b && decide (0 < n)) = ng (zv b N):=by
 rw [ng_zv]
 congr 1
 rw [Bool.eq_iff_iff]
 simp only [decide_eq_true_eq]
 rw [h]
 constructor
 ·intro h1
  rcases Nat.eq_zero_or_pos N with h0 | h0
  ·rw [h0] at h1; exact absurd h1 (Nat.lt_irrefl _)
  exact h0
 intro h1; exact ll_pos (by omega)
theorem retZ_box {w W:World} {B r n c N:Nat} {p:Option Addr} {b:Bool} {u v:Value} {z:Int} (hf:Fr B W p n c (lim N)) (hr:r < B) (hw:w.heap.size ≤ r) (hb:Below w.heap.size w ((W.setCell ⟨r,0,none⟩ u).setCell ⟨r,1,none⟩ v)) (hz:z = zv b N) :
  RetZ w z (.returned (.agg #[.bool (b && decide (0 < n)),.slice p n c])) ((W.setCell ⟨r,0,none⟩ u).setCell ⟨r,1,none⟩ v):=by
 subst hz
 rw [mk_ng hf.sl.lln]
 exact ⟨p,n,c,rfl,by rw [natAbs_zv]; exact ((hf.setLow hr 0 u).setLow hr 1 v).mono (by omega),hb⟩
theorem z_len {w:World} {B n c k:Nat} {p:Option Addr} {z:Int} (h:Fr B w p n c (lim z.natAbs)) (hz:ll z.natAbs ≤ k):n ≤ k:=by rw [h.sl.lln]; exact hz
theorem z_same {w w':World} {B n c m d:Nat} {p q:Option Addr} {xs:List Nat} (hx:Sl w p n c xs) (h:Fr B w' q m d (lim (val xs))):m ≤ n:=norm_len hx h
def RetZE (w:World) (z:Int) (E:Int) (e:Ending) (w':World):Prop :=
  ∃ p n c,e = .returned (.tuple #[.agg #[.bool (ng z),.slice p n c],.int .i64 E]) ∧ Fr w.heap.size w' p n c (lim z.natAbs) ∧ Below w.heap.size w w'
def RetZZE (w:World) (x y:Int) (E:Int) (e:Ending) (w':World):Prop :=
  ∃ p n c q m d,e = .returned (.tuple #[.agg #[.bool (ng x),.slice p n c],.agg #[.bool (ng y),.slice q m d],.int .i64 E]) ∧ Fr w.heap.size w' p n c (lim x.natAbs) ∧ Fr w.heap.size w' q m d (lim y.natAbs) ∧ Below w.heap.size w w'
def RetZZ (w:World) (x y:Int) (e:Ending) (w':World):Prop :=
  ∃ p n c q m d,e = .returned (.tuple #[.agg #[.bool (ng x),.slice p n c],.agg #[.bool (ng y),.slice q m d]]) ∧ Fr w.heap.size w' p n c (lim x.natAbs) ∧ Fr w.heap.size w' q m d (lim y.natAbs) ∧ Below w.heap.size w w'
def RetZB (w:World) (z:Int) (b:Bool) (e:Ending) (w':World):Prop :=
  ∃ p n c,e = .returned (.tuple #[.agg #[.bool (ng z),.slice p n c],.bool b]) ∧ Fr w.heap.size w' p n c (lim z.natAbs) ∧ Below w.heap.size w w'
def RetZZZ (w:World) (x y z:Int) (e:Ending) (w':World):Prop :=
  ∃ p n c q m d r k f,e = .returned (.tuple #[.agg #[.bool (ng x),.slice p n c],.agg #[.bool (ng y),.slice q m d],.agg #[.bool (ng z),.slice r k f]]) ∧ Fr w.heap.size w' p n c (lim x.natAbs) ∧ Fr w.heap.size w' q m d (lim y.natAbs) ∧ Fr w.heap.size w' r k f (lim z.natAbs) ∧ Below w.heap.size w w'
theorem Fr.setBox {B B' r:Nat} {w:World} {p:Option Addr} {n c:Nat} {xs:List Nat} {u v:Value} (h:Fr B w p n c xs) (hr:r < B) (hB:B' ≤ B):Fr B' ((w.setCell ⟨r,0,none⟩ u).setCell ⟨r,1,none⟩ v) p n c xs :=
  ((h.setLow hr 0 u).setLow hr 1 v).mono hB
theorem retZ_cp {w W:World} {B r n c:Nat} {p:Option Addr} {u v:Value} {z:Int} (hf:Fr B W p n c (lim z.natAbs)) (hr:r < B) (hw:w.heap.size ≤ r) (hb:Below w.heap.size w ((W.setCell ⟨r,0,none⟩ u).setCell ⟨r,1,none⟩ v)) :
  RetZ w z (.returned (.agg #[.bool (ng z),.slice p n c])) ((W.setCell ⟨r,0,none⟩ u).setCell ⟨r,1,none⟩ v) :=
 ⟨p,n,c,rfl,hf.setBox hr (by omega),hb⟩
open Go.RowKit
theorem make1_any {p:Option Addr} {n c:Nat} {b:Bool} {w:World} :
  Calls Tryz.prog 73 #[.bool b,.slice p n c] w (RetMk w (b && decide (0 < n)) p n c):=by
 cases b
 ·go_enter Tryz.func73,Tryz.ntmps73
  go_wp2_with fail
  exact bodyPost_ret (v:=.agg #[.bool false,.slice p n c]) (by simp [results,Tryz.results73,go_sem]) rfl ⟨rfl,(Below.refl _ _).alloc (Nat.le_refl _) _⟩
 go_enter Tryz.func73,Tryz.ntmps73
 go_wp2_with fail
 exact bodyPost_ret (v:=.agg #[.bool (decide (0 < n)),.slice p n c]) (by simp [results,Tryz.results73,go_sem]) rfl ⟨by simp,(Below.refl _ _).alloc (Nat.le_refl _) _⟩
theorem nnorm_any {p:Option Addr} {n c:Nat} {xs:List Nat} {w:World} (hx:Sl w p n c xs) (hn:n ≤ 17592186044416) :
  Calls Tryz.prog 111 #[.slice p n c] w (RetN w (lim (val xs))):=by
 go_enter Tryz.func111,Tryz.ntmps111
 go_wp2_with fail
 refine (own_any hx hn).mono ?_
 rintro e w1 ⟨p1,n1,c1,rfl,hf1,hb1⟩
 go_wp2_with fail
 go_ret
 exact ⟨_,_,_,rfl,hf1,hb1⟩
set_option maxHeartbeats 8000000 in
theorem zabs_any {p:Option Addr} {n c:Nat} {b:Bool} {xs:List Nat} {w:World} (hx:Sl w p n c xs) (hn:n ≤ 17592186044416) :
  Calls Tryz.prog 76 #[.agg #[.bool b,.slice p n c]] w (RetZ w ((zv b (val xs)).natAbs:Int)):=by
 go_enter Tryz.func76,Tryz.ntmps76
 go_wp2_with fail
 obtain ⟨W,hW⟩:∃ W:World,W = ((w.alloc (.cells #[.bool b,.slice p n c] 28)).alloc (.cells #[.bool false,.slice none 0 0] 28)):=⟨_,rfl⟩
 rw [← hW]
 have hA00:W.cell? ⟨w.heap.size,0,none⟩ = some (.bool b):=by rw [hW]; exact (cOn (box_c0 (by simp)) (bAl _ _))
 have hA01:W.cell? ⟨w.heap.size,1,none⟩ = some (.slice p n c):=by rw [hW]; exact (cOn (box_c1 (by simp)) (bAl _ _))
 have hR0:Cel (w.heap.size + 1) W:=by rw [hW]; exact (Cel.ofAlloc (by simp))
 have hB:Box w (w.heap.size + 1) W:=by rw [hW]; exact ⟨by (try simp) <;> omega,(((Below.refl _ _).alloc (Nat.le_refl _) _).alloc (by (try simp) <;> omega) _)⟩
 clear hW
 go_wp2_with fail
 refine (nnorm_any (hx.below hB.below (Nat.le_refl _)) hn).mono ?_
 rintro e w1 ⟨p4,n4,c4,rfl,hf4,hb1⟩
 have hlt1:=hB.lt
 replace hA00:=cOn hA00 hb1
 replace hA01:=cOn hA01 hb1
 replace hR0:=hR0.on hb1
 replace hB:=hB.on hb1
 clear hb1
 go_wp2_with fail
 refine (make1_any).mono ?_
 rintro e w2 ⟨rfl,hb2⟩
 replace hA00:=cOn hA00 hb2
 replace hA01:=cOn hA01 hb2
 replace hR0:=hR0.on hb2
 replace hB:=hB.on hb2
 replace hf4:=hf4.below hb2 (Nat.le_refl _)
 clear hb2
 obtain ⟨⟨u0,hu0⟩,⟨u1,hu1⟩,hug0,hug1⟩:=hR0
 go_wp2_with fail
 refine bodyPost_ret (v:=.agg #[.bool false,.slice p4 n4 c4]) (by simp [results,Tryz.results76,go_sem,hu0,hu1]) rfl ?_
 exact retZ_box (b:=false) hf4 (by omega) (by omega) ((hB.set (by omega) _ _).set (by omega) _ _).below (by rw [natAbs_zv]; rfl)
set_option maxHeartbeats 8000000 in
theorem zmul_any {p q:Option Addr} {n m c d:Nat} {b b2:Bool} {xs ys:List Nat} {w:World} (hx:Sl w p n c xs) (hy:Sl w q m d ys) (hn:n ≤ 4398046511104) (hm:m ≤ 4398046511104) :
  Calls Tryz.prog 35 #[.agg #[.bool b,.slice p n c],.agg #[.bool b2,.slice q m d]] w (RetZ w (zv b (val xs) * zv b2 (val ys))):=by
 go_enter Tryz.func35,Tryz.ntmps35
 go_wp2_with fail
 obtain ⟨W,hW⟩:∃ W:World,W = (((w.alloc (.cells #[.bool b,.slice p n c] 28)).alloc (.cells #[.bool b2,.slice q m d] 28)).alloc (.cells #[.bool false,.slice none 0 0] 28)):=⟨_,rfl⟩
 rw [← hW]
 have hA00:W.cell? ⟨w.heap.size,0,none⟩ = some (.bool b):=by rw [hW]; exact (cOn (cOn (box_c0 (by simp)) (bAl _ _)) (bAl _ _))
 have hA01:W.cell? ⟨w.heap.size,1,none⟩ = some (.slice p n c):=by rw [hW]; exact (cOn (cOn (box_c1 (by simp)) (bAl _ _)) (bAl _ _))
 have hA10:W.cell? ⟨w.heap.size + 1,0,none⟩ = some (.bool b2):=by rw [hW]; exact (cOn (box_c0 (by simp)) (bAl _ _))
 have hA11:W.cell? ⟨w.heap.size + 1,1,none⟩ = some (.slice q m d):=by rw [hW]; exact (cOn (box_c1 (by simp)) (bAl _ _))
 have hR0:Cel (w.heap.size + 2) W:=by rw [hW]; exact (Cel.ofAlloc (by simp))
 have hB:Box w (w.heap.size + 2) W:=by rw [hW]; exact ⟨by (try simp) <;> omega,((((Below.refl _ _).alloc (Nat.le_refl _) _).alloc (by (try simp) <;> omega) _).alloc (by (try simp) <;> omega) _)⟩
 clear hW
 go_wp2_with fail
 go_region_held3 (fun w' => w'.cell? ⟨w.heap.size,0,none⟩ = some (.bool b) ∧ w'.cell? ⟨w.heap.size,1,none⟩ = some (.slice p n c) ∧ w'.cell? ⟨w.heap.size + 1,0,none⟩ = some (.bool b2) ∧ w'.cell? ⟨w.heap.size + 1,1,none⟩ = some (.slice q m d) ∧ Cel (w.heap.size + 2) w' ∧ Box w (w.heap.size + 2) w')
  (first | exact ⟨by simpa using hA00,by simpa using hA01,by simpa using hA10,by simpa using hA11,hR0.drew,hB.drew⟩ | exact ‹World.cell? _ _ = some _ ∧ World.cell? _ _ = some _ ∧ World.cell? _ _ = some _ ∧ World.cell? _ _ = some _ ∧ Cel _ _ ∧ Box w _ _› | (have hS := ‹World.cell? _ _ = some _ ∧ World.cell? _ _ = some _ ∧ World.cell? _ _ = some _ ∧ World.cell? _ _ = some _ ∧ Cel _ _ ∧ Box w _ _›; exact ⟨cOn hS.1 hb1,cOn hS.2.1 hb1,cOn hS.2.2.1 hb1,cOn hS.2.2.2.1 hb1,hS.2.2.2.2.1.on hb1,hS.2.2.2.2.2.on hb1⟩) | (have hS := ‹World.cell? _ _ = some _ ∧ World.cell? _ _ = some _ ∧ World.cell? _ _ = some _ ∧ World.cell? _ _ = some _ ∧ Cel _ _ ∧ Box w _ _›; exact ⟨cOn hS.1 hb2,cOn hS.2.1 hb2,cOn hS.2.2.1 hb2,cOn hS.2.2.2.1 hb2,hS.2.2.2.2.1.on hb2,hS.2.2.2.2.2.on hb2⟩) | (have hS := ‹World.cell? _ _ = some _ ∧ World.cell? _ _ = some _ ∧ World.cell? _ _ = some _ ∧ World.cell? _ _ = some _ ∧ Cel _ _ ∧ Box w _ _›; exact ⟨cSt (cSt hS.1 (by omega)) (by omega),cSt (cSt hS.2.1 (by omega)) (by omega),cSt (cSt hS.2.2.1 (by omega)) (by omega),cSt (cSt hS.2.2.2.1 (by omega)) (by omega),(hS.2.2.2.2.1.set _ _ _).set _ _ _,(hS.2.2.2.2.2.set (by omega) _ _).set (by omega) _ _⟩))
  (first | (go_at_call 41; have hS := ‹World.cell? _ _ = some _ ∧ World.cell? _ _ = some _ ∧ World.cell? _ _ = some _ ∧ World.cell? _ _ = some _ ∧ Cel _ _ ∧ Box w _ _›; refine (mul_any (hx.below hS.2.2.2.2.2.below (Nat.le_refl _)) (hy.below hS.2.2.2.2.2.below (Nat.le_refl _)) hn hm).mono ?_; rintro e w1 ⟨p4,n4,c4,rfl,hf4,hb1⟩; have hlt1:=hS.2.2.2.2.2.lt; clear hS) | (go_at_call 73; have hS := ‹World.cell? _ _ = some _ ∧ World.cell? _ _ = some _ ∧ World.cell? _ _ = some _ ∧ World.cell? _ _ = some _ ∧ Cel _ _ ∧ Box w _ _›; refine (make1_any).mono ?_; rintro e w2 ⟨rfl,hb2⟩; replace hf4:=hf4.below hb2 (Nat.le_refl _); obtain ⟨⟨u0,hu0⟩,⟨u1,hu1⟩,hug0,hug1⟩:=(hS.2.2.2.2.1).on hb2; clear hS))
 obtain ⟨hA00,hA01,hA10,hA11,hR0,hB⟩ := ‹World.cell? _ _ = some _ ∧ World.cell? _ _ = some _ ∧ World.cell? _ _ = some _ ∧ World.cell? _ _ = some _ ∧ Cel _ _ ∧ Box w _ _›
 go_wp2_with fail
 refine bodyPost_ret (v:=.agg #[.bool ((!(b == b2)) && decide (0 < n4)),.slice p4 n4 c4]) (by simp [results,Tryz.results35,go_sem,hu0,hu1]) rfl ?_
 exact retZ_box hf4 (by omega) (by omega) hB.below (zv_mul _ _ _ _).symm
open Go.RowKit
set_option maxHeartbeats 1000000 in
theorem zsign_zero {p:Option Addr} {n c:Nat} {b:Bool} {xs:List Nat} {w:World} (hx:Sl w p n c xs) (hn:n ≤ 17592186044416) (h:val xs = 0) :
  Calls Tryz.prog 67 #[.agg #[.bool b,.slice p n c]] w (RetInt w (0)):=by
 have H:Hid (blen (val xs) = 0):=by show _ = _; rw [h]; rfl
 clear h
 go_enter Tryz.func67,Tryz.ntmps67
 go_wp2_with fail
 obtain ⟨W,hW⟩:∃ W:World,W = (w.alloc (.cells #[.bool b,.slice p n c] 28)):=⟨_,rfl⟩
 rw [← hW]
 have hA00:W.cell? ⟨w.heap.size,0,none⟩ = some (.bool b):=by rw [hW]; exact (box_c0 (by simp))
 have hA01:W.cell? ⟨w.heap.size,1,none⟩ = some (.slice p n c):=by rw [hW]; exact (box_c1 (by simp))
 have hB:Box w (w.heap.size) W:=by rw [hW]; exact ⟨by (try simp) <;> omega,((Below.refl _ _).alloc (Nat.le_refl _) _)⟩
 clear hW
 go_wp2_with fail
 refine (len_any (hx.below hB.below (Nat.le_refl _)) hn).mono ?_
 rw [H.out]
 rintro e w1 ⟨rfl,rfl⟩
 go_wp2_with fail
 go_ret
 exact ⟨rfl,hB.below⟩
set_option maxHeartbeats 1000000 in
theorem zsign_neg {p:Option Addr} {n c:Nat} {xs:List Nat} {w:World} (hx:Sl w p n c xs) (hn:n ≤ 17592186044416) (h:val xs ≠ 0) :
  Calls Tryz.prog 67 #[.agg #[.bool true,.slice p n c]] w (RetInt w (-1)):=by
 have hb1:=blen_pos h
 have hz:((blen (val xs):Int) == 0) = false:=by simp; omega
 clear h
 go_enter Tryz.func67,Tryz.ntmps67
 go_wp2_with fail
 obtain ⟨W,hW⟩:∃ W:World,W = (w.alloc (.cells #[.bool true,.slice p n c] 28)):=⟨_,rfl⟩
 rw [← hW]
 have hA00:W.cell? ⟨w.heap.size,0,none⟩ = some (.bool true):=by rw [hW]; exact (box_c0 (by simp))
 have hA01:W.cell? ⟨w.heap.size,1,none⟩ = some (.slice p n c):=by rw [hW]; exact (box_c1 (by simp))
 have hB:Box w (w.heap.size) W:=by rw [hW]; exact ⟨by (try simp) <;> omega,((Below.refl _ _).alloc (Nat.le_refl _) _)⟩
 clear hW
 go_wp2_with fail
 refine (len_any (hx.below hB.below (Nat.le_refl _)) hn).mono ?_
 rintro e w1 ⟨rfl,rfl⟩
 go_wp2_with fail
 go_ret
 exact ⟨rfl,hB.below⟩
set_option maxHeartbeats 1000000 in
theorem zsign_pos {p:Option Addr} {n c:Nat} {xs:List Nat} {w:World} (hx:Sl w p n c xs) (hn:n ≤ 17592186044416) (h:val xs ≠ 0) :
  Calls Tryz.prog 67 #[.agg #[.bool false,.slice p n c]] w (RetInt w (1)):=by
 have hb1:=blen_pos h
 have hz:((blen (val xs):Int) == 0) = false:=by simp; omega
 clear h
 go_enter Tryz.func67,Tryz.ntmps67
 go_wp2_with fail
 obtain ⟨W,hW⟩:∃ W:World,W = (w.alloc (.cells #[.bool false,.slice p n c] 28)):=⟨_,rfl⟩
 rw [← hW]
 have hA00:W.cell? ⟨w.heap.size,0,none⟩ = some (.bool false):=by rw [hW]; exact (box_c0 (by simp))
 have hA01:W.cell? ⟨w.heap.size,1,none⟩ = some (.slice p n c):=by rw [hW]; exact (box_c1 (by simp))
 have hB:Box w (w.heap.size) W:=by rw [hW]; exact ⟨by (try simp) <;> omega,((Below.refl _ _).alloc (Nat.le_refl _) _)⟩
 clear hW
 go_wp2_with fail
 refine (len_any (hx.below hB.below (Nat.le_refl _)) hn).mono ?_
 rintro e w1 ⟨rfl,rfl⟩
 go_wp2_with fail
 go_ret
 exact ⟨rfl,hB.below⟩
theorem sign_zv_zero {b:Bool} {n:Nat} (h:n = 0):(zv b n).sign = 0:=by rw [h,zv_zero]; rfl
theorem sign_zv_neg {n:Nat} (h:n ≠ 0):(zv true n).sign = -1:=Int.sign_eq_neg_one_of_neg (by rw [zv_true]; omega)
theorem sign_zv_pos {n:Nat} (h:n ≠ 0):(zv false n).sign = 1:=Int.sign_eq_one_of_pos (by rw [zv_false]; omega)
theorem zsign_any {p:Option Addr} {n c:Nat} {b:Bool} {xs:List Nat} {w:World} (hx:Sl w p n c xs) (hn:n ≤ 17592186044416) :
  Calls Tryz.prog 67 #[.agg #[.bool b,.slice p n c]] w (RetInt w (zv b (val xs)).sign):=by
 by_cases h:val xs = 0
 ·rw [sign_zv_zero h]; exact zsign_zero hx hn h
 cases b
 ·rw [sign_zv_pos h]; exact zsign_pos hx hn h
 rw [sign_zv_neg h]; exact zsign_neg hx hn h
theorem neg_zv (b:Bool) (N:Nat) : -(zv b N) = zv (decide (0 < zv b N)) N:=by
 cases b
 ·rcases Nat.eq_zero_or_pos N with h | h
  ·subst h; rfl
  rw [zv_false,decide_eq_true (by omega)]; rfl
 rw [zv_true,decide_eq_false (by omega),zv_false]; omega
set_option maxHeartbeats 1000000 in
theorem zneg_any {p:Option Addr} {n c:Nat} {b:Bool} {xs:List Nat} {w:World} (hx:Sl w p n c xs) (hn:n ≤ 17592186044416) :
  Calls Tryz.prog 102 #[.agg #[.bool b,.slice p n c]] w (RetZ w (-(zv b (val xs)))):=by
 go_enter Tryz.func102,Tryz.ntmps102
 go_wp2_with fail
 obtain ⟨W,hW⟩:∃ W:World,W = ((w.alloc (.cells #[.bool b,.slice p n c] 28)).alloc (.cells #[.bool false,.slice none 0 0] 28)):=⟨_,rfl⟩
 rw [← hW]
 have hA00:W.cell? ⟨w.heap.size,0,none⟩ = some (.bool b):=by rw [hW]; exact (cOn (box_c0 (by simp)) (bAl _ _))
 have hA01:W.cell? ⟨w.heap.size,1,none⟩ = some (.slice p n c):=by rw [hW]; exact (cOn (box_c1 (by simp)) (bAl _ _))
 have hR0:Cel (w.heap.size + 1) W:=by rw [hW]; exact (Cel.ofAlloc (by simp))
 have hB:Box w (w.heap.size + 1) W:=by rw [hW]; exact ⟨by (try simp) <;> omega,(((Below.refl _ _).alloc (Nat.le_refl _) _).alloc (by (try simp) <;> omega) _)⟩
 clear hW
 go_wp2_with fail
 go_region_held3 (fun w' => w'.cell? ⟨w.heap.size,0,none⟩ = some (.bool b) ∧ w'.cell? ⟨w.heap.size,1,none⟩ = some (.slice p n c) ∧ Cel (w.heap.size + 1) w' ∧ Box w (w.heap.size + 1) w')
  (first | exact ⟨by simpa using hA00,by simpa using hA01,hR0.drew,hB.drew⟩ | (have hS := ‹World.cell? _ _ = some _ ∧ World.cell? _ _ = some _ ∧ Cel _ _ ∧ Box w _ _›; exact ⟨cOn hS.1 hb1,cOn hS.2.1 hb1,hS.2.2.1.on hb1,hS.2.2.2.on hb1⟩) | (have hS := ‹World.cell? _ _ = some _ ∧ World.cell? _ _ = some _ ∧ Cel _ _ ∧ Box w _ _›; exact ⟨cOn hS.1 hb2,cOn hS.2.1 hb2,hS.2.2.1.on hb2,hS.2.2.2.on hb2⟩) | (have hS := ‹World.cell? _ _ = some _ ∧ World.cell? _ _ = some _ ∧ Cel _ _ ∧ Box w _ _›; exact ⟨cOn hS.1 hb3,cOn hS.2.1 hb3,hS.2.2.1.on hb3,hS.2.2.2.on hb3⟩) | (have hS := ‹World.cell? _ _ = some _ ∧ World.cell? _ _ = some _ ∧ Cel _ _ ∧ Box w _ _›; exact ⟨cSt (cSt hS.1 (by omega)) (by omega),cSt (cSt hS.2.1 (by omega)) (by omega),(hS.2.2.1.set _ _ _).set _ _ _,(hS.2.2.2.set (by omega) _ _).set (by omega) _ _⟩))
  (first | (go_at_call 67; have hS := ‹World.cell? _ _ = some _ ∧ World.cell? _ _ = some _ ∧ Cel _ _ ∧ Box w _ _›; refine (zsign_any (hx.below hS.2.2.2.below (Nat.le_refl _)) hn).mono ?_; rintro e w1 ⟨rfl,hb1⟩; clear hS) | (go_at_call 111; have hS := ‹World.cell? _ _ = some _ ∧ World.cell? _ _ = some _ ∧ Cel _ _ ∧ Box w _ _›; refine (nnorm_any (hx.below hS.2.2.2.below (Nat.le_refl _)) hn).mono ?_; rintro e w2 ⟨p4,n4,c4,rfl,hf4,hb2⟩; have hlt2:=hS.2.2.2.lt; clear hS) | (go_at_call 73; have hS := ‹World.cell? _ _ = some _ ∧ World.cell? _ _ = some _ ∧ Cel _ _ ∧ Box w _ _›; refine (make1_any).mono ?_; rintro e w3 ⟨rfl,hb3⟩; replace hf4:=hf4.below hb3 (Nat.le_refl _); obtain ⟨⟨u0,hu0⟩,⟨u1,hu1⟩,hug0,hug1⟩:=(hS.2.2.1).on hb3; clear hS))
 obtain ⟨hA00,hA01,hR0,hB⟩ := ‹World.cell? _ _ = some _ ∧ World.cell? _ _ = some _ ∧ Cel _ _ ∧ Box w _ _›
 go_wp2_with fail
 refine bodyPost_ret (v:=.agg #[.bool (decide (0 < zv b (val xs)) && decide (0 < n4)),.slice p4 n4 c4]) (by simp [results,Tryz.results102,go_sem,hu0,hu1]) rfl ?_
 exact retZ_box hf4 (by omega) (by omega) hB.below (neg_zv _ _)
set_option maxHeartbeats 1000000 in
theorem joined_ge {p q:Option Addr} {n m c d:Nat} {b b2:Bool} {xs ys:List Nat} {w:World} (hx:Sl w p n c xs) (hy:Sl w q m d ys) (hn:n ≤ 4398046511104) (hm:m ≤ 4398046511104) (hs:b ≠ b2) (h:val ys ≤ val xs) :
  Calls Tryz.prog 75 #[.agg #[.bool b,.slice p n c],.agg #[.bool b2,.slice q m d]] w (RetZ w (zv b (val xs) + zv b2 (val ys))):=by
 have HC:=Lib.hid h
 clear h
 have HS:=Lib.hid hs
 clear hs
 go_enter Tryz.func75,Tryz.ntmps75
 go_wp2_with fail
 obtain ⟨W,hW⟩:∃ W:World,W = (((w.alloc (.cells #[.bool b,.slice p n c] 28)).alloc (.cells #[.bool b2,.slice q m d] 28)).alloc (.cells #[.bool false,.slice none 0 0] 28)):=⟨_,rfl⟩
 rw [← hW]
 have hA00:W.cell? ⟨w.heap.size,0,none⟩ = some (.bool b):=by rw [hW]; exact (cOn (cOn (box_c0 (by simp)) (bAl _ _)) (bAl _ _))
 have hA01:W.cell? ⟨w.heap.size,1,none⟩ = some (.slice p n c):=by rw [hW]; exact (cOn (cOn (box_c1 (by simp)) (bAl _ _)) (bAl _ _))
 have hA10:W.cell? ⟨w.heap.size + 1,0,none⟩ = some (.bool b2):=by rw [hW]; exact (cOn (box_c0 (by simp)) (bAl _ _))
 have hA11:W.cell? ⟨w.heap.size + 1,1,none⟩ = some (.slice q m d):=by rw [hW]; exact (cOn (box_c1 (by simp)) (bAl _ _))
 have hR0:Cel (w.heap.size + 2) W:=by rw [hW]; exact (Cel.ofAlloc (by simp))
 have hB:Box w (w.heap.size + 2) W:=by rw [hW]; exact ⟨by (try simp) <;> omega,((((Below.refl _ _).alloc (Nat.le_refl _) _).alloc (by (try simp) <;> omega) _).alloc (by (try simp) <;> omega) _)⟩
 clear hW
 go_wp2_with fail
 refine (cmp_any (hx.below hB.below (Nat.le_refl _)) (hy.below hB.below (Nat.le_refl _))).mono ?_
 obtain ⟨cc,hcc,hcc0⟩:∃ cc:Int,cmpN (val xs) (val ys) = cc ∧ 0 ≤ cc:=⟨_,rfl,cmpN_not_below HC.out⟩
 rw [hcc]
 have hz8:decide (cc < (0:Int)) = false:=by simp; omega
 clear hcc
 rintro e w1 ⟨rfl,hb1⟩
 replace hA00:=cOn hA00 hb1
 replace hA01:=cOn hA01 hb1
 replace hA10:=cOn hA10 hb1
 replace hA11:=cOn hA11 hb1
 replace hR0:=hR0.on hb1
 replace hB:=hB.on hb1
 clear hb1
 go_wp2_with fail
 refine (sub_yes (hx.below hB.below (Nat.le_refl _)) (hy.below hB.below (Nat.le_refl _)) (by omega) (by omega) HC.out).mono ?_
 rintro e w2 ⟨p4,n4,c4,rfl,hf4,hb2⟩
 have hlt2:=hB.lt
 replace hA00:=cOn hA00 hb2
 replace hA01:=cOn hA01 hb2
 replace hA10:=cOn hA10 hb2
 replace hA11:=cOn hA11 hb2
 replace hR0:=hR0.on hb2
 replace hB:=hB.on hb2
 clear hb2
 go_wp2_with fail
 refine (make1_any).mono ?_
 rintro e w3 ⟨rfl,hb3⟩
 replace hA00:=cOn hA00 hb3
 replace hA01:=cOn hA01 hb3
 replace hA10:=cOn hA10 hb3
 replace hA11:=cOn hA11 hb3
 replace hR0:=hR0.on hb3
 replace hB:=hB.on hb3
 replace hf4:=hf4.below hb3 (Nat.le_refl _)
 clear hb3
 obtain ⟨⟨u0,hu0⟩,⟨u1,hu1⟩,hug0,hug1⟩:=hR0
 go_wp2_with fail
 refine bodyPost_ret (v:=.agg #[.bool (b && decide (0 < n4)),.slice p4 n4 c4]) (by simp [results,Tryz.results75,go_sem,hu0,hu1]) rfl ?_
 exact retZ_box hf4 (by omega) (by omega) ((hB.set (by omega) _ _).set (by omega) _ _).below (zv_add_le HS.out HC.out).symm
set_option maxHeartbeats 1000000 in
theorem joined_lt {p q:Option Addr} {n m c d:Nat} {b b2:Bool} {xs ys:List Nat} {w:World} (hx:Sl w p n c xs) (hy:Sl w q m d ys) (hn:n ≤ 4398046511104) (hm:m ≤ 4398046511104) (hs:b ≠ b2) (h:val xs < val ys) :
  Calls Tryz.prog 75 #[.agg #[.bool b,.slice p n c],.agg #[.bool b2,.slice q m d]] w (RetZ w (zv b (val xs) + zv b2 (val ys))):=by
 have HC:=Lib.hid h
 clear h
 have HS:=Lib.hid hs
 clear hs
 go_enter Tryz.func75,Tryz.ntmps75
 go_wp2_with fail
 obtain ⟨W,hW⟩:∃ W:World,W = (((w.alloc (.cells #[.bool b,.slice p n c] 28)).alloc (.cells #[.bool b2,.slice q m d] 28)).alloc (.cells #[.bool false,.slice none 0 0] 28)):=⟨_,rfl⟩
 rw [← hW]
 have hA00:W.cell? ⟨w.heap.size,0,none⟩ = some (.bool b):=by rw [hW]; exact (cOn (cOn (box_c0 (by simp)) (bAl _ _)) (bAl _ _))
 have hA01:W.cell? ⟨w.heap.size,1,none⟩ = some (.slice p n c):=by rw [hW]; exact (cOn (cOn (box_c1 (by simp)) (bAl _ _)) (bAl _ _))
 have hA10:W.cell? ⟨w.heap.size + 1,0,none⟩ = some (.bool b2):=by rw [hW]; exact (cOn (box_c0 (by simp)) (bAl _ _))
 have hA11:W.cell? ⟨w.heap.size + 1,1,none⟩ = some (.slice q m d):=by rw [hW]; exact (cOn (box_c1 (by simp)) (bAl _ _))
 have hF00:W.frozen? ⟨w.heap.size,0,none⟩ = false:=by rw [hW]; exact (((Cel.ofAlloc (by simp)).on (bAl _ _)).on (bAl _ _)).f0
 have hF01:W.frozen? ⟨w.heap.size,1,none⟩ = false:=by rw [hW]; exact (((Cel.ofAlloc (by simp)).on (bAl _ _)).on (bAl _ _)).f1
 have hF10:W.frozen? ⟨w.heap.size + 1,0,none⟩ = false:=by rw [hW]; exact ((Cel.ofAlloc (by simp)).on (bAl _ _)).f0
 have hF11:W.frozen? ⟨w.heap.size + 1,1,none⟩ = false:=by rw [hW]; exact ((Cel.ofAlloc (by simp)).on (bAl _ _)).f1
 have hR0:Cel (w.heap.size + 2) W:=by rw [hW]; exact (Cel.ofAlloc (by simp))
 have hB:Box w (w.heap.size + 2) W:=by rw [hW]; exact ⟨by (try simp) <;> omega,((((Below.refl _ _).alloc (Nat.le_refl _) _).alloc (by (try simp) <;> omega) _).alloc (by (try simp) <;> omega) _)⟩
 clear hW
 go_wp2_with fail
 refine (cmp_any (hx.below hB.below (Nat.le_refl _)) (hy.below hB.below (Nat.le_refl _))).mono ?_
 obtain ⟨cc,hcc,hcc0⟩:∃ cc:Int,cmpN (val xs) (val ys) = cc ∧ cc < 0:=⟨_,rfl,cmpN_below HC.out⟩
 rw [hcc]
 have hz8:decide (cc < (0:Int)) = true:=by simp; omega
 clear hcc
 rintro e w1 ⟨rfl,hb1⟩
 replace hF00:=frozen_on hA00 hF00 hb1
 replace hF01:=frozen_on hA01 hF01 hb1
 replace hF10:=frozen_on hA10 hF10 hb1
 replace hF11:=frozen_on hA11 hF11 hb1
 replace hA00:=cOn hA00 hb1
 replace hA01:=cOn hA01 hb1
 replace hA10:=cOn hA10 hb1
 replace hA11:=cOn hA11 hb1
 replace hR0:=hR0.on hb1
 replace hB:=hB.on hb1
 clear hb1
 go_wp2_with fail
 obtain ⟨W2,hW⟩:∃ W2:World,W2 = ((((w1.setCell ⟨w.heap.size,0,none⟩ (.bool b2)).setCell ⟨w.heap.size,1,none⟩ (.slice q m d)).setCell ⟨w.heap.size + 1,0,none⟩ (.bool b)).setCell ⟨w.heap.size + 1,1,none⟩ (.slice p n c)):=⟨_,rfl⟩
 rw [← hW]
 have qhA00:W2.cell? ⟨w.heap.size,0,none⟩ = some (.bool b2):=by rw [hW]; exact cSt (cSt (cell_idx (cell_same hA00) (by decide)) (by omega)) (by omega)
 have qhA01:W2.cell? ⟨w.heap.size,1,none⟩ = some (.slice q m d):=by rw [hW]; exact cSt (cSt (cell_same (cell_idx hA01 (by decide))) (by omega)) (by omega)
 have qhA10:W2.cell? ⟨w.heap.size + 1,0,none⟩ = some (.bool b):=by rw [hW]; exact cell_idx (cell_same (cSt (cSt hA10 (by omega)) (by omega))) (by decide)
 have qhA11:W2.cell? ⟨w.heap.size + 1,1,none⟩ = some (.slice p n c):=by rw [hW]; exact cell_same (cell_idx (cSt (cSt hA11 (by omega)) (by omega)) (by decide))
 have qhF00:W2.frozen? ⟨w.heap.size,0,none⟩ = false:=by rw [hW]; simp only [World.frozen?_setCell]; exact hF00
 have qhF01:W2.frozen? ⟨w.heap.size,1,none⟩ = false:=by rw [hW]; simp only [World.frozen?_setCell]; exact hF01
 have qhF10:W2.frozen? ⟨w.heap.size + 1,0,none⟩ = false:=by rw [hW]; simp only [World.frozen?_setCell]; exact hF10
 have qhF11:W2.frozen? ⟨w.heap.size + 1,1,none⟩ = false:=by rw [hW]; simp only [World.frozen?_setCell]; exact hF11
 have qhR0:Cel (w.heap.size + 2) W2:=by rw [hW]; exact (((hR0.set _ _ _).set _ _ _).set _ _ _).set _ _ _
 have qhB:Box w (w.heap.size + 2) W2:=by rw [hW]; exact (((hB.set (by omega) _ _).set (by omega) _ _).set (by omega) _ _).set (by omega) _ _
 clear hW hA00 hA01 hA10 hA11 hF00 hF01 hF10 hF11 hR0 hB
 have hA00:=qhA00
 have hA01:=qhA01
 have hA10:=qhA10
 have hA11:=qhA11
 have hF00:=qhF00
 have hF01:=qhF01
 have hF10:=qhF10
 have hF11:=qhF11
 have hR0:=qhR0
 have hB:=qhB
 clear qhA00 qhA01 qhA10 qhA11 qhF00 qhF01 qhF10 qhF11 qhR0 qhB
 go_wp2_with fail
 refine (sub_yes (hy.below hB.below (Nat.le_refl _)) (hx.below hB.below (Nat.le_refl _)) (by omega) (by omega) (Nat.le_of_lt HC.out)).mono ?_
 rintro e w2 ⟨p4,n4,c4,rfl,hf4,hb2⟩
 have hlt2:=hB.lt
 replace hF00:=frozen_on hA00 hF00 hb2
 replace hF01:=frozen_on hA01 hF01 hb2
 replace hF10:=frozen_on hA10 hF10 hb2
 replace hF11:=frozen_on hA11 hF11 hb2
 replace hA00:=cOn hA00 hb2
 replace hA01:=cOn hA01 hb2
 replace hA10:=cOn hA10 hb2
 replace hA11:=cOn hA11 hb2
 replace hR0:=hR0.on hb2
 replace hB:=hB.on hb2
 clear hb2
 go_wp2_with fail
 refine (make1_any).mono ?_
 rintro e w3 ⟨rfl,hb3⟩
 replace hF00:=frozen_on hA00 hF00 hb3
 replace hF01:=frozen_on hA01 hF01 hb3
 replace hF10:=frozen_on hA10 hF10 hb3
 replace hF11:=frozen_on hA11 hF11 hb3
 replace hA00:=cOn hA00 hb3
 replace hA01:=cOn hA01 hb3
 replace hA10:=cOn hA10 hb3
 replace hA11:=cOn hA11 hb3
 replace hR0:=hR0.on hb3
 replace hB:=hB.on hb3
 replace hf4:=hf4.below hb3 (Nat.le_refl _)
 clear hb3
 obtain ⟨⟨u0,hu0⟩,⟨u1,hu1⟩,hug0,hug1⟩:=hR0
 go_wp2_with fail
 refine bodyPost_ret (v:=.agg #[.bool (b2 && decide (0 < n4)),.slice p4 n4 c4]) (by simp [results,Tryz.results75,go_sem,hu0,hu1]) rfl ?_
 exact retZ_box hf4 (by omega) (by omega) ((hB.set (by omega) _ _).set (by omega) _ _).below (zv_add_lt HS.out (Nat.le_of_lt HC.out)).symm
theorem joined_any {p q:Option Addr} {n m c d:Nat} {b b2:Bool} {xs ys:List Nat} {w:World} (hx:Sl w p n c xs) (hy:Sl w q m d ys) (hn:n ≤ 4398046511104) (hm:m ≤ 4398046511104) (hs:b ≠ b2) :
  Calls Tryz.prog 75 #[.agg #[.bool b,.slice p n c],.agg #[.bool b2,.slice q m d]] w (RetZ w (zv b (val xs) + zv b2 (val ys))):=by
 rcases Nat.lt_or_ge (val xs) (val ys) with h | h
 ·exact joined_lt hx hy hn hm hs h
 exact joined_ge hx hy hn hm hs h
open Go.RowKit
set_option maxHeartbeats 8000000 in
theorem zadd_like {p q:Option Addr} {n m c d:Nat} {b:Bool} {xs ys:List Nat} {w:World} (hx:Sl w p n c xs) (hy:Sl w q m d ys) (hn:n ≤ 2199023255552) (hm:m ≤ 2199023255552) :
  Calls Tryz.prog 34 #[.agg #[.bool b,.slice p n c],.agg #[.bool b,.slice q m d]] w (RetZ w (zv b (val xs) + zv b (val ys))):=by
 go_enter Tryz.func34,Tryz.ntmps34
 go_wp2_with fail
 obtain ⟨W,hW⟩:∃ W:World,W = (((w.alloc (.cells #[.bool b,.slice p n c] 28)).alloc (.cells #[.bool b,.slice q m d] 28)).alloc (.cells #[.bool false,.slice none 0 0] 28)):=⟨_,rfl⟩
 rw [← hW]
 have hA00:W.cell? ⟨w.heap.size,0,none⟩ = some (.bool b):=by rw [hW]; exact (cOn (cOn (box_c0 (by simp)) (bAl _ _)) (bAl _ _))
 have hA01:W.cell? ⟨w.heap.size,1,none⟩ = some (.slice p n c):=by rw [hW]; exact (cOn (cOn (box_c1 (by simp)) (bAl _ _)) (bAl _ _))
 have hA10:W.cell? ⟨w.heap.size + 1,0,none⟩ = some (.bool b):=by rw [hW]; exact (cOn (box_c0 (by simp)) (bAl _ _))
 have hA11:W.cell? ⟨w.heap.size + 1,1,none⟩ = some (.slice q m d):=by rw [hW]; exact (cOn (box_c1 (by simp)) (bAl _ _))
 have hR0:Cel (w.heap.size + 2) W:=by rw [hW]; exact (Cel.ofAlloc (by simp))
 have hB:Box w (w.heap.size + 2) W:=by rw [hW]; exact ⟨by (try simp) <;> omega,((((Below.refl _ _).alloc (Nat.le_refl _) _).alloc (by (try simp) <;> omega) _).alloc (by (try simp) <;> omega) _)⟩
 clear hW
 go_wp2_with fail
 go_region_held3 (fun w' => w'.cell? ⟨w.heap.size,0,none⟩ = some (.bool b) ∧ w'.cell? ⟨w.heap.size,1,none⟩ = some (.slice p n c) ∧ w'.cell? ⟨w.heap.size + 1,0,none⟩ = some (.bool b) ∧ w'.cell? ⟨w.heap.size + 1,1,none⟩ = some (.slice q m d) ∧ Cel (w.heap.size + 2) w' ∧ Box w (w.heap.size + 2) w')
  (first | exact ⟨by simpa using hA00,by simpa using hA01,by simpa using hA10,by simpa using hA11,hR0.drew,hB.drew⟩ | exact ‹World.cell? _ _ = some _ ∧ World.cell? _ _ = some _ ∧ World.cell? _ _ = some _ ∧ World.cell? _ _ = some _ ∧ Cel _ _ ∧ Box w _ _› | (have hS := ‹World.cell? _ _ = some _ ∧ World.cell? _ _ = some _ ∧ World.cell? _ _ = some _ ∧ World.cell? _ _ = some _ ∧ Cel _ _ ∧ Box w _ _›; exact ⟨cOn hS.1 hb1,cOn hS.2.1 hb1,cOn hS.2.2.1 hb1,cOn hS.2.2.2.1 hb1,hS.2.2.2.2.1.on hb1,hS.2.2.2.2.2.on hb1⟩) | (have hS := ‹World.cell? _ _ = some _ ∧ World.cell? _ _ = some _ ∧ World.cell? _ _ = some _ ∧ World.cell? _ _ = some _ ∧ Cel _ _ ∧ Box w _ _›; exact ⟨cOn hS.1 hb2,cOn hS.2.1 hb2,cOn hS.2.2.1 hb2,cOn hS.2.2.2.1 hb2,hS.2.2.2.2.1.on hb2,hS.2.2.2.2.2.on hb2⟩) | (have hS := ‹World.cell? _ _ = some _ ∧ World.cell? _ _ = some _ ∧ World.cell? _ _ = some _ ∧ World.cell? _ _ = some _ ∧ Cel _ _ ∧ Box w _ _›; exact ⟨cSt (cSt hS.1 (by omega)) (by omega),cSt (cSt hS.2.1 (by omega)) (by omega),cSt (cSt hS.2.2.1 (by omega)) (by omega),cSt (cSt hS.2.2.2.1 (by omega)) (by omega),(hS.2.2.2.2.1.set _ _ _).set _ _ _,(hS.2.2.2.2.2.set (by omega) _ _).set (by omega) _ _⟩))
  (first | (go_at_call 42; have hS := ‹World.cell? _ _ = some _ ∧ World.cell? _ _ = some _ ∧ World.cell? _ _ = some _ ∧ World.cell? _ _ = some _ ∧ Cel _ _ ∧ Box w _ _›; refine (add_any (hx.below hS.2.2.2.2.2.below (Nat.le_refl _)) (hy.below hS.2.2.2.2.2.below (Nat.le_refl _)) (by omega) (by omega)).mono ?_; rintro e w1 ⟨p4,n4,c4,rfl,hf4,hb1⟩; have hlt1:=hS.2.2.2.2.2.lt; clear hS) | (go_at_call 73; have hS := ‹World.cell? _ _ = some _ ∧ World.cell? _ _ = some _ ∧ World.cell? _ _ = some _ ∧ World.cell? _ _ = some _ ∧ Cel _ _ ∧ Box w _ _›; refine (make1_any).mono ?_; rintro e w2 ⟨rfl,hb2⟩; replace hf4:=hf4.below hb2 (Nat.le_refl _); obtain ⟨⟨u0,hu0⟩,⟨u1,hu1⟩,hug0,hug1⟩:=(hS.2.2.2.2.1).on hb2; clear hS))
 obtain ⟨hA00,hA01,hA10,hA11,hR0,hB⟩ := ‹World.cell? _ _ = some _ ∧ World.cell? _ _ = some _ ∧ World.cell? _ _ = some _ ∧ World.cell? _ _ = some _ ∧ Cel _ _ ∧ Box w _ _›
 go_wp2_with fail
 refine bodyPost_ret (v:=.agg #[.bool (b && decide (0 < n4)),.slice p4 n4 c4]) (by simp [results,Tryz.results34,go_sem,hu0,hu1]) rfl ?_
 exact retZ_box hf4 (by omega) (by omega) hB.below (zv_add_same _ _ _).symm
set_option maxHeartbeats 8000000 in
theorem zadd_unlike {p q:Option Addr} {n m c d:Nat} {b b2:Bool} {xs ys:List Nat} {w:World} (hx:Sl w p n c xs) (hy:Sl w q m d ys) (hn:n ≤ 2199023255552) (hm:m ≤ 2199023255552) (hs:b ≠ b2) :
  Calls Tryz.prog 34 #[.agg #[.bool b,.slice p n c],.agg #[.bool b2,.slice q m d]] w (RetZ w (zv b (val xs) + zv b2 (val ys))):=by
 have hs2:(b == b2) = false:=by simpa using hs
 have HS:=Lib.hid hs
 clear hs
 go_enter Tryz.func34,Tryz.ntmps34
 go_wp2_with fail
 obtain ⟨W,hW⟩:∃ W:World,W = (((w.alloc (.cells #[.bool b,.slice p n c] 28)).alloc (.cells #[.bool b2,.slice q m d] 28)).alloc (.cells #[.bool false,.slice none 0 0] 28)):=⟨_,rfl⟩
 rw [← hW]
 have hA00:W.cell? ⟨w.heap.size,0,none⟩ = some (.bool b):=by rw [hW]; exact (cOn (cOn (box_c0 (by simp)) (bAl _ _)) (bAl _ _))
 have hA01:W.cell? ⟨w.heap.size,1,none⟩ = some (.slice p n c):=by rw [hW]; exact (cOn (cOn (box_c1 (by simp)) (bAl _ _)) (bAl _ _))
 have hA10:W.cell? ⟨w.heap.size + 1,0,none⟩ = some (.bool b2):=by rw [hW]; exact (cOn (box_c0 (by simp)) (bAl _ _))
 have hA11:W.cell? ⟨w.heap.size + 1,1,none⟩ = some (.slice q m d):=by rw [hW]; exact (cOn (box_c1 (by simp)) (bAl _ _))
 have hR0:Cel (w.heap.size + 2) W:=by rw [hW]; exact (Cel.ofAlloc (by simp))
 have hB:Box w (w.heap.size + 2) W:=by rw [hW]; exact ⟨by (try simp) <;> omega,((((Below.refl _ _).alloc (Nat.le_refl _) _).alloc (by (try simp) <;> omega) _).alloc (by (try simp) <;> omega) _)⟩
 clear hW
 go_wp2_with fail
 refine (joined_any (hx.below hB.below (Nat.le_refl _)) (hy.below hB.below (Nat.le_refl _)) (by omega) (by omega) HS.out).mono ?_
 rintro e w1 ⟨p4,n4,c4,rfl,hf4,hb1⟩
 have hlt1:=hB.lt
 replace hA00:=cOn hA00 hb1
 replace hA01:=cOn hA01 hb1
 replace hA10:=cOn hA10 hb1
 replace hA11:=cOn hA11 hb1
 replace hR0:=hR0.on hb1
 replace hB:=hB.on hb1
 clear hb1
 obtain ⟨⟨u0,hu0⟩,⟨u1,hu1⟩,hug0,hug1⟩:=hR0
 go_wp2_with fail
 refine bodyPost_ret (v:=.agg #[.bool (ng (zv b (val xs) + zv b2 (val ys))),.slice p4 n4 c4]) (by simp [results,Tryz.results34,go_sem,hu0,hu1]) rfl ?_
 exact retZ_cp hf4 (by omega) (by omega) ((hB.set (by omega) _ _).set (by omega) _ _).below
theorem zadd_any {p q:Option Addr} {n m c d:Nat} {b b2:Bool} {xs ys:List Nat} {w:World} (hx:Sl w p n c xs) (hy:Sl w q m d ys) (hn:n ≤ 2199023255552) (hm:m ≤ 2199023255552) :
  Calls Tryz.prog 34 #[.agg #[.bool b,.slice p n c],.agg #[.bool b2,.slice q m d]] w (RetZ w (zv b (val xs) + zv b2 (val ys))):=by
 by_cases h:b = b2
 ·subst h; exact zadd_like hx hy hn hm
 exact zadd_unlike hx hy hn hm h
set_option maxHeartbeats 8000000 in
theorem zsub_any {p q:Option Addr} {n m c d:Nat} {b b2:Bool} {xs ys:List Nat} {w:World} (hx:Sl w p n c xs) (hy:Sl w q m d ys) (hn:n ≤ 2199023255552) (hm:m ≤ 2199023255552) :
  Calls Tryz.prog 133 #[.agg #[.bool b,.slice p n c],.agg #[.bool b2,.slice q m d]] w (RetZ w (zv b (val xs) - zv b2 (val ys))):=by
 have HE:Hid (zv b (val xs) + zv (ng (-(zv b2 (val ys)))) (val (lim (-(zv b2 (val ys))).natAbs)) = zv b (val xs) - zv b2 (val ys)):=by show _ = _; rw [vLm,zv_ng]; omega
 go_enter Tryz.func133,Tryz.ntmps133
 go_wp2_with fail
 obtain ⟨W,hW⟩:∃ W:World,W = (((w.alloc (.cells #[.bool b,.slice p n c] 28)).alloc (.cells #[.bool b2,.slice q m d] 28)).alloc (.cells #[.bool false,.slice none 0 0] 28)):=⟨_,rfl⟩
 rw [← hW]
 have hA00:W.cell? ⟨w.heap.size,0,none⟩ = some (.bool b):=by rw [hW]; exact (cOn (cOn (box_c0 (by simp)) (bAl _ _)) (bAl _ _))
 have hA01:W.cell? ⟨w.heap.size,1,none⟩ = some (.slice p n c):=by rw [hW]; exact (cOn (cOn (box_c1 (by simp)) (bAl _ _)) (bAl _ _))
 have hA10:W.cell? ⟨w.heap.size + 1,0,none⟩ = some (.bool b2):=by rw [hW]; exact (cOn (box_c0 (by simp)) (bAl _ _))
 have hA11:W.cell? ⟨w.heap.size + 1,1,none⟩ = some (.slice q m d):=by rw [hW]; exact (cOn (box_c1 (by simp)) (bAl _ _))
 have hR0:Cel (w.heap.size + 2) W:=by rw [hW]; exact (Cel.ofAlloc (by simp))
 have hB:Box w (w.heap.size + 2) W:=by rw [hW]; exact ⟨by (try simp) <;> omega,((((Below.refl _ _).alloc (Nat.le_refl _) _).alloc (by (try simp) <;> omega) _).alloc (by (try simp) <;> omega) _)⟩
 clear hW
 go_wp2_with fail
 go_region_held3 (fun w' => w'.cell? ⟨w.heap.size,0,none⟩ = some (.bool b) ∧ w'.cell? ⟨w.heap.size,1,none⟩ = some (.slice p n c) ∧ w'.cell? ⟨w.heap.size + 1,0,none⟩ = some (.bool b2) ∧ w'.cell? ⟨w.heap.size + 1,1,none⟩ = some (.slice q m d) ∧ Cel (w.heap.size + 2) w' ∧ Box w (w.heap.size + 2) w')
  (first | exact ⟨by simpa using hA00,by simpa using hA01,by simpa using hA10,by simpa using hA11,hR0.drew,hB.drew⟩ | exact ‹World.cell? _ _ = some _ ∧ World.cell? _ _ = some _ ∧ World.cell? _ _ = some _ ∧ World.cell? _ _ = some _ ∧ Cel _ _ ∧ Box w _ _› | (have hS := ‹World.cell? _ _ = some _ ∧ World.cell? _ _ = some _ ∧ World.cell? _ _ = some _ ∧ World.cell? _ _ = some _ ∧ Cel _ _ ∧ Box w _ _›; exact ⟨cOn hS.1 hb1,cOn hS.2.1 hb1,cOn hS.2.2.1 hb1,cOn hS.2.2.2.1 hb1,hS.2.2.2.2.1.on hb1,hS.2.2.2.2.2.on hb1⟩) | (have hS := ‹World.cell? _ _ = some _ ∧ World.cell? _ _ = some _ ∧ World.cell? _ _ = some _ ∧ World.cell? _ _ = some _ ∧ Cel _ _ ∧ Box w _ _›; exact ⟨cOn hS.1 hb2,cOn hS.2.1 hb2,cOn hS.2.2.1 hb2,cOn hS.2.2.2.1 hb2,hS.2.2.2.2.1.on hb2,hS.2.2.2.2.2.on hb2⟩) | (have hS := ‹World.cell? _ _ = some _ ∧ World.cell? _ _ = some _ ∧ World.cell? _ _ = some _ ∧ World.cell? _ _ = some _ ∧ Cel _ _ ∧ Box w _ _›; exact ⟨cSt (cSt hS.1 (by omega)) (by omega),cSt (cSt hS.2.1 (by omega)) (by omega),cSt (cSt hS.2.2.1 (by omega)) (by omega),cSt (cSt hS.2.2.2.1 (by omega)) (by omega),(hS.2.2.2.2.1.set _ _ _).set _ _ _,(hS.2.2.2.2.2.set (by omega) _ _).set (by omega) _ _⟩))
  (first | (go_at_call 102; have hS := ‹World.cell? _ _ = some _ ∧ World.cell? _ _ = some _ ∧ World.cell? _ _ = some _ ∧ World.cell? _ _ = some _ ∧ Cel _ _ ∧ Box w _ _›; refine (zneg_any (hy.below hS.2.2.2.2.2.below (Nat.le_refl _)) (by omega)).mono ?_; rintro e w1 ⟨p3,n3,c3,rfl,hf3,hb1⟩; have hlt1:=hS.2.2.2.2.2.lt; have hn3:n3 ≤ 2199023255552:=(by rw [Int.natAbs_neg,natAbs_zv] at hf3; have:=z_same hy hf3; omega); clear hS) | (go_at_call 34; have hS := ‹World.cell? _ _ = some _ ∧ World.cell? _ _ = some _ ∧ World.cell? _ _ = some _ ∧ World.cell? _ _ = some _ ∧ Cel _ _ ∧ Box w _ _›; refine (zadd_any (hx.below hS.2.2.2.2.2.below (Nat.le_refl _)) hf3.sl hn hn3).mono ?_; rintro e w2 ⟨p4,n4,c4,rfl,hf4,hb2⟩; replace hf3:=hf3.below hb2 (Nat.le_refl _); have hlt2:=hS.2.2.2.2.2.lt; obtain ⟨⟨u0,hu0⟩,⟨u1,hu1⟩,hug0,hug1⟩:=(hS.2.2.2.2.1).on hb2; clear hS))
 obtain ⟨hA00,hA01,hA10,hA11,hR0,hB⟩ := ‹World.cell? _ _ = some _ ∧ World.cell? _ _ = some _ ∧ World.cell? _ _ = some _ ∧ World.cell? _ _ = some _ ∧ Cel _ _ ∧ Box w _ _›
 go_wp2_with fail
 refine bodyPost_ret (v:=.agg #[.bool (ng (zv b (val xs) + zv (ng (-(zv b2 (val ys)))) (val (lim (-(zv b2 (val ys))).natAbs)))),.slice p4 n4 c4]) (by simp [results,Tryz.results133,go_sem,hu0,hu1]) rfl ?_
 rw [← HE.out]
 exact retZ_cp hf4 (by omega) (by omega) hB.below
theorem zsign_of {s:Int} {p:Option Addr} {n c:Nat} {b:Bool} {xs:List Nat} {w:World} (hx:Sl w p n c xs) (hn:n ≤ 17592186044416) (hs:Hid (s = (zv b (val xs)).sign)) :
  Calls Tryz.prog 67 #[.agg #[.bool b,.slice p n c]] w (RetInt w s):=by
 rw [hs.out]; exact zsign_any hx hn
set_option maxHeartbeats 8000000 in
theorem zcmp_lt {p q:Option Addr} {n m c d:Nat} {b b2:Bool} {xs ys:List Nat} {w:World} (hx:Sl w p n c xs) (hy:Sl w q m d ys) (hn:n ≤ 17592186044416) (hm:m ≤ 17592186044416) (h:(zv b (val xs)).sign < (zv b2 (val ys)).sign) :
  Calls Tryz.prog 70 #[.agg #[.bool b,.slice p n c],.agg #[.bool b2,.slice q m d]] w (RetInt w (cmpZ (zv b (val xs)) (zv b2 (val ys)))):=by
 have HC:=Lib.hid (cmpZ_sign_lt h)
 obtain ⟨s1,hs1⟩:∃ s,s = (zv b (val xs)).sign:=⟨_,rfl⟩
 obtain ⟨s2,hs2⟩:∃ s,s = (zv b2 (val ys)).sign:=⟨_,rfl⟩
 have HSX:=Lib.hid hs1
 have HSY:=Lib.hid hs2
 have h1:(s1 != s2) = true:=by rw [bne_iff_ne]; omega
 have h2:decide (s1 < s2) = true:=by simp; omega
 clear hs1 hs2 h
 go_enter Tryz.func70,Tryz.ntmps70
 go_wp2_with fail
 obtain ⟨W,hW⟩:∃ W:World,W = ((w.alloc (.cells #[.bool b,.slice p n c] 28)).alloc (.cells #[.bool b2,.slice q m d] 28)):=⟨_,rfl⟩
 rw [← hW]
 have hA00:W.cell? ⟨w.heap.size,0,none⟩ = some (.bool b):=by rw [hW]; exact (cOn (box_c0 (by simp)) (bAl _ _))
 have hA01:W.cell? ⟨w.heap.size,1,none⟩ = some (.slice p n c):=by rw [hW]; exact (cOn (box_c1 (by simp)) (bAl _ _))
 have hA10:W.cell? ⟨w.heap.size + 1,0,none⟩ = some (.bool b2):=by rw [hW]; exact (box_c0 (by simp))
 have hA11:W.cell? ⟨w.heap.size + 1,1,none⟩ = some (.slice q m d):=by rw [hW]; exact (box_c1 (by simp))
 have hB:Box w (w.heap.size + 1) W:=by rw [hW]; exact ⟨by (try simp) <;> omega,(((Below.refl _ _).alloc (Nat.le_refl _) _).alloc (by (try simp) <;> omega) _)⟩
 clear hW
 go_wp2_with fail
 go_region_held3 (fun w' => w'.cell? ⟨w.heap.size,0,none⟩ = some (.bool b) ∧ w'.cell? ⟨w.heap.size,1,none⟩ = some (.slice p n c) ∧ w'.cell? ⟨w.heap.size + 1,0,none⟩ = some (.bool b2) ∧ w'.cell? ⟨w.heap.size + 1,1,none⟩ = some (.slice q m d) ∧ Box w (w.heap.size + 1) w')
  (first | exact ⟨by simpa using hA00,by simpa using hA01,by simpa using hA10,by simpa using hA11,hB.drew⟩ | exact ‹World.cell? _ _ = some _ ∧ World.cell? _ _ = some _ ∧ World.cell? _ _ = some _ ∧ World.cell? _ _ = some _ ∧ Box w _ _› | (have hS := ‹World.cell? _ _ = some _ ∧ World.cell? _ _ = some _ ∧ World.cell? _ _ = some _ ∧ World.cell? _ _ = some _ ∧ Box w _ _›; exact ⟨cOn hS.1 hb1,cOn hS.2.1 hb1,cOn hS.2.2.1 hb1,cOn hS.2.2.2.1 hb1,hS.2.2.2.2.on hb1⟩) | (have hS := ‹World.cell? _ _ = some _ ∧ World.cell? _ _ = some _ ∧ World.cell? _ _ = some _ ∧ World.cell? _ _ = some _ ∧ Box w _ _›; exact ⟨cOn hS.1 hb2,cOn hS.2.1 hb2,cOn hS.2.2.1 hb2,cOn hS.2.2.2.1 hb2,hS.2.2.2.2.on hb2⟩) | (have hS := ‹World.cell? _ _ = some _ ∧ World.cell? _ _ = some _ ∧ World.cell? _ _ = some _ ∧ World.cell? _ _ = some _ ∧ Box w _ _›; exact ⟨cSt (cSt hS.1 (by omega)) (by omega),cSt (cSt hS.2.1 (by omega)) (by omega),cSt (cSt hS.2.2.1 (by omega)) (by omega),cSt (cSt hS.2.2.2.1 (by omega)) (by omega),(hS.2.2.2.2.set (by omega) _ _).set (by omega) _ _⟩))
  (first | (go_at_call 67; have hS := ‹World.cell? _ _ = some _ ∧ World.cell? _ _ = some _ ∧ World.cell? _ _ = some _ ∧ World.cell? _ _ = some _ ∧ Box w _ _›; (with_reducible refine (zsign_of (hx.below hS.2.2.2.2.below (Nat.le_refl _)) hn HSX).mono ?_); rintro e w1 ⟨rfl,hb1⟩; clear hS) | (go_at_call 67; have hS := ‹World.cell? _ _ = some _ ∧ World.cell? _ _ = some _ ∧ World.cell? _ _ = some _ ∧ World.cell? _ _ = some _ ∧ Box w _ _›; (with_reducible refine (zsign_of (hy.below hS.2.2.2.2.below (Nat.le_refl _)) hm HSY).mono ?_); rintro e w2 ⟨rfl,hb2⟩; clear hS))
 obtain ⟨hA00,hA01,hA10,hA11,hB⟩ := ‹World.cell? _ _ = some _ ∧ World.cell? _ _ = some _ ∧ World.cell? _ _ = some _ ∧ World.cell? _ _ = some _ ∧ Box w _ _›
 go_wp2_with fail
 go_ret
 rw [HC.out]
 exact ⟨rfl,hB.below⟩
set_option maxHeartbeats 8000000 in
theorem zcmp_gt {p q:Option Addr} {n m c d:Nat} {b b2:Bool} {xs ys:List Nat} {w:World} (hx:Sl w p n c xs) (hy:Sl w q m d ys) (hn:n ≤ 17592186044416) (hm:m ≤ 17592186044416) (h:(zv b2 (val ys)).sign < (zv b (val xs)).sign) :
  Calls Tryz.prog 70 #[.agg #[.bool b,.slice p n c],.agg #[.bool b2,.slice q m d]] w (RetInt w (cmpZ (zv b (val xs)) (zv b2 (val ys)))):=by
 have HC:=Lib.hid (cmpZ_sign_gt h)
 obtain ⟨s1,hs1⟩:∃ s,s = (zv b (val xs)).sign:=⟨_,rfl⟩
 obtain ⟨s2,hs2⟩:∃ s,s = (zv b2 (val ys)).sign:=⟨_,rfl⟩
 have HSX:=Lib.hid hs1
 have HSY:=Lib.hid hs2
 have h1:(s1 != s2) = true:=by rw [bne_iff_ne]; omega
 have h2:decide (s1 < s2) = false:=by simp; omega
 clear hs1 hs2 h
 go_enter Tryz.func70,Tryz.ntmps70
 go_wp2_with fail
 obtain ⟨W,hW⟩:∃ W:World,W = ((w.alloc (.cells #[.bool b,.slice p n c] 28)).alloc (.cells #[.bool b2,.slice q m d] 28)):=⟨_,rfl⟩
 rw [← hW]
 have hA00:W.cell? ⟨w.heap.size,0,none⟩ = some (.bool b):=by rw [hW]; exact (cOn (box_c0 (by simp)) (bAl _ _))
 have hA01:W.cell? ⟨w.heap.size,1,none⟩ = some (.slice p n c):=by rw [hW]; exact (cOn (box_c1 (by simp)) (bAl _ _))
 have hA10:W.cell? ⟨w.heap.size + 1,0,none⟩ = some (.bool b2):=by rw [hW]; exact (box_c0 (by simp))
 have hA11:W.cell? ⟨w.heap.size + 1,1,none⟩ = some (.slice q m d):=by rw [hW]; exact (box_c1 (by simp))
 have hB:Box w (w.heap.size + 1) W:=by rw [hW]; exact ⟨by (try simp) <;> omega,(((Below.refl _ _).alloc (Nat.le_refl _) _).alloc (by (try simp) <;> omega) _)⟩
 clear hW
 go_wp2_with fail
 go_region_held3 (fun w' => w'.cell? ⟨w.heap.size,0,none⟩ = some (.bool b) ∧ w'.cell? ⟨w.heap.size,1,none⟩ = some (.slice p n c) ∧ w'.cell? ⟨w.heap.size + 1,0,none⟩ = some (.bool b2) ∧ w'.cell? ⟨w.heap.size + 1,1,none⟩ = some (.slice q m d) ∧ Box w (w.heap.size + 1) w')
  (first | exact ⟨by simpa using hA00,by simpa using hA01,by simpa using hA10,by simpa using hA11,hB.drew⟩ | exact ‹World.cell? _ _ = some _ ∧ World.cell? _ _ = some _ ∧ World.cell? _ _ = some _ ∧ World.cell? _ _ = some _ ∧ Box w _ _› | (have hS := ‹World.cell? _ _ = some _ ∧ World.cell? _ _ = some _ ∧ World.cell? _ _ = some _ ∧ World.cell? _ _ = some _ ∧ Box w _ _›; exact ⟨cOn hS.1 hb1,cOn hS.2.1 hb1,cOn hS.2.2.1 hb1,cOn hS.2.2.2.1 hb1,hS.2.2.2.2.on hb1⟩) | (have hS := ‹World.cell? _ _ = some _ ∧ World.cell? _ _ = some _ ∧ World.cell? _ _ = some _ ∧ World.cell? _ _ = some _ ∧ Box w _ _›; exact ⟨cOn hS.1 hb2,cOn hS.2.1 hb2,cOn hS.2.2.1 hb2,cOn hS.2.2.2.1 hb2,hS.2.2.2.2.on hb2⟩) | (have hS := ‹World.cell? _ _ = some _ ∧ World.cell? _ _ = some _ ∧ World.cell? _ _ = some _ ∧ World.cell? _ _ = some _ ∧ Box w _ _›; exact ⟨cSt (cSt hS.1 (by omega)) (by omega),cSt (cSt hS.2.1 (by omega)) (by omega),cSt (cSt hS.2.2.1 (by omega)) (by omega),cSt (cSt hS.2.2.2.1 (by omega)) (by omega),(hS.2.2.2.2.set (by omega) _ _).set (by omega) _ _⟩))
  (first | (go_at_call 67; have hS := ‹World.cell? _ _ = some _ ∧ World.cell? _ _ = some _ ∧ World.cell? _ _ = some _ ∧ World.cell? _ _ = some _ ∧ Box w _ _›; (with_reducible refine (zsign_of (hx.below hS.2.2.2.2.below (Nat.le_refl _)) hn HSX).mono ?_); rintro e w1 ⟨rfl,hb1⟩; clear hS) | (go_at_call 67; have hS := ‹World.cell? _ _ = some _ ∧ World.cell? _ _ = some _ ∧ World.cell? _ _ = some _ ∧ World.cell? _ _ = some _ ∧ Box w _ _›; (with_reducible refine (zsign_of (hy.below hS.2.2.2.2.below (Nat.le_refl _)) hm HSY).mono ?_); rintro e w2 ⟨rfl,hb2⟩; clear hS))
 obtain ⟨hA00,hA01,hA10,hA11,hB⟩ := ‹World.cell? _ _ = some _ ∧ World.cell? _ _ = some _ ∧ World.cell? _ _ = some _ ∧ World.cell? _ _ = some _ ∧ Box w _ _›
 go_wp2_with fail
 go_ret
 rw [HC.out]
 exact ⟨rfl,hB.below⟩
set_option maxHeartbeats 8000000 in
theorem zcmp_neg {p q:Option Addr} {n m c d:Nat} {b b2:Bool} {xs ys:List Nat} {w:World} (hx:Sl w p n c xs) (hy:Sl w q m d ys) (hn:n ≤ 17592186044416) (hm:m ≤ 17592186044416) (h:(zv b (val xs)).sign = (zv b2 (val ys)).sign) (h0:zv b (val xs) < 0) :
  Calls Tryz.prog 70 #[.agg #[.bool b,.slice p n c],.agg #[.bool b2,.slice q m d]] w (RetInt w (cmpZ (zv b (val xs)) (zv b2 (val ys)))):=by
 have HC:Hid (cmpZ (zv b (val xs)) (zv b2 (val ys)) = cmpN (val ys) (val xs)):=by
  have e1:=sign_cases (zv b (val xs))
  have e2:=sign_cases (zv b2 (val ys))
  exact cmpZ_both_neg h0 (by omega)
 obtain ⟨s1,hs1⟩:∃ s,s = (zv b (val xs)).sign:=⟨_,rfl⟩
 have HSX:=Lib.hid hs1
 have HSY:Hid (s1 = (zv b2 (val ys)).sign):=by show _ = _; rw [hs1]; exact h
 have h2:decide (s1 < 0) = true:=by
  have e1:=sign_cases (zv b (val xs))
  simp; omega
 clear hs1 h h0
 go_enter Tryz.func70,Tryz.ntmps70
 go_wp2_with fail
 obtain ⟨W,hW⟩:∃ W:World,W = ((w.alloc (.cells #[.bool b,.slice p n c] 28)).alloc (.cells #[.bool b2,.slice q m d] 28)):=⟨_,rfl⟩
 rw [← hW]
 have hA00:W.cell? ⟨w.heap.size,0,none⟩ = some (.bool b):=by rw [hW]; exact (cOn (box_c0 (by simp)) (bAl _ _))
 have hA01:W.cell? ⟨w.heap.size,1,none⟩ = some (.slice p n c):=by rw [hW]; exact (cOn (box_c1 (by simp)) (bAl _ _))
 have hA10:W.cell? ⟨w.heap.size + 1,0,none⟩ = some (.bool b2):=by rw [hW]; exact (box_c0 (by simp))
 have hA11:W.cell? ⟨w.heap.size + 1,1,none⟩ = some (.slice q m d):=by rw [hW]; exact (box_c1 (by simp))
 have hB:Box w (w.heap.size + 1) W:=by rw [hW]; exact ⟨by (try simp) <;> omega,(((Below.refl _ _).alloc (Nat.le_refl _) _).alloc (by (try simp) <;> omega) _)⟩
 clear hW
 go_wp2_with fail
 go_region_held3 (fun w' => w'.cell? ⟨w.heap.size,0,none⟩ = some (.bool b) ∧ w'.cell? ⟨w.heap.size,1,none⟩ = some (.slice p n c) ∧ w'.cell? ⟨w.heap.size + 1,0,none⟩ = some (.bool b2) ∧ w'.cell? ⟨w.heap.size + 1,1,none⟩ = some (.slice q m d) ∧ Box w (w.heap.size + 1) w')
  (first | exact ⟨by simpa using hA00,by simpa using hA01,by simpa using hA10,by simpa using hA11,hB.drew⟩ | exact ‹World.cell? _ _ = some _ ∧ World.cell? _ _ = some _ ∧ World.cell? _ _ = some _ ∧ World.cell? _ _ = some _ ∧ Box w _ _› | (have hS := ‹World.cell? _ _ = some _ ∧ World.cell? _ _ = some _ ∧ World.cell? _ _ = some _ ∧ World.cell? _ _ = some _ ∧ Box w _ _›; exact ⟨cOn hS.1 hb1,cOn hS.2.1 hb1,cOn hS.2.2.1 hb1,cOn hS.2.2.2.1 hb1,hS.2.2.2.2.on hb1⟩) | (have hS := ‹World.cell? _ _ = some _ ∧ World.cell? _ _ = some _ ∧ World.cell? _ _ = some _ ∧ World.cell? _ _ = some _ ∧ Box w _ _›; exact ⟨cOn hS.1 hb2,cOn hS.2.1 hb2,cOn hS.2.2.1 hb2,cOn hS.2.2.2.1 hb2,hS.2.2.2.2.on hb2⟩) | (have hS := ‹World.cell? _ _ = some _ ∧ World.cell? _ _ = some _ ∧ World.cell? _ _ = some _ ∧ World.cell? _ _ = some _ ∧ Box w _ _›; exact ⟨cSt (cSt hS.1 (by omega)) (by omega),cSt (cSt hS.2.1 (by omega)) (by omega),cSt (cSt hS.2.2.1 (by omega)) (by omega),cSt (cSt hS.2.2.2.1 (by omega)) (by omega),(hS.2.2.2.2.set (by omega) _ _).set (by omega) _ _⟩))
  (first | (go_at_call 67; have hS := ‹World.cell? _ _ = some _ ∧ World.cell? _ _ = some _ ∧ World.cell? _ _ = some _ ∧ World.cell? _ _ = some _ ∧ Box w _ _›; (with_reducible refine (zsign_of (hx.below hS.2.2.2.2.below (Nat.le_refl _)) hn HSX).mono ?_); rintro e w1 ⟨rfl,hb1⟩; clear hS) | (go_at_call 67; have hS := ‹World.cell? _ _ = some _ ∧ World.cell? _ _ = some _ ∧ World.cell? _ _ = some _ ∧ World.cell? _ _ = some _ ∧ Box w _ _›; (with_reducible refine (zsign_of (hy.below hS.2.2.2.2.below (Nat.le_refl _)) hm HSY).mono ?_); rintro e w2 ⟨rfl,hb2⟩; clear hS))
 obtain ⟨hA00,hA01,hA10,hA11,hB⟩ := ‹World.cell? _ _ = some _ ∧ World.cell? _ _ = some _ ∧ World.cell? _ _ = some _ ∧ World.cell? _ _ = some _ ∧ Box w _ _›
 go_wp2_with fail
 refine (cmp_any (hy.below hB.below (Nat.le_refl _)) (hx.below hB.below (Nat.le_refl _))).mono ?_
 rintro e w3 ⟨rfl,hb3⟩
 replace hA00:=cOn hA00 hb3
 replace hA01:=cOn hA01 hb3
 replace hA10:=cOn hA10 hb3
 replace hA11:=cOn hA11 hb3
 replace hB:=hB.on hb3
 clear hb3
 go_wp2_with fail
 go_ret
 rw [HC.out]
 exact ⟨rfl,hB.below⟩
set_option maxHeartbeats 8000000 in
theorem zcmp_pos {p q:Option Addr} {n m c d:Nat} {b b2:Bool} {xs ys:List Nat} {w:World} (hx:Sl w p n c xs) (hy:Sl w q m d ys) (hn:n ≤ 17592186044416) (hm:m ≤ 17592186044416) (h:(zv b (val xs)).sign = (zv b2 (val ys)).sign) (h0:0 ≤ zv b (val xs)) :
  Calls Tryz.prog 70 #[.agg #[.bool b,.slice p n c],.agg #[.bool b2,.slice q m d]] w (RetInt w (cmpZ (zv b (val xs)) (zv b2 (val ys)))):=by
 have HC:Hid (cmpZ (zv b (val xs)) (zv b2 (val ys)) = cmpN (val xs) (val ys)):=by
  have e1:=sign_cases (zv b (val xs))
  have e2:=sign_cases (zv b2 (val ys))
  exact cmpZ_both_pos h0 (by omega)
 obtain ⟨s1,hs1⟩:∃ s,s = (zv b (val xs)).sign:=⟨_,rfl⟩
 have HSX:=Lib.hid hs1
 have HSY:Hid (s1 = (zv b2 (val ys)).sign):=by show _ = _; rw [hs1]; exact h
 have h2:decide (s1 < 0) = false:=by
  have e1:=sign_cases (zv b (val xs))
  simp; omega
 clear hs1 h h0
 go_enter Tryz.func70,Tryz.ntmps70
 go_wp2_with fail
 obtain ⟨W,hW⟩:∃ W:World,W = ((w.alloc (.cells #[.bool b,.slice p n c] 28)).alloc (.cells #[.bool b2,.slice q m d] 28)):=⟨_,rfl⟩
 rw [← hW]
 have hA00:W.cell? ⟨w.heap.size,0,none⟩ = some (.bool b):=by rw [hW]; exact (cOn (box_c0 (by simp)) (bAl _ _))
 have hA01:W.cell? ⟨w.heap.size,1,none⟩ = some (.slice p n c):=by rw [hW]; exact (cOn (box_c1 (by simp)) (bAl _ _))
 have hA10:W.cell? ⟨w.heap.size + 1,0,none⟩ = some (.bool b2):=by rw [hW]; exact (box_c0 (by simp))
 have hA11:W.cell? ⟨w.heap.size + 1,1,none⟩ = some (.slice q m d):=by rw [hW]; exact (box_c1 (by simp))
 have hB:Box w (w.heap.size + 1) W:=by rw [hW]; exact ⟨by (try simp) <;> omega,(((Below.refl _ _).alloc (Nat.le_refl _) _).alloc (by (try simp) <;> omega) _)⟩
 clear hW
 go_wp2_with fail
 go_region_held3 (fun w' => w'.cell? ⟨w.heap.size,0,none⟩ = some (.bool b) ∧ w'.cell? ⟨w.heap.size,1,none⟩ = some (.slice p n c) ∧ w'.cell? ⟨w.heap.size + 1,0,none⟩ = some (.bool b2) ∧ w'.cell? ⟨w.heap.size + 1,1,none⟩ = some (.slice q m d) ∧ Box w (w.heap.size + 1) w')
  (first | exact ⟨by simpa using hA00,by simpa using hA01,by simpa using hA10,by simpa using hA11,hB.drew⟩ | exact ‹World.cell? _ _ = some _ ∧ World.cell? _ _ = some _ ∧ World.cell? _ _ = some _ ∧ World.cell? _ _ = some _ ∧ Box w _ _› | (have hS := ‹World.cell? _ _ = some _ ∧ World.cell? _ _ = some _ ∧ World.cell? _ _ = some _ ∧ World.cell? _ _ = some _ ∧ Box w _ _›; exact ⟨cOn hS.1 hb1,cOn hS.2.1 hb1,cOn hS.2.2.1 hb1,cOn hS.2.2.2.1 hb1,hS.2.2.2.2.on hb1⟩) | (have hS := ‹World.cell? _ _ = some _ ∧ World.cell? _ _ = some _ ∧ World.cell? _ _ = some _ ∧ World.cell? _ _ = some _ ∧ Box w _ _›; exact ⟨cOn hS.1 hb2,cOn hS.2.1 hb2,cOn hS.2.2.1 hb2,cOn hS.2.2.2.1 hb2,hS.2.2.2.2.on hb2⟩) | (have hS := ‹World.cell? _ _ = some _ ∧ World.cell? _ _ = some _ ∧ World.cell? _ _ = some _ ∧ World.cell? _ _ = some _ ∧ Box w _ _›; exact ⟨cSt (cSt hS.1 (by omega)) (by omega),cSt (cSt hS.2.1 (by omega)) (by omega),cSt (cSt hS.2.2.1 (by omega)) (by omega),cSt (cSt hS.2.2.2.1 (by omega)) (by omega),(hS.2.2.2.2.set (by omega) _ _).set (by omega) _ _⟩))
  (first | (go_at_call 67; have hS := ‹World.cell? _ _ = some _ ∧ World.cell? _ _ = some _ ∧ World.cell? _ _ = some _ ∧ World.cell? _ _ = some _ ∧ Box w _ _›; (with_reducible refine (zsign_of (hx.below hS.2.2.2.2.below (Nat.le_refl _)) hn HSX).mono ?_); rintro e w1 ⟨rfl,hb1⟩; clear hS) | (go_at_call 67; have hS := ‹World.cell? _ _ = some _ ∧ World.cell? _ _ = some _ ∧ World.cell? _ _ = some _ ∧ World.cell? _ _ = some _ ∧ Box w _ _›; (with_reducible refine (zsign_of (hy.below hS.2.2.2.2.below (Nat.le_refl _)) hm HSY).mono ?_); rintro e w2 ⟨rfl,hb2⟩; clear hS))
 obtain ⟨hA00,hA01,hA10,hA11,hB⟩ := ‹World.cell? _ _ = some _ ∧ World.cell? _ _ = some _ ∧ World.cell? _ _ = some _ ∧ World.cell? _ _ = some _ ∧ Box w _ _›
 go_wp2_with fail
 refine (cmp_any (hx.below hB.below (Nat.le_refl _)) (hy.below hB.below (Nat.le_refl _))).mono ?_
 rintro e w3 ⟨rfl,hb3⟩
 replace hA00:=cOn hA00 hb3
 replace hA01:=cOn hA01 hb3
 replace hA10:=cOn hA10 hb3
 replace hA11:=cOn hA11 hb3
 replace hB:=hB.on hb3
 clear hb3
 go_wp2_with fail
 go_ret
 rw [HC.out]
 exact ⟨rfl,hB.below⟩
theorem zcmp_any {p q:Option Addr} {n m c d:Nat} {b b2:Bool} {xs ys:List Nat} {w:World} (hx:Sl w p n c xs) (hy:Sl w q m d ys) (hn:n ≤ 17592186044416) (hm:m ≤ 17592186044416) :
  Calls Tryz.prog 70 #[.agg #[.bool b,.slice p n c],.agg #[.bool b2,.slice q m d]] w (RetInt w (cmpZ (zv b (val xs)) (zv b2 (val ys)))):=by
 rcases Int.lt_trichotomy (zv b (val xs)).sign (zv b2 (val ys)).sign with h | h | h
 ·exact zcmp_lt hx hy hn hm h
 ·rcases Int.lt_or_le (zv b (val xs)) 0 with h0 | h0
  ·exact zcmp_neg hx hy hn hm h h0
  exact zcmp_pos hx hy hn hm h h0
 exact zcmp_gt hx hy hn hm h
set_option maxHeartbeats 8000000 in
theorem zof_neg {z:Int} {w:World} (h1 : -9223372036854775808 ≤ z) (h2:z < 0) :
  Calls Tryz.prog 33 #[.int .i64 z] w (RetZ w z):=by
 go_enter Tryz.func33,Tryz.ntmps33
 go_wp2_with fail
 obtain ⟨W,hW⟩:∃ W:World,W = (w.alloc (.cells #[.bool false,.slice none 0 0] 28)):=⟨_,rfl⟩
 rw [← hW]
 have hR0:Cel (w.heap.size) W:=by rw [hW]; exact (Cel.ofAlloc (by simp))
 have hB:Box w (w.heap.size) W:=by rw [hW]; exact ⟨by (try simp) <;> omega,((Below.refl _ _).alloc (Nat.le_refl _) _)⟩
 clear hW
 go_wp2_with fail
 refine (of_any (N:=z.natAbs) (by omega) (by omega)).mono ?_
 rintro e w1 ⟨p4,n4,c4,rfl,hf4,hb1⟩
 have hlt1:=hB.lt
 replace hR0:=hR0.on hb1
 replace hB:=hB.on hb1
 clear hb1
 go_wp2_with fail
 refine (make1_any).mono ?_
 rintro e w2 ⟨rfl,hb2⟩
 replace hR0:=hR0.on hb2
 replace hB:=hB.on hb2
 replace hf4:=hf4.below hb2 (Nat.le_refl _)
 clear hb2
 obtain ⟨⟨u0,hu0⟩,⟨u1,hu1⟩,hug0,hug1⟩:=hR0
 go_wp2_with fail
 refine bodyPost_ret (v:=.agg #[.bool (decide (0 < n4)),.slice p4 n4 c4]) (by simp [results,Tryz.results33,go_sem,hu0,hu1]) rfl ?_
 exact retZ_box (b:=true) hf4 (by omega) (by omega) ((hB.set (by omega) _ _).set (by omega) _ _).below (by rw [zv_true]; omega)
set_option maxHeartbeats 8000000 in
theorem zof_pos {z:Int} {w:World} (h1:0 ≤ z) (h2:z ≤ 9223372036854775807) :
  Calls Tryz.prog 33 #[.int .i64 z] w (RetZ w z):=by
 have hz:decide (z < 0) = false:=by simp; omega
 go_enter Tryz.func33,Tryz.ntmps33
 go_wp2_with fail
 obtain ⟨W,hW⟩:∃ W:World,W = (w.alloc (.cells #[.bool false,.slice none 0 0] 28)):=⟨_,rfl⟩
 rw [← hW]
 have hR0:Cel (w.heap.size) W:=by rw [hW]; exact (Cel.ofAlloc (by simp))
 have hB:Box w (w.heap.size) W:=by rw [hW]; exact ⟨by (try simp) <;> omega,((Below.refl _ _).alloc (Nat.le_refl _) _)⟩
 clear hW
 go_wp2_with fail
 refine (of_any (N:=z.natAbs) (by omega) (by omega)).mono ?_
 rintro e w1 ⟨p4,n4,c4,rfl,hf4,hb1⟩
 have hlt1:=hB.lt
 replace hR0:=hR0.on hb1
 replace hB:=hB.on hb1
 clear hb1
 go_wp2_with fail
 refine (make1_any).mono ?_
 rintro e w2 ⟨rfl,hb2⟩
 replace hR0:=hR0.on hb2
 replace hB:=hB.on hb2
 replace hf4:=hf4.below hb2 (Nat.le_refl _)
 clear hb2
 obtain ⟨⟨u0,hu0⟩,⟨u1,hu1⟩,hug0,hug1⟩:=hR0
 go_wp2_with fail
 refine bodyPost_ret (v:=.agg #[.bool false,.slice p4 n4 c4]) (by simp [results,Tryz.results33,go_sem,hu0,hu1]) rfl ?_
 exact retZ_box (b:=false) hf4 (by omega) (by omega) ((hB.set (by omega) _ _).set (by omega) _ _).below (by rw [zv_false]; omega)
theorem zof_any {z:Int} {w:World} (h1 : -9223372036854775808 ≤ z) (h2:z ≤ 9223372036854775807) :
  Calls Tryz.prog 33 #[.int .i64 z] w (RetZ w z):=by
 rcases Int.lt_or_le z 0 with h | h
 ·exact zof_neg h1 h
 exact zof_pos h h2
open Go.RowKit
set_option maxHeartbeats 8000000 in
theorem ztrunc_any {p q:Option Addr} {n m c d:Nat} {b b2:Bool} {xs ys:List Nat} {w:World} (hx:Sl w p n c xs) (hy:Sl w q m d ys) (hn:n ≤ 1099511627776) (hm:m ≤ 1099511627776) (h0:val ys ≠ 0) :
  Calls Tryz.prog 128 #[.agg #[.bool b,.slice p n c],.agg #[.bool b2,.slice q m d]] w (RetZZE w ((zv b (val xs)).tdiv (zv b2 (val ys))) ((zv b (val xs)).tmod (zv b2 (val ys))) 0):=by
 have H0:=Lib.hid h0
 clear h0
 go_enter Tryz.func128,Tryz.ntmps128
 go_wp2_with fail
 obtain ⟨W,hW⟩:∃ W:World,W = ((((w.alloc (.cells #[.bool b,.slice p n c] 28)).alloc (.cells #[.bool b2,.slice q m d] 28)).alloc (.cells #[.bool false,.slice none 0 0] 28)).alloc (.cells #[.bool false,.slice none 0 0] 28)):=⟨_,rfl⟩
 rw [← hW]
 have hA00:W.cell? ⟨w.heap.size,0,none⟩ = some (.bool b):=by rw [hW]; exact (cOn (cOn (cOn (box_c0 (by simp)) (bAl _ _)) (bAl _ _)) (bAl _ _))
 have hA01:W.cell? ⟨w.heap.size,1,none⟩ = some (.slice p n c):=by rw [hW]; exact (cOn (cOn (cOn (box_c1 (by simp)) (bAl _ _)) (bAl _ _)) (bAl _ _))
 have hA10:W.cell? ⟨w.heap.size + 1,0,none⟩ = some (.bool b2):=by rw [hW]; exact (cOn (cOn (box_c0 (by simp)) (bAl _ _)) (bAl _ _))
 have hA11:W.cell? ⟨w.heap.size + 1,1,none⟩ = some (.slice q m d):=by rw [hW]; exact (cOn (cOn (box_c1 (by simp)) (bAl _ _)) (bAl _ _))
 have hR0:Cel (w.heap.size + 2) W:=by rw [hW]; exact ((Cel.ofAlloc (by simp)).on (bAl _ _))
 have hR1:Cel (w.heap.size + 3) W:=by rw [hW]; exact (Cel.ofAlloc (by simp))
 have hB:Box w (w.heap.size + 3) W:=by rw [hW]; exact ⟨by (try simp) <;> omega,(((((Below.refl _ _).alloc (Nat.le_refl _) _).alloc (by (try simp) <;> omega) _).alloc (by (try simp) <;> omega) _).alloc (by (try simp) <;> omega) _)⟩
 clear hW
 go_wp2_with fail
 refine (div_any (hx.below hB.below (Nat.le_refl _)) (hy.below hB.below (Nat.le_refl _)) hn hm H0.out).mono ?_
 rintro e w1 ⟨p4,n4,c4,p5,n5,c5,rfl,hf4,hf5,hb1⟩
 have hlt1:=hB.lt
 replace hA00:=cOn hA00 hb1
 replace hA01:=cOn hA01 hb1
 replace hA10:=cOn hA10 hb1
 replace hA11:=cOn hA11 hb1
 replace hR0:=hR0.on hb1
 replace hR1:=hR1.on hb1
 replace hB:=hB.on hb1
 clear hb1
 go_wp2_with fail
 go_region_held3 (fun w' => w'.cell? ⟨w.heap.size,0,none⟩ = some (.bool b) ∧ w'.cell? ⟨w.heap.size,1,none⟩ = some (.slice p n c) ∧ w'.cell? ⟨w.heap.size + 1,0,none⟩ = some (.bool b2) ∧ w'.cell? ⟨w.heap.size + 1,1,none⟩ = some (.slice q m d) ∧ Cel (w.heap.size + 2) w' ∧ Cel (w.heap.size + 3) w' ∧ Fr W.heap.size w' p4 n4 c4 (lim (val xs / val ys)) ∧ Fr W.heap.size w' p5 n5 c5 (lim (val xs % val ys)) ∧ Box w (w.heap.size + 3) w')
  (first | exact ⟨by simpa using hA00,by simpa using hA01,by simpa using hA10,by simpa using hA11,hR0.drew,hR1.drew,hf4.below (Below.refl _ _).drew (Nat.le_refl _),hf5.below (Below.refl _ _).drew (Nat.le_refl _),hB.drew⟩ | exact ‹World.cell? _ _ = some _ ∧ World.cell? _ _ = some _ ∧ World.cell? _ _ = some _ ∧ World.cell? _ _ = some _ ∧ Cel _ _ ∧ Cel _ _ ∧ Fr _ _ _ _ _ _ ∧ Fr _ _ _ _ _ _ ∧ Box w _ _› | (have hS := ‹World.cell? _ _ = some _ ∧ World.cell? _ _ = some _ ∧ World.cell? _ _ = some _ ∧ World.cell? _ _ = some _ ∧ Cel _ _ ∧ Cel _ _ ∧ Fr _ _ _ _ _ _ ∧ Fr _ _ _ _ _ _ ∧ Box w _ _›; exact ⟨cOn hS.1 hb2,cOn hS.2.1 hb2,cOn hS.2.2.1 hb2,cOn hS.2.2.2.1 hb2,hS.2.2.2.2.1.on hb2,hS.2.2.2.2.2.1.on hb2,hS.2.2.2.2.2.2.1.below hb2 (Nat.le_refl _),hS.2.2.2.2.2.2.2.1.below hb2 (Nat.le_refl _),hS.2.2.2.2.2.2.2.2.on hb2⟩) | (have hS := ‹World.cell? _ _ = some _ ∧ World.cell? _ _ = some _ ∧ World.cell? _ _ = some _ ∧ World.cell? _ _ = some _ ∧ Cel _ _ ∧ Cel _ _ ∧ Fr _ _ _ _ _ _ ∧ Fr _ _ _ _ _ _ ∧ Box w _ _›; exact ⟨cSt (cSt hS.1 (by omega)) (by omega),cSt (cSt hS.2.1 (by omega)) (by omega),cSt (cSt hS.2.2.1 (by omega)) (by omega),cSt (cSt hS.2.2.2.1 (by omega)) (by omega),(hS.2.2.2.2.1.set _ _ _).set _ _ _,(hS.2.2.2.2.2.1.set _ _ _).set _ _ _,(hS.2.2.2.2.2.2.1.setLow (by omega) _ _).setLow (by omega) _ _,(hS.2.2.2.2.2.2.2.1.setLow (by omega) _ _).setLow (by omega) _ _,(hS.2.2.2.2.2.2.2.2.set (by omega) _ _).set (by omega) _ _⟩))
  (first | (go_at_call 73; have hS := ‹World.cell? _ _ = some _ ∧ World.cell? _ _ = some _ ∧ World.cell? _ _ = some _ ∧ World.cell? _ _ = some _ ∧ Cel _ _ ∧ Cel _ _ ∧ Fr _ _ _ _ _ _ ∧ Fr _ _ _ _ _ _ ∧ Box w _ _›; refine (make1_any).mono ?_; rintro e w2 ⟨rfl,hb2⟩; obtain ⟨⟨u0,hu0⟩,⟨u1,hu1⟩,hug0,hug1⟩:=(hS.2.2.2.2.1).on hb2; obtain ⟨⟨v0,hv0⟩,⟨v1,hv1⟩,hvg0,hvg1⟩:=(hS.2.2.2.2.2.1).on hb2; clear hS))
 obtain ⟨hA00,hA01,hA10,hA11,hR0,hR1,hf4,hf5,hB⟩ := ‹World.cell? _ _ = some _ ∧ World.cell? _ _ = some _ ∧ World.cell? _ _ = some _ ∧ World.cell? _ _ = some _ ∧ Cel _ _ ∧ Cel _ _ ∧ Fr _ _ _ _ _ _ ∧ Fr _ _ _ _ _ _ ∧ Box w _ _›
 have e1:(!(b == b2) && decide (0 < n4)) = ng ((zv b (val xs)).tdiv (zv b2 (val ys))):=by rw [← zv_tdiv]; exact mk_ng hf4.sl.lln
 have e2:(b && decide (0 < n5)) = ng ((zv b (val xs)).tmod (zv b2 (val ys))):=by rw [← zv_tmod b b2]; exact mk_ng hf5.sl.lln
 have E1:=Lib.hid e1
 have E2:=Lib.hid e2
 clear e1 e2
 go_wp2_with fail
 refine bodyPost_ret (v:=.tuple #[.agg #[.bool (!(b == b2) && decide (0 < n4)),.slice p4 n4 c4],.agg #[.bool (b && decide (0 < n5)),.slice p5 n5 c5],.int .i64 0]) (by simp [results,Tryz.results128,go_sem,hu0,hu1,hv0,hv1]) rfl ?_
 exact ⟨_,_,_,_,_,_,by rw [E1.out,E2.out],by rw [← zv_tdiv,natAbs_zv]; exact hf4.mono (by omega),by rw [← zv_tmod b b2,natAbs_zv]; exact hf5.mono (by omega),hB.below⟩
theorem ztrunc_of {Q R:Int} {p q:Option Addr} {n m c d:Nat} {b b2:Bool} {xs ys:List Nat} {w:World} (hx:Sl w p n c xs) (hy:Sl w q m d ys) (hn:n ≤ 1099511627776) (hm:m ≤ 1099511627776) (h0:val ys ≠ 0) (hQ:Hid ((zv b (val xs)).tdiv (zv b2 (val ys)) = Q)) (hR:Hid ((zv b (val xs)).tmod (zv b2 (val ys)) = R)) :
  Calls Tryz.prog 128 #[.agg #[.bool b,.slice p n c],.agg #[.bool b2,.slice q m d]] w (RetZZE w Q R 0):=by
 rw [← hQ.out, ← hR.out]; exact ztrunc_any hx hy hn hm h0
theorem zadd_of {z:Int} {p q:Option Addr} {n m c d:Nat} {b b2:Bool} {xs ys:List Nat} {w:World} (hx:Sl w p n c xs) (hy:Sl w q m d ys) (hn:n ≤ 2199023255552) (hm:m ≤ 2199023255552) (hz:Hid (zv b (val xs) + zv b2 (val ys) = z)) :
  Calls Tryz.prog 34 #[.agg #[.bool b,.slice p n c],.agg #[.bool b2,.slice q m d]] w (RetZ w z):=by
 rw [← hz.out]; exact zadd_any hx hy hn hm
theorem zsub_of {z:Int} {p q:Option Addr} {n m c d:Nat} {b b2:Bool} {xs ys:List Nat} {w:World} (hx:Sl w p n c xs) (hy:Sl w q m d ys) (hn:n ≤ 2199023255552) (hm:m ≤ 2199023255552) (hz:Hid (zv b (val xs) - zv b2 (val ys) = z)) :
  Calls Tryz.prog 133 #[.agg #[.bool b,.slice p n c],.agg #[.bool b2,.slice q m d]] w (RetZ w z):=by
 rw [← hz.out]; exact zsub_any hx hy hn hm
theorem zmul_of {z:Int} {p q:Option Addr} {n m c d:Nat} {b b2:Bool} {xs ys:List Nat} {w:World} (hx:Sl w p n c xs) (hy:Sl w q m d ys) (hn:n ≤ 4398046511104) (hm:m ≤ 4398046511104) (hz:Hid (zv b (val xs) * zv b2 (val ys) = z)) :
  Calls Tryz.prog 35 #[.agg #[.bool b,.slice p n c],.agg #[.bool b2,.slice q m d]] w (RetZ w z):=by
 rw [← hz.out]; exact zmul_any hx hy hn hm
theorem zabs_of {z:Int} {p:Option Addr} {n c:Nat} {b:Bool} {xs:List Nat} {w:World} (hx:Sl w p n c xs) (hn:n ≤ 17592186044416) (hz:Hid (((zv b (val xs)).natAbs:Int) = z)) :
  Calls Tryz.prog 76 #[.agg #[.bool b,.slice p n c]] w (RetZ w z):=by
 rw [← hz.out]; exact zabs_any hx hn
end Go.Proofs.YtnlnibngpeempaaGreatDoor
