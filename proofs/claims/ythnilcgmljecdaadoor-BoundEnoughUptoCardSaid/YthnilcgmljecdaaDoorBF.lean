/-
  Contracts and lemmas, joined in one text.
-/
import Derived.Test.YthnilcgmljecdaaDoorBD
import Derived.Test.YthnilcgmljecdaaDoorBB
import Derived.Deep.DeepCutAuto
import Derived.Outline
set_option linter.unusedVariables false
set_option linter.unusedSimpArgs false
/-
  The walks of simileref03: Norm,Abs,Neg,Sign,Mul,Same,Of.
-/
namespace Go.Proofs.YthnilcgmljecdaaDoor
open Go.RowKit
set_option maxHeartbeats 1000000 in
theorem qsign_zero {p:Option Addr} {n c:Nat} {b:Bool} {xs:List Nat} {w:World} (hx:Sl w p n c xs) (h:val xs = 0) :
  Calls Tryd.prog 45 #[.agg #[.bool b,.slice p n c]] w (RetInt w (0)):=by
 have H:=Lib.hid h
 clear h
 go_enter Tryd.func45,Tryd.ntmps45
 go_wp2_with fail
 obtain ⟨W,hW⟩:∃ W:World,W = (w.alloc (.cells #[.bool b,.slice p n c] 28)):=⟨_,rfl⟩
 rw [← hW]
 have hA00:W.cell? ⟨w.heap.size,0,none⟩ = some (.bool b):=by rw [hW]; exact (box_c0 (by simp))
 have hA01:W.cell? ⟨w.heap.size,1,none⟩ = some (.slice p n c):=by rw [hW]; exact (box_c1 (by simp))
 have hB:Box w (w.heap.size) W:=by rw [hW]; exact ⟨by (try simp) <;> omega,((Below.refl _ _).alloc (Nat.le_refl _) _)⟩
 clear hW
 go_wp2_with fail
 refine (zero_yes (hx.below hB.below (Nat.le_refl _)) H.out).mono ?_
 rintro e w1 ⟨rfl,hb1⟩
 replace hA00:=cell_on hA00 hb1
 replace hA01:=cell_on hA01 hb1
 replace hB:=hB.on hb1
 clear hb1
 go_wp2_with fail
 go_ret
 exact ⟨rfl,hB.below⟩
set_option maxHeartbeats 1000000 in
theorem qsign_neg {p:Option Addr} {n c:Nat} {xs:List Nat} {w:World} (hx:Sl w p n c xs) (h:val xs ≠ 0) :
  Calls Tryd.prog 45 #[.agg #[.bool true,.slice p n c]] w (RetInt w (-1)):=by
 have H:=Lib.hid h
 clear h
 go_enter Tryd.func45,Tryd.ntmps45
 go_wp2_with fail
 obtain ⟨W,hW⟩:∃ W:World,W = (w.alloc (.cells #[.bool true,.slice p n c] 28)):=⟨_,rfl⟩
 rw [← hW]
 have hA00:W.cell? ⟨w.heap.size,0,none⟩ = some (.bool true):=by rw [hW]; exact (box_c0 (by simp))
 have hA01:W.cell? ⟨w.heap.size,1,none⟩ = some (.slice p n c):=by rw [hW]; exact (box_c1 (by simp))
 have hB:Box w (w.heap.size) W:=by rw [hW]; exact ⟨by (try simp) <;> omega,((Below.refl _ _).alloc (Nat.le_refl _) _)⟩
 clear hW
 go_wp2_with fail
 refine (zero_no (hx.below hB.below (Nat.le_refl _)) H.out).mono ?_
 rintro e w1 ⟨rfl,hb1⟩
 replace hA00:=cell_on hA00 hb1
 replace hA01:=cell_on hA01 hb1
 replace hB:=hB.on hb1
 clear hb1
 go_wp2_with fail
 go_ret
 exact ⟨rfl,hB.below⟩
set_option maxHeartbeats 1000000 in
theorem qsign_pos {p:Option Addr} {n c:Nat} {xs:List Nat} {w:World} (hx:Sl w p n c xs) (h:val xs ≠ 0) :
  Calls Tryd.prog 45 #[.agg #[.bool false,.slice p n c]] w (RetInt w (1)):=by
 have H:=Lib.hid h
 clear h
 go_enter Tryd.func45,Tryd.ntmps45
 go_wp2_with fail
 obtain ⟨W,hW⟩:∃ W:World,W = (w.alloc (.cells #[.bool false,.slice p n c] 28)):=⟨_,rfl⟩
 rw [← hW]
 have hA00:W.cell? ⟨w.heap.size,0,none⟩ = some (.bool false):=by rw [hW]; exact (box_c0 (by simp))
 have hA01:W.cell? ⟨w.heap.size,1,none⟩ = some (.slice p n c):=by rw [hW]; exact (box_c1 (by simp))
 have hB:Box w (w.heap.size) W:=by rw [hW]; exact ⟨by (try simp) <;> omega,((Below.refl _ _).alloc (Nat.le_refl _) _)⟩
 clear hW
 go_wp2_with fail
 refine (zero_no (hx.below hB.below (Nat.le_refl _)) H.out).mono ?_
 rintro e w1 ⟨rfl,hb1⟩
 replace hA00:=cell_on hA00 hb1
 replace hA01:=cell_on hA01 hb1
 replace hB:=hB.on hb1
 clear hb1
 go_wp2_with fail
 go_ret
 exact ⟨rfl,hB.below⟩
theorem qsign_any {p:Option Addr} {n c:Nat} {b:Bool} {xs:List Nat} {w:World} (hx:Sl w p n c xs) :
  Calls Tryd.prog 45 #[.agg #[.bool b,.slice p n c]] w (RetInt w (zv b (val xs)).sign):=by
 by_cases h:val xs = 0
 ·rw [sign_zv_zero h]; exact qsign_zero hx h
 ·cases b
  ·rw [sign_zv_pos h]; exact qsign_pos hx h
  ·rw [sign_zv_neg h]; exact qsign_neg hx h
theorem qsign_of {s:Int} {p:Option Addr} {n c:Nat} {b:Bool} {xs:List Nat} {w:World} (hx:Sl w p n c xs) (hs:Hid (s = (zv b (val xs)).sign)) :
  Calls Tryd.prog 45 #[.agg #[.bool b,.slice p n c]] w (RetInt w s):=by
 rw [hs.out]; exact qsign_any hx
set_option maxHeartbeats 1000000 in
theorem qsame_yes {p q:Option Addr} {n m c d:Nat} {b:Bool} {xs:List Nat} {w:World} (hx:Sl w p n c xs) (hy:Sl w q m d xs) :
  Calls Tryd.prog 65 #[.agg #[.bool b,.slice p n c],.agg #[.bool b,.slice q m d]] w (RetB w true):=by
 go_enter Tryd.func65,Tryd.ntmps65
 go_wp2_with fail
 obtain ⟨W,hW⟩:∃ W:World,W = ((w.alloc (.cells #[.bool b,.slice p n c] 28)).alloc (.cells #[.bool b,.slice q m d] 28)):=⟨_,rfl⟩
 rw [← hW]
 have hA00:W.cell? ⟨w.heap.size,0,none⟩ = some (.bool b):=by rw [hW]; exact (cell_on (box_c0 (by simp)) (below_alloc _ _))
 have hA01:W.cell? ⟨w.heap.size,1,none⟩ = some (.slice p n c):=by rw [hW]; exact (cell_on (box_c1 (by simp)) (below_alloc _ _))
 have hA10:W.cell? ⟨w.heap.size + 1,0,none⟩ = some (.bool b):=by rw [hW]; exact (box_c0 (by simp))
 have hA11:W.cell? ⟨w.heap.size + 1,1,none⟩ = some (.slice q m d):=by rw [hW]; exact (box_c1 (by simp))
 have hB:Box w (w.heap.size + 1) W:=by rw [hW]; exact ⟨by (try simp) <;> omega,(((Below.refl _ _).alloc (Nat.le_refl _) _).alloc (by (try simp) <;> omega) _)⟩
 clear hW
 go_wp2_with fail
 refine (same_yes (hx.below hB.below (Nat.le_refl _)) (hy.below hB.below (Nat.le_refl _))).mono ?_
 rintro e w1 ⟨rfl,hb1⟩
 replace hA00:=cell_on hA00 hb1
 replace hA01:=cell_on hA01 hb1
 replace hA10:=cell_on hA10 hb1
 replace hA11:=cell_on hA11 hb1
 replace hB:=hB.on hb1
 clear hb1
 go_wp2_with fail
 go_ret
 exact ⟨rfl,hB.below⟩
theorem rof_any {N:Nat} {X:Int} {w:World} (hX:X = (N:Int)) (hN:N < 18446744073709551616) :
  Calls Tryd.prog 47 #[.int .u64 X] w (RetN w (lim N)):=by
 subst hX
 have hv:val [N % 4294967296,N / 4294967296] = N:=by rw [val_pair]; omega
 have hl:Lims [N % 4294967296,N / 4294967296]:=lims_pair (by omega) (by omega)
 have HV:=Lib.hid hv
 clear hv
 go_enter Tryd.func47,Tryd.ntmps47
 go_wp2_with fail
 have h1:Sl (w.alloc (.cells ([N % 4294967296,N / 4294967296].map fun x:Nat => Value.int .u32 (x:Int)).toArray 34)) (some ⟨w.heap.size,0,none⟩) 2 2 [N % 4294967296,N / 4294967296]:=Sl.lit w _ hl
 have e1:((N % 4294967296:Nat):Int) = (N:Int) % 4294967296:=by omega
 have e2:((N / 4294967296:Nat):Int) = (N:Int) / 4294967296:=by omega
 simp only [List.map_cons,List.map_nil,e1,e2] at h1
 clear e1 e2
 refine (rnorm_any h1 (by omega)).mono ?_
 rw [HV.out]
 rintro e w1 ⟨p1,n1,c1,rfl,hf1,hb1⟩
 clear h1
 go_wp2_with fail
 go_ret
 exact ⟨_,_,_,rfl,hf1.mono (by simp),(below_alloc _ _).trans (hb1.mono (by simp))⟩
set_option maxHeartbeats 1000000 in
theorem qof_neg {z:Int} {w:World} (h1 : -9223372036854775808 ≤ z) (h2:z < 0) :
  Calls Tryd.prog 34 #[.int .i64 z] w (RetZ w z):=by
 have hz:decide (0 ≤ z) = false:=by simp; omega
 go_enter Tryd.func34,Tryd.ntmps34
 go_wp2_with fail
 obtain ⟨W,hW⟩:∃ W:World,W = (w.alloc (.cells #[.bool false,.slice none 0 0] 28)):=⟨_,rfl⟩
 rw [← hW]
 have hR0:Cel (w.heap.size) W:=by rw [hW]; exact (Cel.ofAlloc (by simp))
 have hB:Box w (w.heap.size) W:=by rw [hW]; exact ⟨by (try simp) <;> omega,((Below.refl _ _).alloc (Nat.le_refl _) _)⟩
 clear hW
 go_wp2_with fail
 refine (rof_any (N:=z.natAbs) (by omega) (by omega)).mono ?_
 rintro e w1 ⟨p4,n4,c4,rfl,hf4,hb1⟩
 have hlt1:=hB.lt
 replace hR0:=hR0.on hb1
 replace hB:=hB.on hb1
 clear hb1
 obtain ⟨⟨u0,hu0⟩,⟨u1,hu1⟩,hug0,hug1⟩:=hR0
 have hnb:(true && decide (0 < n4)) = true:=by
  rw [mk_ng hf4.sl.lln,ng_zv]; simp; omega
 have HNB:=Lib.hid hnb
 clear hnb
 go_wp2_with fail
 refine bodyPost_ret (v:=.agg #[.bool true,.slice p4 n4 c4]) (by simp [results,Tryd.results34,go_sem,hu0,hu1]) rfl ?_
 rw [show Ending.returned (.agg #[.bool true,.slice p4 n4 c4]) = Ending.returned (.agg #[.bool (true && decide (0 < n4)),.slice p4 n4 c4]) by rw [HNB.out]]
 exact retZ_box (b:=true) hf4 (by omega) (by omega) ((hB.set (by omega) _ _).set (by omega) _ _).below (by rw [zv_true]; omega)
set_option maxHeartbeats 1000000 in
theorem qof_pos {z:Int} {w:World} (h1:0 ≤ z) (h2:z ≤ 9223372036854775807) :
  Calls Tryd.prog 34 #[.int .i64 z] w (RetZ w z):=by
 go_enter Tryd.func34,Tryd.ntmps34
 go_wp2_with fail
 obtain ⟨W,hW⟩:∃ W:World,W = (w.alloc (.cells #[.bool false,.slice none 0 0] 28)):=⟨_,rfl⟩
 rw [← hW]
 have hR0:Cel (w.heap.size) W:=by rw [hW]; exact (Cel.ofAlloc (by simp))
 have hB:Box w (w.heap.size) W:=by rw [hW]; exact ⟨by (try simp) <;> omega,((Below.refl _ _).alloc (Nat.le_refl _) _)⟩
 clear hW
 go_wp2_with fail
 refine (rof_any (N:=z.natAbs) (by omega) (by omega)).mono ?_
 rintro e w1 ⟨p4,n4,c4,rfl,hf4,hb1⟩
 have hlt1:=hB.lt
 replace hR0:=hR0.on hb1
 replace hB:=hB.on hb1
 clear hb1
 obtain ⟨⟨u0,hu0⟩,⟨u1,hu1⟩,hug0,hug1⟩:=hR0
 go_wp2_with fail
 refine bodyPost_ret (v:=.agg #[.bool false,.slice p4 n4 c4]) (by simp [results,Tryd.results34,go_sem,hu0,hu1]) rfl ?_
 exact retZ_box (b:=false) hf4 (by omega) (by omega) ((hB.set (by omega) _ _).set (by omega) _ _).below (by rw [zv_false]; omega)
theorem qof_any {z:Int} {w:World} (h1 : -9223372036854775808 ≤ z) (h2:z ≤ 9223372036854775807) :
  Calls Tryd.prog 34 #[.int .i64 z] w (RetZ w z):=by
 rcases Int.lt_or_le z 0 with h | h
 ·exact qof_neg h1 h
 ·exact qof_pos h h2
def RetCopy (w:World) (b:Bool) (n:Nat) (xs:List Nat) (e:Ending) (w':World):Prop :=
  ∃ p c,e = .returned (.agg #[.bool b,.slice p n c]) ∧ Fr w.heap.size w' p n c xs ∧ Below w.heap.size w w'
end Go.Proofs.YthnilcgmljecdaaDoor
/-
  The walks of simileref03: Add,Sub,Cmp.
-/
namespace Go.Proofs.YthnilcgmljecdaaDoor
open Go.RowKit
def BoxAB1 (w:World) (A B:Int) (wc:World):Prop :=
 ∃ p n c q m d B1,wc.cell? ⟨w.heap.size,0,none⟩ = some (.bool (ng A)) ∧ wc.cell? ⟨w.heap.size,1,none⟩ = some (.slice p n c) ∧ wc.cell? ⟨w.heap.size + 1,0,none⟩ = some (.bool (ng B)) ∧ wc.cell? ⟨w.heap.size + 1,1,none⟩ = some (.slice q m d) ∧
  Cel w.heap.size wc ∧ Cel (w.heap.size + 1) wc ∧ Cel (w.heap.size + 2) wc ∧ Fr B1 wc p n c (lim A.natAbs) ∧ Fr B1 wc q m d (lim B.natAbs) ∧ w.heap.size + 2 < B1 ∧ Box w (w.heap.size + 2) wc
def BoxAB2 (w:World) (A B:Int) (wc:World):Prop :=
 ∃ p n c q m d B1,wc.cell? ⟨w.heap.size,0,none⟩ = some (.bool (ng A)) ∧ wc.cell? ⟨w.heap.size,1,none⟩ = some (.slice p n c) ∧ wc.cell? ⟨w.heap.size + 1,0,none⟩ = some (.bool (ng B)) ∧ wc.cell? ⟨w.heap.size + 1,1,none⟩ = some (.slice q m d) ∧
  Cel w.heap.size wc ∧ Cel (w.heap.size + 1) wc ∧ Cel (w.heap.size + 2) wc ∧ Cel (w.heap.size + 3) wc ∧ Fr B1 wc p n c (lim A.natAbs) ∧ Fr B1 wc q m d (lim B.natAbs) ∧ w.heap.size + 3 < B1 ∧ Box w (w.heap.size + 3) wc
end Go.Proofs.YthnilcgmljecdaaDoor
/-
  The walks of simileref03: Sub,Cmp; and of the law's own of and same.
-/
namespace Go.Proofs.YthnilcgmljecdaaDoor
open Go.RowKit
end Go.Proofs.YthnilcgmljecdaaDoor
/-
  The walks of simileref03: Trunc,Exact.
-/
namespace Go.Proofs.YthnilcgmljecdaaDoor
open Go.RowKit
end Go.Proofs.YthnilcgmljecdaaDoor
