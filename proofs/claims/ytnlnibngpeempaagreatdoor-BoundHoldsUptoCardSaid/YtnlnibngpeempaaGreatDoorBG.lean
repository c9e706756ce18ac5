/-
  Contracts and lemmas, joined in one text.
-/
import Derived.Test.YtnlnibngpeempaaGreatDoorZG
import Derived.Test.YtnlnibngpeempaaGreatDoorBC
import Derived.Test.YtnlnibngpeempaaGreatDoorBF
set_option linter.unusedVariables false
set_option linter.unusedSimpArgs false
/-
  The walks of zint: Near by nothing,Pow.
-/
namespace Go.Proofs.YtnlnibngpeempaaGreatDoor
open Go.RowKit
open Go.RowKit
set_option maxHeartbeats 1000000 in
theorem qgcd_any {p q:Option Addr} {n m c d:Nat} {b b2:Bool} {xs ys:List Nat} {w:World} (hx:Sl w p n c xs) (hy:Sl w q m d ys) (hn:n ≤ 549755813888) (hm:m ≤ 549755813888) :
  Calls Tryz.prog 97 #[.agg #[.bool b,.slice p n c],.agg #[.bool b2,.slice q m d]] w (RetZ w ((Int.gcd (zv b (val xs)) (zv b2 (val ys)):Nat):Int)):=by
 go_enter Tryz.func97,Tryz.ntmps97
 go_wp2_with fail
 obtain ⟨W,hW⟩:∃ W:World,W = (((w.alloc (.cells #[.bool b,.slice p n c] 28)).alloc (.cells #[.bool b2,.slice q m d] 28)).alloc (.cells #[.bool false,.slice none 0 0] 28)):=⟨_,rfl⟩
 rw [← hW]
 have hA00:W.cell? ⟨w.heap.size,0,none⟩ = some (.bool b):=by rw [hW]; exact (cOn (cOn (box_c0 (by simp)) (bAl _ _)) (bAl _ _))
 have hA01:W.cell? ⟨w.heap.size,1,none⟩ = some (.slice p n c):=by rw [hW]; exact (cOn (cOn (box_c1 (by simp)) (bAl _ _)) (bAl _ _))
 have hA10:W.cell? ⟨w.heap.size + 1,0,none⟩ = some (.bool b2):=by rw [hW]; exact (cOn (box_c0 (by simp)) (bAl _ _))
 have hA11:W.cell? ⟨w.heap.size + 1,1,none⟩ = some (.slice q m d):=by rw [hW]; exact (cOn (box_c1 (by simp)) (bAl _ _))
 have hR0:Cel (w.heap.size + 2) W:=by rw [hW]; exact (Cel.ofAlloc (by simp))
 have hB:Box w (w.heap.size + 2) W:=by rw [hW]; exact ⟨by (try simp) <;> omega,((((Below.refl _ _).alloc (Nat.le_refl _) _).alloc (by (try simp) <;> omega) _).alloc (by (try simp) <;> omega) _)⟩
 clear hW
 go_wp2_with fail
 refine (rgcd_any (hx.below hB.below (Nat.le_refl _)) (hy.below hB.below (Nat.le_refl _)) hn hm).mono ?_
 rintro e w1 ⟨p4,n4,c4,rfl,hf4,hb1⟩
 have hlt1:=hB.lt
 replace hA00:=cOn hA00 hb1
 replace hA01:=cOn hA01 hb1
 replace hA10:=cOn hA10 hb1
 replace hA11:=cOn hA11 hb1
 replace hR0:=hR0.on hb1
 replace hB:=hB.on hb1
 clear hb1
 obtain ⟨⟨u0,hu0⟩,⟨u1,hu1⟩,hug0,hug1⟩:=hR0
 go_wp2_with fail
 refine bodyPost_ret (v:=.agg #[.bool false,.slice p4 n4 c4]) (by simp [results,Tryz.results97,go_sem,hu0,hu1]) rfl ?_
 exact retZ_box (b:=false) hf4 (by omega) (by omega) ((hB.set (by omega) _ _).set (by omega) _ _).below (by unfold Int.gcd; rw [natAbs_zv,natAbs_zv]; rfl)
open Go.RowKit
end Go.Proofs.YtnlnibngpeempaaGreatDoor
