
/-
  The walk of zint: Euclid.
-/
import Derived.Test.YtnlnibngpeempaaGreatDoorBD
import Derived.Deep.DeepCutAuto
import Derived.Outline
set_option linter.unusedVariables false
set_option linter.unusedSimpArgs false
namespace Go.Proofs.YtnlnibngpeempaaGreatDoor
open Go.RowKit
set_option maxHeartbeats 8000000 in
theorem zeuclid_high {p q:Option Addr} {n m c d:Nat} {b b2:Bool} {xs ys:List Nat} {w:World} (hx:Sl w p n c xs) (hy:Sl w q m d ys) (hn:n ≤ 1099511627776) (hm:m ≤ 1099511627776) (h0:val ys ≠ 0) (h1:0 ≤ (zv b (val xs)).tmod (zv b2 (val ys))) :
  Calls Tryz.prog 108 #[.agg #[.bool b,.slice p n c],.agg #[.bool b2,.slice q m d]] w (RetZZE w ((zv b (val xs)) / (zv b2 (val ys))) ((zv b (val xs)) % (zv b2 (val ys))) 0):=by
 have hb0:zv b2 (val ys) ≠ 0:=fun h => h0 (zv_eq_zero.1 h)
 have HQ:Hid ((zv b (val xs)).tdiv (zv b2 (val ys)) = zv b (val xs) / zv b2 (val ys)):=(euclid_high hb0 h1).1
 have HM:Hid ((zv b (val xs)).tmod (zv b2 (val ys)) = zv b (val xs) % zv b2 (val ys)):=(euclid_high hb0 h1).2
 have H0:=Lib.hid h0
 clear h0 hb0
 obtain ⟨sg,hsg⟩:∃ s,s = ((zv b (val xs)).tmod (zv b2 (val ys))).sign:=⟨_,rfl⟩
 have hz:decide (sg < 0) = false:=by
  have:=sign_cases ((zv b (val xs)).tmod (zv b2 (val ys)))
  simp; omega
 have HSG:=Lib.hid hsg.symm
 clear hsg
 go_enter Tryz.func108,Tryz.ntmps108
 go_wp2_with fail
 obtain ⟨W,hW⟩:∃ W:World,W = ((((w.alloc (.cells #[.bool b,.slice p n c] 28)).alloc (.cells #[.bool b2,.slice q m d] 28)).alloc (.cells #[.bool false,.slice none 0 0] 28)).alloc (.cells #[.bool false,.slice none 0 0] 28)):=⟨_,rfl⟩
 rw [← hW]
 have hA00:W.cell? ⟨w.heap.size,0,none⟩ = some (.bool b):=by rw [hW]; exact (cOn (cOn (cOn (box_c0 (by simp)) (bAl _ _)) (bAl _ _)) (bAl _ _))
 have hA01:W.cell? ⟨w.heap.size,1,none⟩ = some (.slice p n c):=by rw [hW]; exact (cOn (cOn (cOn (box_c1 (by simp)) (bAl _ _)) (bAl _ _)) (bAl _ _))
 have hA10:W.cell? ⟨w.heap.size + 1,0,none⟩ = some (.bool b2):=by rw [hW]; exact (cOn (cOn (box_c0 (by simp)) (bAl _ _)) (bAl _ _))
 have hA11:W.cell? ⟨w.heap.size + 1,1,none⟩ = some (.slice q m d):=by rw [hW]; exact (cOn (cOn (box_c1 (by simp)) (bAl _ _)) (bAl _ _))
 have hR0:Cel (w.heap.size + 2) W:=by rw [hW]; exact ((Cel.ofAlloc (by simp)).on (bAl _ _))
 have hR1:Cel (w.heap.size + 3) W:=by rw [hW]; exact (Cel.ofAlloc (by simp))
 have hB:Box w (w.heap.size + 3) W:=by rw [hW]; exact ⟨by (try simp) <;> omega,(((((Below.refl _ _).alloc (Nat.le_refl _) _).alloc (by (try simp) <;> omega) _).alloc (by (try simp) <;> omega) _).alloc (by (try simp) <;> omega) _)⟩
 clear hW
 go_wp2_with fail
 refine (ztrunc_any (hx.below hB.below (Nat.le_refl _)) (hy.below hB.below (Nat.le_refl _)) hn hm H0.out).mono ?_
 rintro e w1 ⟨p4,n4,c4,p5,n5,c5,rfl,hf4,hf5,hb1⟩
 have hlt1:=hB.lt
 replace hA00:=cOn hA00 hb1
 replace hA01:=cOn hA01 hb1
 replace hA10:=cOn hA10 hb1
 replace hA11:=cOn hA11 hb1
 replace hR0:=hR0.on hb1
 replace hR1:=hR1.on hb1
 replace hB:=hB.on hb1
 clear hb1
 go_upto_region 2 with (fail)
 have hlb0:=hB.lt
 obtain ⟨W1,hW⟩:∃ W1:World,W1 = ((w1.alloc (.cells #[.bool (ng ((zv b (val xs)).tdiv (zv b2 (val ys)))),.slice p4 n4 c4] 28)).alloc (.cells #[.bool (ng ((zv b (val xs)).tmod (zv b2 (val ys)))),.slice p5 n5 c5] 28)):=⟨_,rfl⟩
 rw [← hW]
 have qhA00:W1.cell? ⟨w.heap.size,0,none⟩ = some (.bool b):=by rw [hW]; exact (cOn (cOn hA00 (bAl _ _)) (bAl _ _))
 have qhA01:W1.cell? ⟨w.heap.size,1,none⟩ = some (.slice p n c):=by rw [hW]; exact (cOn (cOn hA01 (bAl _ _)) (bAl _ _))
 have qhA10:W1.cell? ⟨w.heap.size + 1,0,none⟩ = some (.bool b2):=by rw [hW]; exact (cOn (cOn hA10 (bAl _ _)) (bAl _ _))
 have qhA11:W1.cell? ⟨w.heap.size + 1,1,none⟩ = some (.slice q m d):=by rw [hW]; exact (cOn (cOn hA11 (bAl _ _)) (bAl _ _))
 have qhR0:Cel (w.heap.size + 2) W1:=by rw [hW]; exact ((hR0.on (bAl _ _)).on (bAl _ _))
 have qhR1:Cel (w.heap.size + 3) W1:=by rw [hW]; exact ((hR1.on (bAl _ _)).on (bAl _ _))
 have qhf4:Fr W.heap.size W1 p4 n4 c4 (lim ((zv b (val xs)).tdiv (zv b2 (val ys))).natAbs):=by rw [hW]; exact ((hf4.below (bAl _ _) (Nat.le_refl _)).below (bAl _ _) (Nat.le_refl _))
 have qhf5:Fr W.heap.size W1 p5 n5 c5 (lim ((zv b (val xs)).tmod (zv b2 (val ys))).natAbs):=by rw [hW]; exact ((hf5.below (bAl _ _) (Nat.le_refl _)).below (bAl _ _) (Nat.le_refl _))
 have hL00:W1.cell? ⟨w1.heap.size,0,none⟩ = some (.bool (ng ((zv b (val xs)).tdiv (zv b2 (val ys))))):=by rw [hW]; exact (cOn (box_c0 (by simp)) (bAl _ _))
 have hL01:W1.cell? ⟨w1.heap.size,1,none⟩ = some (.slice p4 n4 c4):=by rw [hW]; exact (cOn (box_c1 (by simp)) (bAl _ _))
 have hR2:Cel (w1.heap.size) W1:=by rw [hW]; exact ((Cel.ofAlloc (by simp)).on (bAl _ _))
 have hL10:W1.cell? ⟨w1.heap.size + 1,0,none⟩ = some (.bool (ng ((zv b (val xs)).tmod (zv b2 (val ys))))):=by rw [hW]; exact (box_c0 (by simp))
 have hL11:W1.cell? ⟨w1.heap.size + 1,1,none⟩ = some (.slice p5 n5 c5):=by rw [hW]; exact (box_c1 (by simp))
 have hR3:Cel (w1.heap.size + 1) W1:=by rw [hW]; exact (Cel.ofAlloc (by simp))
 have qhB:Box w (w1.heap.size + 1) W1:=by rw [hW]; exact ⟨by (try simp) <;> omega,((hB.below.alloc (by (try simp) <;> omega) _).alloc (by (try simp) <;> omega) _)⟩
 clear hW hA00 hA01 hA10 hA11 hR0 hR1 hf4 hf5 hB
 have hA00:=qhA00
 have hA01:=qhA01
 have hA10:=qhA10
 have hA11:=qhA11
 have hR0:=qhR0
 have hR1:=qhR1
 have hf4:=qhf4
 have hf5:=qhf5
 have hB:=qhB
 clear qhA00 qhA01 qhA10 qhA11 qhR0 qhR1 qhf4 qhf5 qhB
 have hn5:n5 ≤ 1099511627776:=by
  rw [hf5.sl.lln,Int.natAbs_tmod]
  have h1:=ll_mono (Nat.mod_le (zv b (val xs)).natAbs (zv b2 (val ys)).natAbs)
  have h2:ll (zv b (val xs)).natAbs ≤ n:=by rw [natAbs_zv, ← hx.len]; exact val_ll hx.lims
  omega
 go_wp2_with fail
 refine (zsign_any (b:=ng ((zv b (val xs)).tmod (zv b2 (val ys)))) hf5.sl (by omega)).mono ?_
 rw [vLm,zv_ng,HSG.out]
 rintro e w2 ⟨rfl,hb2⟩
 replace hA00:=cOn hA00 hb2
 replace hA01:=cOn hA01 hb2
 replace hA10:=cOn hA10 hb2
 replace hA11:=cOn hA11 hb2
 replace hR0:=hR0.on hb2
 replace hR1:=hR1.on hb2
 replace hB:=hB.on hb2
 replace hf4:=hf4.below hb2 (Nat.le_refl _)
 replace hf5:=hf5.below hb2 (Nat.le_refl _)
 replace hL00:=cOn hL00 hb2
 replace hL01:=cOn hL01 hb2
 replace hL10:=cOn hL10 hb2
 replace hL11:=cOn hL11 hb2
 replace hR2:=hR2.on hb2
 replace hR3:=hR3.on hb2
 clear hb2
 obtain ⟨⟨u0,hu0⟩,⟨u1,hu1⟩,hug0,hug1⟩:=id hR0
 obtain ⟨⟨v0,hv0⟩,⟨v1,hv1⟩,hvg0,hvg1⟩:=id hR1
 go_wp2_with fail
 clear hA00 hA01 hA10 hA11 hR2 hR3
 go_region_held3 (fun w' => w'.cell? ⟨w1.heap.size,0,none⟩ = some (.bool (ng ((zv b (val xs)).tdiv (zv b2 (val ys))))) ∧ w'.cell? ⟨w1.heap.size,1,none⟩ = some (.slice p4 n4 c4) ∧ w'.cell? ⟨w1.heap.size + 1,0,none⟩ = some (.bool (ng ((zv b (val xs)).tmod (zv b2 (val ys))))) ∧ w'.cell? ⟨w1.heap.size + 1,1,none⟩ = some (.slice p5 n5 c5) ∧ Cel (w.heap.size + 2) w' ∧ Cel (w.heap.size + 3) w' ∧ Fr W.heap.size w' p4 n4 c4 (lim ((zv b (val xs)).tdiv (zv b2 (val ys))).natAbs) ∧ Fr W.heap.size w' p5 n5 c5 (lim ((zv b (val xs)).tmod (zv b2 (val ys))).natAbs) ∧ Box w (w1.heap.size + 1) w')
  (first | exact ⟨by simpa using hL00,by simpa using hL01,by simpa using hL10,by simpa using hL11,hR0.drew,hR1.drew,hf4.below (Below.refl _ _).drew (Nat.le_refl _),hf5.below (Below.refl _ _).drew (Nat.le_refl _),hB.drew⟩ | exact ‹World.cell? _ _ = some _ ∧ World.cell? _ _ = some _ ∧ World.cell? _ _ = some _ ∧ World.cell? _ _ = some _ ∧ Cel _ _ ∧ Cel _ _ ∧ Fr _ _ _ _ _ _ ∧ Fr _ _ _ _ _ _ ∧ Box w _ _› | (have hS := ‹World.cell? _ _ = some _ ∧ World.cell? _ _ = some _ ∧ World.cell? _ _ = some _ ∧ World.cell? _ _ = some _ ∧ Cel _ _ ∧ Cel _ _ ∧ Fr _ _ _ _ _ _ ∧ Fr _ _ _ _ _ _ ∧ Box w _ _›; exact ⟨cSt (cSt hS.1 (by omega)) (by omega),cSt (cSt hS.2.1 (by omega)) (by omega),cSt (cSt hS.2.2.1 (by omega)) (by omega),cSt (cSt hS.2.2.2.1 (by omega)) (by omega),(hS.2.2.2.2.1.set _ _ _).set _ _ _,(hS.2.2.2.2.2.1.set _ _ _).set _ _ _,(hS.2.2.2.2.2.2.1.setLow (by omega) _ _).setLow (by omega) _ _,(hS.2.2.2.2.2.2.2.1.setLow (by omega) _ _).setLow (by omega) _ _,(hS.2.2.2.2.2.2.2.2.set (by omega) _ _).set (by omega) _ _⟩))
  (fail)
 obtain ⟨hL00,hL01,hL10,hL11,hR0,hR1,hf4,hf5,hB⟩ := ‹World.cell? _ _ = some _ ∧ World.cell? _ _ = some _ ∧ World.cell? _ _ = some _ ∧ World.cell? _ _ = some _ ∧ Cel _ _ ∧ Cel _ _ ∧ Fr _ _ _ _ _ _ ∧ Fr _ _ _ _ _ _ ∧ Box w _ _›
 go_wp2_with fail
 refine bodyPost_ret (v:=.tuple #[.agg #[.bool (ng ((zv b (val xs)).tdiv (zv b2 (val ys)))),.slice p4 n4 c4],.agg #[.bool (ng ((zv b (val xs)).tmod (zv b2 (val ys)))),.slice p5 n5 c5],.int .i64 0]) (by simp [results,Tryz.results108,go_sem,hu0,hu1,hv0,hv1]) rfl ?_
 exact ⟨_,_,_,_,_,_,by rw [HQ.out,HM.out],by rw [← HQ.out]; exact hf4.mono (by omega),by rw [← HM.out]; exact hf5.mono (by omega),hB.below⟩
end Go.Proofs.YtnlnibngpeempaaGreatDoor
