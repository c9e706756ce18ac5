/-
  Contracts and lemmas, joined in one text.
-/
import Derived.Test.YtnlnibngpeempaaGreatDoorBD
import Derived.Test.YtnlnibngpeempaaGreatDoorBB
import Derived.Deep.DeepCutAuto
import Derived.Outline
set_option linter.unusedVariables false
set_option linter.unusedSimpArgs false
/-
  The walks of simileref03: Norm,Abs,Neg,Sign,Mul,Same,Of.
-/
namespace Go.Proofs.YtnlnibngpeempaaGreatDoor
open Go.RowKit
set_option maxHeartbeats 1000000 in
theorem qnorm_t {p:Option Addr} {n c:Nat} {xs:List Nat} {w:World} (hx:Sl w p n c xs) (hn:n ≤ 17592186044416) :
  Calls Tryz.prog 115 #[.agg #[.bool true,.slice p n c]] w (RetZ w (zv true (val xs))):=by
 go_enter Tryz.func115,Tryz.ntmps115
 go_wp2_with fail
 obtain ⟨W,hW⟩:∃ W:World,W = ((w.alloc (.cells #[.bool true,.slice p n c] 28)).alloc (.cells #[.bool false,.slice none 0 0] 28)):=⟨_,rfl⟩
 rw [← hW]
 have hA00:W.cell? ⟨w.heap.size,0,none⟩ = some (.bool true):=by rw [hW]; exact (cOn (box_c0 (by simp)) (bAl _ _))
 have hA01:W.cell? ⟨w.heap.size,1,none⟩ = some (.slice p n c):=by rw [hW]; exact (cOn (box_c1 (by simp)) (bAl _ _))
 have hR0:Cel (w.heap.size + 1) W:=by rw [hW]; exact (Cel.ofAlloc (by simp))
 have hB:Box w (w.heap.size + 1) W:=by rw [hW]; exact ⟨by (try simp) <;> omega,(((Below.refl _ _).alloc (Nat.le_refl _) _).alloc (by (try simp) <;> omega) _)⟩
 clear hW
 go_wp2_with fail
 refine (rnorm_any (hx.below hB.below (Nat.le_refl _)) hn).mono ?_
 rintro e w1 ⟨p4,n4,c4,rfl,hf4,hb1⟩
 have hlt1:=hB.lt
 replace hA00:=cOn hA00 hb1
 replace hA01:=cOn hA01 hb1
 replace hR0:=hR0.on hb1
 replace hB:=hB.on hb1
 clear hb1
 obtain ⟨⟨u0,hu0⟩,⟨u1,hu1⟩,hug0,hug1⟩:=hR0
 go_wp2_with fail
 refine bodyPost_ret (v:=.agg #[.bool (decide (0 < n4)),.slice p4 n4 c4]) (by simp [results,Tryz.results115,go_sem,hu0,hu1]) rfl ?_
 exact retZ_box (b:=true) hf4 (by omega) (by omega) ((hB.set (by omega) _ _).set (by omega) _ _).below rfl
set_option maxHeartbeats 1000000 in
theorem qnorm_f {p:Option Addr} {n c:Nat} {xs:List Nat} {w:World} (hx:Sl w p n c xs) (hn:n ≤ 17592186044416) :
  Calls Tryz.prog 115 #[.agg #[.bool false,.slice p n c]] w (RetZ w (zv false (val xs))):=by
 go_enter Tryz.func115,Tryz.ntmps115
 go_wp2_with fail
 obtain ⟨W,hW⟩:∃ W:World,W = ((w.alloc (.cells #[.bool false,.slice p n c] 28)).alloc (.cells #[.bool false,.slice none 0 0] 28)):=⟨_,rfl⟩
 rw [← hW]
 have hA00:W.cell? ⟨w.heap.size,0,none⟩ = some (.bool false):=by rw [hW]; exact (cOn (box_c0 (by simp)) (bAl _ _))
 have hA01:W.cell? ⟨w.heap.size,1,none⟩ = some (.slice p n c):=by rw [hW]; exact (cOn (box_c1 (by simp)) (bAl _ _))
 have hR0:Cel (w.heap.size + 1) W:=by rw [hW]; exact (Cel.ofAlloc (by simp))
 have hB:Box w (w.heap.size + 1) W:=by rw [hW]; exact ⟨by (try simp) <;> omega,(((Below.refl _ _).alloc (Nat.le_refl _) _).alloc (by (try simp) <;> omega) _)⟩
 clear hW
 go_wp2_with fail
 refine (rnorm_any (hx.below hB.below (Nat.le_refl _)) hn).mono ?_
 rintro e w1 ⟨p4,n4,c4,rfl,hf4,hb1⟩
 have hlt1:=hB.lt
 replace hA00:=cOn hA00 hb1
 replace hA01:=cOn hA01 hb1
 replace hR0:=hR0.on hb1
 replace hB:=hB.on hb1
 clear hb1
 obtain ⟨⟨u0,hu0⟩,⟨u1,hu1⟩,hug0,hug1⟩:=hR0
 go_wp2_with fail
 refine bodyPost_ret (v:=.agg #[.bool false,.slice p4 n4 c4]) (by simp [results,Tryz.results115,go_sem,hu0,hu1]) rfl ?_
 exact retZ_box (b:=false) hf4 (by omega) (by omega) ((hB.set (by omega) _ _).set (by omega) _ _).below rfl
theorem qnorm_any {p:Option Addr} {n c:Nat} {b:Bool} {xs:List Nat} {w:World} (hx:Sl w p n c xs) (hn:n ≤ 17592186044416) :
  Calls Tryz.prog 115 #[.agg #[.bool b,.slice p n c]] w (RetZ w (zv b (val xs))):=by
 cases b
 ·exact qnorm_f hx hn
 exact qnorm_t hx hn
theorem qnorm_of {z:Int} {p:Option Addr} {n c:Nat} {b:Bool} {xs:List Nat} {w:World} (hx:Sl w p n c xs) (hn:n ≤ 17592186044416) (hz:Hid (zv b (val xs) = z)) :
  Calls Tryz.prog 115 #[.agg #[.bool b,.slice p n c]] w (RetZ w z):=by
 rw [← hz.out]; exact qnorm_any hx hn
set_option maxHeartbeats 1000000 in
theorem qabs_any {p:Option Addr} {n c:Nat} {b:Bool} {xs:List Nat} {w:World} (hx:Sl w p n c xs) (hn:n ≤ 17592186044416) :
  Calls Tryz.prog 157 #[.agg #[.bool b,.slice p n c]] w (RetZ w ((zv b (val xs)).natAbs:Int)):=by
 go_enter Tryz.func157,Tryz.ntmps157
 go_wp2_with fail
 obtain ⟨W,hW⟩:∃ W:World,W = ((w.alloc (.cells #[.bool b,.slice p n c] 28)).alloc (.cells #[.bool false,.slice none 0 0] 28)):=⟨_,rfl⟩
 rw [← hW]
 have hA00:W.cell? ⟨w.heap.size,0,none⟩ = some (.bool b):=by rw [hW]; exact (cOn (box_c0 (by simp)) (bAl _ _))
 have hA01:W.cell? ⟨w.heap.size,1,none⟩ = some (.slice p n c):=by rw [hW]; exact (cOn (box_c1 (by simp)) (bAl _ _))
 have hR0:Cel (w.heap.size + 1) W:=by rw [hW]; exact (Cel.ofAlloc (by simp))
 have hB:Box w (w.heap.size + 1) W:=by rw [hW]; exact ⟨by (try simp) <;> omega,(((Below.refl _ _).alloc (Nat.le_refl _) _).alloc (by (try simp) <;> omega) _)⟩
 clear hW
 go_wp2_with fail
 refine (rnorm_any (hx.below hB.below (Nat.le_refl _)) hn).mono ?_
 rintro e w1 ⟨p4,n4,c4,rfl,hf4,hb1⟩
 have hlt1:=hB.lt
 replace hA00:=cOn hA00 hb1
 replace hA01:=cOn hA01 hb1
 replace hR0:=hR0.on hb1
 replace hB:=hB.on hb1
 clear hb1
 obtain ⟨⟨u0,hu0⟩,⟨u1,hu1⟩,hug0,hug1⟩:=hR0
 go_wp2_with fail
 refine bodyPost_ret (v:=.agg #[.bool false,.slice p4 n4 c4]) (by simp [results,Tryz.results157,go_sem,hu0,hu1]) rfl ?_
 exact retZ_box (b:=false) hf4 (by omega) (by omega) ((hB.set (by omega) _ _).set (by omega) _ _).below (by rw [natAbs_zv]; rfl)
set_option maxHeartbeats 1000000 in
theorem qneg_any {p:Option Addr} {n c:Nat} {b:Bool} {xs:List Nat} {w:World} (hx:Sl w p n c xs) (hn:n ≤ 17592186044416) :
  Calls Tryz.prog 93 #[.agg #[.bool b,.slice p n c]] w (RetZ w (-(zv b (val xs)))):=by
 go_enter Tryz.func93,Tryz.ntmps93
 go_wp2_with fail
 obtain ⟨W,hW⟩:∃ W:World,W = ((w.alloc (.cells #[.bool b,.slice p n c] 28)).alloc (.cells #[.bool false,.slice none 0 0] 28)):=⟨_,rfl⟩
 rw [← hW]
 have hA00:W.cell? ⟨w.heap.size,0,none⟩ = some (.bool b):=by rw [hW]; exact (cOn (box_c0 (by simp)) (bAl _ _))
 have hA01:W.cell? ⟨w.heap.size,1,none⟩ = some (.slice p n c):=by rw [hW]; exact (cOn (box_c1 (by simp)) (bAl _ _))
 have hR0:Cel (w.heap.size + 1) W:=by rw [hW]; exact (Cel.ofAlloc (by simp))
 have hB:Box w (w.heap.size + 1) W:=by rw [hW]; exact ⟨by (try simp) <;> omega,(((Below.refl _ _).alloc (Nat.le_refl _) _).alloc (by (try simp) <;> omega) _)⟩
 clear hW
 go_wp2_with fail
 refine (qnorm_of (z := -(zv b (val xs))) (b := !b) (hx.below hB.below (Nat.le_refl _)) hn (zv_neg b (val xs))).mono ?_
 rintro e w1 ⟨p4,n4,c4,rfl,hf4,hb1⟩
 have hlt1:=hB.lt
 replace hA00:=cOn hA00 hb1
 replace hA01:=cOn hA01 hb1
 replace hR0:=hR0.on hb1
 replace hB:=hB.on hb1
 clear hb1
 obtain ⟨⟨u0,hu0⟩,⟨u1,hu1⟩,hug0,hug1⟩:=hR0
 go_wp2_with fail
 refine bodyPost_ret (v:=.agg #[.bool (ng (-(zv b (val xs)))),.slice p4 n4 c4]) (by simp [results,Tryz.results93,go_sem,hu0,hu1]) rfl ?_
 exact retZ_cp hf4 (by omega) (by omega) ((hB.set (by omega) _ _).set (by omega) _ _).below
set_option maxHeartbeats 1000000 in
theorem qsign_zero {p:Option Addr} {n c:Nat} {b:Bool} {xs:List Nat} {w:World} (hx:Sl w p n c xs) (h:val xs = 0) :
  Calls Tryz.prog 45 #[.agg #[.bool b,.slice p n c]] w (RetInt w (0)):=by
 have H:=Lib.hid h
 clear h
 go_enter Tryz.func45,Tryz.ntmps45
 go_wp2_with fail
 obtain ⟨W,hW⟩:∃ W:World,W = (w.alloc (.cells #[.bool b,.slice p n c] 28)):=⟨_,rfl⟩
 rw [← hW]
 have hA00:W.cell? ⟨w.heap.size,0,none⟩ = some (.bool b):=by rw [hW]; exact (box_c0 (by simp))
 have hA01:W.cell? ⟨w.heap.size,1,none⟩ = some (.slice p n c):=by rw [hW]; exact (box_c1 (by simp))
 have hB:Box w (w.heap.size) W:=by rw [hW]; exact ⟨by (try simp) <;> omega,((Below.refl _ _).alloc (Nat.le_refl _) _)⟩
 clear hW
 go_wp2_with fail
 refine (zero_yes (hx.below hB.below (Nat.le_refl _)) H.out).mono ?_
 rintro e w1 ⟨rfl,hb1⟩
 replace hA00:=cOn hA00 hb1
 replace hA01:=cOn hA01 hb1
 replace hB:=hB.on hb1
 clear hb1
 go_wp2_with fail
 go_ret
 exact ⟨rfl,hB.below⟩
set_option maxHeartbeats 1000000 in
theorem qsign_neg {p:Option Addr} {n c:Nat} {xs:List Nat} {w:World} (hx:Sl w p n c xs) (h:val xs ≠ 0) :
  Calls Tryz.prog 45 #[.agg #[.bool true,.slice p n c]] w (RetInt w (-1)):=by
 have H:=Lib.hid h
 clear h
 go_enter Tryz.func45,Tryz.ntmps45
 go_wp2_with fail
 obtain ⟨W,hW⟩:∃ W:World,W = (w.alloc (.cells #[.bool true,.slice p n c] 28)):=⟨_,rfl⟩
 rw [← hW]
 have hA00:W.cell? ⟨w.heap.size,0,none⟩ = some (.bool true):=by rw [hW]; exact (box_c0 (by simp))
 have hA01:W.cell? ⟨w.heap.size,1,none⟩ = some (.slice p n c):=by rw [hW]; exact (box_c1 (by simp))
 have hB:Box w (w.heap.size) W:=by rw [hW]; exact ⟨by (try simp) <;> omega,((Below.refl _ _).alloc (Nat.le_refl _) _)⟩
 clear hW
 go_wp2_with fail
 refine (zero_no (hx.below hB.below (Nat.le_refl _)) H.out).mono ?_
 rintro e w1 ⟨rfl,hb1⟩
 replace hA00:=cOn hA00 hb1
 replace hA01:=cOn hA01 hb1
 replace hB:=hB.on hb1
 clear hb1
 go_wp2_with fail
 go_ret
 exact ⟨rfl,hB.below⟩
set_option maxHeartbeats 1000000 in
theorem qsign_pos {p:Option Addr} {n c:Nat} {xs:List Nat} {w:World} (hx:Sl w p n c xs) (h:val xs ≠ 0) :
  Calls Tryz.prog 45 #[.agg #[.bool false,.slice p n c]] w (RetInt w (1)):=by
 have H:=Lib.hid h
 clear h
 go_enter Tryz.func45,Tryz.ntmps45
 go_wp2_with fail
 obtain ⟨W,hW⟩:∃ W:World,W = (w.alloc (.cells #[.bool false,.slice p n c] 28)):=⟨_,rfl⟩
 rw [← hW]
 have hA00:W.cell? ⟨w.heap.size,0,none⟩ = some (.bool false):=by rw [hW]; exact (box_c0 (by simp))
 have hA01:W.cell? ⟨w.heap.size,1,none⟩ = some (.slice p n c):=by rw [hW]; exact (box_c1 (by simp))
 have hB:Box w (w.heap.size) W:=by rw [hW]; exact ⟨by (try simp) <;> omega,((Below.refl _ _).alloc (Nat.le_refl _) _)⟩
 clear hW
 go_wp2_with fail
 refine (zero_no (hx.below hB.below (Nat.le_refl _)) H.out).mono ?_
 rintro e w1 ⟨rfl,hb1⟩
 replace hA00:=cOn hA00 hb1
 replace hA01:=cOn hA01 hb1
 replace hB:=hB.on hb1
 clear hb1
 go_wp2_with fail
 go_ret
 exact ⟨rfl,hB.below⟩
theorem qsign_any {p:Option Addr} {n c:Nat} {b:Bool} {xs:List Nat} {w:World} (hx:Sl w p n c xs) :
  Calls Tryz.prog 45 #[.agg #[.bool b,.slice p n c]] w (RetInt w (zv b (val xs)).sign):=by
 by_cases h:val xs = 0
 ·rw [sign_zv_zero h]; exact qsign_zero hx h
 cases b
 ·rw [sign_zv_pos h]; exact qsign_pos hx h
 rw [sign_zv_neg h]; exact qsign_neg hx h
theorem qsign_of {s:Int} {p:Option Addr} {n c:Nat} {b:Bool} {xs:List Nat} {w:World} (hx:Sl w p n c xs) (hs:Hid (s = (zv b (val xs)).sign)) :
  Calls Tryz.prog 45 #[.agg #[.bool b,.slice p n c]] w (RetInt w s):=by
 rw [hs.out]; exact qsign_any hx
set_option maxHeartbeats 1000000 in
theorem qmul_any {p q:Option Addr} {n m c d:Nat} {b b2:Bool} {xs ys:List Nat} {w:World} (hx:Sl w p n c xs) (hy:Sl w q m d ys) (hn:n ≤ 1099511627776) (hm:m ≤ 1099511627776) :
  Calls Tryz.prog 95 #[.agg #[.bool b,.slice p n c],.agg #[.bool b2,.slice q m d]] w (RetZ w (zv b (val xs) * zv b2 (val ys))):=by
 have HE:Hid (zv (!(b == b2)) (val (lim (val xs * val ys))) = zv b (val xs) * zv b2 (val ys)):=by show _ = _; rw [vLm]; exact zv_mul _ _ _ _
 go_enter Tryz.func95,Tryz.ntmps95
 go_wp2_with fail
 obtain ⟨W,hW⟩:∃ W:World,W = (((w.alloc (.cells #[.bool b,.slice p n c] 28)).alloc (.cells #[.bool b2,.slice q m d] 28)).alloc (.cells #[.bool false,.slice none 0 0] 28)):=⟨_,rfl⟩
 rw [← hW]
 have hA00:W.cell? ⟨w.heap.size,0,none⟩ = some (.bool b):=by rw [hW]; exact (cOn (cOn (box_c0 (by simp)) (bAl _ _)) (bAl _ _))
 have hA01:W.cell? ⟨w.heap.size,1,none⟩ = some (.slice p n c):=by rw [hW]; exact (cOn (cOn (box_c1 (by simp)) (bAl _ _)) (bAl _ _))
 have hA10:W.cell? ⟨w.heap.size + 1,0,none⟩ = some (.bool b2):=by rw [hW]; exact (cOn (box_c0 (by simp)) (bAl _ _))
 have hA11:W.cell? ⟨w.heap.size + 1,1,none⟩ = some (.slice q m d):=by rw [hW]; exact (cOn (box_c1 (by simp)) (bAl _ _))
 have hR0:Cel (w.heap.size + 2) W:=by rw [hW]; exact (Cel.ofAlloc (by simp))
 have hB:Box w (w.heap.size + 2) W:=by rw [hW]; exact ⟨by (try simp) <;> omega,((((Below.refl _ _).alloc (Nat.le_refl _) _).alloc (by (try simp) <;> omega) _).alloc (by (try simp) <;> omega) _)⟩
 clear hW
 go_wp2_with fail
 go_region_held3 (fun w' => w'.cell? ⟨w.heap.size,0,none⟩ = some (.bool b) ∧ w'.cell? ⟨w.heap.size,1,none⟩ = some (.slice p n c) ∧ w'.cell? ⟨w.heap.size + 1,0,none⟩ = some (.bool b2) ∧ w'.cell? ⟨w.heap.size + 1,1,none⟩ = some (.slice q m d) ∧ Cel (w.heap.size + 2) w' ∧ Box w (w.heap.size + 2) w')
  (first | exact ⟨by simpa using hA00,by simpa using hA01,by simpa using hA10,by simpa using hA11,hR0.drew,hB.drew⟩ | exact ‹World.cell? _ _ = some _ ∧ World.cell? _ _ = some _ ∧ World.cell? _ _ = some _ ∧ World.cell? _ _ = some _ ∧ Cel _ _ ∧ Box w _ _› | (have hS := ‹World.cell? _ _ = some _ ∧ World.cell? _ _ = some _ ∧ World.cell? _ _ = some _ ∧ World.cell? _ _ = some _ ∧ Cel _ _ ∧ Box w _ _›; exact ⟨cOn hS.1 hb1,cOn hS.2.1 hb1,cOn hS.2.2.1 hb1,cOn hS.2.2.2.1 hb1,hS.2.2.2.2.1.on hb1,hS.2.2.2.2.2.on hb1⟩) | (have hS := ‹World.cell? _ _ = some _ ∧ World.cell? _ _ = some _ ∧ World.cell? _ _ = some _ ∧ World.cell? _ _ = some _ ∧ Cel _ _ ∧ Box w _ _›; exact ⟨cOn hS.1 hb2,cOn hS.2.1 hb2,cOn hS.2.2.1 hb2,cOn hS.2.2.2.1 hb2,hS.2.2.2.2.1.on hb2,hS.2.2.2.2.2.on hb2⟩) | (have hS := ‹World.cell? _ _ = some _ ∧ World.cell? _ _ = some _ ∧ World.cell? _ _ = some _ ∧ World.cell? _ _ = some _ ∧ Cel _ _ ∧ Box w _ _›; exact ⟨cSt (cSt hS.1 (by omega)) (by omega),cSt (cSt hS.2.1 (by omega)) (by omega),cSt (cSt hS.2.2.1 (by omega)) (by omega),cSt (cSt hS.2.2.2.1 (by omega)) (by omega),(hS.2.2.2.2.1.set _ _ _).set _ _ _,(hS.2.2.2.2.2.set (by omega) _ _).set (by omega) _ _⟩))
  (first | (go_at_call 118; have hS := ‹World.cell? _ _ = some _ ∧ World.cell? _ _ = some _ ∧ World.cell? _ _ = some _ ∧ World.cell? _ _ = some _ ∧ Cel _ _ ∧ Box w _ _›; refine (rmul_any (hx.below hS.2.2.2.2.2.below (Nat.le_refl _)) (hy.below hS.2.2.2.2.2.below (Nat.le_refl _)) hn hm).mono ?_; rintro e w1 ⟨p3,n3,c3,rfl,hf3,hb1⟩; have hlt1:=hS.2.2.2.2.2.lt; have hn3:n3 ≤ 17592186044416:=(by have h1:=ll_mul (val xs) (val ys); have h2:=val_ll hx.lims; have h3:=val_ll hy.lims; rw [hx.len] at h2; rw [hy.len] at h3; rw [hf3.sl.lln]; omega); clear hS) | (go_at_call 115; have hS := ‹World.cell? _ _ = some _ ∧ World.cell? _ _ = some _ ∧ World.cell? _ _ = some _ ∧ World.cell? _ _ = some _ ∧ Cel _ _ ∧ Box w _ _›; refine (qnorm_of hf3.sl hn3 HE).mono ?_; rintro e w2 ⟨p4,n4,c4,rfl,hf4,hb2⟩; replace hf3:=hf3.below hb2 (Nat.le_refl _); have hlt2:=hS.2.2.2.2.2.lt; obtain ⟨⟨u0,hu0⟩,⟨u1,hu1⟩,hug0,hug1⟩:=(hS.2.2.2.2.1).on hb2; clear hS))
 obtain ⟨hA00,hA01,hA10,hA11,hR0,hB⟩ := ‹World.cell? _ _ = some _ ∧ World.cell? _ _ = some _ ∧ World.cell? _ _ = some _ ∧ World.cell? _ _ = some _ ∧ Cel _ _ ∧ Box w _ _›
 go_wp2_with fail
 refine bodyPost_ret (v:=.agg #[.bool (ng (zv b (val xs) * zv b2 (val ys))),.slice p4 n4 c4]) (by simp [results,Tryz.results95,go_sem,hu0,hu1]) rfl ?_
 exact retZ_cp hf4 (by omega) (by omega) hB.below
set_option maxHeartbeats 1000000 in
theorem qsame_yes {p q:Option Addr} {n m c d:Nat} {b:Bool} {xs:List Nat} {w:World} (hx:Sl w p n c xs) (hy:Sl w q m d xs) :
  Calls Tryz.prog 23 #[.agg #[.bool b,.slice p n c],.agg #[.bool b,.slice q m d]] w (RetB w true):=by
 go_enter Tryz.func23,Tryz.ntmps23
 go_wp2_with fail
 obtain ⟨W,hW⟩:∃ W:World,W = ((w.alloc (.cells #[.bool b,.slice p n c] 28)).alloc (.cells #[.bool b,.slice q m d] 28)):=⟨_,rfl⟩
 rw [← hW]
 have hA00:W.cell? ⟨w.heap.size,0,none⟩ = some (.bool b):=by rw [hW]; exact (cOn (box_c0 (by simp)) (bAl _ _))
 have hA01:W.cell? ⟨w.heap.size,1,none⟩ = some (.slice p n c):=by rw [hW]; exact (cOn (box_c1 (by simp)) (bAl _ _))
 have hA10:W.cell? ⟨w.heap.size + 1,0,none⟩ = some (.bool b):=by rw [hW]; exact (box_c0 (by simp))
 have hA11:W.cell? ⟨w.heap.size + 1,1,none⟩ = some (.slice q m d):=by rw [hW]; exact (box_c1 (by simp))
 have hB:Box w (w.heap.size + 1) W:=by rw [hW]; exact ⟨by (try simp) <;> omega,(((Below.refl _ _).alloc (Nat.le_refl _) _).alloc (by (try simp) <;> omega) _)⟩
 clear hW
 go_wp2_with fail
 refine (same_yes (hx.below hB.below (Nat.le_refl _)) (hy.below hB.below (Nat.le_refl _))).mono ?_
 rintro e w1 ⟨rfl,hb1⟩
 replace hA00:=cOn hA00 hb1
 replace hA01:=cOn hA01 hb1
 replace hA10:=cOn hA10 hb1
 replace hA11:=cOn hA11 hb1
 replace hB:=hB.on hb1
 clear hb1
 go_wp2_with fail
 go_ret
 exact ⟨rfl,hB.below⟩
theorem rof_any {N:Nat} {X:Int} {w:World} (hX:X = (N:Int)) (hN:N < 18446744073709551616) :
  Calls Tryz.prog 31 #[.int .u64 X] w (RetN w (lim N)):=by
 subst hX
 have hv:val [N % 4294967296,N / 4294967296] = N:=by rw [val_pair]; omega
 have hl:Lims [N % 4294967296,N / 4294967296]:=lims_pair (by omega) (by omega)
 have HV:=Lib.hid hv
 clear hv
 go_enter Tryz.func31,Tryz.ntmps31
 go_wp2_with fail
 have h1:Sl (w.alloc (.cells ([N % 4294967296,N / 4294967296].map fun x:Nat => Value.int .u32 (x:Int)).toArray 63)) (some ⟨w.heap.size,0,none⟩) 2 2 [N % 4294967296,N / 4294967296]:=Sl.lit w _ hl
 have e1:((N % 4294967296:Nat):Int) = (N:Int) % 4294967296:=by omega
 have e2:((N / 4294967296:Nat):Int) = (N:Int) / 4294967296:=by omega
 simp only [List.map_cons,List.map_nil,e1,e2] at h1
 clear e1 e2
 refine (rnorm_any h1 (by omega)).mono ?_
 rw [HV.out]
 rintro e w1 ⟨p1,n1,c1,rfl,hf1,hb1⟩
 clear h1
 go_wp2_with fail
 go_ret
 exact ⟨_,_,_,rfl,hf1.mono (by simp),(bAl _ _).trans (hb1.mono (by simp))⟩
set_option maxHeartbeats 1000000 in
theorem qof_neg {z:Int} {w:World} (h1 : -9223372036854775808 ≤ z) (h2:z < 0) :
  Calls Tryz.prog 7 #[.int .i64 z] w (RetZ w z):=by
 have hz:decide (0 ≤ z) = false:=by simp; omega
 go_enter Tryz.func7,Tryz.ntmps7
 go_wp2_with fail
 obtain ⟨W,hW⟩:∃ W:World,W = (w.alloc (.cells #[.bool false,.slice none 0 0] 28)):=⟨_,rfl⟩
 rw [← hW]
 have hR0:Cel (w.heap.size) W:=by rw [hW]; exact (Cel.ofAlloc (by simp))
 have hB:Box w (w.heap.size) W:=by rw [hW]; exact ⟨by (try simp) <;> omega,((Below.refl _ _).alloc (Nat.le_refl _) _)⟩
 clear hW
 go_wp2_with fail
 refine (rof_any (N:=z.natAbs) (by omega) (by omega)).mono ?_
 rintro e w1 ⟨p4,n4,c4,rfl,hf4,hb1⟩
 have hlt1:=hB.lt
 replace hR0:=hR0.on hb1
 replace hB:=hB.on hb1
 clear hb1
 obtain ⟨⟨u0,hu0⟩,⟨u1,hu1⟩,hug0,hug1⟩:=hR0
 have hnb:(true && decide (0 < n4)) = true:=by
  rw [mk_ng hf4.sl.lln,ng_zv]; simp; omega
 have HNB:=Lib.hid hnb
 clear hnb
 go_wp2_with fail
 refine bodyPost_ret (v:=.agg #[.bool true,.slice p4 n4 c4]) (by simp [results,Tryz.results7,go_sem,hu0,hu1]) rfl ?_
 rw [show Ending.returned (.agg #[.bool true,.slice p4 n4 c4]) = Ending.returned (.agg #[.bool (true && decide (0 < n4)),.slice p4 n4 c4]) by rw [HNB.out]]
 exact retZ_box (b:=true) hf4 (by omega) (by omega) ((hB.set (by omega) _ _).set (by omega) _ _).below (by rw [zv_true]; omega)
set_option maxHeartbeats 1000000 in
theorem qof_pos {z:Int} {w:World} (h1:0 ≤ z) (h2:z ≤ 9223372036854775807) :
  Calls Tryz.prog 7 #[.int .i64 z] w (RetZ w z):=by
 go_enter Tryz.func7,Tryz.ntmps7
 go_wp2_with fail
 obtain ⟨W,hW⟩:∃ W:World,W = (w.alloc (.cells #[.bool false,.slice none 0 0] 28)):=⟨_,rfl⟩
 rw [← hW]
 have hR0:Cel (w.heap.size) W:=by rw [hW]; exact (Cel.ofAlloc (by simp))
 have hB:Box w (w.heap.size) W:=by rw [hW]; exact ⟨by (try simp) <;> omega,((Below.refl _ _).alloc (Nat.le_refl _) _)⟩
 clear hW
 go_wp2_with fail
 refine (rof_any (N:=z.natAbs) (by omega) (by omega)).mono ?_
 rintro e w1 ⟨p4,n4,c4,rfl,hf4,hb1⟩
 have hlt1:=hB.lt
 replace hR0:=hR0.on hb1
 replace hB:=hB.on hb1
 clear hb1
 obtain ⟨⟨u0,hu0⟩,⟨u1,hu1⟩,hug0,hug1⟩:=hR0
 go_wp2_with fail
 refine bodyPost_ret (v:=.agg #[.bool false,.slice p4 n4 c4]) (by simp [results,Tryz.results7,go_sem,hu0,hu1]) rfl ?_
 exact retZ_box (b:=false) hf4 (by omega) (by omega) ((hB.set (by omega) _ _).set (by omega) _ _).below (by rw [zv_false]; omega)
theorem qof_any {z:Int} {w:World} (h1 : -9223372036854775808 ≤ z) (h2:z ≤ 9223372036854775807) :
  Calls Tryz.prog 7 #[.int .i64 z] w (RetZ w z):=by
 rcases Int.lt_or_le z 0 with h | h
 ·exact qof_neg h1 h
 exact qof_pos h h2
def RetCopy (w:World) (b:Bool) (n:Nat) (xs:List Nat) (e:Ending) (w':World):Prop :=
  ∃ p c,e = .returned (.agg #[.bool b,.slice p n c]) ∧ Fr w.heap.size w' p n c xs ∧ Below w.heap.size w w'
set_option maxHeartbeats 1000000 in
theorem qcopy_any {p:Option Addr} {n c:Nat} {b:Bool} {xs:List Nat} {w:World} (hx:Sl w p n c xs) (hn:n ≤ 17592186044416) :
  Calls Tryz.prog 55 #[.agg #[.bool b,.slice p n c]] w (RetCopy w b n xs):=by
 go_enter Tryz.func55,Tryz.ntmps55
 go_wp2_with fail
 obtain ⟨W,hW⟩:∃ W:World,W = ((w.alloc (.cells #[.bool b,.slice p n c] 28)).alloc (.cells #[.bool false,.slice none 0 0] 28)):=⟨_,rfl⟩
 rw [← hW]
 have hA00:W.cell? ⟨w.heap.size,0,none⟩ = some (.bool b):=by rw [hW]; exact (cOn (box_c0 (by simp)) (bAl _ _))
 have hA01:W.cell? ⟨w.heap.size,1,none⟩ = some (.slice p n c):=by rw [hW]; exact (cOn (box_c1 (by simp)) (bAl _ _))
 have hR0:Cel (w.heap.size + 1) W:=by rw [hW]; exact (Cel.ofAlloc (by simp))
 have hB:Box w (w.heap.size + 1) W:=by rw [hW]; exact ⟨by (try simp) <;> omega,(((Below.refl _ _).alloc (Nat.le_refl _) _).alloc (by (try simp) <;> omega) _)⟩
 clear hW
 have hlt:=hB.lt
 go_wp2_with fail
 go_region_held3 (fun w' => w'.cell? ⟨w.heap.size,0,none⟩ = some (.bool b) ∧ w'.cell? ⟨w.heap.size,1,none⟩ = some (.slice p n c) ∧ Cel (w.heap.size + 1) w' ∧ Box w (w.heap.size + 1) w')
  (first | exact ⟨by simpa using hA00,by simpa using hA01,hR0.drew,hB.drew⟩ | (have hS := ‹World.cell? _ _ = some _ ∧ World.cell? _ _ = some _ ∧ Cel _ _ ∧ Box w _ _›; exact ⟨cell_onB hS.1 hb5 (by omega),cell_onB hS.2.1 hb5 (by omega),hS.2.2.1.onB hb5 (by omega),hS.2.2.2.onB hb5 (by omega)⟩) | (have hS := ‹World.cell? _ _ = some _ ∧ World.cell? _ _ = some _ ∧ Cel _ _ ∧ Box w _ _›; exact ⟨cOn hS.1 (bAl _ _),cOn hS.2.1 (bAl _ _),hS.2.2.1.on (bAl _ _),hS.2.2.2.on (bAl _ _)⟩) | (have hS := ‹World.cell? _ _ = some _ ∧ World.cell? _ _ = some _ ∧ Cel _ _ ∧ Box w _ _›; exact ⟨cSt (cSt hS.1 (by omega)) (by omega),cSt (cSt hS.2.1 (by omega)) (by omega),(hS.2.2.1.set _ _ _).set _ _ _,(hS.2.2.2.set (by omega) _ _).set (by omega) _ _⟩))
  (first | (have hS := ‹World.cell? _ _ = some _ ∧ World.cell? _ _ = some _ ∧ Cel _ _ ∧ Box w _ _›; refine step_appendAny rfl _ _ _ rfl Tryz.underlying26 W.heap.size _ 0 0 [] rfl (Fr.lit W.drew [] lims_nil (by simp)) _ n c xs rfl (hx.below hS.2.2.2.below (Nat.le_refl _)) (by omega) (Below.refl _ _) (Nat.le_refl _) (by simp) ?_; intro p5 c5 w5 hf5 hg5 hb5; obtain ⟨⟨u0,hu0⟩,⟨u1,hu1⟩,hug0,hug1⟩:=hS.2.2.1.onB hb5 (by omega); clear hS))
 obtain ⟨hA00,hA01,hR0,hB⟩ := ‹World.cell? _ _ = some _ ∧ World.cell? _ _ = some _ ∧ Cel _ _ ∧ Box w _ _›
 rw [Nat.zero_add,List.nil_append] at hf5
 go_wp2_with fail
 refine bodyPost_ret (v:=.agg #[.bool b,.slice p5 n c5]) (by simp [results,Tryz.results55,go_sem,hu0,hu1]) rfl ?_
 exact ⟨_,_,rfl,hf5.setBox (by omega) (by omega),hB.below⟩
open Go.RowKit
def BoxAB1 (w:World) (A B:Int) (wc:World):Prop :=
 ∃ p n c q m d B1,wc.cell? ⟨w.heap.size,0,none⟩ = some (.bool (ng A)) ∧ wc.cell? ⟨w.heap.size,1,none⟩ = some (.slice p n c) ∧ wc.cell? ⟨w.heap.size + 1,0,none⟩ = some (.bool (ng B)) ∧ wc.cell? ⟨w.heap.size + 1,1,none⟩ = some (.slice q m d) ∧
  Cel w.heap.size wc ∧ Cel (w.heap.size + 1) wc ∧ Cel (w.heap.size + 2) wc ∧ Fr B1 wc p n c (lim A.natAbs) ∧ Fr B1 wc q m d (lim B.natAbs) ∧ w.heap.size + 2 < B1 ∧ Box w (w.heap.size + 2) wc
set_option maxHeartbeats 8000000 in
theorem qadd_any {p q:Option Addr} {n m c d:Nat} {b b2:Bool} {xs ys:List Nat} {w:World} (hx:Sl w p n c xs) (hy:Sl w q m d ys) (hn:n ≤ 2199023255552) (hm:m ≤ 2199023255552) :
  Calls Tryz.prog 92 #[.agg #[.bool b,.slice p n c],.agg #[.bool b2,.slice q m d]] w (RetZ w (zv b (val xs) + zv b2 (val ys))):=by
 have hla:ll (zv b (val xs)).natAbs ≤ 2199023255552:=by rw [natAbs_zv]; have:=val_ll hx.lims; rw [hx.len] at this; omega
 have hlb:ll (zv b2 (val ys)).natAbs ≤ 2199023255552:=by rw [natAbs_zv]; have:=val_ll hy.lims; rw [hy.len] at this; omega
 generalize hA:zv b (val xs) = A at *
 generalize hB0:zv b2 (val ys) = B at *
 have HA2:=Lib.hid hA
 have HB2:=Lib.hid hB0
 have HLA:=Lib.hid hla
 have HLB:=Lib.hid hlb
 clear hA hB0 hla hlb
 go_enter Tryz.func92,Tryz.ntmps92
 go_wp2_with fail
 obtain ⟨W,hW⟩:∃ W:World,W = (((w.alloc (.cells #[.bool b,.slice p n c] 28)).alloc (.cells #[.bool b2,.slice q m d] 28)).alloc (.cells #[.bool false,.slice none 0 0] 28)):=⟨_,rfl⟩
 rw [← hW]
 have hA00:W.cell? ⟨w.heap.size,0,none⟩ = some (.bool b):=by rw [hW]; exact (cOn (cOn (box_c0 (by simp)) (bAl _ _)) (bAl _ _))
 have hA01:W.cell? ⟨w.heap.size,1,none⟩ = some (.slice p n c):=by rw [hW]; exact (cOn (cOn (box_c1 (by simp)) (bAl _ _)) (bAl _ _))
 have hA10:W.cell? ⟨w.heap.size + 1,0,none⟩ = some (.bool b2):=by rw [hW]; exact (cOn (box_c0 (by simp)) (bAl _ _))
 have hA11:W.cell? ⟨w.heap.size + 1,1,none⟩ = some (.slice q m d):=by rw [hW]; exact (cOn (box_c1 (by simp)) (bAl _ _))
 have hF00:W.frozen? ⟨w.heap.size,0,none⟩ = false:=by rw [hW]; exact (((Cel.ofAlloc (by simp)).on (bAl _ _)).on (bAl _ _)).f0
 have hF01:W.frozen? ⟨w.heap.size,1,none⟩ = false:=by rw [hW]; exact (((Cel.ofAlloc (by simp)).on (bAl _ _)).on (bAl _ _)).f1
 have hF10:W.frozen? ⟨w.heap.size + 1,0,none⟩ = false:=by rw [hW]; exact ((Cel.ofAlloc (by simp)).on (bAl _ _)).f0
 have hF11:W.frozen? ⟨w.heap.size + 1,1,none⟩ = false:=by rw [hW]; exact ((Cel.ofAlloc (by simp)).on (bAl _ _)).f1
 have hR0:Cel (w.heap.size + 2) W:=by rw [hW]; exact (Cel.ofAlloc (by simp))
 have hB:Box w (w.heap.size + 2) W:=by rw [hW]; exact ⟨by (try simp) <;> omega,((((Below.refl _ _).alloc (Nat.le_refl _) _).alloc (by (try simp) <;> omega) _).alloc (by (try simp) <;> omega) _)⟩
 clear hW
 have P0:Cel w.heap.size W:=⟨⟨_,hA00⟩,⟨_,hA01⟩,hF00,hF01⟩
 have P1:Cel (w.heap.size + 1) W:=⟨⟨_,hA10⟩,⟨_,hA11⟩,hF10,hF11⟩
 go_upto_region 1 with (fail)
 go_cut [] (fun wc => BoxAB1 w A B wc)
 case first =>
  go_region_with (first
   | (go_at_call 115; (with_reducible refine (qnorm_of (z:=A) (hx.below hB.below.drew (Nat.le_refl _)) (by omega) HA2).mono ?_); rintro e w3 ⟨p3,n3,c3,rfl,hf3,hb3⟩; have kA10:=cOn (W:=W.drew) (by simpa using hA10) hb3; have kA11:=cOn (W:=W.drew) (by simpa using hA11) hb3)
   | (go_at_call 115; (with_reducible refine (qnorm_of (z:=B) (hy.below (hB.drew.on hb3).below (Nat.le_refl _)) (by omega) HB2).mono ?_); rintro e w4 ⟨p4,n4,c4,rfl,hf4,hb4⟩; obtain ⟨⟨r0,hr0⟩,⟨r1,hr1⟩,hg0,hg1⟩:=(P0.drew.on hb3).on hb4; obtain ⟨⟨r2,hr2⟩,⟨r3,hr3⟩,hg2,hg3⟩:=(P1.drew.on hb3).on hb4))
  all_goals
   have hl3:=hb3.size
   have hl1:=hB.drew.lt
   have hl5:W.drew.heap.size = W.heap.size:=by simp
   have hlt:=hB.lt
   have hlt3:=Nat.lt_of_lt_of_le hl1 hl3
   clear hl5
   go_wp2_with fail
   go_meet
   case rel => exact ⟨p3,n3,c3,p4,n4,c4,W.heap.size,cSt (cSt (cell_idx (cell_same hr0) (by decide)) (by omega)) (by omega),cSt (cSt (cell_same (cell_idx hr1 (by decide))) (by omega)) (by omega),cell_idx (cell_same (cSt (cSt hr2 (by omega)) (by omega))) (by decide),cell_same (cell_idx (cSt (cSt hr3 (by omega)) (by omega)) (by decide)),(((((P0.drew.on hb3).on hb4).set _ _ _).set _ _ _).set _ _ _).set _ _ _,(((((P1.drew.on hb3).on hb4).set _ _ _).set _ _ _).set _ _ _).set _ _ _,(((((hR0.drew.on hb3).on hb4).set _ _ _).set _ _ _).set _ _ _).set _ _ _,((((((hf3.below hb4 (Nat.le_refl _)).setLow (by omega) _ _).setLow (by omega) _ _).setLow (by omega) _ _).setLow (by omega) _ _).mono (by simp)),((((hf4.setLow (by omega) _ _).setLow (by omega) _ _).setLow (by omega) _ _).setLow (by omega) _ _).mono (by have h9:=hb3.size; simp at h9; omega),hlt,(((((hB.drew.on hb3).on hb4).set (by omega) _ _).set (by omega) _ _).set (by omega) _ _).set (by omega) _ _⟩
 case rest =>
  clear hA00 hA01 hA10 hA11 hF00 hF01 hF10 hF11 hR0 hB P0 P1
  obtain ⟨p5,n5,c5,p6,n6,c6,B1,hA00,hA01,hA10,hA11,hP0,hP1,hR0,hf5,hf6,hB1,hB⟩:=hcut
  have hn5:n5 ≤ 2199023255552:=z_len hf5 HLA.out
  have hn6:n6 ≤ 2199023255552:=z_len hf6 HLB.out
  obtain ⟨fa,hfa⟩:∃ f,f = ng A:=⟨_,rfl⟩
  obtain ⟨fb,hfb⟩:∃ f,f = ng B:=⟨_,rfl⟩
  rw [← hfa] at hA00
  rw [← hfb] at hA10
  have HFA:=Lib.hid hfa
  have HFB:=Lib.hid hfb
  clear hfa hfb
  by_cases hs:fa = fb
  ·subst hs
   have HS:Hid (zv fa (val (lim (A.natAbs + B.natAbs))) = A + B):=by
    show _ = _
    rw [vLm,zv_add_same]
    congr 1
    ·rw [HFA.out,zv_ng]
    rw [HFB.out,zv_ng]
   go_upto_region 3 with (fail)
   go_wp2_with fail
   go_region_held3 (fun w' => w'.cell? ⟨w.heap.size,0,none⟩ = some (.bool fa) ∧ w'.cell? ⟨w.heap.size,1,none⟩ = some (.slice p5 n5 c5) ∧ w'.cell? ⟨w.heap.size + 1,0,none⟩ = some (.bool fa) ∧ w'.cell? ⟨w.heap.size + 1,1,none⟩ = some (.slice p6 n6 c6) ∧ Cel (w.heap.size + 2) w' ∧ Fr B1 w' p5 n5 c5 (lim A.natAbs) ∧ Fr B1 w' p6 n6 c6 (lim B.natAbs) ∧ Box w (w.heap.size + 2) w')
    (first | exact ⟨by simpa using hA00,by simpa using hA01,by simpa using hA10,by simpa using hA11,hR0.drew,hf5.below (Below.refl _ _).drew (Nat.le_refl _),hf6.below (Below.refl _ _).drew (Nat.le_refl _),hB.drew⟩ | exact ‹World.cell? _ _ = some _ ∧ World.cell? _ _ = some _ ∧ World.cell? _ _ = some _ ∧ World.cell? _ _ = some _ ∧ Cel _ _ ∧ Fr _ _ _ _ _ _ ∧ Fr _ _ _ _ _ _ ∧ Box w _ _› | (have hS := ‹World.cell? _ _ = some _ ∧ World.cell? _ _ = some _ ∧ World.cell? _ _ = some _ ∧ World.cell? _ _ = some _ ∧ Cel _ _ ∧ Fr _ _ _ _ _ _ ∧ Fr _ _ _ _ _ _ ∧ Box w _ _›; exact ⟨cOn hS.1 hb11,cOn hS.2.1 hb11,cOn hS.2.2.1 hb11,cOn hS.2.2.2.1 hb11,hS.2.2.2.2.1.on hb11,hS.2.2.2.2.2.1.below hb11 (Nat.le_refl _),hS.2.2.2.2.2.2.1.below hb11 (Nat.le_refl _),hS.2.2.2.2.2.2.2.on hb11⟩) | (have hS := ‹World.cell? _ _ = some _ ∧ World.cell? _ _ = some _ ∧ World.cell? _ _ = some _ ∧ World.cell? _ _ = some _ ∧ Cel _ _ ∧ Fr _ _ _ _ _ _ ∧ Fr _ _ _ _ _ _ ∧ Box w _ _›; exact ⟨cOn hS.1 hb12,cOn hS.2.1 hb12,cOn hS.2.2.1 hb12,cOn hS.2.2.2.1 hb12,hS.2.2.2.2.1.on hb12,hS.2.2.2.2.2.1.below hb12 (Nat.le_refl _),hS.2.2.2.2.2.2.1.below hb12 (Nat.le_refl _),hS.2.2.2.2.2.2.2.on hb12⟩) | (have hS := ‹World.cell? _ _ = some _ ∧ World.cell? _ _ = some _ ∧ World.cell? _ _ = some _ ∧ World.cell? _ _ = some _ ∧ Cel _ _ ∧ Fr _ _ _ _ _ _ ∧ Fr _ _ _ _ _ _ ∧ Box w _ _›; exact ⟨cSt (cSt hS.1 (by omega)) (by omega),cSt (cSt hS.2.1 (by omega)) (by omega),cSt (cSt hS.2.2.1 (by omega)) (by omega),cSt (cSt hS.2.2.2.1 (by omega)) (by omega),(hS.2.2.2.2.1.set _ _ _).set _ _ _,(hS.2.2.2.2.2.1.setLow (by omega) _ _).setLow (by omega) _ _,(hS.2.2.2.2.2.2.1.setLow (by omega) _ _).setLow (by omega) _ _,(hS.2.2.2.2.2.2.2.set (by omega) _ _).set (by omega) _ _⟩))
    (first | (go_at_call 116; have hS := ‹World.cell? _ _ = some _ ∧ World.cell? _ _ = some _ ∧ World.cell? _ _ = some _ ∧ World.cell? _ _ = some _ ∧ Cel _ _ ∧ Fr _ _ _ _ _ _ ∧ Fr _ _ _ _ _ _ ∧ Box w _ _›; refine (radd_any hS.2.2.2.2.2.1.sl hS.2.2.2.2.2.2.1.sl (by omega) (by omega)).mono ?_; rintro e w11 ⟨p7,n7,c7,rfl,hf7,hb11⟩; have hlt11:=hS.2.2.2.2.2.2.2.lt; rw [vLm,vLm] at hf7; have hn7:n7 ≤ 17592186044416:=(by have h1:=ll_add HLA.out HLB.out; rw [hf7.sl.lln]; omega); clear hS) | (go_at_call 115; have hS := ‹World.cell? _ _ = some _ ∧ World.cell? _ _ = some _ ∧ World.cell? _ _ = some _ ∧ World.cell? _ _ = some _ ∧ Cel _ _ ∧ Fr _ _ _ _ _ _ ∧ Fr _ _ _ _ _ _ ∧ Box w _ _›; refine (qnorm_of (z:=A + B) hf7.sl hn7 HS).mono ?_; rintro e w12 ⟨p4,n4,c4,rfl,hf4,hb12⟩; replace hf7:=hf7.below hb12 (Nat.le_refl _); have hlt12:=hS.2.2.2.2.2.2.2.lt; obtain ⟨⟨u0,hu0⟩,⟨u1,hu1⟩,hug0,hug1⟩:=(hS.2.2.2.2.1).on hb12; clear hS))
   obtain ⟨hA00,hA01,hA10,hA11,hR0,hf5,hf6,hB⟩ := ‹World.cell? _ _ = some _ ∧ World.cell? _ _ = some _ ∧ World.cell? _ _ = some _ ∧ World.cell? _ _ = some _ ∧ Cel _ _ ∧ Fr _ _ _ _ _ _ ∧ Fr _ _ _ _ _ _ ∧ Box w _ _›
   go_wp2_with fail
   refine bodyPost_ret (v:=.agg #[.bool (ng (A + B)),.slice p4 n4 c4]) (by simp [results,Tryz.results92,go_sem,hu0,hu1]) rfl ?_
   exact retZ_cp hf4 (by omega) (by omega) hB.below
  have hs2:(fa == fb) = false:=by simpa using hs
  have HS:=Lib.hid hs
  clear hs
  rcases Nat.lt_or_ge A.natAbs B.natAbs with hAB | hAB
  ·have HC:=Lib.hid hAB
   clear hAB
   obtain ⟨cc,hcc,hcc0⟩:∃ cc:Int,cmpN A.natAbs B.natAbs = cc ∧ cc < 0:=⟨_,rfl,cmpN_below HC.out⟩
   have HCC:=Lib.hid hcc
   have hz8:decide (cc < (0:Int)) = true:=by simp; omega
   clear hcc
   go_wp2_with fail
   refine (rcmp_any hf5.sl hf6.sl).mono ?_
   rw [vLm,vLm,HCC.out]
   rintro e w11 ⟨rfl,rfl⟩
   obtain ⟨_,_,hF00,hF01⟩:=id hP0
   obtain ⟨_,_,hF10,hF11⟩:=id hP1
   go_wp2_with fail
   obtain ⟨W2,hW⟩:∃ W2:World,W2 = ((((wc.setCell ⟨w.heap.size,0,none⟩ (.bool fb)).setCell ⟨w.heap.size,1,none⟩ (.slice p6 n6 c6)).setCell ⟨w.heap.size + 1,0,none⟩ (.bool fa)).setCell ⟨w.heap.size + 1,1,none⟩ (.slice p5 n5 c5)):=⟨_,rfl⟩
   rw [← hW]
   have qhA00:W2.cell? ⟨w.heap.size,0,none⟩ = some (.bool fb):=by rw [hW]; exact cSt (cSt (cell_idx (cell_same hA00) (by decide)) (by omega)) (by omega)
   have qhA01:W2.cell? ⟨w.heap.size,1,none⟩ = some (.slice p6 n6 c6):=by rw [hW]; exact cSt (cSt (cell_same (cell_idx hA01 (by decide))) (by omega)) (by omega)
   have qhA10:W2.cell? ⟨w.heap.size + 1,0,none⟩ = some (.bool fa):=by rw [hW]; exact cell_idx (cell_same (cSt (cSt hA10 (by omega)) (by omega))) (by decide)
   have qhA11:W2.cell? ⟨w.heap.size + 1,1,none⟩ = some (.slice p5 n5 c5):=by rw [hW]; exact cell_same (cell_idx (cSt (cSt hA11 (by omega)) (by omega)) (by decide))
   have qhR0:Cel (w.heap.size + 2) W2:=by rw [hW]; exact (((hR0.set _ _ _).set _ _ _).set _ _ _).set _ _ _
   have qhB:Box w (w.heap.size + 2) W2:=by rw [hW]; exact (((hB.set (by omega) _ _).set (by omega) _ _).set (by omega) _ _).set (by omega) _ _
   have HW2:=Lib.hid hW
   clear hW hA00 hA01 hA10 hA11 hR0 hB
   have hA00:=qhA00
   have hA01:=qhA01
   have hA10:=qhA10
   have hA11:=qhA11
   have hR0:=qhR0
   have hB:=qhB
   clear qhA00 qhA01 qhA10 qhA11 qhR0 qhB
   have qf5:Fr B1 W2 p5 n5 c5 (lim A.natAbs):=by rw [HW2.out]; exact (((((hf5).setLow (by omega) _ _).setLow (by omega) _ _).setLow (by omega) _ _).setLow (by omega) _ _)
   have qf6:Fr B1 W2 p6 n6 c6 (lim B.natAbs):=by rw [HW2.out]; exact (((((hf6).setLow (by omega) _ _).setLow (by omega) _ _).setLow (by omega) _ _).setLow (by omega) _ _)
   clear hf5 hf6
   have hf5:=qf5
   have hf6:=qf6
   clear qf5 qf6
   have HE:Hid (zv fb (val (lim (B.natAbs - A.natAbs))) = A + B):=by
    show _ = _
    rw [vLm,zv_add_lt HS.out (Nat.le_of_lt HC.out)]
    congr 1
    ·rw [HFA.out,zv_ng]
    rw [HFB.out,zv_ng]
   go_upto_region 6 with (fail)
   go_wp2_with fail
   go_region_held3 (fun w' => w'.cell? ⟨w.heap.size,0,none⟩ = some (.bool fb) ∧ w'.cell? ⟨w.heap.size,1,none⟩ = some (.slice p6 n6 c6) ∧ w'.cell? ⟨w.heap.size + 1,0,none⟩ = some (.bool fa) ∧ w'.cell? ⟨w.heap.size + 1,1,none⟩ = some (.slice p5 n5 c5) ∧ Cel (w.heap.size + 2) w' ∧ Fr B1 w' p5 n5 c5 (lim A.natAbs) ∧ Fr B1 w' p6 n6 c6 (lim B.natAbs) ∧ Box w (w.heap.size + 2) w')
    (first | exact ⟨by simpa using hA00,by simpa using hA01,by simpa using hA10,by simpa using hA11,hR0.drew,hf5.below (Below.refl _ _).drew (Nat.le_refl _),hf6.below (Below.refl _ _).drew (Nat.le_refl _),hB.drew⟩ | exact ‹World.cell? _ _ = some _ ∧ World.cell? _ _ = some _ ∧ World.cell? _ _ = some _ ∧ World.cell? _ _ = some _ ∧ Cel _ _ ∧ Fr _ _ _ _ _ _ ∧ Fr _ _ _ _ _ _ ∧ Box w _ _› | (have hS := ‹World.cell? _ _ = some _ ∧ World.cell? _ _ = some _ ∧ World.cell? _ _ = some _ ∧ World.cell? _ _ = some _ ∧ Cel _ _ ∧ Fr _ _ _ _ _ _ ∧ Fr _ _ _ _ _ _ ∧ Box w _ _›; exact ⟨cOn hS.1 hb12,cOn hS.2.1 hb12,cOn hS.2.2.1 hb12,cOn hS.2.2.2.1 hb12,hS.2.2.2.2.1.on hb12,hS.2.2.2.2.2.1.below hb12 (Nat.le_refl _),hS.2.2.2.2.2.2.1.below hb12 (Nat.le_refl _),hS.2.2.2.2.2.2.2.on hb12⟩) | (have hS := ‹World.cell? _ _ = some _ ∧ World.cell? _ _ = some _ ∧ World.cell? _ _ = some _ ∧ World.cell? _ _ = some _ ∧ Cel _ _ ∧ Fr _ _ _ _ _ _ ∧ Fr _ _ _ _ _ _ ∧ Box w _ _›; exact ⟨cOn hS.1 hb13,cOn hS.2.1 hb13,cOn hS.2.2.1 hb13,cOn hS.2.2.2.1 hb13,hS.2.2.2.2.1.on hb13,hS.2.2.2.2.2.1.below hb13 (Nat.le_refl _),hS.2.2.2.2.2.2.1.below hb13 (Nat.le_refl _),hS.2.2.2.2.2.2.2.on hb13⟩) | (have hS := ‹World.cell? _ _ = some _ ∧ World.cell? _ _ = some _ ∧ World.cell? _ _ = some _ ∧ World.cell? _ _ = some _ ∧ Cel _ _ ∧ Fr _ _ _ _ _ _ ∧ Fr _ _ _ _ _ _ ∧ Box w _ _›; exact ⟨cSt (cSt hS.1 (by omega)) (by omega),cSt (cSt hS.2.1 (by omega)) (by omega),cSt (cSt hS.2.2.1 (by omega)) (by omega),cSt (cSt hS.2.2.2.1 (by omega)) (by omega),(hS.2.2.2.2.1.set _ _ _).set _ _ _,(hS.2.2.2.2.2.1.setLow (by omega) _ _).setLow (by omega) _ _,(hS.2.2.2.2.2.2.1.setLow (by omega) _ _).setLow (by omega) _ _,(hS.2.2.2.2.2.2.2.set (by omega) _ _).set (by omega) _ _⟩))
    (first | (go_at_call 117; have hS := ‹World.cell? _ _ = some _ ∧ World.cell? _ _ = some _ ∧ World.cell? _ _ = some _ ∧ World.cell? _ _ = some _ ∧ Cel _ _ ∧ Fr _ _ _ _ _ _ ∧ Fr _ _ _ _ _ _ ∧ Box w _ _›; refine (rsub_any hS.2.2.2.2.2.2.1.sl hS.2.2.2.2.2.1.sl (by omega) (by rw [vLm,vLm]; exact Nat.le_of_lt HC.out)).mono ?_; rintro e w12 ⟨p7,n7,c7,rfl,hf7,hb12⟩; have hlt12:=hS.2.2.2.2.2.2.2.lt; rw [vLm,vLm] at hf7; have hn7:n7 ≤ 17592186044416:=(by rw [hf7.sl.lln]; have h1:=ll_mono (Nat.sub_le A.natAbs B.natAbs); have h2:=ll_mono (Nat.sub_le B.natAbs A.natAbs); have h3:=HLA.out; have h4:=HLB.out; omega); clear hS) | (go_at_call 115; have hS := ‹World.cell? _ _ = some _ ∧ World.cell? _ _ = some _ ∧ World.cell? _ _ = some _ ∧ World.cell? _ _ = some _ ∧ Cel _ _ ∧ Fr _ _ _ _ _ _ ∧ Fr _ _ _ _ _ _ ∧ Box w _ _›; refine (qnorm_of (z:=A + B) hf7.sl hn7 HE).mono ?_; rintro e w13 ⟨p4,n4,c4,rfl,hf4,hb13⟩; replace hf7:=hf7.below hb13 (Nat.le_refl _); have hlt13:=hS.2.2.2.2.2.2.2.lt; obtain ⟨⟨u0,hu0⟩,⟨u1,hu1⟩,hug0,hug1⟩:=(hS.2.2.2.2.1).on hb13; clear hS))
   obtain ⟨hA00,hA01,hA10,hA11,hR0,hf5,hf6,hB⟩ := ‹World.cell? _ _ = some _ ∧ World.cell? _ _ = some _ ∧ World.cell? _ _ = some _ ∧ World.cell? _ _ = some _ ∧ Cel _ _ ∧ Fr _ _ _ _ _ _ ∧ Fr _ _ _ _ _ _ ∧ Box w _ _›
   go_wp2_with fail
   refine bodyPost_ret (v:=.agg #[.bool (ng (A + B)),.slice p4 n4 c4]) (by simp [results,Tryz.results92,go_sem,hu0,hu1]) rfl ?_
   exact retZ_cp hf4 (by omega) (by omega) hB.below
  have HC:=Lib.hid hAB
  clear hAB
  obtain ⟨cc,hcc,hcc0⟩:∃ cc:Int,cmpN A.natAbs B.natAbs = cc ∧ 0 ≤ cc:=⟨_,rfl,cmpN_not_below HC.out⟩
  have HCC:=Lib.hid hcc
  have hz8:decide (cc < (0:Int)) = false:=by simp; omega
  clear hcc
  go_wp2_with fail
  refine (rcmp_any hf5.sl hf6.sl).mono ?_
  rw [vLm,vLm,HCC.out]
  rintro e w11 ⟨rfl,rfl⟩
  have HE:Hid (zv fa (val (lim (A.natAbs - B.natAbs))) = A + B):=by
   show _ = _
   rw [vLm,zv_add_le HS.out HC.out]
   congr 1
   ·rw [HFA.out,zv_ng]
   rw [HFB.out,zv_ng]
  go_upto_region 6 with (fail)
  go_wp2_with fail
  go_region_held3 (fun w' => w'.cell? ⟨w.heap.size,0,none⟩ = some (.bool fa) ∧ w'.cell? ⟨w.heap.size,1,none⟩ = some (.slice p5 n5 c5) ∧ w'.cell? ⟨w.heap.size + 1,0,none⟩ = some (.bool fb) ∧ w'.cell? ⟨w.heap.size + 1,1,none⟩ = some (.slice p6 n6 c6) ∧ Cel (w.heap.size + 2) w' ∧ Fr B1 w' p5 n5 c5 (lim A.natAbs) ∧ Fr B1 w' p6 n6 c6 (lim B.natAbs) ∧ Box w (w.heap.size + 2) w')
   (first | exact ⟨by simpa using hA00,by simpa using hA01,by simpa using hA10,by simpa using hA11,hR0.drew,hf5.below (Below.refl _ _).drew (Nat.le_refl _),hf6.below (Below.refl _ _).drew (Nat.le_refl _),hB.drew⟩ | exact ‹World.cell? _ _ = some _ ∧ World.cell? _ _ = some _ ∧ World.cell? _ _ = some _ ∧ World.cell? _ _ = some _ ∧ Cel _ _ ∧ Fr _ _ _ _ _ _ ∧ Fr _ _ _ _ _ _ ∧ Box w _ _› | (have hS := ‹World.cell? _ _ = some _ ∧ World.cell? _ _ = some _ ∧ World.cell? _ _ = some _ ∧ World.cell? _ _ = some _ ∧ Cel _ _ ∧ Fr _ _ _ _ _ _ ∧ Fr _ _ _ _ _ _ ∧ Box w _ _›; exact ⟨cOn hS.1 hb12,cOn hS.2.1 hb12,cOn hS.2.2.1 hb12,cOn hS.2.2.2.1 hb12,hS.2.2.2.2.1.on hb12,hS.2.2.2.2.2.1.below hb12 (Nat.le_refl _),hS.2.2.2.2.2.2.1.below hb12 (Nat.le_refl _),hS.2.2.2.2.2.2.2.on hb12⟩) | (have hS := ‹World.cell? _ _ = some _ ∧ World.cell? _ _ = some _ ∧ World.cell? _ _ = some _ ∧ World.cell? _ _ = some _ ∧ Cel _ _ ∧ Fr _ _ _ _ _ _ ∧ Fr _ _ _ _ _ _ ∧ Box w _ _›; exact ⟨cOn hS.1 hb13,cOn hS.2.1 hb13,cOn hS.2.2.1 hb13,cOn hS.2.2.2.1 hb13,hS.2.2.2.2.1.on hb13,hS.2.2.2.2.2.1.below hb13 (Nat.le_refl _),hS.2.2.2.2.2.2.1.below hb13 (Nat.le_refl _),hS.2.2.2.2.2.2.2.on hb13⟩) | (have hS := ‹World.cell? _ _ = some _ ∧ World.cell? _ _ = some _ ∧ World.cell? _ _ = some _ ∧ World.cell? _ _ = some _ ∧ Cel _ _ ∧ Fr _ _ _ _ _ _ ∧ Fr _ _ _ _ _ _ ∧ Box w _ _›; exact ⟨cSt (cSt hS.1 (by omega)) (by omega),cSt (cSt hS.2.1 (by omega)) (by omega),cSt (cSt hS.2.2.1 (by omega)) (by omega),cSt (cSt hS.2.2.2.1 (by omega)) (by omega),(hS.2.2.2.2.1.set _ _ _).set _ _ _,(hS.2.2.2.2.2.1.setLow (by omega) _ _).setLow (by omega) _ _,(hS.2.2.2.2.2.2.1.setLow (by omega) _ _).setLow (by omega) _ _,(hS.2.2.2.2.2.2.2.set (by omega) _ _).set (by omega) _ _⟩))
   (first | (go_at_call 117; have hS := ‹World.cell? _ _ = some _ ∧ World.cell? _ _ = some _ ∧ World.cell? _ _ = some _ ∧ World.cell? _ _ = some _ ∧ Cel _ _ ∧ Fr _ _ _ _ _ _ ∧ Fr _ _ _ _ _ _ ∧ Box w _ _›; refine (rsub_any hS.2.2.2.2.2.1.sl hS.2.2.2.2.2.2.1.sl (by omega) (by rw [vLm,vLm]; exact HC.out)).mono ?_; rintro e w12 ⟨p7,n7,c7,rfl,hf7,hb12⟩; have hlt12:=hS.2.2.2.2.2.2.2.lt; rw [vLm,vLm] at hf7; have hn7:n7 ≤ 17592186044416:=(by rw [hf7.sl.lln]; have h1:=ll_mono (Nat.sub_le A.natAbs B.natAbs); have h2:=ll_mono (Nat.sub_le B.natAbs A.natAbs); have h3:=HLA.out; have h4:=HLB.out; omega); clear hS) | (go_at_call 115; have hS := ‹World.cell? _ _ = some _ ∧ World.cell? _ _ = some _ ∧ World.cell? _ _ = some _ ∧ World.cell? _ _ = some _ ∧ Cel _ _ ∧ Fr _ _ _ _ _ _ ∧ Fr _ _ _ _ _ _ ∧ Box w _ _›; refine (qnorm_of (z:=A + B) hf7.sl hn7 HE).mono ?_; rintro e w13 ⟨p4,n4,c4,rfl,hf4,hb13⟩; replace hf7:=hf7.below hb13 (Nat.le_refl _); have hlt13:=hS.2.2.2.2.2.2.2.lt; obtain ⟨⟨u0,hu0⟩,⟨u1,hu1⟩,hug0,hug1⟩:=(hS.2.2.2.2.1).on hb13; clear hS))
  obtain ⟨hA00,hA01,hA10,hA11,hR0,hf5,hf6,hB⟩ := ‹World.cell? _ _ = some _ ∧ World.cell? _ _ = some _ ∧ World.cell? _ _ = some _ ∧ World.cell? _ _ = some _ ∧ Cel _ _ ∧ Fr _ _ _ _ _ _ ∧ Fr _ _ _ _ _ _ ∧ Box w _ _›
  go_wp2_with fail
  refine bodyPost_ret (v:=.agg #[.bool (ng (A + B)),.slice p4 n4 c4]) (by simp [results,Tryz.results92,go_sem,hu0,hu1]) rfl ?_
  exact retZ_cp hf4 (by omega) (by omega) hB.below
open Go.RowKit
theorem qadd_of {z:Int} {p q:Option Addr} {n m c d:Nat} {b b2:Bool} {xs ys:List Nat} {w:World} (hx:Sl w p n c xs) (hy:Sl w q m d ys) (hn:n ≤ 2199023255552) (hm:m ≤ 2199023255552) (hz:Hid (zv b (val xs) + zv b2 (val ys) = z)) :
  Calls Tryz.prog 92 #[.agg #[.bool b,.slice p n c],.agg #[.bool b2,.slice q m d]] w (RetZ w z):=by
 rw [← hz.out]; exact qadd_any hx hy hn hm
theorem qmul_of {z:Int} {p q:Option Addr} {n m c d:Nat} {b b2:Bool} {xs ys:List Nat} {w:World} (hx:Sl w p n c xs) (hy:Sl w q m d ys) (hn:n ≤ 1099511627776) (hm:m ≤ 1099511627776) (hz:Hid (zv b (val xs) * zv b2 (val ys) = z)) :
  Calls Tryz.prog 95 #[.agg #[.bool b,.slice p n c],.agg #[.bool b2,.slice q m d]] w (RetZ w z):=by
 rw [← hz.out]; exact qmul_any hx hy hn hm
set_option maxHeartbeats 1000000 in
theorem qsub_any {p q:Option Addr} {n m c d:Nat} {b b2:Bool} {xs ys:List Nat} {w:World} (hx:Sl w p n c xs) (hy:Sl w q m d ys) (hn:n ≤ 2199023255552) (hm:m ≤ 2199023255552) :
  Calls Tryz.prog 46 #[.agg #[.bool b,.slice p n c],.agg #[.bool b2,.slice q m d]] w (RetZ w (zv b (val xs) - zv b2 (val ys))):=by
 have HE:Hid (zv b (val xs) + zv (ng (-(zv b2 (val ys)))) (val (lim (-(zv b2 (val ys))).natAbs)) = zv b (val xs) - zv b2 (val ys)):=by show _ = _; rw [vLm,zv_ng]; omega
 go_enter Tryz.func46,Tryz.ntmps46
 go_wp2_with fail
 obtain ⟨W,hW⟩:∃ W:World,W = (((w.alloc (.cells #[.bool b,.slice p n c] 28)).alloc (.cells #[.bool b2,.slice q m d] 28)).alloc (.cells #[.bool false,.slice none 0 0] 28)):=⟨_,rfl⟩
 rw [← hW]
 have hA00:W.cell? ⟨w.heap.size,0,none⟩ = some (.bool b):=by rw [hW]; exact (cOn (cOn (box_c0 (by simp)) (bAl _ _)) (bAl _ _))
 have hA01:W.cell? ⟨w.heap.size,1,none⟩ = some (.slice p n c):=by rw [hW]; exact (cOn (cOn (box_c1 (by simp)) (bAl _ _)) (bAl _ _))
 have hA10:W.cell? ⟨w.heap.size + 1,0,none⟩ = some (.bool b2):=by rw [hW]; exact (cOn (box_c0 (by simp)) (bAl _ _))
 have hA11:W.cell? ⟨w.heap.size + 1,1,none⟩ = some (.slice q m d):=by rw [hW]; exact (cOn (box_c1 (by simp)) (bAl _ _))
 have hR0:Cel (w.heap.size + 2) W:=by rw [hW]; exact (Cel.ofAlloc (by simp))
 have hB:Box w (w.heap.size + 2) W:=by rw [hW]; exact ⟨by (try simp) <;> omega,((((Below.refl _ _).alloc (Nat.le_refl _) _).alloc (by (try simp) <;> omega) _).alloc (by (try simp) <;> omega) _)⟩
 clear hW
 go_wp2_with fail
 go_region_held3 (fun w' => w'.cell? ⟨w.heap.size,0,none⟩ = some (.bool b) ∧ w'.cell? ⟨w.heap.size,1,none⟩ = some (.slice p n c) ∧ w'.cell? ⟨w.heap.size + 1,0,none⟩ = some (.bool b2) ∧ w'.cell? ⟨w.heap.size + 1,1,none⟩ = some (.slice q m d) ∧ Cel (w.heap.size + 2) w' ∧ Box w (w.heap.size + 2) w')
  (first | exact ⟨by simpa using hA00,by simpa using hA01,by simpa using hA10,by simpa using hA11,hR0.drew,hB.drew⟩ | exact ‹World.cell? _ _ = some _ ∧ World.cell? _ _ = some _ ∧ World.cell? _ _ = some _ ∧ World.cell? _ _ = some _ ∧ Cel _ _ ∧ Box w _ _› | (have hS := ‹World.cell? _ _ = some _ ∧ World.cell? _ _ = some _ ∧ World.cell? _ _ = some _ ∧ World.cell? _ _ = some _ ∧ Cel _ _ ∧ Box w _ _›; exact ⟨cOn hS.1 hb1,cOn hS.2.1 hb1,cOn hS.2.2.1 hb1,cOn hS.2.2.2.1 hb1,hS.2.2.2.2.1.on hb1,hS.2.2.2.2.2.on hb1⟩) | (have hS := ‹World.cell? _ _ = some _ ∧ World.cell? _ _ = some _ ∧ World.cell? _ _ = some _ ∧ World.cell? _ _ = some _ ∧ Cel _ _ ∧ Box w _ _›; exact ⟨cOn hS.1 hb2,cOn hS.2.1 hb2,cOn hS.2.2.1 hb2,cOn hS.2.2.2.1 hb2,hS.2.2.2.2.1.on hb2,hS.2.2.2.2.2.on hb2⟩) | (have hS := ‹World.cell? _ _ = some _ ∧ World.cell? _ _ = some _ ∧ World.cell? _ _ = some _ ∧ World.cell? _ _ = some _ ∧ Cel _ _ ∧ Box w _ _›; exact ⟨cSt (cSt hS.1 (by omega)) (by omega),cSt (cSt hS.2.1 (by omega)) (by omega),cSt (cSt hS.2.2.1 (by omega)) (by omega),cSt (cSt hS.2.2.2.1 (by omega)) (by omega),(hS.2.2.2.2.1.set _ _ _).set _ _ _,(hS.2.2.2.2.2.set (by omega) _ _).set (by omega) _ _⟩))
  (first | (go_at_call 93; have hS := ‹World.cell? _ _ = some _ ∧ World.cell? _ _ = some _ ∧ World.cell? _ _ = some _ ∧ World.cell? _ _ = some _ ∧ Cel _ _ ∧ Box w _ _›; refine (qneg_any (hy.below hS.2.2.2.2.2.below (Nat.le_refl _)) (by omega)).mono ?_; rintro e w1 ⟨p3,n3,c3,rfl,hf3,hb1⟩; have hlt1:=hS.2.2.2.2.2.lt; have hn3:n3 ≤ 2199023255552:=(by rw [Int.natAbs_neg,natAbs_zv] at hf3; have:=z_same hy hf3; omega); clear hS) | (go_at_call 92; have hS := ‹World.cell? _ _ = some _ ∧ World.cell? _ _ = some _ ∧ World.cell? _ _ = some _ ∧ World.cell? _ _ = some _ ∧ Cel _ _ ∧ Box w _ _›; refine (qadd_of (hx.below hS.2.2.2.2.2.below (Nat.le_refl _)) hf3.sl hn hn3 HE).mono ?_; rintro e w2 ⟨p4,n4,c4,rfl,hf4,hb2⟩; replace hf3:=hf3.below hb2 (Nat.le_refl _); have hlt2:=hS.2.2.2.2.2.lt; obtain ⟨⟨u0,hu0⟩,⟨u1,hu1⟩,hug0,hug1⟩:=(hS.2.2.2.2.1).on hb2; clear hS))
 obtain ⟨hA00,hA01,hA10,hA11,hR0,hB⟩ := ‹World.cell? _ _ = some _ ∧ World.cell? _ _ = some _ ∧ World.cell? _ _ = some _ ∧ World.cell? _ _ = some _ ∧ Cel _ _ ∧ Box w _ _›
 go_wp2_with fail
 refine bodyPost_ret (v:=.agg #[.bool (ng (zv b (val xs) - zv b2 (val ys))),.slice p4 n4 c4]) (by simp [results,Tryz.results46,go_sem,hu0,hu1]) rfl ?_
 exact retZ_cp hf4 (by omega) (by omega) hB.below
theorem qsub_of {z:Int} {p q:Option Addr} {n m c d:Nat} {b b2:Bool} {xs ys:List Nat} {w:World} (hx:Sl w p n c xs) (hy:Sl w q m d ys) (hn:n ≤ 2199023255552) (hm:m ≤ 2199023255552) (hz:Hid (zv b (val xs) - zv b2 (val ys) = z)) :
  Calls Tryz.prog 46 #[.agg #[.bool b,.slice p n c],.agg #[.bool b2,.slice q m d]] w (RetZ w z):=by
 rw [← hz.out]; exact qsub_any hx hy hn hm
set_option maxHeartbeats 1000000 in
theorem qcmp_any {p q:Option Addr} {n m c d:Nat} {b b2:Bool} {xs ys:List Nat} {w:World} (hx:Sl w p n c xs) (hy:Sl w q m d ys) (hn:n ≤ 2199023255552) (hm:m ≤ 2199023255552) :
  Calls Tryz.prog 14 #[.agg #[.bool b,.slice p n c],.agg #[.bool b2,.slice q m d]] w (RetInt w (cmpZ (zv b (val xs)) (zv b2 (val ys)))):=by
 have HE:Hid (cmpZ (zv b (val xs)) (zv b2 (val ys)) = (zv (ng (zv b (val xs) - zv b2 (val ys))) (val (lim (zv b (val xs) - zv b2 (val ys)).natAbs))).sign):=by show _ = _; rw [vLm,zv_ng,cmpZ_sub]
 go_enter Tryz.func14,Tryz.ntmps14
 go_wp2_with fail
 obtain ⟨W,hW⟩:∃ W:World,W = ((w.alloc (.cells #[.bool b,.slice p n c] 28)).alloc (.cells #[.bool b2,.slice q m d] 28)):=⟨_,rfl⟩
 rw [← hW]
 have hA00:W.cell? ⟨w.heap.size,0,none⟩ = some (.bool b):=by rw [hW]; exact (cOn (box_c0 (by simp)) (bAl _ _))
 have hA01:W.cell? ⟨w.heap.size,1,none⟩ = some (.slice p n c):=by rw [hW]; exact (cOn (box_c1 (by simp)) (bAl _ _))
 have hA10:W.cell? ⟨w.heap.size + 1,0,none⟩ = some (.bool b2):=by rw [hW]; exact (box_c0 (by simp))
 have hA11:W.cell? ⟨w.heap.size + 1,1,none⟩ = some (.slice q m d):=by rw [hW]; exact (box_c1 (by simp))
 have hB:Box w (w.heap.size + 1) W:=by rw [hW]; exact ⟨by (try simp) <;> omega,(((Below.refl _ _).alloc (Nat.le_refl _) _).alloc (by (try simp) <;> omega) _)⟩
 clear hW
 go_wp2_with fail
 refine (qsub_any (hx.below hB.below (Nat.le_refl _)) (hy.below hB.below (Nat.le_refl _)) hn hm).mono ?_
 rintro e w1 ⟨p4,n4,c4,rfl,hf4,hb1⟩
 have hlt1:=hB.lt
 replace hA00:=cOn hA00 hb1
 replace hA01:=cOn hA01 hb1
 replace hA10:=cOn hA10 hb1
 replace hA11:=cOn hA11 hb1
 replace hB:=hB.on hb1
 clear hb1
 go_wp2_with fail
 refine (qsign_of hf4.sl HE).mono ?_
 rintro e w2 ⟨rfl,hb2⟩
 clear hf4
 replace hA00:=cOn hA00 hb2
 replace hA01:=cOn hA01 hb2
 replace hA10:=cOn hA10 hb2
 replace hA11:=cOn hA11 hb2
 replace hB:=hB.on hb2
 clear hb2
 go_wp2_with fail
 go_ret
 exact ⟨rfl,hB.below⟩
theorem qcmp_of {s:Int} {p q:Option Addr} {n m c d:Nat} {b b2:Bool} {xs ys:List Nat} {w:World} (hx:Sl w p n c xs) (hy:Sl w q m d ys) (hn:n ≤ 2199023255552) (hm:m ≤ 2199023255552) (hs:Hid (cmpZ (zv b (val xs)) (zv b2 (val ys)) = s)) :
  Calls Tryz.prog 14 #[.agg #[.bool b,.slice p n c],.agg #[.bool b2,.slice q m d]] w (RetInt w s):=by
 rw [← hs.out]; exact qcmp_any hx hy hn hm
open Go.RowKit
set_option maxHeartbeats 4000000 in
theorem qtrunc_of {p q:Option Addr} {n m c d:Nat} {b b2:Bool} {xs ys:List Nat} {w:World} {Q R:Int} (hx:Sl w p n c xs) (hy:Sl w q m d ys) (hn:n ≤ 549755813888) (hm:m ≤ 549755813888) (h0:val ys ≠ 0) (hQ:Hid ((zv b (val xs)).tdiv (zv b2 (val ys)) = Q)) (hR:Hid ((zv b (val xs)).tmod (zv b2 (val ys)) = R)) :
  Calls Tryz.prog 120 #[.agg #[.bool b,.slice p n c],.agg #[.bool b2,.slice q m d]] w (RetZZ w Q R):=by
 have HQ:Hid (zv (!(b == b2)) (val (lim (val xs / val ys))) = Q):=by show _ = _; rw [vLm, ← hQ.out, ← zv_tdiv]; rfl
 have HM:Hid (zv (ng Q) (val (lim Q.natAbs)) * zv b2 (val ys) = Q * zv b2 (val ys)):=by show _ = _; rw [vLm,zv_ng]
 have HS:Hid (zv b (val xs) - zv (ng (Q * zv b2 (val ys))) (val (lim (Q * zv b2 (val ys)).natAbs)) = R):=by
  show _ = _
  rw [vLm,zv_ng, ← hR.out, ← hQ.out,Int.tmod_def,Int.mul_comm]
 have hql:ll Q.natAbs ≤ 549755813888:=by
  rw [← hQ.out,Int.natAbs_tdiv,natAbs_zv,natAbs_zv]
  have h1:=ll_mono (Nat.div_le_self (val xs) (val ys))
  have h2:=val_ll hx.lims
  rw [hx.len] at h2
  exact Nat.le_trans h1 (Nat.le_trans h2 hn)
 have HQL:=Lib.hid hql
 have hyl:ll (val ys) ≤ 549755813888:=by have:=val_ll hy.lims; rw [hy.len] at this; omega
 have HYL:=Lib.hid hyl
 have H0:=Lib.hid h0
 clear h0 hql hyl
 go_enter Tryz.func120,Tryz.ntmps120
 go_wp2_with fail
 obtain ⟨W,hW⟩:∃ W:World,W = ((((w.alloc (.cells #[.bool b,.slice p n c] 28)).alloc (.cells #[.bool b2,.slice q m d] 28)).alloc (.cells #[.bool false,.slice none 0 0] 28)).alloc (.cells #[.bool false,.slice none 0 0] 28)):=⟨_,rfl⟩
 rw [← hW]
 have hA00:W.cell? ⟨w.heap.size,0,none⟩ = some (.bool b):=by rw [hW]; exact (cOn (cOn (cOn (box_c0 (by simp)) (bAl _ _)) (bAl _ _)) (bAl _ _))
 have hA01:W.cell? ⟨w.heap.size,1,none⟩ = some (.slice p n c):=by rw [hW]; exact (cOn (cOn (cOn (box_c1 (by simp)) (bAl _ _)) (bAl _ _)) (bAl _ _))
 have hA10:W.cell? ⟨w.heap.size + 1,0,none⟩ = some (.bool b2):=by rw [hW]; exact (cOn (cOn (box_c0 (by simp)) (bAl _ _)) (bAl _ _))
 have hA11:W.cell? ⟨w.heap.size + 1,1,none⟩ = some (.slice q m d):=by rw [hW]; exact (cOn (cOn (box_c1 (by simp)) (bAl _ _)) (bAl _ _))
 have hR0:Cel (w.heap.size + 2) W:=by rw [hW]; exact ((Cel.ofAlloc (by simp)).on (bAl _ _))
 have hR1:Cel (w.heap.size + 3) W:=by rw [hW]; exact (Cel.ofAlloc (by simp))
 have hB:Box w (w.heap.size + 3) W:=by rw [hW]; exact ⟨by (try simp) <;> omega,(((((Below.refl _ _).alloc (Nat.le_refl _) _).alloc (by (try simp) <;> omega) _).alloc (by (try simp) <;> omega) _).alloc (by (try simp) <;> omega) _)⟩
 clear hW
 go_wp2_with fail
 refine (rdiv_any (hx.below hB.below (Nat.le_refl _)) (hy.below hB.below (Nat.le_refl _)) (by omega) (by omega) H0.out).mono ?_
 rintro e w1 ⟨p4,n4,c4,p5,n5,c5,rfl,hf4,hf5,hb1⟩
 have hlt1:=hB.lt
 replace hA00:=cOn hA00 hb1
 replace hA01:=cOn hA01 hb1
 replace hA10:=cOn hA10 hb1
 replace hA11:=cOn hA11 hb1
 replace hR0:=hR0.on hb1
 replace hR1:=hR1.on hb1
 replace hB:=hB.on hb1
 clear hb1
 have hn4:n4 ≤ 549755813888:=by
  rw [hf4.sl.lln]
  have h1:=ll_mono (Nat.div_le_self (val xs) (val ys))
  have h2:=val_ll hx.lims
  rw [hx.len] at h2
  omega
 clear hf5
 go_wp2_with fail
 refine (qnorm_of (z:=Q) hf4.sl (by omega) HQ).mono ?_
 rintro e w2 ⟨p6,n6,c6,rfl,hf6,hb2⟩
 clear hf4
 have hlt2:=hB.lt
 replace hA00:=cOn hA00 hb2
 replace hA01:=cOn hA01 hb2
 replace hA10:=cOn hA10 hb2
 replace hA11:=cOn hA11 hb2
 replace hR0:=hR0.on hb2
 replace hR1:=hR1.on hb2
 replace hB:=hB.on hb2
 clear hb2
 have hn6:n6 ≤ 549755813888:=z_len hf6 HQL.out
 go_upto_region 3 with (fail)
 have hlb0:=hB.lt
 obtain ⟨W1,hW⟩:∃ W1:World,W1 = (w2.alloc (.cells #[.bool (ng Q),.slice p6 n6 c6] 28)):=⟨_,rfl⟩
 rw [← hW]
 have qhA00:W1.cell? ⟨w.heap.size,0,none⟩ = some (.bool b):=by rw [hW]; exact (cOn hA00 (bAl _ _))
 have qhA01:W1.cell? ⟨w.heap.size,1,none⟩ = some (.slice p n c):=by rw [hW]; exact (cOn hA01 (bAl _ _))
 have qhA10:W1.cell? ⟨w.heap.size + 1,0,none⟩ = some (.bool b2):=by rw [hW]; exact (cOn hA10 (bAl _ _))
 have qhA11:W1.cell? ⟨w.heap.size + 1,1,none⟩ = some (.slice q m d):=by rw [hW]; exact (cOn hA11 (bAl _ _))
 have qhR0:Cel (w.heap.size + 2) W1:=by rw [hW]; exact (hR0.on (bAl _ _))
 have qhR1:Cel (w.heap.size + 3) W1:=by rw [hW]; exact (hR1.on (bAl _ _))
 have qhf6:Fr w1.heap.size W1 p6 n6 c6 (lim Q.natAbs):=by rw [hW]; exact (hf6.below (bAl _ _) (Nat.le_refl _))
 have hL00:W1.cell? ⟨w2.heap.size,0,none⟩ = some (.bool (ng Q)):=by rw [hW]; exact (box_c0 (by simp))
 have hL01:W1.cell? ⟨w2.heap.size,1,none⟩ = some (.slice p6 n6 c6):=by rw [hW]; exact (box_c1 (by simp))
 have hR2:Cel (w2.heap.size) W1:=by rw [hW]; exact (Cel.ofAlloc (by simp))
 have qhB:Box w (w2.heap.size) W1:=by rw [hW]; exact ⟨by (try simp) <;> omega,(hB.below.alloc (by (try simp) <;> omega) _)⟩
 clear hW hA00 hA01 hA10 hA11 hR0 hR1 hf6 hB
 have hA00:=qhA00
 have hA01:=qhA01
 have hA10:=qhA10
 have hA11:=qhA11
 have hR0:=qhR0
 have hR1:=qhR1
 have hf6:=qhf6
 have hB:=qhB
 clear qhA00 qhA01 qhA10 qhA11 qhR0 qhR1 qhf6 qhB
 go_wp2_with fail
 go_region_held3 (fun w' => w'.cell? ⟨w.heap.size,0,none⟩ = some (.bool b) ∧ w'.cell? ⟨w.heap.size,1,none⟩ = some (.slice p n c) ∧ w'.cell? ⟨w.heap.size + 1,0,none⟩ = some (.bool b2) ∧ w'.cell? ⟨w.heap.size + 1,1,none⟩ = some (.slice q m d) ∧ w'.cell? ⟨w2.heap.size,0,none⟩ = some (.bool (ng Q)) ∧ w'.cell? ⟨w2.heap.size,1,none⟩ = some (.slice p6 n6 c6) ∧ Cel (w.heap.size + 2) w' ∧ Cel (w.heap.size + 3) w' ∧ Cel (w2.heap.size) w' ∧ Fr w1.heap.size w' p6 n6 c6 (lim Q.natAbs) ∧ Box w (w2.heap.size) w')
  (first | exact ⟨by simpa using hA00,by simpa using hA01,by simpa using hA10,by simpa using hA11,by simpa using hL00,by simpa using hL01,hR0.drew,hR1.drew,hR2.drew,hf6.below (Below.refl _ _).drew (Nat.le_refl _),hB.drew⟩ | exact ‹World.cell? _ _ = some _ ∧ World.cell? _ _ = some _ ∧ World.cell? _ _ = some _ ∧ World.cell? _ _ = some _ ∧ World.cell? _ _ = some _ ∧ World.cell? _ _ = some _ ∧ Cel _ _ ∧ Cel _ _ ∧ Cel _ _ ∧ Fr _ _ _ _ _ _ ∧ Box w _ _› | (have hS := ‹World.cell? _ _ = some _ ∧ World.cell? _ _ = some _ ∧ World.cell? _ _ = some _ ∧ World.cell? _ _ = some _ ∧ World.cell? _ _ = some _ ∧ World.cell? _ _ = some _ ∧ Cel _ _ ∧ Cel _ _ ∧ Cel _ _ ∧ Fr _ _ _ _ _ _ ∧ Box w _ _›; exact ⟨cOn hS.1 hb3,cOn hS.2.1 hb3,cOn hS.2.2.1 hb3,cOn hS.2.2.2.1 hb3,cOn hS.2.2.2.2.1 hb3,cOn hS.2.2.2.2.2.1 hb3,hS.2.2.2.2.2.2.1.on hb3,hS.2.2.2.2.2.2.2.1.on hb3,hS.2.2.2.2.2.2.2.2.1.on hb3,hS.2.2.2.2.2.2.2.2.2.1.below hb3 (Nat.le_refl _),hS.2.2.2.2.2.2.2.2.2.2.on hb3⟩) | (have hS := ‹World.cell? _ _ = some _ ∧ World.cell? _ _ = some _ ∧ World.cell? _ _ = some _ ∧ World.cell? _ _ = some _ ∧ World.cell? _ _ = some _ ∧ World.cell? _ _ = some _ ∧ Cel _ _ ∧ Cel _ _ ∧ Cel _ _ ∧ Fr _ _ _ _ _ _ ∧ Box w _ _›; exact ⟨cOn hS.1 hb4,cOn hS.2.1 hb4,cOn hS.2.2.1 hb4,cOn hS.2.2.2.1 hb4,cOn hS.2.2.2.2.1 hb4,cOn hS.2.2.2.2.2.1 hb4,hS.2.2.2.2.2.2.1.on hb4,hS.2.2.2.2.2.2.2.1.on hb4,hS.2.2.2.2.2.2.2.2.1.on hb4,hS.2.2.2.2.2.2.2.2.2.1.below hb4 (Nat.le_refl _),hS.2.2.2.2.2.2.2.2.2.2.on hb4⟩) | (have hS := ‹World.cell? _ _ = some _ ∧ World.cell? _ _ = some _ ∧ World.cell? _ _ = some _ ∧ World.cell? _ _ = some _ ∧ World.cell? _ _ = some _ ∧ World.cell? _ _ = some _ ∧ Cel _ _ ∧ Cel _ _ ∧ Cel _ _ ∧ Fr _ _ _ _ _ _ ∧ Box w _ _›; exact ⟨cSt (cSt hS.1 (by omega)) (by omega),cSt (cSt hS.2.1 (by omega)) (by omega),cSt (cSt hS.2.2.1 (by omega)) (by omega),cSt (cSt hS.2.2.2.1 (by omega)) (by omega),cSt (cSt hS.2.2.2.2.1 (by omega)) (by omega),cSt (cSt hS.2.2.2.2.2.1 (by omega)) (by omega),(hS.2.2.2.2.2.2.1.set _ _ _).set _ _ _,(hS.2.2.2.2.2.2.2.1.set _ _ _).set _ _ _,(hS.2.2.2.2.2.2.2.2.1.set _ _ _).set _ _ _,(hS.2.2.2.2.2.2.2.2.2.1.setLow (by omega) _ _).setLow (by omega) _ _,(hS.2.2.2.2.2.2.2.2.2.2.set (by omega) _ _).set (by omega) _ _⟩))
  (first | (go_at_call 95; have hS := ‹World.cell? _ _ = some _ ∧ World.cell? _ _ = some _ ∧ World.cell? _ _ = some _ ∧ World.cell? _ _ = some _ ∧ World.cell? _ _ = some _ ∧ World.cell? _ _ = some _ ∧ Cel _ _ ∧ Cel _ _ ∧ Cel _ _ ∧ Fr _ _ _ _ _ _ ∧ Box w _ _›; refine (qmul_of (z:=Q * zv b2 (val ys)) hS.2.2.2.2.2.2.2.2.2.1.sl (hy.below hS.2.2.2.2.2.2.2.2.2.2.below (Nat.le_refl _)) (by omega) (by omega) HM).mono ?_; rintro e w3 ⟨p7,n7,c7,rfl,hf7,hb3⟩; have hlt3:=hS.2.2.2.2.2.2.2.2.2.2.lt; have hn7:n7 ≤ 1099511627776:=z_len hf7 (by rw [Int.natAbs_mul,natAbs_zv]; have h1:=ll_mul Q.natAbs (val ys); have h2:=HQL.out; have h3:=HYL.out; omega); clear hS) | (go_at_call 46; have hS := ‹World.cell? _ _ = some _ ∧ World.cell? _ _ = some _ ∧ World.cell? _ _ = some _ ∧ World.cell? _ _ = some _ ∧ World.cell? _ _ = some _ ∧ World.cell? _ _ = some _ ∧ Cel _ _ ∧ Cel _ _ ∧ Cel _ _ ∧ Fr _ _ _ _ _ _ ∧ Box w _ _›; refine (qsub_of (z:=R) (hx.below hS.2.2.2.2.2.2.2.2.2.2.below (Nat.le_refl _)) hf7.sl (by omega) (by omega) HS).mono ?_; rintro e w4 ⟨p8,n8,c8,rfl,hf8,hb4⟩; replace hf7:=hf7.below hb4 (Nat.le_refl _); have hlt4:=hS.2.2.2.2.2.2.2.2.2.2.lt; obtain ⟨⟨u0,hu0⟩,⟨u1,hu1⟩,hug0,hug1⟩:=(hS.2.2.2.2.2.2.1).on hb4; obtain ⟨⟨v0,hv0⟩,⟨v1,hv1⟩,hvg0,hvg1⟩:=(hS.2.2.2.2.2.2.2.1).on hb4; clear hS))
 obtain ⟨hA00,hA01,hA10,hA11,hL00,hL01,hR0,hR1,hR2,hf6,hB⟩ := ‹World.cell? _ _ = some _ ∧ World.cell? _ _ = some _ ∧ World.cell? _ _ = some _ ∧ World.cell? _ _ = some _ ∧ World.cell? _ _ = some _ ∧ World.cell? _ _ = some _ ∧ Cel _ _ ∧ Cel _ _ ∧ Cel _ _ ∧ Fr _ _ _ _ _ _ ∧ Box w _ _›
 go_wp2_with fail
 refine bodyPost_ret (v:=.tuple #[.agg #[.bool (ng Q),.slice p6 n6 c6],.agg #[.bool (ng R),.slice p8 n8 c8]]) (by simp [results,Tryz.results120,go_sem,hu0,hu1,hv0,hv1]) rfl ?_
 exact ⟨_,_,_,_,_,_,rfl,hf6.mono (by omega),(((hf8.setLow (by omega) _ _).setLow (by omega) _ _).setLow (by omega) _ _).setLow (by omega) _ _ |>.mono (by omega),hB.below⟩
set_option maxHeartbeats 4000000 in
theorem qexact_yes {p q:Option Addr} {n m c d:Nat} {b b2:Bool} {xs ys:List Nat} {w:World} {Q R:Int} (hx:Sl w p n c xs) (hy:Sl w q m d ys) (hn:n ≤ 549755813888) (hm:m ≤ 549755813888) (h0:val ys ≠ 0) (hQ:Hid ((zv b (val xs)).tdiv (zv b2 (val ys)) = Q)) (hR:Hid ((zv b (val xs)).tmod (zv b2 (val ys)) = R)) (h1:R = 0) :
  Calls Tryz.prog 98 #[.agg #[.bool b,.slice p n c],.agg #[.bool b2,.slice q m d]] w (RetZB w Q true):=by
 have hrl:ll R.natAbs ≤ 549755813888:=by
  rw [← hR.out,Int.natAbs_tmod,natAbs_zv,natAbs_zv]
  have h1:=ll_mono (Nat.mod_le (val xs) (val ys))
  have h2:=val_ll hx.lims
  rw [hx.len] at h2
  exact Nat.le_trans h1 (Nat.le_trans h2 hn)
 have HRL:=Lib.hid hrl
 have H0:=Lib.hid h0
 clear h0 hrl
 have HSG:Hid (0 = (zv (ng R) (val (lim R.natAbs))).sign):=by show _ = _; rw [vLm,zv_ng]; rw [h1]; rfl
 clear h1
 go_enter Tryz.func98,Tryz.ntmps98
 go_wp2_with fail
 obtain ⟨W,hW⟩:∃ W:World,W = (((w.alloc (.cells #[.bool b,.slice p n c] 28)).alloc (.cells #[.bool b2,.slice q m d] 28)).alloc (.cells #[.bool false,.slice none 0 0] 28)):=⟨_,rfl⟩
 rw [← hW]
 have hA00:W.cell? ⟨w.heap.size,0,none⟩ = some (.bool b):=by rw [hW]; exact (cOn (cOn (box_c0 (by simp)) (bAl _ _)) (bAl _ _))
 have hA01:W.cell? ⟨w.heap.size,1,none⟩ = some (.slice p n c):=by rw [hW]; exact (cOn (cOn (box_c1 (by simp)) (bAl _ _)) (bAl _ _))
 have hA10:W.cell? ⟨w.heap.size + 1,0,none⟩ = some (.bool b2):=by rw [hW]; exact (cOn (box_c0 (by simp)) (bAl _ _))
 have hA11:W.cell? ⟨w.heap.size + 1,1,none⟩ = some (.slice q m d):=by rw [hW]; exact (cOn (box_c1 (by simp)) (bAl _ _))
 have hR0:Cel (w.heap.size + 2) W:=by rw [hW]; exact (Cel.ofAlloc (by simp))
 have hB:Box w (w.heap.size + 2) W:=by rw [hW]; exact ⟨by (try simp) <;> omega,((((Below.refl _ _).alloc (Nat.le_refl _) _).alloc (by (try simp) <;> omega) _).alloc (by (try simp) <;> omega) _)⟩
 clear hW
 go_wp2_with fail
 refine (qtrunc_of (hx.below hB.below (Nat.le_refl _)) (hy.below hB.below (Nat.le_refl _)) hn hm H0.out hQ hR).mono ?_
 rintro e w1 ⟨p4,n4,c4,p5,n5,c5,rfl,hf4,hf5,hb1⟩
 have hlt1:=hB.lt
 replace hA00:=cOn hA00 hb1
 replace hA01:=cOn hA01 hb1
 replace hA10:=cOn hA10 hb1
 replace hA11:=cOn hA11 hb1
 replace hR0:=hR0.on hb1
 replace hB:=hB.on hb1
 clear hb1
 go_upto_region 2 with (fail)
 have hlb0:=hB.lt
 obtain ⟨W1,hW⟩:∃ W1:World,W1 = ((w1.alloc (.cells #[.bool (ng Q),.slice p4 n4 c4] 28)).alloc (.cells #[.bool (ng R),.slice p5 n5 c5] 28)):=⟨_,rfl⟩
 rw [← hW]
 have qhA00:W1.cell? ⟨w.heap.size,0,none⟩ = some (.bool b):=by rw [hW]; exact (cOn (cOn hA00 (bAl _ _)) (bAl _ _))
 have qhA01:W1.cell? ⟨w.heap.size,1,none⟩ = some (.slice p n c):=by rw [hW]; exact (cOn (cOn hA01 (bAl _ _)) (bAl _ _))
 have qhA10:W1.cell? ⟨w.heap.size + 1,0,none⟩ = some (.bool b2):=by rw [hW]; exact (cOn (cOn hA10 (bAl _ _)) (bAl _ _))
 have qhA11:W1.cell? ⟨w.heap.size + 1,1,none⟩ = some (.slice q m d):=by rw [hW]; exact (cOn (cOn hA11 (bAl _ _)) (bAl _ _))
 have qhR0:Cel (w.heap.size + 2) W1:=by rw [hW]; exact ((hR0.on (bAl _ _)).on (bAl _ _))
 have qhf4:Fr W.heap.size W1 p4 n4 c4 (lim Q.natAbs):=by rw [hW]; exact ((hf4.below (bAl _ _) (Nat.le_refl _)).below (bAl _ _) (Nat.le_refl _))
 have qhf5:Fr W.heap.size W1 p5 n5 c5 (lim R.natAbs):=by rw [hW]; exact ((hf5.below (bAl _ _) (Nat.le_refl _)).below (bAl _ _) (Nat.le_refl _))
 have hL00:W1.cell? ⟨w1.heap.size,0,none⟩ = some (.bool (ng Q)):=by rw [hW]; exact (cOn (box_c0 (by simp)) (bAl _ _))
 have hL01:W1.cell? ⟨w1.heap.size,1,none⟩ = some (.slice p4 n4 c4):=by rw [hW]; exact (cOn (box_c1 (by simp)) (bAl _ _))
 have hR1:Cel (w1.heap.size) W1:=by rw [hW]; exact ((Cel.ofAlloc (by simp)).on (bAl _ _))
 have hL10:W1.cell? ⟨w1.heap.size + 1,0,none⟩ = some (.bool (ng R)):=by rw [hW]; exact (box_c0 (by simp))
 have hL11:W1.cell? ⟨w1.heap.size + 1,1,none⟩ = some (.slice p5 n5 c5):=by rw [hW]; exact (box_c1 (by simp))
 have hR2:Cel (w1.heap.size + 1) W1:=by rw [hW]; exact (Cel.ofAlloc (by simp))
 have qhB:Box w (w1.heap.size + 1) W1:=by rw [hW]; exact ⟨by (try simp) <;> omega,((hB.below.alloc (by (try simp) <;> omega) _).alloc (by (try simp) <;> omega) _)⟩
 clear hW hA00 hA01 hA10 hA11 hR0 hf4 hf5 hB
 have hA00:=qhA00
 have hA01:=qhA01
 have hA10:=qhA10
 have hA11:=qhA11
 have hR0:=qhR0
 have hf4:=qhf4
 have hf5:=qhf5
 have hB:=qhB
 clear qhA00 qhA01 qhA10 qhA11 qhR0 qhf4 qhf5 qhB
 go_wp2_with fail
 refine (qsign_of (b:=ng R) hf5.sl HSG).mono ?_
 rintro e w2 ⟨rfl,hb2⟩
 clear hf5
 replace hA00:=cOn hA00 hb2
 replace hA01:=cOn hA01 hb2
 replace hA10:=cOn hA10 hb2
 replace hA11:=cOn hA11 hb2
 replace hR0:=hR0.on hb2
 replace hB:=hB.on hb2
 replace hf4:=hf4.below hb2 (Nat.le_refl _)
 replace hL00:=cOn hL00 hb2
 replace hL01:=cOn hL01 hb2
 replace hL10:=cOn hL10 hb2
 replace hL11:=cOn hL11 hb2
 replace hR1:=hR1.on hb2
 replace hR2:=hR2.on hb2
 clear hb2
 obtain ⟨⟨u0,hu0⟩,⟨u1,hu1⟩,hug0,hug1⟩:=hR0
 go_wp2_with fail
 refine bodyPost_ret (v:=.tuple #[.agg #[.bool (ng Q),.slice p4 n4 c4],.bool true]) (by simp [results,Tryz.results98,go_sem,hu0,hu1]) rfl ?_
 exact ⟨_,_,_,rfl,hf4.setBox (by omega) (by omega),((hB.set (by omega) _ _).set (by omega) _ _).below⟩
end Go.Proofs.YtnlnibngpeempaaGreatDoor
