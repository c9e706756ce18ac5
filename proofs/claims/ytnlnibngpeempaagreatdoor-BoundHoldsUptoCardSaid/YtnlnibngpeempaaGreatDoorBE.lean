/-
  Contracts and lemmas, joined in one text.
-/
import Derived.Test.YtnlnibngpeempaaGreatDoorBD
import Derived.Laws.BitsAllLaws
import Derived.Laws.EntriesVeiled
import Derived.Test.YtnlnibngpeempaaGreatDoorZE
set_option linter.unusedVariables false
set_option linter.unusedSimpArgs false
/-
  The walks of nat.Bit at 0,zint's row.up,row.down,signs.
-/
namespace Go.Proofs.YtnlnibngpeempaaGreatDoor
open Go.RowKit
open Go.RowKit
def Eu1 (w w1:World) (b2:Bool) (q:Option Addr) (m d:Nat) (Q R:Int) (p4:Option Addr) (n4 c4:Nat) (p7:Option Addr) (n7 c7:Nat) (wc:World):Prop :=
 wc.cell? ⟨w.heap.size + 1,0,none⟩ = some (.bool b2) ∧ wc.cell? ⟨w.heap.size + 1,1,none⟩ = some (.slice q m d) ∧ wc.cell? ⟨w1.heap.size,0,none⟩ = some (.bool (ng Q)) ∧ wc.cell? ⟨w1.heap.size,1,none⟩ = some (.slice p4 n4 c4) ∧
  wc.cell? ⟨w1.heap.size + 1,0,none⟩ = some (.bool (ng R)) ∧ wc.cell? ⟨w1.heap.size + 1,1,none⟩ = some (.slice p7 n7 c7) ∧ Cel (w.heap.size + 2) wc ∧ Cel (w.heap.size + 3) wc ∧ Cel w1.heap.size wc ∧ Cel (w1.heap.size + 1) wc ∧
  (∃ B4,Fr B4 wc p4 n4 c4 (lim Q.natAbs) ∧ w.heap.size + 3 < B4) ∧ (∃ B7,Fr B7 wc p7 n7 c7 (lim R.natAbs) ∧ w1.heap.size + 1 < B7) ∧ Box w (w1.heap.size + 1) wc
def Eu2 (w w1:World) (b2:Bool) (q:Option Addr) (m d:Nat) (Q R:Int) (wc:World):Prop := ∃ p4 n4 c4 p7 n7 c7,Eu1 w w1 b2 q m d Q R p4 n4 c4 p7 n7 c7 wc
set_option maxHeartbeats 8000000 in
theorem zeuclid_low {p q:Option Addr} {n m c d:Nat} {b b2:Bool} {xs ys:List Nat} {w:World} (hx:Sl w p n c xs) (hy:Sl w q m d ys) (hn:n ≤ 1099511627776) (hm:m ≤ 1099511627776) (h0:val ys ≠ 0) (h1:(zv b (val xs)).tmod (zv b2 (val ys)) < 0) :
  Calls Tryz.prog 108 #[.agg #[.bool b,.slice p n c],.agg #[.bool b2,.slice q m d]] w (RetZZE w ((zv b (val xs)) / (zv b2 (val ys))) ((zv b (val xs)) % (zv b2 (val ys))) 0):=by
 have hb0:zv b2 (val ys) ≠ 0:=fun h => h0 (zv_eq_zero.1 h)
 have hq1:=(euclid_low hb0 h1).1
 have hm1:=(euclid_low hb0 h1).2
 have hlq:ll ((zv b (val xs)).tdiv (zv b2 (val ys))).natAbs ≤ 1099511627776:=by
  rw [Int.natAbs_tdiv,natAbs_zv,natAbs_zv]
  have h2:=ll_mono (Nat.div_le_self (val xs) (val ys))
  have h3:=val_ll hx.lims
  rw [hx.len] at h3
  exact Nat.le_trans h2 (Nat.le_trans h3 hn)
 have hlr:ll ((zv b (val xs)).tmod (zv b2 (val ys))).natAbs ≤ 1099511627776:=by
  rw [Int.natAbs_tmod,natAbs_zv,natAbs_zv]
  have h2:=ll_mono (Nat.mod_le (val xs) (val ys))
  have h3:=val_ll hx.lims
  rw [hx.len] at h3
  exact Nat.le_trans h2 (Nat.le_trans h3 hn)
 generalize hQ:(zv b (val xs)).tdiv (zv b2 (val ys)) = Q at *
 generalize hR:(zv b (val xs)).tmod (zv b2 (val ys)) = R at *
 have HQ:=Lib.hid hQ
 have HR:=Lib.hid hR
 have HQ1:=Lib.hid hq1
 have HM1:=Lib.hid hm1
 have HLQ:=Lib.hid hlq
 have HLR:=Lib.hid hlr
 have H0:=Lib.hid h0
 clear h0 hb0 hQ hR hq1 hm1 hlq hlr
 obtain ⟨sg,hsg⟩:∃ s,s = R.sign:=⟨_,rfl⟩
 have hz:decide (sg < 0) = true:=by
  have:=sign_cases R
  simp; omega
 have HSG:=Lib.hid hsg.symm
 clear hsg
 go_enter Tryz.func108,Tryz.ntmps108
 go_wp2_with fail
 obtain ⟨W,hW⟩:∃ W:World,W = ((((w.alloc (.cells #[.bool b,.slice p n c] 28)).alloc (.cells #[.bool b2,.slice q m d] 28)).alloc (.cells #[.bool false,.slice none 0 0] 28)).alloc (.cells #[.bool false,.slice none 0 0] 28)):=⟨_,rfl⟩
 rw [← hW]
 have hA00:W.cell? ⟨w.heap.size,0,none⟩ = some (.bool b):=by rw [hW]; exact (cOn (cOn (cOn (box_c0 (by simp)) (bAl _ _)) (bAl _ _)) (bAl _ _))
 have hA01:W.cell? ⟨w.heap.size,1,none⟩ = some (.slice p n c):=by rw [hW]; exact (cOn (cOn (cOn (box_c1 (by simp)) (bAl _ _)) (bAl _ _)) (bAl _ _))
 have hA10:W.cell? ⟨w.heap.size + 1,0,none⟩ = some (.bool b2):=by rw [hW]; exact (cOn (cOn (box_c0 (by simp)) (bAl _ _)) (bAl _ _))
 have hA11:W.cell? ⟨w.heap.size + 1,1,none⟩ = some (.slice q m d):=by rw [hW]; exact (cOn (cOn (box_c1 (by simp)) (bAl _ _)) (bAl _ _))
 have hR0:Cel (w.heap.size + 2) W:=by rw [hW]; exact ((Cel.ofAlloc (by simp)).on (bAl _ _))
 have hR1:Cel (w.heap.size + 3) W:=by rw [hW]; exact (Cel.ofAlloc (by simp))
 have hB:Box w (w.heap.size + 3) W:=by rw [hW]; exact ⟨by (try simp) <;> omega,(((((Below.refl _ _).alloc (Nat.le_refl _) _).alloc (by (try simp) <;> omega) _).alloc (by (try simp) <;> omega) _).alloc (by (try simp) <;> omega) _)⟩
 clear hW
 go_wp2_with fail
 refine (ztrunc_of (hx.below hB.below (Nat.le_refl _)) (hy.below hB.below (Nat.le_refl _)) hn hm H0.out HQ HR).mono ?_
 rintro e w1 ⟨p4,n4,c4,p5,n5,c5,rfl,hf4,hf5,hb1⟩
 have hlt1:=hB.lt
 replace hA00:=cOn hA00 hb1
 replace hA01:=cOn hA01 hb1
 replace hA10:=cOn hA10 hb1
 replace hA11:=cOn hA11 hb1
 replace hR0:=hR0.on hb1
 replace hR1:=hR1.on hb1
 replace hB:=hB.on hb1
 clear hb1
 have HBQ:=hf4.under (Nat.le_refl _)
 have HBQ1:=hf4.under (r:=w1.heap.size + 1) (by omega)
 go_upto_region 2 with (fail)
 have hlb0:=hB.lt
 obtain ⟨W1,hW⟩:∃ W1:World,W1 = ((w1.alloc (.cells #[.bool (ng Q),.slice p4 n4 c4] 28)).alloc (.cells #[.bool (ng R),.slice p5 n5 c5] 28)):=⟨_,rfl⟩
 rw [← hW]
 have qhA00:W1.cell? ⟨w.heap.size,0,none⟩ = some (.bool b):=by rw [hW]; exact (cOn (cOn hA00 (bAl _ _)) (bAl _ _))
 have qhA01:W1.cell? ⟨w.heap.size,1,none⟩ = some (.slice p n c):=by rw [hW]; exact (cOn (cOn hA01 (bAl _ _)) (bAl _ _))
 have qhA10:W1.cell? ⟨w.heap.size + 1,0,none⟩ = some (.bool b2):=by rw [hW]; exact (cOn (cOn hA10 (bAl _ _)) (bAl _ _))
 have qhA11:W1.cell? ⟨w.heap.size + 1,1,none⟩ = some (.slice q m d):=by rw [hW]; exact (cOn (cOn hA11 (bAl _ _)) (bAl _ _))
 have qhR0:Cel (w.heap.size + 2) W1:=by rw [hW]; exact ((hR0.on (bAl _ _)).on (bAl _ _))
 have qhR1:Cel (w.heap.size + 3) W1:=by rw [hW]; exact ((hR1.on (bAl _ _)).on (bAl _ _))
 have qhf4:Fr W.heap.size W1 p4 n4 c4 (lim Q.natAbs):=by rw [hW]; exact ((hf4.below (bAl _ _) (Nat.le_refl _)).below (bAl _ _) (Nat.le_refl _))
 have qhf5:Fr W.heap.size W1 p5 n5 c5 (lim R.natAbs):=by rw [hW]; exact ((hf5.below (bAl _ _) (Nat.le_refl _)).below (bAl _ _) (Nat.le_refl _))
 have hL00:W1.cell? ⟨w1.heap.size,0,none⟩ = some (.bool (ng Q)):=by rw [hW]; exact (cOn (box_c0 (by simp)) (bAl _ _))
 have hL01:W1.cell? ⟨w1.heap.size,1,none⟩ = some (.slice p4 n4 c4):=by rw [hW]; exact (cOn (box_c1 (by simp)) (bAl _ _))
 have hR2:Cel (w1.heap.size) W1:=by rw [hW]; exact ((Cel.ofAlloc (by simp)).on (bAl _ _))
 have hL10:W1.cell? ⟨w1.heap.size + 1,0,none⟩ = some (.bool (ng R)):=by rw [hW]; exact (box_c0 (by simp))
 have hL11:W1.cell? ⟨w1.heap.size + 1,1,none⟩ = some (.slice p5 n5 c5):=by rw [hW]; exact (box_c1 (by simp))
 have hR3:Cel (w1.heap.size + 1) W1:=by rw [hW]; exact (Cel.ofAlloc (by simp))
 have qhB:Box w (w1.heap.size + 1) W1:=by rw [hW]; exact ⟨by (try simp) <;> omega,((hB.below.alloc (by (try simp) <;> omega) _).alloc (by (try simp) <;> omega) _)⟩
 clear hW hA00 hA01 hA10 hA11 hR0 hR1 hf4 hf5 hB
 have hA00:=qhA00
 have hA01:=qhA01
 have hA10:=qhA10
 have hA11:=qhA11
 have hR0:=qhR0
 have hR1:=qhR1
 have hf4:=qhf4
 have hf5:=qhf5
 have hB:=qhB
 clear qhA00 qhA01 qhA10 qhA11 qhR0 qhR1 qhf4 qhf5 qhB
 have hn5:n5 ≤ 1099511627776:=z_len hf5 HLR.out
 have hn4:n4 ≤ 1099511627776:=z_len hf4 HLQ.out
 go_wp2_with fail
 refine (zsign_any (b:=ng R) hf5.sl (by omega)).mono ?_
 rw [vLm,zv_ng,HSG.out]
 rintro e w2 ⟨rfl,hb2⟩
 replace hA00:=cOn hA00 hb2
 replace hA01:=cOn hA01 hb2
 replace hA10:=cOn hA10 hb2
 replace hA11:=cOn hA11 hb2
 replace hR0:=hR0.on hb2
 replace hR1:=hR1.on hb2
 replace hB:=hB.on hb2
 replace hf4:=hf4.below hb2 (Nat.le_refl _)
 replace hf5:=hf5.below hb2 (Nat.le_refl _)
 replace hL00:=cOn hL00 hb2
 replace hL01:=cOn hL01 hb2
 replace hL10:=cOn hL10 hb2
 replace hL11:=cOn hL11 hb2
 replace hR2:=hR2.on hb2
 replace hR3:=hR3.on hb2
 clear hb2
 have hlw:w.heap.size + 3 < W.heap.size:=by omega
 go_upto_region 3 with (fail)
 clear h1 hz hA00 hA01
 go_cut [] (fun wc => Eu2 w w1 b2 q m d Q (zv b (val xs) % zv b2 (val ys)) wc)
 case first =>
  go_region_with (first
   | (go_at_call 76; refine (zabs_any (hy.below hB.below.drew (Nat.le_refl _)) (by omega)).mono ?_; rintro e w3 ⟨p6,n6,c6,rfl,hf6,hb6⟩; have kL10:=cOn (W:=w2.drew) (by simpa using hL10) hb6; have kL11:=cOn (W:=w2.drew) (by simpa using hL11) hb6; have hn6:n6 ≤ 1099511627776:=(by rw [Int.natAbs_natCast,natAbs_zv] at hf6; have:=z_same hy hf6; omega))
   | (go_at_call 34; refine (zadd_of (z:=zv b (val xs) % zv b2 (val ys)) ((hf5.below (Below.refl _ _).drew (Nat.le_refl _)).below hb6 (Nat.le_refl _)).sl hf6.sl (by omega) (by omega) (by show _ = _; rw [vLm,vLm,zv_ng,zv_ng]; exact HM1.out)).mono ?_; rintro e w7 ⟨p7,n7,c7,rfl,hf7,hb7⟩; obtain ⟨⟨r0,hr0⟩,⟨r1,hr1⟩,hg0,hg1⟩:=(hR3.drew.on hb6).on hb7))
  all_goals
   have hl3:=hb6.size
   have hl2:=hB.drew.lt
   have hlt:=Nat.lt_of_lt_of_le hl2 hl3
   go_wp2_with fail
   go_meet
   case rel => exact ⟨p4,n4,c4,p7,n7,c7,cSt (cSt (cOn (cOn (W:=w2.drew) (by simpa using hA10) hb6) hb7) (by omega)) (by omega),cSt (cSt (cOn (cOn (W:=w2.drew) (by simpa using hA11) hb6) hb7) (by omega)) (by omega),cSt (cSt (cOn (cOn (W:=w2.drew) (by simpa using hL00) hb6) hb7) (by omega)) (by omega),cSt (cSt (cOn (cOn (W:=w2.drew) (by simpa using hL01) hb6) hb7) (by omega)) (by omega),cell_idx (cell_same hr0) (by decide),cell_same (cell_idx hr1 (by decide)),((((hR0.drew).on hb6).on hb7).set _ _ _).set _ _ _,((((hR1.drew).on hb6).on hb7).set _ _ _).set _ _ _,((((hR2.drew).on hb6).on hb7).set _ _ _).set _ _ _,((((hR3.drew).on hb6).on hb7).set _ _ _).set _ _ _,⟨_,((((hf4.below (Below.refl _ _).drew (Nat.le_refl _)).below hb6 (Nat.le_refl _)).below hb7 (Nat.le_refl _)).setHigh HBQ1 _ _).setHigh HBQ1 _ _,hlw⟩,⟨_,(hf7.setLow hlt _ _).setLow hlt _ _,hlt⟩,((((hB.drew).on hb6).on hb7).set (by omega) _ _).set (by omega) _ _⟩
 case rest =>
  clear HBQ HBQ1 hn4 hn5
  obtain ⟨p4,n4,c4,p7,n7,c7,hA10,hA11,hL00,hL01,hL10,hL11,hR0,hR1,hR2,hR3,⟨B4,hf4,hB4⟩,⟨B7,hf7,hB7⟩,hB⟩:=hcut
  have hn4:n4 ≤ 1099511627776:=z_len hf4 HLQ.out
  obtain ⟨sy,hsy⟩:∃ s,s = (zv b2 (val ys)).sign:=⟨_,rfl⟩
  have hsy2 : -1 ≤ sy ∧ sy ≤ 1:=by have:=sign_cases (zv b2 (val ys)); omega
  have HSY:=Lib.hid hsy
  clear hsy
  go_upto_region 4 with (fail)
  go_cut [] (fun wd => Eu2 w w1 b2 q m d (zv b (val xs) / zv b2 (val ys)) (zv b (val xs) % zv b2 (val ys)) wd)
  case first =>
   go_region_with (first
    | (go_at_call 67; refine (zsign_of (hy.below hB.below.drew (Nat.le_refl _)) (by omega) HSY).mono ?_; rintro e w3 ⟨rfl,hb6⟩; have kL00:=cOn (W:=wc.drew) (by simpa using hL00) hb6; have kL01:=cOn (W:=wc.drew) (by simpa using hL01) hb6)
    | (go_at_call 33; refine (zof_any (z:=sy) (by omega) (by omega)).mono ?_; rintro e w8 ⟨p8,n8,c8,rfl,hf8,hb8⟩; have mL00:=cOn (cOn (W:=wc.drew) (by simpa using hL00) hb6) hb8; have mL01:=cOn (cOn (W:=wc.drew) (by simpa using hL01) hb6) hb8; have hn8:n8 ≤ 1099511627776:=z_len hf8 (Nat.le_trans (ll_le (n:=sy.natAbs) (k:=1) (by omega)) (by omega)))
    | (go_at_call 133; refine (zsub_of (z:=zv b (val xs) / zv b2 (val ys)) (((hf4.below (Below.refl _ _).drew (Nat.le_refl _)).below hb6 (Nat.le_refl _)).below hb8 (Nat.le_refl _)).sl hf8.sl (by omega) (by omega) (by show _ = _; rw [vLm,vLm,zv_ng,zv_ng,HSY.out]; exact HQ1.out)).mono ?_; rintro e w9 ⟨p9,n9,c9,rfl,hf9,hb9⟩; obtain ⟨⟨r0,hr0⟩,⟨r1,hr1⟩,hg0,hg1⟩:=((hR2.drew.on hb6).on hb8).on hb9))
   all_goals
    have hl3:=hb6.size
    have hl8:=hb8.size
    have hl2:=hB.drew.lt
    have hlt:=Nat.lt_of_lt_of_le (Nat.lt_of_lt_of_le hl2 hl3) hl8
    have hlt0:w1.heap.size < w8.heap.size:=by omega
    have hlt1:w.heap.size + 3 < w8.heap.size:=by omega
    go_wp2_with fail
    go_meet
    case rel => exact ⟨p9,n9,c9,p7,n7,c7,cSt (cSt (cOn (cOn (cOn (W:=wc.drew) (by simpa using hA10) hb6) hb8) hb9) (by omega)) (by omega),cSt (cSt (cOn (cOn (cOn (W:=wc.drew) (by simpa using hA11) hb6) hb8) hb9) (by omega)) (by omega),cell_idx (cell_same hr0) (by decide),cell_same (cell_idx hr1 (by decide)),cSt (cSt (cOn (cOn (cOn (W:=wc.drew) (by simpa using hL10) hb6) hb8) hb9) (by omega)) (by omega),cSt (cSt (cOn (cOn (cOn (W:=wc.drew) (by simpa using hL11) hb6) hb8) hb9) (by omega)) (by omega),(((((hR0.drew).on hb6).on hb8).on hb9).set _ _ _).set _ _ _,(((((hR1.drew).on hb6).on hb8).on hb9).set _ _ _).set _ _ _,(((((hR2.drew).on hb6).on hb8).on hb9).set _ _ _).set _ _ _,(((((hR3.drew).on hb6).on hb8).on hb9).set _ _ _).set _ _ _,⟨_,(hf9.setLow hlt0 _ _).setLow hlt0 _ _,hlt1⟩,⟨_,(((((hf7.below (Below.refl _ _).drew (Nat.le_refl _)).below hb6 (Nat.le_refl _)).below hb8 (Nat.le_refl _)).below hb9 (Nat.le_refl _)).setLow (by omega) _ _).setLow (by omega) _ _,hB7⟩,(((((hB.drew).on hb6).on hb8).on hb9).set (by omega) _ _).set (by omega) _ _⟩
  case rest =>
   clear hn4 hB4 hf4 hf7 hB hA10 hA11 hL00 hL01 hL10 hL11 hR0 hR1 hR2 hR3 hB7
   obtain ⟨p4,n4,c4,p7,n7,c7,hA10,hA11,hL00,hL01,hL10,hL11,hR0,hR1,hR2,hR3,⟨B4,hf4,hB4⟩,⟨B7,hf7,hB7⟩,hB⟩:=hcut
   clear hA10 hA11 hR2 hR3
   obtain ⟨⟨u0,hu0⟩,⟨u1,hu1⟩,hug0,hug1⟩:=id hR0
   obtain ⟨⟨v0,hv0⟩,⟨v1,hv1⟩,hvg0,hvg1⟩:=id hR1
   go_wp2_with fail
   go_region_held3 (fun w' => w'.cell? ⟨w1.heap.size,0,none⟩ = some (.bool (ng (zv b (val xs) / zv b2 (val ys)))) ∧ w'.cell? ⟨w1.heap.size,1,none⟩ = some (.slice p4 n4 c4) ∧ w'.cell? ⟨w1.heap.size + 1,0,none⟩ = some (.bool (ng (zv b (val xs) % zv b2 (val ys)))) ∧ w'.cell? ⟨w1.heap.size + 1,1,none⟩ = some (.slice p7 n7 c7) ∧ Cel (w.heap.size + 2) w' ∧ Cel (w.heap.size + 3) w' ∧ Fr B4 w' p4 n4 c4 (lim (zv b (val xs) / zv b2 (val ys)).natAbs) ∧ Fr B7 w' p7 n7 c7 (lim (zv b (val xs) % zv b2 (val ys)).natAbs) ∧ Box w (w1.heap.size + 1) w')
    (first | exact ⟨by simpa using hL00,by simpa using hL01,by simpa using hL10,by simpa using hL11,hR0.drew,hR1.drew,hf4.below (Below.refl _ _).drew (Nat.le_refl _),hf7.below (Below.refl _ _).drew (Nat.le_refl _),hB.drew⟩ | exact ‹World.cell? _ _ = some _ ∧ World.cell? _ _ = some _ ∧ World.cell? _ _ = some _ ∧ World.cell? _ _ = some _ ∧ Cel _ _ ∧ Cel _ _ ∧ Fr _ _ _ _ _ _ ∧ Fr _ _ _ _ _ _ ∧ Box w _ _› | (have hS := ‹World.cell? _ _ = some _ ∧ World.cell? _ _ = some _ ∧ World.cell? _ _ = some _ ∧ World.cell? _ _ = some _ ∧ Cel _ _ ∧ Cel _ _ ∧ Fr _ _ _ _ _ _ ∧ Fr _ _ _ _ _ _ ∧ Box w _ _›; exact ⟨cSt (cSt hS.1 (by omega)) (by omega),cSt (cSt hS.2.1 (by omega)) (by omega),cSt (cSt hS.2.2.1 (by omega)) (by omega),cSt (cSt hS.2.2.2.1 (by omega)) (by omega),(hS.2.2.2.2.1.set _ _ _).set _ _ _,(hS.2.2.2.2.2.1.set _ _ _).set _ _ _,(hS.2.2.2.2.2.2.1.setLow (by omega) _ _).setLow (by omega) _ _,(hS.2.2.2.2.2.2.2.1.setLow (by omega) _ _).setLow (by omega) _ _,(hS.2.2.2.2.2.2.2.2.set (by omega) _ _).set (by omega) _ _⟩))
    (fail)
   obtain ⟨hL00,hL01,hL10,hL11,hR0,hR1,hf4,hf7,hB⟩ := ‹World.cell? _ _ = some _ ∧ World.cell? _ _ = some _ ∧ World.cell? _ _ = some _ ∧ World.cell? _ _ = some _ ∧ Cel _ _ ∧ Cel _ _ ∧ Fr _ _ _ _ _ _ ∧ Fr _ _ _ _ _ _ ∧ Box w _ _›
   go_wp2_with fail
   refine bodyPost_ret (v:=.tuple #[.agg #[.bool (ng (zv b (val xs) / zv b2 (val ys))),.slice p4 n4 c4],.agg #[.bool (ng (zv b (val xs) % zv b2 (val ys))),.slice p7 n7 c7],.int .i64 0]) (by simp [results,Tryz.results108,go_sem,hu0,hu1,hv0,hv1]) rfl ?_
   exact ⟨_,_,_,_,_,_,rfl,hf4.mono (by omega),hf7.mono (by omega),hB.below⟩
theorem zeuclid_any {p q:Option Addr} {n m c d:Nat} {b b2:Bool} {xs ys:List Nat} {w:World} (hx:Sl w p n c xs) (hy:Sl w q m d ys) (hn:n ≤ 1099511627776) (hm:m ≤ 1099511627776) (h0:val ys ≠ 0) :
  Calls Tryz.prog 108 #[.agg #[.bool b,.slice p n c],.agg #[.bool b2,.slice q m d]] w (RetZZE w ((zv b (val xs)) / (zv b2 (val ys))) ((zv b (val xs)) % (zv b2 (val ys))) 0):=by
 rcases Int.lt_or_le ((zv b (val xs)).tmod (zv b2 (val ys))) 0 with h | h
 ·exact zeuclid_low hx hy hn hm h0 h
 exact zeuclid_high hx hy hn hm h0 h
theorem zeuclid_of {Q R:Int} {p q:Option Addr} {n m c d:Nat} {b b2:Bool} {xs ys:List Nat} {w:World} (hx:Sl w p n c xs) (hy:Sl w q m d ys) (hn:n ≤ 1099511627776) (hm:m ≤ 1099511627776) (h0:val ys ≠ 0) (hQ:Hid (zv b (val xs) / zv b2 (val ys) = Q)) (hR:Hid (zv b (val xs) % zv b2 (val ys) = R)) :
  Calls Tryz.prog 108 #[.agg #[.bool b,.slice p n c],.agg #[.bool b2,.slice q m d]] w (RetZZE w Q R 0):=by
 rw [← hQ.out, ← hR.out]; exact zeuclid_any hx hy hn hm h0
end Go.Proofs.YtnlnibngpeempaaGreatDoor
