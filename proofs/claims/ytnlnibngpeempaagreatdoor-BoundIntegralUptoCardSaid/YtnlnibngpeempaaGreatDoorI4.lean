/-
  Contracts and lemmas, joined in one text.
-/
import Derived.Test.YtnlnibngpeempaaGreatDoorI3
import Derived.Test.YtnlnibngpeempaaGreatDoorB5
import Derived.Test.YtnlnibngpeempaaGreatDoorCB
set_option linter.unusedVariables false
set_option linter.unusedSimpArgs false
/-
  The document's Radius,Copy; tables of the law.
-/
set_option maxRecDepth 100000
set_option maxHeartbeats 16000000
namespace Go.Proofs.YtnlnibngpeempaaGreatDoor
open Go.RowKit
section
variable {w0 w:World} {R:List Res} {t:TypeId} {p pr:Option Addr} {n c cr i j g K:Nat} {T:List Fw} {L:List Fq} {e:Fq}
theorem Sep.fep (hS:Sep w0 R w) (k:Nat) (hk:R[k]? = some (.lst t 1 p n c (ftE T))) (hi:T[i]? = some ⟨pr,cr,L⟩) (hj:L[j]? = some e):∃ g,pr = some ⟨g,0,none⟩ ∧ (∀ l v,(fqC e)[l]? = some v → w.cell? ⟨g,0 + j * 4 + l,none⟩ = some v) ∧ Fr 0 w e.p e.n e.c (lim e.z.natAbs) ∧ Fr 0 w e.q e.m e.d (lim e.y.natAbs):=by
  obtain ⟨_,_,_,h3⟩:=lst_cell (show (Res.lst t 1 p n c (ftE T)).holds w from hS.get k hk) (show (ftE T)[i]? = some (fwE ⟨pr,cr,L⟩) by simp [ftE,hi]) (by decide)
  obtain ⟨g,h4,h5,h6⟩:=lst_cell (h3 _ List.mem_cons_self) (show (fqs L)[j]? = some (fqE e) by simp [fqs,hj]) (by decide)
  exact ⟨g,h4,h5,h6 _ List.mem_cons_self,h6 _ (List.mem_cons_of_mem _ List.mem_cons_self)⟩
theorem Sep.fec (hS:Sep w0 R w) (k:Nat) (hk:R[k]? = some (.lst t 1 p n c (ftE T))) (hi:T[i]? = some ⟨pr,cr,L⟩) (hj:L[j]? = some e) (hp:pr = some ⟨g,0,none⟩):∀ l v,(fqC e)[l]? = some v → w.cell? ⟨g,0 + j * 4 + l,none⟩ = some v:=by
  obtain ⟨g',h4,h5,_⟩:=hS.fep k hk hi hj
  rw [hp] at h4
  simp only [Option.some.injEq,Addr.mk.injEq,and_true] at h4
  subst h4; exact h5
theorem Sep.fez (hS:Sep w0 R w) (k:Nat) (hk:R[k]? = some (.lst t 1 p n c (ftE T))) (hi:T[i]? = some ⟨pr,cr,L⟩) (hj:L[j]? = some e) (hw:Wd e.z K):Zr w (ng e.z) e.p e.n e.c e.z K:=by
  obtain ⟨_,_,_,h6,_⟩:=hS.fep k hk hi hj
  exact h6.sl.zr hw
theorem Sep.fey (hS:Sep w0 R w) (k:Nat) (hk:R[k]? = some (.lst t 1 p n c (ftE T))) (hi:T[i]? = some ⟨pr,cr,L⟩) (hj:L[j]? = some e) (hw:Wd e.y K):Zr w (ng e.y) e.q e.m e.d e.y K:=by
  obtain ⟨_,_,_,_,h6⟩:=hS.fep k hk hi hj
  exact h6.sl.zr hw
end
theorem R_zero {d:Int} (hd:d ≠ 0):RN 0 d = 0 ∧ RD 0 d = 1:=R_uniq hd (by decide) (by decide) (by omega)
theorem rsum_at {U:List (List Int)} {i:Nat} {L:List Int} (h:U[i]? = some L):(rsums U).getD i 0 = facc absA 0 L L.length:=by
  unfold rsums; simp only [List.getD_eq_getElem?_getD,List.getElem?_map,h]; rfl
theorem mxA_next {U:List (List Int)} {i:Nat} {L:List Int} (h:U[i]? = some L):mxA (rsums U) (i + 1) = if mxA (rsums U) i < facc absA 0 L L.length then facc absA 0 L L.length else mxA (rsums U) i:=by
  have h1:=facc_abs_nn L L.length
  rw [mxA,rsum_at h]
  split <;> split <;> omega
theorem wtRadM {bd:Bool} {pd pt:Option Addr} {nd' cd nt ct:Nat} {D dd:Int} {T U:List (List Int)} {w:World} (hd:Zr w bd pd nd' cd D 1048576) (hT:TB w pt nt T 1048576) (hD:D ≠ 0) (hb:∀ L ∈ T,L.length ≤ 1000) (hE:rtT D T = rtT dd U) (hdd:0 < dd) (hWd:Wd dd 1048576) (hWU:TW' U 1048576) (hr:∀ L ∈ U,L.length = nt) (h24:nt ≤ 24) :
  Calls Tryz.prog 26 #[.agg #[.bool bd,.slice pd nd' cd,.slice pt nt ct]] w (Ret (Rrt (RN (mxA (rsums U) nt) dd) (RD (mxA (rsums U) nt) dd)) w):=by
 have hTl:=hT.1
 have hTb:=hT.2.1
 have hUl:U.length = nt:=by rw [← rtT_len dd, ← hE,rtT_len,hTl]
 have hdn:dd ≠ 0:=by omega
 have hWs:=rs_wdK hWU hr h24
 have hWm:∀ i,Wd (mxA (rsums U) i) 1048600:=mxA_wd hWs
 have hWR:∀ z,Wd (RD z dd) 1048600:=fun z => (Wd.rd hWd rfl).mono (by decide)
 have hS:=Sep.init w
 refine went Tryz.func26 rfl (n:=40) rfl rfl ?_
 refine wsr (wl rfl (obox [.bool bd,.slice pd nd' cd,.slice pt nt ct] hS rfl rfl (ev rfl rfl) rfl ?_))
 clear hS; intro g1 w2 hS
 refine wl rfl (oAl [.bool false,.slice none 0 0,.bool false,.slice none 0 0] hS rfl rfl Tryz.zeroValue43 rfl ?_)
 clear hS; intro g3 w4 hS
 refine wn2 ?_
 obtain ⟨z1,hz1⟩:∃ z:Int,Hid (0 = z):=⟨_,rfl⟩
 have hk1:Wd z1 2:=by rw [← hz1.out]; exact Wd.i64 (by omega) (by omega)
 obtain ⟨z2,hz2⟩:∃ z:Int,Hid (1 = z):=⟨_,rfl⟩
 have hk2:Wd z2 2:=by rw [← hz2.out]; exact Wd.i64 (by omega) (by omega)
 refine wcl Tryz.call48 ((show Calls _ _ _ _ (Ret (Rrt z1 z2) _) from by rw [← hz1.out, ← hz2.out]; exact wsof (by omega) (by omega))) (ar1 evc) hS ?_
 clear hS; rintro _ _ w5 ⟨p1,n1,c1,p2,n2,c2,rfl,rfl⟩ hS
 refine wl rfl (oAl [.bool false,.slice none 0 0,.bool false,.slice none 0 0] hS rfl rfl Tryz.zeroValue43 rfl ?_)
 clear hS; intro g6 w7 hS
 refine wl rfl (oSt _ _ Tryz.sizeOf43 hS 0 rfl rfl (ev rfl rfl) (ev rfl rfl) rfl rfl rfl rfl rfl rfl ?_)
 clear hS; intro w8 hS
 refine wn1 (wSq (wsr (wl rfl (oLd ⟨Tryz.isAgg31,Tryz.sizeOf31⟩ hS 4 rfl rfl (ev rfl rfl) rfl rfl rfl ?_))))
 refine wcl Tryz.call16 ((show Calls _ _ _ _ (Ret (FQt nt (rtT dd U)) _) from by rw [← hE]; exact wtRowsM (hd.at hS) (hT.at hS) hD (fun L hL => by have:=hb L hL; omega))) (ar1 (ev rfl rfl)) hS ?_
 clear hS; rintro _ _ w9 ⟨pr,cr,Vr,hVr,rfl,rfl⟩ hS
 refine wl rfl (olen rfl rfl rfl Tryz.runUnderlying47 (p:=pr) (k:=nt) (m:=cr) (ev rfl rfl) ?_)
 refine wmvc ?_
 refine wn1 (wBk ?_)
 obtain rfl:z1 = RN (mxA (rsums U) 0) dd:=by rw [← hz1.out]; exact (R_zero hdn).1.symm
 obtain rfl:z2 = RD (mxA (rsums U) 0) dd:=by rw [← hz2.out]; exact (R_zero hdn).2.symm
 refine wLp (σ := Nat) (fun i a9 w' => ∃ (fb:Nat → Value) (poa:Option Addr) (noa:Nat) (coa:Nat) (pob:Option Addr) (nob:Nat) (cob:Nat),a9 = act 40 (sets fb [(2,.pointer (some ⟨g3,0,none⟩)),(3,.pointer (some ⟨g6,0,none⟩)),(11,.slice pr nt cr),(12,.int .i64 (nt:Int)),(13,.int .i64 (i:Int))]) ∧ Sep w [.lst 39 1 pr nt cr (ftE Vr),.blk g6 [.bool (ng ((RN (mxA (rsums U) i) dd))),.slice poa noa coa,.bool (ng ((RD (mxA (rsums U) i) dd))),.slice pob nob cob] 43,.rowm poa noa coa (lim ((RN (mxA (rsums U) i) dd)).natAbs),.rowm pob nob cob (lim ((RD (mxA (rsums U) i) dd)).natAbs),.blk g3 [.bool false,.slice none 0 0,.bool false,.slice none 0 0] 43,.blk g1 [.bool bd,.slice pd nd' cd,.slice pt nt ct] 31] w' ∧ (i ≤ nt) ∧ (Wd ((RN (mxA (rsums U) i) dd)) 1048600) ∧ (Wd ((RD (mxA (rsums U) i) dd)) 1048600)) (fun i => nt - i) (0) ⟨_,_,_,_,_,_,_,aSs ⟨rfl,rfl,rfl,rfl,rfl,trivial⟩,hS,Nat.zero_le _,(hk1).mono (by omega),(hk2).mono (by omega)⟩ ?_
 clear hS; rintro i _ w10 ⟨fb,poa,noa,coa,pob,nob,cob,rfl,hS,hi,hkoa,hkob⟩
 refine wsr ?_
 by_cases hli:i < nt
 ·
  refine wbt rfl rfl rfl rfl (bLs (decide_eq_true (by omega))) ?_
  refine wn1 (wSq ?_)
  refine wT (ev rfl rfl) ?_
  refine wk2 ?_
  obtain ⟨gr,hgr⟩:=hS.lstPtr 0 rfl (by omega)
  obtain ⟨⟨py,cy,Ly⟩,hVy⟩:∃ r,Vr[i]? = some r:=⟨_,List.getElem?_eq_getElem (by rw [← ftv_len,hVr,rtT_len]; omega)⟩
  have hqy:=ftv_get hVr hVy
  obtain ⟨xu,hxu⟩:∃ r,U[i]? = some r:=⟨_,List.getElem?_eq_getElem (by omega)⟩
  have hLy:fqv Ly = xu.map fun x => (RN x dd,RD x dd):=by rw [rtT_get hxu] at hqy; exact (Option.some.inj hqy).symm
  have hxl:=hr xu (List.mem_of_getElem? hxu)
  have hyl:Ly.length = xu.length:=by rw [← fqv_len,hLy,List.length_map]
  have hWx:=hWU xu (List.mem_of_getElem? hxu)
  have hWj:∀ j,j ≤ xu.length → Wd (facc absA 0 xu j) 1048600:=fun j hj => (abs_wdK hWx j hj).mono (by omega)
  refine wl rfl (oIx (p:=pr) (g:=gr) (off:=0) (m:=nt) (k:=i) (j:=(0 + i * 1)) rfl rfl Tryz.runUnderlying47 Tryz.sizeOf39 (ev rfl rfl) hgr (ev rfl rfl) (by omega) rfl ?_)
  refine wl rfl (oLc ⟨Tryz.isAgg39,Tryz.sizeOf39⟩ rfl rfl (ev rfl rfl) (hS.ftc 0 rfl hVy hgr) ?_)
  refine wav rfl rfl ?_
  refine wn2 ?_
  obtain ⟨z3,hz3⟩:∃ z:Int,Hid (0 = z):=⟨_,rfl⟩
  have hk3:Wd z3 2:=by rw [← hz3.out]; exact Wd.i64 (by omega) (by omega)
  obtain ⟨z4,hz4⟩:∃ z:Int,Hid (1 = z):=⟨_,rfl⟩
  have hk4:Wd z4 2:=by rw [← hz4.out]; exact Wd.i64 (by omega) (by omega)
  refine wcl Tryz.call48 ((show Calls _ _ _ _ (Ret (Rrt z3 z4) _) from by rw [← hz3.out, ← hz4.out]; exact wsof (by omega) (by omega))) (ar1 evc) hS ?_
  clear hS; rintro _ _ w11 ⟨p3,n3,c3,p4,n4,c4,rfl,rfl⟩ hS
  refine wl rfl (oAl [.bool false,.slice none 0 0,.bool false,.slice none 0 0] hS rfl rfl Tryz.zeroValue43 rfl ?_)
  clear hS; intro g12 w13 hS
  refine wl rfl (oSt _ _ Tryz.sizeOf43 hS 0 rfl rfl (ev rfl rfl) (ev rfl rfl) rfl rfl rfl rfl rfl rfl ?_)
  clear hS; intro w14 hS
  refine wn1 (wSq (wsr (wmv rfl rfl ?_)))
  refine wl rfl (olen rfl rfl rfl Tryz.runUnderlying39 (p:=py) (k:=Ly.length) (m:=cy) (ev rfl rfl) ?_)
  refine wmvc ?_
  refine wn1 (wBk ?_)
  obtain rfl:z3 = RN (facc absA 0 xu 0) dd:=by rw [← hz3.out]; exact (R_zero hdn).1.symm
  obtain rfl:z4 = RD (facc absA 0 xu 0) dd:=by rw [← hz4.out]; exact (R_zero hdn).2.symm
  refine wLp (σ := Nat) (fun j a9 w' => ∃ (fb:Nat → Value) (psa:Option Addr) (nsa:Nat) (csa:Nat) (psb:Option Addr) (nsb:Nat) (csb:Nat),a9 = act 40 (sets fb [(2,.pointer (some ⟨g3,0,none⟩)),(3,.pointer (some ⟨g6,0,none⟩)),(6,.pointer (some ⟨g12,0,none⟩)),(11,.slice pr nt cr),(12,.int .i64 (nt:Int)),(13,.int .i64 (i:Int)),(18,.slice py Ly.length cy),(19,.int .i64 (Ly.length:Int)),(20,.int .i64 (j:Int))]) ∧ Sep w [.blk g12 [.bool (ng ((RN (facc absA 0 xu j) dd))),.slice psa nsa csa,.bool (ng ((RD (facc absA 0 xu j) dd))),.slice psb nsb csb] 43,.rowm psa nsa csa (lim ((RN (facc absA 0 xu j) dd)).natAbs),.rowm psb nsb csb (lim ((RD (facc absA 0 xu j) dd)).natAbs),.lst 39 1 pr nt cr (ftE Vr),.blk g6 [.bool (ng ((RN (mxA (rsums U) i) dd))),.slice poa noa coa,.bool (ng ((RD (mxA (rsums U) i) dd))),.slice pob nob cob] 43,.rowm poa noa coa (lim ((RN (mxA (rsums U) i) dd)).natAbs),.rowm pob nob cob (lim ((RD (mxA (rsums U) i) dd)).natAbs),.blk g3 [.bool false,.slice none 0 0,.bool false,.slice none 0 0] 43,.blk g1 [.bool bd,.slice pd nd' cd,.slice pt nt ct] 31] w' ∧ (j ≤ xu.length) ∧ (Wd ((RN (facc absA 0 xu j) dd)) 1048600) ∧ (Wd ((RD (facc absA 0 xu j) dd)) 1048600)) (fun j => xu.length - j) (0) ⟨_,_,_,_,_,_,_,aSs ⟨rfl,rfl,rfl,rfl,rfl,rfl,rfl,rfl,rfl,trivial⟩,hS,Nat.zero_le _,(hk3).mono (by omega),(hk4).mono (by omega)⟩ ?_
  clear hS; rintro j _ w15 ⟨fb,psa,nsa,csa,psb,nsb,csb,rfl,hS,hj,hksa,hksb⟩
  refine wsr ?_
  by_cases hlj:j < xu.length
  ·
   refine wbt rfl rfl rfl rfl (bLs (decide_eq_true (by omega))) ?_
   refine wn1 (wSq ?_)
   refine wT (ev rfl rfl) ?_
   refine wk2 ?_
   obtain ⟨⟨pe,ne,ce,qe,me,de,ze,ye⟩,hLe⟩:∃ e,Ly[j]? = some e:=⟨_,List.getElem?_eq_getElem (by omega)⟩
   obtain ⟨ge,hge,_,_⟩:=hS.fep 3 rfl hVy hLe
   obtain ⟨x,hx⟩:∃ x,xu[j]? = some x:=⟨_,List.getElem?_eq_getElem (by omega)⟩
   have hxe:(fqv Ly)[j]? = some (ze,ye):=by unfold fqv; rw [List.getElem?_map,hLe]; rfl
   rw [hLy,List.getElem?_map,hx] at hxe
   simp only [Option.map_some,Option.some.injEq,Prod.mk.injEq] at hxe
   obtain ⟨hze,hye⟩:=hxe
   subst hze
   subst hye
   have hwx:=hWx x (List.mem_of_getElem? hx)
   have hwz:Wd (RN x dd) 1048576:=Wd.rn hwx rfl
   have hwy:Wd (RD x dd) 1048576:=Wd.rd hWd rfl
   have hnx:RD x dd ≠ 0:=by have:=RD_pos (x:=x) hdn; omega
   have hns:RD (facc absA 0 xu j) dd ≠ 0:=by have:=RD_pos (x:=facc absA 0 xu j) hdn; omega
   have hsj:=facc_succ (g:=absA) (s:=0) hx
   refine wl rfl (oIx (p:=py) (g:=ge) (off:=0) (m:=Ly.length) (k:=j) (j:=(0 + j * 4)) rfl rfl Tryz.runUnderlying39 Tryz.sizeOf43 (ev rfl rfl) hge (ev rfl rfl) (by omega) rfl ?_)
   refine wl rfl (oloadA aggR rfl rfl (ev rfl rfl) (hS.fec 3 rfl hVy hLe hge) rfl ?_)
   refine wl rfl (oAl [.bool false,.slice none 0 0,.bool false,.slice none 0 0] hS rfl rfl Tryz.zeroValue43 rfl ?_)
   clear hS; intro g16 w17 hS
   refine wl rfl (oSt _ _ Tryz.sizeOf43 hS 0 rfl rfl (ev rfl rfl) (ev rfl rfl) rfl rfl rfl rfl rfl rfl ?_)
   clear hS; intro w18 hS
   refine wn1 (wSq (wsr (wl rfl (oLd aggR hS 0 rfl rfl (ev rfl rfl) rfl rfl rfl ?_))))
   obtain ⟨s5,hs5⟩:∃ z:Int,Hid (((RN x dd):Int).sign * ((RD x dd):Int).sign = z):=⟨_,rfl⟩
   refine wcl Tryz.call49 (wssign ((hS.fez 4 rfl hVy hLe hwz).mono (by omega)) ((hS.fey 4 rfl hVy hLe hwy).mono (by omega)) hnx hs5) (ar1 (ev rfl rfl)) hS ?_
   clear hS; rintro _ _ w19 ⟨rfl,rfl⟩ hS
   by_cases hneg:x < 0
   ·
    refine wbc rfl rfl (bLs (decide_eq_true (by have h9:=hs5.out; rw [← h9,Int.sign_eq_one_of_pos (RD_pos hdn),Int.mul_one]; exact Int.sign_neg_iff.2 ((RN_lt hdd).2 hneg)))) ?_
    refine wn1 ?_
    refine wT (ev rfl rfl) ?_
    refine wreg (wl rfl (oLd aggR hS 0 rfl rfl (ev rfl rfl) rfl rfl rfl ?_))
    obtain ⟨z6,hz6⟩:∃ z:Int,Hid (RN (-((RN x dd))) (((RD x dd))) = z):=⟨_,rfl⟩
    have hk6:Wd z6 1048576:=Wd.rn (Wd.neg hwz rfl) hz6
    obtain ⟨z7,hz7⟩:∃ z:Int,Hid (RD (-((RN x dd))) (((RD x dd))) = z):=⟨_,rfl⟩
    have hk7:Wd z7 1048576:=Wd.rd hwy hz7
    refine wcl Tryz.call50 (wsneg ((hS.fez 4 rfl hVy hLe hwz).mono (by omega)) ((hS.fey 4 rfl hVy hLe hwy).mono (by omega)) hnx hz6 hz7) (ar1 (ev rfl rfl)) hS ?_
    clear hS; rintro _ _ w20 ⟨p6,n6,c6,p7,n7,c7,rfl,rfl⟩ hS
    refine wl rfl (oSt _ _ Tryz.sizeOf43 hS 2 rfl rfl (ev rfl rfl) (ev rfl rfl) rfl rfl rfl rfl rfl rfl ?_)
    clear hS; intro w21 hS
    refine wn1 (wreg (wl rfl (oLd aggR hS 3 rfl rfl (ev rfl rfl) rfl rfl rfl ?_)))
    refine wl rfl (oLd aggR hS 2 rfl rfl (ev rfl rfl) rfl rfl rfl ?_)
    obtain ⟨hn1,hn2⟩:=R_neg (a:=x) hdn
    have en1:z6 = RN (-x) dd:=by rw [← hz6.out]; exact hn1
    have en2:z7 = RD (-x) dd:=by rw [← hz7.out]; exact hn2
    have hnn:z7 ≠ 0:=by rw [en2]; have:=RD_pos (x := -x) hdn; omega
    have hneg1:facc absA 0 xu (j + 1) = facc absA 0 xu j + -x:=by rw [hsj]; unfold absA; omega
    obtain ⟨z8,hz8⟩:∃ z:Int,Hid (RN (((RN (facc absA 0 xu j) dd)) * z7 + z6 * ((RD (facc absA 0 xu j) dd))) (((RD (facc absA 0 xu j) dd)) * z7) = z):=⟨_,rfl⟩
    have hk8:Wd z8 2097177:=Wd.rn (Wd.add (m:=2097177) (Wd.mul (m:=2097176) hksa hk7 rfl (by omega)) (Wd.mul (m:=2097176) hk6 hksb rfl (by omega)) rfl (by omega)) hz8
    obtain ⟨z9,hz9⟩:∃ z:Int,Hid (RD (((RN (facc absA 0 xu j) dd)) * z7 + z6 * ((RD (facc absA 0 xu j) dd))) (((RD (facc absA 0 xu j) dd)) * z7) = z):=⟨_,rfl⟩
    have hk9:Wd z9 2097176:=Wd.rd (Wd.mul (m:=2097176) hksb hk7 rfl (by omega)) hz9
    refine wcl Tryz.call64 (wsadd (((hS.slm 4 rfl).zr hksa).mono (by omega)) (((hS.slm 5 rfl).zr hksb).mono (by omega)) (((hS.slm 0 rfl).zr hk6).mono (by omega)) (((hS.slm 1 rfl).zr hk7).mono (by omega)) hns hnn hz8 hz9) (ar2 (ev rfl rfl) (ev rfl rfl)) hS ?_
    clear hS; rintro _ _ w22 ⟨p8,n8,c8,p9,n9,c9,rfl,rfl⟩ hS
    refine wl rfl (oSt _ _ Tryz.sizeOf43 hS 5 rfl rfl (ev rfl rfl) (ev rfl rfl) rfl rfl rfl rfl rfl rfl ?_)
    clear hS; intro w23 hS
    refine wnil (blkN (tNo (wreg ?_)))
    obtain ⟨hq1,hq2⟩:=R_sum (a:=facc absA 0 xu j) (b := -x) hdn
    obtain rfl:z8 = RN (facc absA 0 xu (j + 1)) dd:=by rw [← hz8.out,en1,en2,hneg1]; exact hq1
    obtain rfl:z9 = RD (facc absA 0 xu (j + 1)) dd:=by rw [← hz9.out,en1,en2,hneg1]; exact hq2
    refine wbc (z:=.int .i64 ((j + 1:Nat):Int)) rfl rfl (bAd (wI6 (by omega) (by omega))) ?_
    refine wmv rfl rfl ?_
    refine wn1 ?_
    exact ⟨(j + 1),⟨_,_,_,_,_,_,_,aSs ⟨rfl,rfl,rfl,rfl,rfl,rfl,rfl,rfl,rfl,trivial⟩,hS.pick [5,0,1,8,9,10,11,12,13] (by decide) rfl,by omega,(Wd.rn (hWj (j + 1) (by omega)) rfl),(hWR _)⟩,by omega⟩
   refine wbc rfl rfl (bLs (decide_eq_false (fun h => by have h9:=hs5.out; rw [← h9,Int.sign_eq_one_of_pos (RD_pos hdn),Int.mul_one] at h; exact hneg ((RN_lt hdd).1 (Int.sign_neg_iff.1 h))))) ?_
   refine wn1 ?_
   refine wF (ev rfl rfl) ?_
   refine wSk (tNo (wreg (wl rfl (oLd aggR hS 1 rfl rfl (ev rfl rfl) rfl rfl rfl ?_))))
   refine wl rfl (oLd aggR hS 0 rfl rfl (ev rfl rfl) rfl rfl rfl ?_)
   skip
   have hpos1:facc absA 0 xu (j + 1) = facc absA 0 xu j + x:=by rw [hsj]; unfold absA; omega
   obtain ⟨z6,hz6⟩:∃ z:Int,Hid (RN (((RN (facc absA 0 xu j) dd)) * ((RD x dd)) + ((RN x dd)) * ((RD (facc absA 0 xu j) dd))) (((RD (facc absA 0 xu j) dd)) * ((RD x dd))) = z):=⟨_,rfl⟩
   have hk6:Wd z6 2097177:=Wd.rn (Wd.add (m:=2097177) (Wd.mul (m:=2097176) hksa hwy rfl (by omega)) (Wd.mul (m:=2097176) hwz hksb rfl (by omega)) rfl (by omega)) hz6
   obtain ⟨z7,hz7⟩:∃ z:Int,Hid (RD (((RN (facc absA 0 xu j) dd)) * ((RD x dd)) + ((RN x dd)) * ((RD (facc absA 0 xu j) dd))) (((RD (facc absA 0 xu j) dd)) * ((RD x dd))) = z):=⟨_,rfl⟩
   have hk7:Wd z7 2097176:=Wd.rd (Wd.mul (m:=2097176) hksb hwy rfl (by omega)) hz7
   refine wcl Tryz.call64 (wsadd (((hS.slm 2 rfl).zr hksa).mono (by omega)) (((hS.slm 3 rfl).zr hksb).mono (by omega)) ((hS.fez 4 rfl hVy hLe hwz).mono (by omega)) ((hS.fey 4 rfl hVy hLe hwy).mono (by omega)) hns hnx hz6 hz7) (ar2 (ev rfl rfl) (ev rfl rfl)) hS ?_
   clear hS; rintro _ _ w20 ⟨p6,n6,c6,p7,n7,c7,rfl,rfl⟩ hS
   refine wl rfl (oSt _ _ Tryz.sizeOf43 hS 3 rfl rfl (ev rfl rfl) (ev rfl rfl) rfl rfl rfl rfl rfl rfl ?_)
   clear hS; intro w21 hS
   refine wnil (blkN (tNo (wreg ?_)))
   obtain ⟨hq1,hq2⟩:=R_sum (a:=facc absA 0 xu j) (b:=x) hdn
   obtain rfl:z6 = RN (facc absA 0 xu (j + 1)) dd:=by rw [← hz6.out,hpos1]; exact hq1
   obtain rfl:z7 = RD (facc absA 0 xu (j + 1)) dd:=by rw [← hz7.out,hpos1]; exact hq2
   refine wbc (z:=.int .i64 ((j + 1:Nat):Int)) rfl rfl (bAd (wI6 (by omega) (by omega))) ?_
   refine wmv rfl rfl ?_
   refine wn1 ?_
   exact ⟨(j + 1),⟨_,_,_,_,_,_,_,aSs ⟨rfl,rfl,rfl,rfl,rfl,rfl,rfl,rfl,rfl,trivial⟩,hS.pick [3,0,1,6,7,8,9,10,11] (by decide) rfl,by omega,(Wd.rn (hWj (j + 1) (by omega)) rfl),(hWR _)⟩,by omega⟩
  refine wbt rfl rfl rfl rfl (bLs (decide_eq_false (by omega))) ?_
  refine wn1 (wSq ?_)
  refine wF (ev rfl rfl) ?_
  refine wEx ?_
  refine tEx ?_
  refine tEx ?_
  refine blkE ?_
  refine tNo (wsr (wl rfl (oLd aggR hS 0 rfl rfl (ev rfl rfl) rfl rfl rfl ?_)))
  refine wl rfl (oLd aggR hS 4 rfl rfl (ev rfl rfl) rfl rfl rfl ?_)
  have hjl:j = xu.length:=by omega
  have hnS:RD (facc absA 0 xu j) dd ≠ 0:=by have:=RD_pos (x:=facc absA 0 xu j) hdn; omega
  have hnM:RD (mxA (rsums U) i) dd ≠ 0:=by have:=RD_pos (x:=mxA (rsums U) i) hdn; omega
  have hmx:=mxA_next hxu
  rw [← hjl] at hmx
  obtain ⟨s5,hs5⟩:∃ z:Int,Hid (cmpQ ((RN (facc absA 0 xu j) dd)) ((RD (facc absA 0 xu j) dd)) ((RN (mxA (rsums U) i) dd)) ((RD (mxA (rsums U) i) dd)) = z):=⟨_,rfl⟩
  refine wcl Tryz.call65 (wscmp (((hS.slm 1 rfl).zr hksa).mono (by omega)) (((hS.slm 2 rfl).zr hksb).mono (by omega)) (((hS.slm 5 rfl).zr hkoa).mono (by omega)) (((hS.slm 6 rfl).zr hkob).mono (by omega)) hnS hnM hs5) (ar2 (ev rfl rfl) (ev rfl rfl)) hS ?_
  clear hS; rintro _ _ w16 ⟨rfl,rfl⟩ hS
  by_cases hgt:mxA (rsums U) i < facc absA 0 xu j
  ·
   refine wbc rfl rfl (bin_gtr (decide_eq_true (by have h9:=hs5.out; rw [← h9]; exact (cmp_R hdd).2 hgt))) ?_
   refine wn1 ?_
   refine wT (ev rfl rfl) ?_
   refine wreg (wl rfl (oLd aggR hS 0 rfl rfl (ev rfl rfl) rfl rfl rfl ?_))
   refine wl rfl (oSt _ _ Tryz.sizeOf43 hS 4 rfl rfl (ev rfl rfl) (ev rfl rfl) rfl rfl rfl rfl rfl rfl ?_)
   clear hS; intro w17 hS
   refine wnil (blkN (tNo (wreg (wbc (z:=.int .i64 ((i + 1:Nat):Int)) rfl rfl (bAd (wI6 (by omega) (by omega))) ?_))))
   refine wmv rfl rfl ?_
   refine wn1 ?_
   rw [if_pos hgt] at hmx
   rw [← hmx] at hS
   exact ⟨(i + 1),⟨_,_,_,_,_,_,_,aSs ⟨rfl,rfl,rfl,rfl,rfl,trivial⟩,hS.pick [3,4,1,2,7,8] (by decide) rfl,by omega,(Wd.rn (hWm (i + 1)) rfl),(hWR _)⟩,by omega⟩
  refine wbc rfl rfl (bin_gtr (decide_eq_false (fun h => by have h9:=hs5.out; rw [← h9] at h; exact hgt ((cmp_R hdd).1 h)))) ?_
  refine wn1 ?_
  refine wF (ev rfl rfl) ?_
  refine wSk (blkN (tNo (wreg ?_)))
  skip
  refine wbc (z:=.int .i64 ((i + 1:Nat):Int)) rfl rfl (bAd (wI6 (by omega) (by omega))) ?_
  refine wmv rfl rfl ?_
  refine wn1 ?_
  rw [if_neg hgt] at hmx
  rw [← hmx] at hS
  exact ⟨(i + 1),⟨_,_,_,_,_,_,_,aSs ⟨rfl,rfl,rfl,rfl,rfl,trivial⟩,hS.pick [3,4,5,6,7,8] (by decide) rfl,by omega,(Wd.rn (hWm (i + 1)) rfl),(hWR _)⟩,by omega⟩
 refine wbt rfl rfl rfl rfl (bLs (decide_eq_false (by omega))) ?_
 refine wn1 (wSq ?_)
 refine wF (ev rfl rfl) ?_
 refine wEx ?_
 refine tEx ?_
 refine tEx ?_
 refine blkE ?_
 refine tNo (wsr (wl rfl (oLd aggR hS 1 rfl rfl (ev rfl rfl) rfl rfl rfl ?_)))
 refine wl rfl (oSt _ _ Tryz.sizeOf43 hS 4 rfl rfl (ev rfl rfl) (ev rfl rfl) rfl rfl rfl rfl rfl rfl ?_)
 clear hS; intro w11 hS
 refine wn1 ?_
 refine wLv ?_
 refine wr1 Tryz.results26 (tellC (cs:=[.bool (ng ((RN (mxA (rsums U) i) dd))),.slice poa noa coa,.bool (ng ((RD (mxA (rsums U) i) dd))),.slice pob nob cob]) aggR hS 4 rfl rfl rfl rfl) ?_
 have hin:i = nt:=by omega
 rw [hin] at hS
 exact ⟨_,_,by rw [hin],⟨_,_,_,_,_,_,rfl,rfl⟩,(hS.pick [2,3] (by decide) rfl).newA rfl⟩
open Go.RowKit
def CYt (b:Bool) (nd':Nat) (xd:List Nat) (n:Nat) (RT:List (List (Bool × List Nat))):Tell:=fun v r => ∃ (pd:Option Addr) (cd:Nat) (ps:Option Addr) (cs:Nat) (U:List Ur),URs U RT ∧ v = .agg #[.bool b,.slice pd nd' cd,.slice ps n cs] ∧ r = [.row pd nd' cd xd,.lst 32 1 ps n cs (uuE U)]
theorem wtCopyM {bd:Bool} {pd pt:Option Addr} {nd' cd nt ct:Nat} {xd:List Nat} {RT:List (List (Bool × List Nat))} {w:World} (hsd:Sl w pd nd' cd xd) (hnd:nd' ≤ 1048576) (hR:TRw w pt nt RT 1048576) :
  Calls Tryz.prog 17 #[.agg #[.bool bd,.slice pd nd' cd,.slice pt nt ct]] w (Ret (CYt bd nd' xd nt RT) w):=by
 have hRl:=hR.1
 have hRb:=hR.2.1
 obtain ⟨hb1,hb2⟩:=hR.bd
 have hS:=Sep.init w
 refine went Tryz.func17 rfl (n:=26) rfl rfl ?_
 refine wsr (wl rfl (obox [.bool bd,.slice pd nd' cd,.slice pt nt ct] hS rfl rfl (ev rfl rfl) rfl ?_))
 clear hS; intro g1 w2 hS
 refine wl rfl (oAl [.bool false,.slice none 0 0,.slice none 0 0] hS rfl rfl Tryz.zeroValue31 rfl ?_)
 clear hS; intro g3 w4 hS
 refine wn2 (wl rfl (oFA (g:=g1) (off:=0) 0 rfl rfl (ev rfl rfl) Tryz.runUnderlying31 rfl Tryz.sizeOf28 rfl ?_))
 refine wl rfl (oLd aggZ hS 1 rfl rfl (ev rfl rfl) rfl rfl rfl ?_)
 refine wcl Tryz.call55 (wqcopy (hsd.below hS.below (Nat.le_refl _)) (by omega)) (ar1 (ev rfl rfl)) hS ?_
 clear hS; rintro _ _ w5 ⟨pc1,cc1,rfl,rfl⟩ hS
 refine wl rfl (obuild (ps:=#[(0,.agg #[.bool bd,.slice pc1 nd' cc1])]) (v:=.agg #[.bool bd,.slice pc1 nd' cc1,.slice none 0 0]) rfl rfl (parts1 (ev rfl rfl)) (fun w => by simp [go_sem,Instr.build,Instr.fill]) ?_)
 refine wl rfl (oAl [.bool false,.slice none 0 0,.slice none 0 0] hS rfl rfl Tryz.zeroValue31 rfl ?_)
 clear hS; intro g6 w7 hS
 refine wl rfl (oSt _ _ Tryz.sizeOf31 hS 0 rfl rfl (ev rfl rfl) (ev rfl rfl) rfl rfl rfl rfl rfl rfl ?_)
 clear hS; intro w8 hS
 refine wn1 (wSq (wsr (wl rfl (oFA (g:=g1) (off:=0) 2 rfl rfl (ev rfl rfl) Tryz.runUnderlying31 rfl Tryz.sizeOf22 rfl ?_))))
 refine wl rfl (oL1 ⟨Tryz.isAgg22,Tryz.sizeOf22⟩ hS 3 rfl rfl (ev rfl rfl) rfl rfl ?_)
 refine wl rfl (olen rfl rfl rfl Tryz.runUnderlying22 (p:=pt) (k:=nt) (m:=ct) (ev rfl rfl) ?_)
 refine wmvc ?_
 refine wn1 (wBk ?_)
 replace hS:=hS.nilLst 32 1
 refine wLp (σ := Nat) (fun j a9 w' => ∃ (fb:Nat → Value) (U:List Ur) (pX:Option Addr) (cX:Nat),a9 = act 26 (sets fb [(2,.pointer (some ⟨g3,0,none⟩)),(3,.pointer (some ⟨g6,0,none⟩)),(11,.slice pt nt ct),(12,.int .i64 (nt:Int)),(13,.int .i64 (j:Int))]) ∧ Sep w [.lst 32 1 pX j cX (uuE U),.blk g6 [.bool bd,.slice pc1 nd' cc1,.slice pX j cX] 31,.row pc1 nd' cc1 xd,.blk g3 [.bool false,.slice none 0 0,.slice none 0 0] 31,.blk g1 [.bool bd,.slice pd nd' cd,.slice pt nt ct] 31] w' ∧ (j ≤ nt) ∧ (URs U (RT.take j))) (fun j => nt - j) (0) ⟨_,[],none,0,aSs ⟨rfl,rfl,rfl,rfl,rfl,trivial⟩,hS,Nat.zero_le _,⟨rfl,fun _ _ _ h => by simp at h⟩⟩ ?_
 clear hS; rintro j _ w9 ⟨fb,U,pX,cX,rfl,hS,hj,hU⟩
 refine wsr ?_
 by_cases hlj:j < nt
 ·
  obtain ⟨L,hL⟩:∃ L,RT[j]? = some L:=⟨_,List.getElem?_eq_getElem (by omega)⟩
  obtain ⟨bL,oL,qL,cL,hpL,hcL,hzL⟩:=hR.2.2 j L hL
  have hLb:=hb1 L (List.mem_of_getElem? hL)
  refine wbt rfl rfl rfl rfl (bLs (decide_eq_true (by omega))) ?_
  refine wn1 (wSq ?_)
  refine wT (ev rfl rfl) ?_
  refine wk2 (wl rfl (oIx (p:=pt) (g:=bL) (off:=oL) (m:=nt) (k:=j) (j:=(oL + j * 1)) rfl rfl Tryz.runUnderlying22 Tryz.sizeOf32 (ev rfl rfl) hpL (ev rfl rfl) (by omega) rfl ?_))
  refine wl rfl (oLc ⟨Tryz.isAgg32,Tryz.sizeOf32⟩ rfl rfl (ev rfl rfl) (hS.cellAt (hcL 0 _ rfl)) ?_)
  refine wav rfl rfl ?_
  refine wn1 ?_
  refine wSg 5 [17,18,19,20,21] [[],[0],[],[2],[3,2]] [[],[],[],[],[3]] [] [] (fun i9 => ([iSv (.pointer (some ⟨g6,2,none⟩)),iSv (.slice pX j cX),iSv (.slice qL L.length cL),fun _ => CLt L L.length,fun us => Slb [(vat (us.getD 0 undef) [])] 32 1]:List (List Value → Tell)).getD i9 (fun _ _ _ => False)) hNi (fun d _ _ _ _ h => (by cases d <;> exact h)) (by kernel_rfl) (by kernel_rfl) (by kernel_rfl) hS ?_ ?_
  ·
   refine stH rfl (fun ho _=>?_) ?_
   ·exact inNo rfl (oFA (g:=g6) (off:=0) 2 rfl rfl (ev rfl (ho 3 rfl)) Tryz.runUnderlying31 rfl Tryz.sizeOf22 rfl (nSm rfl isI))
   refine stT rfl (fun hT hS=>?_) ?_
   ·obtain ⟨hv0,hr0⟩:=hT 0 17 rfl rfl
    obtain hS:=hS.flat1 hr0
    exact inNo rfl (oL1 ⟨Tryz.isAgg22,Tryz.sizeOf22⟩ hS 1 rfl rfl (ev rfl hv0) rfl rfl (nSm rfl isI))
   refine stM rfl rfl rfl rfl rfl (fun _=>isI) ?_
   refine stT rfl (fun hT hS=>?_) ?_
   ·obtain ⟨hv2,hr2⟩:=hT 2 19 rfl rfl
    obtain hS:=hS.flat1 hr2
    exact .inl ⟨wNo rfl,oCl rfl rfl Tryz.call56 rfl (wqCopyAll ((hzL.mono (by omega)).at hS)) (ar1 (ev rfl hv2)) cNw⟩
   refine stC rfl (fun _ f' _ _ _ _ hT hS _=>?_) ?_
   ·obtain ⟨gC,esC,heC,hv3,hr3⟩:=(hT 3 20 rfl rfl:(CLt L L.length) _ _)
    obtain hS:=hS.flat1 hr3
    have hQ:([.slice (some ⟨gC,0,none⟩) L.length L.length]:List Value) = (fun (us:List Value) => ([(vat (us.getD 0 undef) [])]:List Value)) [f' 20]:=by show _ = ([(vat (f' 20) [])]:List Value); rw [hv3]; rfl
    exact .inl ⟨wNo rfl,obsliceN (ps:=#[(0,.slice (some ⟨gC,0,none⟩) L.length L.length)]) (z:=.slice none 0 0) [.slice (some ⟨gC,0,none⟩) L.length L.length] rfl rfl Tryz.runUnderlying22 Tryz.sizeOf32 Tryz.zeroValue32 (parts1 (ev (v:=.slice (some ⟨gC,0,none⟩) L.length L.length) rfl hv3)) rfl (by decide) (fill1_1s rfl rfl) ⟨_,_,rfl,⟨_,rfl,congrArg (fun l => [Res.blk _ l _]) hQ⟩,New.blk _ _ _⟩⟩
   exact sNi
  intro vs ρ w11 f' hf hT hS
  obtain ⟨hv0,hr0⟩:=hT 0 (by decide)
  obtain ⟨hv1,hr1⟩:=hT 1 (by decide)
  obtain ⟨hv2,hr2⟩:=hT 2 (by decide)
  obtain ⟨gC,esC,heC,hv3,hr3⟩:=(hT 3 (by decide):(CLt L L.length) _ _)
  obtain ⟨g10,hv4,hr4⟩:=(hT 4 (by decide):(fun (us:List Value) => Slb [(vat (us.getD 0 undef) [])] 32 1) [vs 3] _ _)
  replace hr4 : ρ 4 = [.blk g10 [.slice (some ⟨gC,0,none⟩) L.length L.length] 32]:=hr4.trans (by show ([.blk g10 [(vat (vs 3) [])] 32]:List Res) = _; rw [hv3]; rfl)
  simp only [pool,if_true,hr0,hr1,hr2,hr3,hr4,List.nil_append,List.cons_append,List.append_nil] at hS
  simp only [layf,hv0,hv1,hv2,hv3,hv4] at hf
  subst hf; clear hT hv0 hv1 hv2 hv3 hv4 hr0 hr1 hr2 hr3 hr4
  obtain hS:=(show Sep w [.lst 28 2 (some ⟨gC,0,none⟩) L.length L.length esC,.lst 32 1 pX j cX (uuE U),.blk g10 [.slice (some ⟨gC,0,none⟩) L.length L.length] 32,.blk g6 [.bool bd,.slice pc1 nd' cc1,.slice pX j cX] 31,.row pc1 nd' cc1 xd,.blk g3 [.bool false,.slice none 0 0,.slice none 0 0] 31,.blk g1 [.bool bd,.slice pd nd' cd,.slice pt nt ct] 31] w11 from hS.pick [1,2,0,3,4,5,6] (by decide) rfl)
  refine wLt 5 rfl (by kernel_rfl) (oappendL (p:=pX) (m:=j) (c:=cX) (g2:=g10) (c2:=1) (off:=0) [.slice (some ⟨gC,0,none⟩) L.length L.length] [.lst 28 2 (some ⟨gC,0,none⟩) L.length L.length esC] hS rfl rfl Tryz.underlying22 infoIRo rfl (by decide) (ev rfl rfl) (ev rfl rfl) (fun j v hj => by rw [Nat.zero_add]; exact (blk_cell (hS.blkAt 2 rfl) j).trans hj) rfl rfl rfl (by omega) (by omega) ?_)
  clear hS; intro p13 c14 w12 hS
  refine ⟨hNi,?_⟩
  refine wLt 6 rfl (by kernel_rfl) (oFA (g:=g6) (off:=0) 2 rfl rfl (ev rfl rfl) Tryz.runUnderlying31 rfl Tryz.sizeOf22 rfl ?_)
  refine ⟨hNi,?_⟩
  refine wLt 7 rfl (by kernel_rfl) (oSt _ _ Tryz.sizeOf22 hS 2 rfl rfl (ev rfl rfl) (ev rfl rfl) rfl rfl rfl rfl rfl rfl ?_)
  clear hS; intro w15 hS
  refine ⟨hNi,?_⟩
  refine wdone rfl ?_
  refine blkN (tNo (wreg ?_))
  rw [uu_snoc] at hS
  refine wbc (z:=.int .i64 ((j + 1:Nat):Int)) rfl rfl (bAd (wI6 (by omega) (by omega))) ?_
  refine wmv rfl rfl ?_
  refine wn1 ?_
  exact ⟨(j + 1),⟨_,_,_,_,aSs ⟨rfl,rfl,rfl,rfl,rfl,trivial⟩,hS.pick [0,2,3,4,5] (by decide) rfl,by omega,urs_snoc hU hL heC⟩,by omega⟩
 refine wbt rfl rfl rfl rfl (bLs (decide_eq_false (by omega))) ?_
 refine wn1 (wSq ?_)
 refine wF (ev rfl rfl) ?_
 refine wEx ?_
 refine tEx ?_
 refine tEx ?_
 refine blkE ?_
 refine tNo (wsr (wl rfl (oLd ⟨Tryz.isAgg31,Tryz.sizeOf31⟩ hS 1 rfl rfl (ev rfl rfl) rfl rfl rfl ?_)))
 refine wl rfl (oSt _ _ Tryz.sizeOf31 hS 3 rfl rfl (ev rfl rfl) (ev rfl rfl) rfl rfl rfl rfl rfl rfl ?_)
 clear hS; intro w10 hS
 refine wn1 ?_
 refine wLv ?_
 refine wr1 Tryz.results17 (tellC (cs:=[.bool bd,.slice pc1 nd' cc1,.slice pX j cX]) ⟨Tryz.isAgg31,Tryz.sizeOf31⟩ hS 3 rfl rfl rfl rfl) ?_
 have hjn:j = nt:=by omega
 rw [hjn] at hS
 exact ⟨_,_,by rw [hjn],⟨_,_,_,_,U,by rwa [List.take_of_length_le (by omega)] at hU,rfl,rfl⟩,(hS.pick [2,0] (by decide) rfl).newA rfl⟩
theorem wltables {ptA ptB:Option Addr} {nt ctA ctB:Nat} {TT:List (List Int)} {w:World} (hA:TRw w ptA nt (nrm TT) 1048576) (hC:TRw w ptB nt (nrm TT) 1048576) :
  Calls Tryz.prog 24 #[.slice ptA nt ctA,.slice ptB nt ctB] w (Ret (Is (.bool true)) w):=by
 have hTl:=hA.1
 have hTb:=hA.2.1
 have hS:=Sep.init w
 refine went Tryz.func24 rfl (n:=27) rfl rfl ?_
 refine wsr (wavc ?_)
 refine wn1 (wSq (wsr (wmv rfl rfl ?_)))
 refine wl rfl (olen rfl rfl rfl Tryz.runUnderlying22 (p:=ptA) (k:=nt) (m:=ctA) (ev rfl rfl) ?_)
 refine wmv rfl rfl ?_
 refine wl rfl (olen rfl rfl rfl Tryz.runUnderlying22 (p:=ptB) (k:=nt) (m:=ctB) (ev rfl rfl) ?_)
 refine wbt rfl rfl rfl rfl (bNe (neF rfl)) ?_
 refine wn1 ?_
 refine wF (ev rfl rfl) ?_
 refine wSk (tNo (wSq (wsr (wmv rfl rfl ?_))))
 refine wl rfl (olen rfl rfl rfl Tryz.runUnderlying22 (p:=ptA) (k:=nt) (m:=ctA) (ev rfl rfl) ?_)
 refine wmvc ?_
 refine wn1 (wBk ?_)
 refine wLp (σ := Nat) (fun i a9 w' => ∃ (fb:Nat → Value),a9 = act 27 (sets fb [(0,.slice ptA nt ctA),(1,.slice ptB nt ctB),(12,.int .i64 (nt:Int)),(13,.int .i64 (i:Int))]) ∧ Sep w [] w' ∧ (i ≤ nt)) (fun i => nt - i) (0) ⟨_,aSs ⟨rfl,rfl,rfl,rfl,trivial⟩,hS,Nat.zero_le _⟩ ?_
 clear hS; rintro i _ w1 ⟨fb,rfl,hS,hi⟩
 refine wsr ?_
 by_cases hli:i < nt
 ·
  refine wbt rfl rfl rfl rfl (bLs (decide_eq_true (by omega))) ?_
  refine wn1 (wSq ?_)
  refine wT (ev rfl rfl) ?_
  refine wk2 (wmv rfl rfl ?_)
  refine wav rfl rfl ?_
  refine wn1 (wSq ?_)
  obtain ⟨xr,hxr⟩:∃ r,(nrm TT)[i]? = some r:=⟨_,List.getElem?_eq_getElem (by omega)⟩
  obtain ⟨bA,oA,qA,kA,hpA,hcA,hsA⟩:=hA.2.2 i _ hxr
  obtain ⟨bB,oB,qB,kB,hpB,hcB,hsB⟩:=hC.2.2 i _ hxr
  refine wSg 10 [16,17,18,19,20,21,22,23,24,25] [[],[],[0,1],[2,0,1],[],[],[4,5],[6,4,5],[3,7,0,1,2,4,5,6],[8,0,1,2,3,4,5,6,7]] [] [] [] (fun i9 => ([iSv (.slice ptA nt ctA),iSv (.int .i64 (i:Int)),iSv (.pointer (some ⟨bA,(oA + i * 1),none⟩)),iSv (.slice qA xr.length kA),iSv (.slice ptB nt ctB),iSv (.int .i64 (i:Int)),iSv (.pointer (some ⟨bB,(oB + i * 1),none⟩)),iSv (.slice qB xr.length kB),iSv (.bool true),iSv (.bool false)]:List (List Value → Tell)).getD i9 (fun _ _ _ => False)) hNi (fun d _ _ _ _ h => (by cases d <;> exact h)) (by kernel_rfl) (by kernel_rfl) (by kernel_rfl) hS ?_ ?_
  ·
   refine stM rfl rfl rfl rfl rfl (fun _=>isI) ?_
   refine stM rfl rfl rfl rfl rfl (fun _=>isI) ?_
   refine stT rfl (fun hT hS=>?_) ?_
   ·obtain ⟨hv0,hr0⟩:=hT 0 16 rfl rfl
    obtain ⟨hv1,hr1⟩:=hT 1 17 rfl rfl
    obtain hS:=hS.flat2 hr0 hr1
    exact inNo rfl (oIx (p:=ptA) (g:=bA) (off:=oA) (m:=nt) (k:=i) (j:=(oA + i * 1)) rfl rfl Tryz.runUnderlying22 Tryz.sizeOf32 (ev rfl hv0) hpA (ev rfl hv1) (by omega) rfl (nSm rfl isI))
   refine stT rfl (fun hT hS=>?_) ?_
   ·obtain ⟨hv2,hr2⟩:=hT 2 18 rfl rfl
    obtain hS:=hS.flat1 hr2
    exact inNo rfl (oLc ⟨Tryz.isAgg32,Tryz.sizeOf32⟩ rfl rfl (ev rfl hv2) (hS.cellAt (hcA 0 _ rfl)) (nSm rfl isI))
   refine stM rfl rfl rfl rfl rfl (fun _=>isI) ?_
   refine stM rfl rfl rfl rfl rfl (fun _=>isI) ?_
   refine stT rfl (fun hT hS=>?_) ?_
   ·obtain ⟨hv4,hr4⟩:=hT 4 20 rfl rfl
    obtain ⟨hv5,hr5⟩:=hT 5 21 rfl rfl
    obtain hS:=hS.flat2 hr4 hr5
    exact inNo rfl (oIx (p:=ptB) (g:=bB) (off:=oB) (m:=nt) (k:=i) (j:=(oB + i * 1)) rfl rfl Tryz.runUnderlying22 Tryz.sizeOf32 (ev rfl hv4) hpB (ev rfl hv5) (by omega) rfl (nSm rfl isI))
   refine stT rfl (fun hT hS=>?_) ?_
   ·obtain ⟨hv6,hr6⟩:=hT 6 22 rfl rfl
    obtain hS:=hS.flat1 hr6
    exact inNo rfl (oLc ⟨Tryz.isAgg32,Tryz.sizeOf32⟩ rfl rfl (ev rfl hv6) (hS.cellAt (hcB 0 _ rfl)) (nSm rfl isI))
   refine stT rfl (fun hT hS=>?_) ?_
   ·obtain ⟨hv3,hr3⟩:=hT 3 19 rfl rfl
    obtain ⟨hv7,hr7⟩:=hT 7 23 rfl rfl
    obtain hS:=hS.flat2 hr3 hr7
    exact .inl ⟨wNo rfl,oCl rfl rfl Tryz.call30 rfl (wqSameAll ((hsA.at hS).mono (by decide)) ((hsB.at hS).mono (by decide))) (ar2 (ev rfl hv3) (ev rfl hv7)) cNw⟩
   refine stT rfl (fun hT hS=>?_) ?_
   ·obtain ⟨hv8,hr8⟩:=hT 8 24 rfl rfl
    obtain hS:=hS.flat1 hr8
    exact inNo rfl (onot rfl rfl (ev rfl hv8) (nSm rfl isI))
   exact sNi
  intro vs ρ w2 f' hf hT hS
  obtain ⟨hv0,hr0⟩:=hT 0 (by decide)
  obtain ⟨hv1,hr1⟩:=hT 1 (by decide)
  obtain ⟨hv2,hr2⟩:=hT 2 (by decide)
  obtain ⟨hv3,hr3⟩:=hT 3 (by decide)
  obtain ⟨hv4,hr4⟩:=hT 4 (by decide)
  obtain ⟨hv5,hr5⟩:=hT 5 (by decide)
  obtain ⟨hv6,hr6⟩:=hT 6 (by decide)
  obtain ⟨hv7,hr7⟩:=hT 7 (by decide)
  obtain ⟨hv8,hr8⟩:=hT 8 (by decide)
  obtain ⟨hv9,hr9⟩:=hT 9 (by decide)
  simp only [pool,if_true,hr0,hr1,hr2,hr3,hr4,hr5,hr6,hr7,hr8,hr9,List.nil_append,List.cons_append,List.append_nil] at hS
  simp only [layf,hv0,hv1,hv2,hv3,hv4,hv5,hv6,hv7,hv8,hv9] at hf
  subst hf; clear hT hv0 hv1 hv2 hv3 hv4 hv5 hv6 hv7 hv8 hv9 hr0 hr1 hr2 hr3 hr4 hr5 hr6 hr7 hr8 hr9
  refine wdone rfl ?_
  refine tNo ?_
  refine wF (ev rfl rfl) ?_
  refine wSk (blkN (tNo (wreg (wbc (z:=.int .i64 ((i + 1:Nat):Int)) rfl rfl (bAd (wI6 (by omega) (by omega))) ?_))))
  refine wmv rfl rfl ?_
  refine wn1 ?_
  exact ⟨(i + 1),⟨_,aSs ⟨rfl,rfl,rfl,rfl,trivial⟩,hS.pick [] (by decide) rfl,by omega⟩,by omega⟩
 refine wbt rfl rfl rfl rfl (bLs (decide_eq_false (by omega))) ?_
 refine wn1 (wSq ?_)
 refine wF (ev rfl rfl) ?_
 refine wEx ?_
 refine tEx ?_
 refine tEx ?_
 refine blkE ?_
 refine tNo (wsr (wavc ?_))
 refine wn1 ?_
 refine wLv ?_
 refine wr1 Tryz.results24 (tlT (v:=.bool true) rfl rfl) ?_
 exact ⟨_,_,rfl,isI,hS.new0⟩
theorem wlnothing {w:World} :
  Calls Tryz.prog 21 #[.agg #[.bool false,.slice none 0 0]] w (Ret (Is (.bool true)) w):=by
 have hS:=Sep.init w
 refine went Tryz.func21 rfl (n:=12) rfl rfl ?_
 refine wsr (wl rfl (obox [.bool false,.slice none 0 0] hS rfl rfl (ev rfl rfl) rfl ?_))
 clear hS; intro g1 w2 hS
 refine wavc ?_
 refine wn2 (wl rfl (oFA (g:=g1) (off:=0) 0 rfl rfl (ev rfl rfl) Tryz.runUnderlying28 rfl Tryz.sizeOf4 rfl ?_))
 refine wl rfl (oL1 oneB hS 0 rfl rfl (ev rfl rfl) rfl rfl ?_)
 refine wl rfl (onot rfl rfl (ev rfl rfl) ?_)
 refine wmv rfl rfl ?_
 refine wlOn (e:=6) rfl rfl rfl rfl (oFA (g:=g1) (off:=0) 1 rfl rfl (ev rfl rfl) Tryz.runUnderlying28 rfl Tryz.sizeOf26 rfl ?_)
 refine wlOn (e:=6) rfl rfl rfl rfl (oL1 oneN hS 0 rfl rfl (ev rfl rfl) rfl rfl ?_)
 refine wlOn (e:=6) rfl rfl rfl rfl (olen rfl rfl rfl Tryz.runUnderlying26 (p:=none) (k:=0) (m:=0) (ev rfl rfl) ?_)
 refine wlOn (e:=6) rfl rfl rfl rfl (obin rfl rfl (ev rfl rfl) evc (bEq (eqT rfl)) ?_)
 refine wl rfl (opick rfl rfl (ev rfl rfl) (ev rfl rfl) ?_)
 refine wav rfl rfl ?_
 refine wn1 ?_
 refine wLv ?_
 refine wr1 Tryz.results21 (tlT (v:=.bool true) rfl rfl) ?_
 exact ⟨_,_,rfl,isI,hS.new0⟩
end Go.Proofs.YtnlnibngpeempaaGreatDoor
