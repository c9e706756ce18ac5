/-
  Contracts and lemmas, joined in one text.
-/
import Derived.Test.YtnlnibngpeempaaGreatDoorV1
set_option linter.unusedVariables false
set_option linter.unusedSimpArgs false
/-
  The document's tables of whole fractions: Trace,Scale,Add.
-/
set_option maxRecDepth 100000
set_option maxHeartbeats 16000000
namespace Go.Proofs.YtnlnibngpeempaaGreatDoor
open Go.RowKit
theorem wtTrace {n:Nat} {F:Nat → Nat → Int} {w:World} {bd:Bool} {pd pt:Option Addr} {nd cd ct:Nat} (hd:Zr w bd pd nd cd 1 2) (hM1:TB w pt n (tbl n n F) 2097408) (h0:n ≠ 0) (hn:n ≤ 1000) (hF:∀ i k,i < n → k < n → Wd (F i k) 2097408) (hW:∀ i,i ≤ n → Wd (su i fun k => F k k) 2097408) :
  Calls Tryz.prog 88 #[.agg #[.bool bd,.slice pd nd cd,.slice pt n ct]] w (Ret (Rrt (su n fun k => F k k) 1) w):=by
 have hS:=Sep.init w
 refine went Tryz.func88 rfl (n:=23) rfl rfl ?_
 refine wsr (wl rfl (obox [.bool bd,.slice pd nd cd,.slice pt n ct] hS rfl rfl (ev rfl rfl) rfl ?_))
 clear hS; intro g1 w2 hS
 refine wl rfl (oAl [.bool false,.slice none 0 0,.bool false,.slice none 0 0] hS rfl rfl Tryz.zeroValue43 rfl ?_)
 clear hS; intro g3 w4 hS
 refine wn2 ?_
 obtain ⟨z1,hz1⟩:∃ z:Int,Hid (0 = z):=⟨_,rfl⟩
 have hk1:Wd z1 2:=by rw [← hz1.out]; exact Wd.i64 (by omega) (by omega)
 have hk2:Wd 1 2:=wd1
 refine wcl Tryz.call48 ((show Calls _ _ _ _ (Ret (Rrt z1 1) _) from by rw [← hz1.out]; exact wsof (by omega) (by omega))) (ar1 evc) hS ?_
 clear hS; rintro _ _ w5 ⟨p1,n1,c1,p2,n2,c2,rfl,rfl⟩ hS
 refine wl rfl (oAl [.bool false,.slice none 0 0,.bool false,.slice none 0 0] hS rfl rfl Tryz.zeroValue43 rfl ?_)
 clear hS; intro g6 w7 hS
 refine wl rfl (oSt _ _ Tryz.sizeOf43 hS 0 rfl rfl (ev rfl rfl) (ev rfl rfl) rfl rfl rfl rfl rfl rfl ?_)
 clear hS; intro w8 hS
 refine wn1 (wSq (wsr (wl rfl (oLd ⟨Tryz.isAgg31,Tryz.sizeOf31⟩ hS 4 rfl rfl (ev rfl rfl) rfl rfl rfl ?_))))
 refine wcl Tryz.call16 (wtRows (hd.at hS) (hM1.atQ hS) (by omega) (fun L hL => by rw [(tbl_row n n F) L hL]; omega)) (ar1 (ev rfl rfl)) hS ?_
 clear hS; rintro _ _ w9 ⟨pX,cX,TX,hTX,rfl,rfl⟩ hS
 refine wl rfl (olen rfl rfl rfl Tryz.runUnderlying47 (p:=pX) (k:=n) (m:=cX) (ev rfl rfl) ?_)
 refine wmvc ?_
 refine wn1 (wBk ?_)
 have hlX:TX.length = n:=by rw [iq_tl hTX,tbl_len]
 refine wLp (σ := Nat) (fun i a9 w' => ∃ (fb:Nat → Value) (s:Int) (ps:Option Addr) (ns:Nat) (cs:Nat) (po:Option Addr) (no:Nat) (co:Nat),a9 = act 23 (sets fb [(2,.pointer (some ⟨g3,0,none⟩)),(3,.pointer (some ⟨g6,0,none⟩)),(8,.slice pX n cX),(9,.int .i64 (n:Int)),(10,.int .i64 (i:Int))]) ∧ Sep w [.lst 39 1 pX n cX (itE TX),.blk g6 [.bool (ng s),.slice ps ns cs,.bool (ng ((1:Int))),.slice po no co] 43,.rowm ps ns cs (lim s.natAbs),.rowm po no co (lim ((1:Int)).natAbs),.blk g3 [.bool false,.slice none 0 0,.bool false,.slice none 0 0] 43,.blk g1 [.bool bd,.slice pd nd cd,.slice pt n ct] 31] w' ∧ (i ≤ n) ∧ (s = su i fun k => F k k) ∧ (Wd s 2097408) ∧ (Wd ((1:Int)) 2)) (fun i => n - i) (0) ⟨_,z1,_,_,_,_,_,_,aSs ⟨rfl,rfl,rfl,rfl,rfl,trivial⟩,hS,Nat.zero_le _,hz1.out.symm,(hk1).mono (by omega),(hk2).mono (by omega)⟩ ?_
 clear hS; rintro i _ w10 ⟨fb,s,ps,ns,cs,po,no,co,rfl,hS,hi,hs,hks,hko⟩
 refine wsr ?_
 by_cases hli:i < n
 ·
  obtain ⟨gt11,hgt11⟩:=hS.lstPtr 0 rfl (by omega)
  obtain ⟨⟨pr,cr,Lr⟩,hTr⟩:∃ r,(TX)[i]? = some r:=⟨_,List.getElem?_eq_getElem (by omega)⟩
  have hlr:Lr.length = n:=iq_len hTX (tbl_row n n F) hTr
  obtain ⟨gr,hgr⟩:=hS.irp 0 rfl hTr (by omega)
  obtain ⟨⟨px,nx,cx,qx,mx,dx,zx⟩,hLx⟩:∃ e,Lr[i]? = some e:=⟨_,List.getElem?_eq_getElem (by omega)⟩
  have hwx:Wd zx 2097408:=by have h9:=(iq_el hTX hTr hLx).trans (tbl_el (by omega) (by omega)); have h8:=hF i i (by omega) (by omega); rw [← h9] at h8; exact h8
  have hzx:zx = _:=(iq_el hTX hTr hLx).trans (tbl_el (by omega) (by omega))
  refine wbt rfl rfl rfl rfl (bLs (decide_eq_true (by omega))) ?_
  refine wn1 (wSq ?_)
  refine wT (ev rfl rfl) ?_
  refine wk2 (wmv rfl rfl ?_)
  refine wl rfl (oIx (p:=pX) (g:=gt11) (off:=0) (m:=n) (k:=i) (j:=(0 + i * 1)) rfl rfl Tryz.runUnderlying47 Tryz.sizeOf39 (ev rfl rfl) hgt11 (ev rfl rfl) (by omega) rfl ?_)
  refine wl rfl (oLc ⟨Tryz.isAgg39,Tryz.sizeOf39⟩ rfl rfl (ev rfl rfl) (hS.irc 0 rfl hTr hgt11) ?_)
  refine wav rfl rfl ?_
  refine wav rfl rfl ?_
  refine wn1 ?_
  obtain ⟨z3,hz3⟩:∃ z:Int,Hid (s + zx = z):=⟨_,rfl⟩
  have hk3:Wd z3 2097408:=by rw [← hz3.out,hs,hzx]; exact hW (i + 1) (by omega)
  have hk4:Wd 1 2:=wd1
  refine wSg 6 [15,16,17,18,19,20] [[],[],[],[1,2],[3,1,2],[0,4,1,2,3]] [] [] [] (fun i9 => ([iSv (.agg #[.bool (ng s),.slice ps ns cs,.bool (ng ((1:Int))),.slice po no co]),iSv (.slice pr Lr.length cr),iSv (.int .i64 (i:Int)),iSv (.pointer (some ⟨gr,(0 + i * 4),none⟩)),iSv (.agg #[.bool (ng zx),.slice px nx cx,.bool (ng 1),.slice qx mx dx]),fun _ => Rrt z3 1]:List (List Value → Tell)).getD i9 (fun _ _ _ => False)) hNi (fun d _ _ _ _ h => (by cases d <;> exact h)) (by kernel_rfl) (by kernel_rfl) (by kernel_rfl) hS ?_ ?_
  ·
   refine stH rfl (fun ho hS=>?_) ?_
   ·exact inNo rfl (oLd aggR hS 1 rfl rfl (ev rfl (ho 3 rfl)) rfl rfl rfl (nSm rfl isI))
   refine stM rfl rfl rfl rfl rfl (fun _=>isI) ?_
   refine stM rfl rfl rfl rfl rfl (fun _=>isI) ?_
   refine stT rfl (fun hT hS=>?_) ?_
   ·obtain ⟨hv1,hr1⟩:=hT 1 16 rfl rfl
    obtain ⟨hv2,hr2⟩:=hT 2 17 rfl rfl
    obtain hS:=hS.flat2 hr1 hr2
    exact inNo rfl (oIx (p:=pr) (g:=gr) (off:=0) (m:=Lr.length) (k:=i) (j:=(0 + i * 4)) rfl rfl Tryz.runUnderlying39 Tryz.sizeOf43 (ev rfl hv1) hgr (ev rfl hv2) (by omega) rfl (nSm rfl isI))
   refine stT rfl (fun hT hS=>?_) ?_
   ·obtain ⟨hv3,hr3⟩:=hT 3 18 rfl rfl
    obtain hS:=hS.flat1 hr3
    exact inNo rfl (oloadA aggR rfl rfl (ev rfl hv3) (hS.iec 0 rfl hTr hLx hgr) rfl (nSm rfl isI))
   refine stT rfl (fun hT hS=>?_) ?_
   ·obtain ⟨hv0,hr0⟩:=hT 0 15 rfl rfl
    obtain ⟨hv4,hr4⟩:=hT 4 19 rfl rfl
    obtain hS:=hS.flat2 hr0 hr4
    exact .inl ⟨wNo rfl,oCl rfl rfl Tryz.call64 rfl ((show Calls _ _ _ _ (Ret (Rrt z3 1) _) from by rw [← hz3.out]; exact wiadd (((hS.slm 2 rfl).zr hks).mono (by omega)) (((hS.slm 3 rfl).zr hko).mono (by omega)) ((hS.iez 0 rfl hTr hLx hwx).mono (by omega)) ((hS.ied 0 rfl hTr hLx).mono (by omega)))) (ar2 (ev rfl hv0) (ev rfl hv4)) cNw⟩
   exact sNi
  intro vs ρ w12 f' hf hT hS
  obtain ⟨hv0,hr0⟩:=hT 0 (by decide)
  obtain ⟨hv1,hr1⟩:=hT 1 (by decide)
  obtain ⟨hv2,hr2⟩:=hT 2 (by decide)
  obtain ⟨hv3,hr3⟩:=hT 3 (by decide)
  obtain ⟨hv4,hr4⟩:=hT 4 (by decide)
  obtain ⟨p3,n3,c3,p4,n4,c4,hv5,hr5⟩:=(hT 5 (by decide):(Rrt z3 1) _ _)
  simp only [pool,if_true,hr0,hr1,hr2,hr3,hr4,hr5,List.nil_append,List.cons_append,List.append_nil] at hS
  simp only [layf,hv0,hv1,hv2,hv3,hv4,hv5] at hf
  subst hf; clear hT hv0 hv1 hv2 hv3 hv4 hv5 hr0 hr1 hr2 hr3 hr4 hr5
  refine wLt 6 rfl (by kernel_rfl) (oSt _ _ Tryz.sizeOf43 hS 3 rfl rfl (ev rfl rfl) (ev rfl rfl) rfl rfl rfl rfl rfl rfl ?_)
  clear hS; intro w13 hS
  refine ⟨hNi,?_⟩
  refine wdone rfl ?_
  refine blkN (tNo (wreg (wbc (z:=.int .i64 ((i + 1:Nat):Int)) rfl rfl (bAd (wI6 (by omega) (by omega))) ?_)))
  refine wmv rfl rfl ?_
  refine wn1 ?_
  exact ⟨(i + 1),⟨_,z3,_,_,_,_,_,_,aSs ⟨rfl,rfl,rfl,rfl,rfl,trivial⟩,hS.pick [2,3,0,1,6,7] (by decide) rfl,by omega,by rw [← hz3.out,hs,hzx]; rfl,(hk3).mono (by omega),(hk4).mono (by omega)⟩,by omega⟩
 refine wbt rfl rfl rfl rfl (bLs (decide_eq_false (by omega))) ?_
 refine wn1 (wSq ?_)
 refine wF (ev rfl rfl) ?_
 refine wEx ?_
 refine tEx ?_
 refine tEx ?_
 refine blkE ?_
 refine tNo (wsr (wl rfl (oLd aggR hS 1 rfl rfl (ev rfl rfl) rfl rfl rfl ?_)))
 refine wl rfl (oSt _ _ Tryz.sizeOf43 hS 4 rfl rfl (ev rfl rfl) (ev rfl rfl) rfl rfl rfl rfl rfl rfl ?_)
 clear hS; intro w11 hS
 refine wn1 ?_
 refine wLv ?_
 refine wr1 Tryz.results88 (tellC (cs:=[.bool (ng s),.slice ps ns cs,.bool (ng ((1:Int))),.slice po no co]) aggR hS 4 rfl rfl rfl rfl) ?_
 have hin:i = n:=by omega
 obtain rfl:s = su n fun k => F k k:=by rw [hs,hin]
 exact ⟨_,_,rfl,⟨_,_,_,_,_,_,rfl,rfl⟩,hS.newM [2,3] (by decide) rfl rfl⟩
theorem wtScale {n:Nat} {F:Nat → Nat → Int} {zs:Int} {bu bo:Bool} {pu qo:Option Addr} {nu cu mo dd:Nat} {w:World} {bd:Bool} {pd pt:Option Addr} {nd cd ct:Nat} (hd:Zr w bd pd nd cd 1 2) (hM1:TB w pt n (tbl n n F) 2097408) (hsu:Zr w bu pu nu cu zs 2097408) (hso:Zr w bo qo mo dd 1 2) (h0:n ≠ 0) (hn:n ≤ 1000) (hF:∀ i k,i < n → k < n → Wd (F i k) 2097408) (hR:∀ i k,i < n → k < n → Wd (F i k * zs) 2097408) :
  Calls Tryz.prog 90 #[.agg #[.bool bd,.slice pd nd cd,.slice pt n ct],.agg #[.bool bu,.slice pu nu cu,.bool bo,.slice qo mo dd]] w (Ret (MTt n (tbl n n (fun i k => F i k * zs)) 2097408) w):=by
 have hS:=Sep.init w
 refine went Tryz.func90 rfl (n:=42) rfl rfl ?_
 refine wsr (wl rfl (obox [.bool bd,.slice pd nd cd,.slice pt n ct] hS rfl rfl (ev rfl rfl) rfl ?_))
 clear hS; intro g1 w2 hS
 refine wl rfl (obox [.bool bu,.slice pu nu cu,.bool bo,.slice qo mo dd] hS rfl rfl (ev rfl rfl) rfl ?_)
 clear hS; intro g3 w4 hS
 refine wl rfl (oAl [.bool false,.slice none 0 0,.slice none 0 0] hS rfl rfl Tryz.zeroValue31 rfl ?_)
 clear hS; intro g5 w6 hS
 refine wn2 (wl rfl (oLd ⟨Tryz.isAgg31,Tryz.sizeOf31⟩ hS 2 rfl rfl (ev rfl rfl) rfl rfl rfl ?_))
 refine wcl Tryz.call16 (wtRows (hd.at hS) (hM1.atQ hS) (by omega) (fun L hL => by rw [(tbl_row n n F) L hL]; omega)) (ar1 (ev rfl rfl)) hS ?_
 clear hS; rintro _ _ w7 ⟨pX,cX,TX,hTX,rfl,rfl⟩ hS
 refine wav rfl rfl ?_
 refine wn1 (wSq (wsr (wmv rfl rfl ?_)))
 refine wl rfl (olen rfl rfl rfl Tryz.runUnderlying47 (p:=pX) (k:=n) (m:=cX) (ev rfl rfl) ?_)
 refine wmvc ?_
 refine wn1 (wBk ?_)
 have hlX:TX.length = n:=by rw [iq_tl hTX,tbl_len]
 refine wLp (σ := Nat) (fun i a9 w' => ∃ (fb:Nat → Value) (U:List Ir),a9 = act 42 (sets fb [(3,.pointer (some ⟨g3,0,none⟩)),(4,.pointer (some ⟨g5,0,none⟩)),(5,.slice pX n cX),(11,.int .i64 (n:Int)),(12,.int .i64 (i:Int))]) ∧ Sep w [.lst 39 1 pX n cX (itE U),.blk g5 [.bool false,.slice none 0 0,.slice none 0 0] 31,.blk g3 [.bool bu,.slice pu nu cu,.bool bo,.slice qo mo dd] 43,.blk g1 [.bool bd,.slice pd nd cd,.slice pt n ct] 31] w' ∧ (i ≤ n) ∧ (Fil (itv U) n n i 0 (fun i k => F i k * zs) F)) (fun i => n - i) (0) ⟨_,TX,aSs ⟨rfl,rfl,rfl,rfl,rfl,trivial⟩,hS,Nat.zero_le _,Fil.start hTX⟩ ?_
 clear hS; rintro i _ w8 ⟨fb,U,rfl,hS,hi,hV⟩
 refine wsr ?_
 by_cases hli:i < n
 ·
  have hlU:U.length = n:=by rw [← itv_len]; exact hV.len
  obtain ⟨gt9,hgt9⟩:=hS.lstPtr 0 rfl (by omega)
  obtain ⟨⟨pr,cr,Lr⟩,hTr⟩:∃ r,(U)[i]? = some r:=⟨_,List.getElem?_eq_getElem (by omega)⟩
  have hlr:Lr.length = n:=iq_len (rfl:itv U = itv U) hV.row hTr
  obtain ⟨gr,hgr⟩:=hS.irp 0 rfl hTr (by omega)
  refine wbt rfl rfl rfl rfl (bLs (decide_eq_true (by omega))) ?_
  refine wn1 (wSq ?_)
  refine wT (ev rfl rfl) ?_
  refine wk2 (wmv rfl rfl ?_)
  refine wav rfl rfl ?_
  refine wn2 (wmv rfl rfl ?_)
  refine wmv rfl rfl ?_
  refine wl rfl (oIx (p:=pX) (g:=gt9) (off:=0) (m:=n) (k:=i) (j:=(0 + i * 1)) rfl rfl Tryz.runUnderlying47 Tryz.sizeOf39 (ev rfl rfl) hgt9 (ev rfl rfl) (by omega) rfl ?_)
  refine wl rfl (oLc ⟨Tryz.isAgg39,Tryz.sizeOf39⟩ rfl rfl (ev rfl rfl) (hS.irc 0 rfl hTr hgt9) ?_)
  refine wl rfl (olen rfl rfl rfl Tryz.runUnderlying39 (p:=pr) (k:=Lr.length) (m:=cr) (ev rfl rfl) ?_)
  refine wmvc ?_
  refine wn1 (wBk ?_)
  refine wLp (σ := Nat) (fun k a9 w' => ∃ (fb:Nat → Value) (V:List Ir),a9 = act 42 (sets fb [(3,.pointer (some ⟨g3,0,none⟩)),(4,.pointer (some ⟨g5,0,none⟩)),(5,.slice pX n cX),(6,.int .i64 (i:Int)),(11,.int .i64 (n:Int)),(12,.int .i64 (i:Int)),(19,.int .i64 (Lr.length:Int)),(20,.int .i64 (k:Int))]) ∧ Sep w [.lst 39 1 pX n cX (itE V),.blk g5 [.bool false,.slice none 0 0,.slice none 0 0] 31,.blk g3 [.bool bu,.slice pu nu cu,.bool bo,.slice qo mo dd] 43,.blk g1 [.bool bd,.slice pd nd cd,.slice pt n ct] 31] w' ∧ (k ≤ Lr.length) ∧ (Fil (itv V) n n i k (fun i k => F i k * zs) F)) (fun k => Lr.length - k) (0) ⟨_,U,aSs ⟨rfl,rfl,rfl,rfl,rfl,rfl,rfl,rfl,trivial⟩,hS,Nat.zero_le _,hV⟩ ?_
  clear hS; rintro k _ w10 ⟨fb,V,rfl,hS,hk,hV2⟩
  refine wsr ?_
  by_cases hlk:k < Lr.length
  ·
   have hlV:V.length = n:=by rw [← itv_len]; exact hV2.len
   obtain ⟨gt11,hgt11⟩:=hS.lstPtr 0 rfl (by omega)
   obtain ⟨⟨pq,cq,Lq⟩,hTq⟩:∃ r,(V)[i]? = some r:=⟨_,List.getElem?_eq_getElem (by omega)⟩
   have hlq:Lq.length = n:=iq_len (rfl:itv V = itv V) hV2.row hTq
   obtain ⟨gq,hgq⟩:=hS.irp 0 rfl hTq (by omega)
   obtain ⟨⟨px,nx,cx,qx,mx,dx,zx⟩,hLx⟩:∃ e,Lq[k]? = some e:=⟨_,List.getElem?_eq_getElem (by omega)⟩
   have hwx:Wd zx 2097408:=by have h9:=(iq_el (rfl:itv V = itv V) hTq hLx).trans (hV2.el (by omega) (by omega) (Nat.le_refl _)); have h8:=hF i k (by omega) (by omega); rw [← h9] at h8; exact h8
   have hzx:zx = _:=(iq_el (rfl:itv V = itv V) hTq hLx).trans (hV2.el (by omega) (by omega) (Nat.le_refl _))
   refine wbt rfl rfl rfl rfl (bLs (decide_eq_true (by omega))) ?_
   refine wn1 (wSq ?_)
   refine wT (ev rfl rfl) ?_
   refine wk2 (wmv rfl rfl ?_)
   refine wav rfl rfl ?_
   refine wn1 ?_
   obtain ⟨z1,hz1⟩:∃ z:Int,Hid (zx * zs = z):=⟨_,rfl⟩
   have hk1:Wd z1 2097408:=by rw [← hz1.out,hzx]; exact hR i k (by omega) (by omega)
   have hk2:Wd 1 2:=wd1
   refine wSg 15 [23,24,25,26,27,28,29,30,31,32,33,34,35,36,37] [[],[],[0,1],[2,0,1],[],[],[],[5,6],[7,5,6],[],[8,9,5,6,7],[10,5,6,7,8,9],[],[11,12,5,6,7,8,9,10],[3,4,0,1,2,5,6,7,8,9,10,11,12,13]] [] [] [] (fun i9 => ([iSv (.slice pX n cX),iSv (.int .i64 (i:Int)),iSv (.pointer (some ⟨gt11,(0 + i * 1),none⟩)),iSv (.slice pq Lq.length cq),iSv (.int .i64 (k:Int)),iSv (.slice pX n cX),iSv (.int .i64 (i:Int)),iSv (.pointer (some ⟨gt11,(0 + i * 1),none⟩)),iSv (.slice pq Lq.length cq),iSv (.int .i64 (k:Int)),iSv (.pointer (some ⟨gq,(0 + k * 4),none⟩)),iSv (.agg #[.bool (ng zx),.slice px nx cx,.bool (ng 1),.slice qx mx dx]),iSv (.agg #[.bool bu,.slice pu nu cu,.bool bo,.slice qo mo dd]),fun _ => Rrt z1 1,iSv (.pointer (some ⟨gq,(0 + k * 4),none⟩))]:List (List Value → Tell)).getD i9 (fun _ _ _ => False)) hNi (fun d _ _ _ _ h => (by cases d <;> exact h)) (by kernel_rfl) (by kernel_rfl) (by kernel_rfl) hS ?_ ?_
   ·
    refine stM rfl rfl rfl rfl rfl (fun _=>isI) ?_
    refine stM rfl rfl rfl rfl rfl (fun _=>isI) ?_
    refine stT rfl (fun hT hS=>?_) ?_
    ·obtain ⟨hv0,hr0⟩:=hT 0 23 rfl rfl
     obtain ⟨hv1,hr1⟩:=hT 1 24 rfl rfl
     obtain hS:=hS.flat2 hr0 hr1
     exact inNo rfl (oIx (p:=pX) (g:=gt11) (off:=0) (m:=n) (k:=i) (j:=(0 + i * 1)) rfl rfl Tryz.runUnderlying47 Tryz.sizeOf39 (ev rfl hv0) hgt11 (ev rfl hv1) (by omega) rfl (nSm rfl isI))
    refine stT rfl (fun hT hS=>?_) ?_
    ·obtain ⟨hv2,hr2⟩:=hT 2 25 rfl rfl
     obtain hS:=hS.flat1 hr2
     exact inNo rfl (oLc ⟨Tryz.isAgg39,Tryz.sizeOf39⟩ rfl rfl (ev rfl hv2) (hS.irc 0 rfl hTq hgt11) (nSm rfl isI))
    refine stM rfl rfl rfl rfl rfl (fun _=>isI) ?_
    refine stM rfl rfl rfl rfl rfl (fun _=>isI) ?_
    refine stM rfl rfl rfl rfl rfl (fun _=>isI) ?_
    refine stT rfl (fun hT hS=>?_) ?_
    ·obtain ⟨hv5,hr5⟩:=hT 5 28 rfl rfl
     obtain ⟨hv6,hr6⟩:=hT 6 29 rfl rfl
     obtain hS:=hS.flat2 hr5 hr6
     exact inNo rfl (oIx (p:=pX) (g:=gt11) (off:=0) (m:=n) (k:=i) (j:=(0 + i * 1)) rfl rfl Tryz.runUnderlying47 Tryz.sizeOf39 (ev rfl hv5) hgt11 (ev rfl hv6) (by omega) rfl (nSm rfl isI))
    refine stT rfl (fun hT hS=>?_) ?_
    ·obtain ⟨hv7,hr7⟩:=hT 7 30 rfl rfl
     obtain hS:=hS.flat1 hr7
     exact inNo rfl (oLc ⟨Tryz.isAgg39,Tryz.sizeOf39⟩ rfl rfl (ev rfl hv7) (hS.irc 0 rfl hTq hgt11) (nSm rfl isI))
    refine stM rfl rfl rfl rfl rfl (fun _=>isI) ?_
    refine stT rfl (fun hT hS=>?_) ?_
    ·obtain ⟨hv8,hr8⟩:=hT 8 31 rfl rfl
     obtain ⟨hv9,hr9⟩:=hT 9 32 rfl rfl
     obtain hS:=hS.flat2 hr8 hr9
     exact inNo rfl (oIx (p:=pq) (g:=gq) (off:=0) (m:=Lq.length) (k:=k) (j:=(0 + k * 4)) rfl rfl Tryz.runUnderlying39 Tryz.sizeOf43 (ev rfl hv8) hgq (ev rfl hv9) (by omega) rfl (nSm rfl isI))
    refine stT rfl (fun hT hS=>?_) ?_
    ·obtain ⟨hv10,hr10⟩:=hT 10 33 rfl rfl
     obtain hS:=hS.flat1 hr10
     exact inNo rfl (oloadA aggR rfl rfl (ev rfl hv10) (hS.iec 0 rfl hTq hLx hgq) rfl (nSm rfl isI))
    refine stH rfl (fun ho hS=>?_) ?_
    ·exact inNo rfl (oLd aggR hS 2 rfl rfl (ev rfl (ho 3 rfl)) rfl rfl rfl (nSm rfl isI))
    refine stT rfl (fun hT hS=>?_) ?_
    ·obtain ⟨hv11,hr11⟩:=hT 11 34 rfl rfl
     obtain ⟨hv12,hr12⟩:=hT 12 35 rfl rfl
     obtain hS:=hS.flat2 hr11 hr12
     exact .inl ⟨wNo rfl,oCl rfl rfl Tryz.call51 rfl ((show Calls _ _ _ _ (Ret (Rrt z1 1) _) from by rw [← hz1.out]; exact wimul ((hS.iez 0 rfl hTq hLx hwx).mono (by omega)) ((hS.ied 0 rfl hTq hLx).mono (by omega)) ((hsu.at hS).mono (by omega)) ((hso.at hS).mono (by omega)))) (ar2 (ev rfl hv11) (ev rfl hv12)) cNw⟩
    refine stT rfl (fun hT hS=>?_) ?_
    ·obtain ⟨hv3,hr3⟩:=hT 3 26 rfl rfl
     obtain ⟨hv4,hr4⟩:=hT 4 27 rfl rfl
     obtain hS:=hS.flat2 hr3 hr4
     exact inNo rfl (oIx (p:=pq) (g:=gq) (off:=0) (m:=Lq.length) (k:=k) (j:=(0 + k * 4)) rfl rfl Tryz.runUnderlying39 Tryz.sizeOf43 (ev rfl hv3) hgq (ev rfl hv4) (by omega) rfl (nSm rfl isI))
    exact sNi
   intro vs ρ w12 f' hf hT hS
   obtain ⟨hv0,hr0⟩:=hT 0 (by decide)
   obtain ⟨hv1,hr1⟩:=hT 1 (by decide)
   obtain ⟨hv2,hr2⟩:=hT 2 (by decide)
   obtain ⟨hv3,hr3⟩:=hT 3 (by decide)
   obtain ⟨hv4,hr4⟩:=hT 4 (by decide)
   obtain ⟨hv5,hr5⟩:=hT 5 (by decide)
   obtain ⟨hv6,hr6⟩:=hT 6 (by decide)
   obtain ⟨hv7,hr7⟩:=hT 7 (by decide)
   obtain ⟨hv8,hr8⟩:=hT 8 (by decide)
   obtain ⟨hv9,hr9⟩:=hT 9 (by decide)
   obtain ⟨hv10,hr10⟩:=hT 10 (by decide)
   obtain ⟨hv11,hr11⟩:=hT 11 (by decide)
   obtain ⟨hv12,hr12⟩:=hT 12 (by decide)
   obtain ⟨p1,n1,c1,p2,n2,c2,hv13,hr13⟩:=(hT 13 (by decide):(Rrt z1 1) _ _)
   obtain ⟨hv14,hr14⟩:=hT 14 (by decide)
   simp only [pool,if_true,hr0,hr1,hr2,hr3,hr4,hr5,hr6,hr7,hr8,hr9,hr10,hr11,hr12,hr13,hr14,List.nil_append,List.cons_append,List.append_nil] at hS
   simp only [layf,hv0,hv1,hv2,hv3,hv4,hv5,hv6,hv7,hv8,hv9,hv10,hv11,hv12,hv13,hv14] at hf
   subst hf; clear hT hv0 hv1 hv2 hv3 hv4 hv5 hv6 hv7 hv8 hv9 hv10 hv11 hv12 hv13 hv14 hr0 hr1 hr2 hr3 hr4 hr5 hr6 hr7 hr8 hr9 hr10 hr11 hr12 hr13 hr14
   obtain hS:=(show Sep w [.lst 39 1 pX n cX (itE V),.rowm p1 n1 c1 (lim z1.natAbs),.rowm p2 n2 c2 (lim (1:Int).natAbs),.blk g5 [.bool false,.slice none 0 0,.slice none 0 0] 31,.blk g3 [.bool bu,.slice pu nu cu,.bool bo,.slice qo mo dd] 43,.blk g1 [.bool bd,.slice pd nd cd,.slice pt n ct] 31] w12 from hS.pick [2,0,1,3,4,5] (by decide) rfl)
   obtain hS:=hS.itake hTq hlq
   obtain hS:=(show Sep w [.rowm p1 n1 c1 (lim z1.natAbs),.rowm p2 n2 c2 (lim (1:Int).natAbs),.lst 43 4 pq n cq (iqs Lq),.lst 39 1 pX n cX ((itE V).set i ⟨[.slice pq n cq],[]⟩),.blk g5 [.bool false,.slice none 0 0,.slice none 0 0] 31,.blk g3 [.bool bu,.slice pu nu cu,.bool bo,.slice qo mo dd] 43,.blk g1 [.bool bd,.slice pd nd cd,.slice pt n ct] 31] w12 from hS.pick [2,3,0,1,4,5,6] (by decide) rfl)
   refine wLt 15 rfl (by kernel_rfl) (ostoreL (i:=k) (g:=gq) [.bool (ng z1),.slice p1 n1 c1,.bool (ng 1),.slice p2 n2 c2] [.rowm p1 n1 c1 (lim z1.natAbs),.rowm p2 n2 c2 (lim (1:Int).natAbs)] Tryz.sizeOf43 hS rfl rfl (ev rfl rfl) (ev rfl rfl) (rfl) rfl rfl rfl hgq (by omega) rfl ?_)
   clear hS; intro w13 hS
   rw [show (⟨[.bool (ng z1),.slice p1 n1 c1,.bool (ng 1),.slice p2 n2 c2],[.rowm p1 n1 c1 (lim z1.natAbs),.rowm p2 n2 c2 (lim (1:Int).natAbs)]⟩:El) = iqE ⟨p1,n1,c1,p2,n2,c2,z1⟩ from rfl,iqs_set] at hS
   obtain hS:=hS.iput (by omega) (List.length_set.trans hlq)
   refine ⟨hNi,?_⟩
   refine wdone rfl ?_
   refine blkN (tNo (wreg (wbc (z:=.int .i64 ((k + 1:Nat):Int)) rfl rfl (bAd (wI6 (by omega) (by omega))) ?_)))
   refine wmv rfl rfl ?_
   refine wn1 ?_
   exact ⟨(k + 1),⟨_,_,aSs ⟨rfl,rfl,rfl,rfl,rfl,rfl,rfl,rfl,trivial⟩,hS.pick [0,1,2,3] (by decide) rfl,by omega,by rw [iq_put rfl hTq]; exact hV2.fill (by omega) (by omega) (by rw [← hz1.out,hzx])⟩,by omega⟩
  refine wbt rfl rfl rfl rfl (bLs (decide_eq_false (by omega))) ?_
  refine wn1 (wSq ?_)
  refine wF (ev rfl rfl) ?_
  refine wEx ?_
  refine tEx ?_
  refine tEx ?_
  refine blkE ?_
  refine blkN (tNo (wreg ?_))
  have hkn:k = n:=by omega
  refine wbc (z:=.int .i64 ((i + 1:Nat):Int)) rfl rfl (bAd (wI6 (by omega) (by omega))) ?_
  refine wmv rfl rfl ?_
  refine wn1 ?_
  exact ⟨(i + 1),⟨_,_,aSs ⟨rfl,rfl,rfl,rfl,rfl,trivial⟩,hS.pick [0,1,2,3] (by decide) rfl,by omega,hV2.nxt hkn⟩,by omega⟩
 refine wbt rfl rfl rfl rfl (bLs (decide_eq_false (by omega))) ?_
 refine wn1 (wSq ?_)
 refine wF (ev rfl rfl) ?_
 refine wEx ?_
 refine tEx ?_
 refine tEx ?_
 refine blkE ?_
 refine tNo (wsr (wmv rfl rfl ?_))
 have hVV:=hV.done (show i = n by omega)
 refine wcl Tryz.call105 (wtFrom (show RTb _ _ _ ((tbl n n (fun i k => F i k * zs))) 2097408 from hVV ▸ hS.itb 0 rfl (by rw [hVV]; exact fun L hL => by have h8:=(tbl_wd hR) L hL; omega) (by decide) (by omega) (by rw [hVV]; exact fun L hL => by have h8:=(tbl_row n n _) L hL; omega)) (by omega) (by omega) (fun L hL => by have h8:=(tbl_row n n _) L hL; omega) (tbl_wd hR)) (ar1 (ev rfl rfl)) hS ?_
 clear hS; rintro _ _ w9 ⟨pDM,nDM,cDM,pSM,cSM,rsM,rfl,rfl,hMM⟩ hS
 refine wl rfl (oSt _ _ Tryz.sizeOf31 hS 3 rfl rfl (ev rfl rfl) (ev rfl rfl) rfl rfl rfl rfl rfl rfl ?_)
 clear hS; intro w10 hS
 refine wn1 ?_
 refine wLv ?_
 refine wr1 Tryz.results90 (tellC (cs:=[.bool (ng 1),.slice pDM nDM cDM,.slice pSM n cSM]) ⟨Tryz.isAgg31,Tryz.sizeOf31⟩ hS 3 rfl rfl rfl rfl) ?_
 exact ⟨_,_,rfl,⟨_,_,_,_,_,_,rfl,rfl,hMM⟩,(show Sep w [.row pDM nDM cDM (lim (1:Int).natAbs),.pack rsM] _ from hS.pick [0,1] (by decide) rfl).newH rfl⟩
theorem wtAdd {n:Nat} {F E:Nat → Nat → Int} {w:World} {bd:Bool} {pd pt:Option Addr} {nd cd ct:Nat} (hd:Zr w bd pd nd cd 1 2) (hM1:TB w pt n (tbl n n F) 2097408) {be:Bool} {pe pu:Option Addr} {ne ce cu:Nat} (he:Zr w be pe ne ce 1 2) (hM2:TB w pu n (tbl n n E) 2097408) (h0:n ≠ 0) (hn:n ≤ 1000) (hF:∀ i k,i < n → k < n → Wd (F i k) 2097408) (hE:∀ i k,i < n → k < n → Wd (E i k) 2097408) (hR:∀ i k,i < n → k < n → Wd (F i k + E i k) 2097408) :
  Calls Tryz.prog 89 #[.agg #[.bool bd,.slice pd nd cd,.slice pt n ct],.agg #[.bool be,.slice pe ne ce,.slice pu n cu]] w (Ret (MTt n (tbl n n (fun i k => F i k + E i k)) 2097408) w):=by
 have hS:=Sep.init w
 refine went Tryz.func89 rfl (n:=51) rfl rfl ?_
 refine wsr (wl rfl (obox [.bool bd,.slice pd nd cd,.slice pt n ct] hS rfl rfl (ev rfl rfl) rfl ?_))
 clear hS; intro g1 w2 hS
 refine wl rfl (obox [.bool be,.slice pe ne ce,.slice pu n cu] hS rfl rfl (ev rfl rfl) rfl ?_)
 clear hS; intro g3 w4 hS
 refine wl rfl (oAl [.bool false,.slice none 0 0,.slice none 0 0] hS rfl rfl Tryz.zeroValue31 rfl ?_)
 clear hS; intro g5 w6 hS
 refine wn1 (wSq ?_)
 refine wSg 6 [9,10,11,12,5,6] [[],[0],[],[2,0,1],[1,0,2,3],[3,0,1,2,4]] [[],[],[],[],[1],[3]] [] [] (fun i9 => ([iSv (.agg #[.bool bd,.slice pd nd cd,.slice pt n ct]),fun _ => IQt n ((tbl n n F)),iSv (.agg #[.bool be,.slice pe ne ce,.slice pu n cu]),fun _ => IQt n ((tbl n n E)),fun us => Is ((vat (us.getD 0 undef) [])),fun us => Is ((vat (us.getD 0 undef) []))]:List (List Value → Tell)).getD i9 (fun _ _ _ => False)) hNi (fun d _ _ _ _ h => (by cases d <;> exact h)) (by kernel_rfl) (by kernel_rfl) (by kernel_rfl) hS ?_ ?_
 ·
  refine stH rfl (fun ho hS=>?_) ?_
  ·exact inNo rfl (oLd ⟨Tryz.isAgg31,Tryz.sizeOf31⟩ hS 2 rfl rfl (ev rfl (ho 2 rfl)) rfl rfl rfl (nSm rfl isI))
  refine stT rfl (fun hT hS=>?_) ?_
  ·obtain ⟨hv0,hr0⟩:=hT 0 9 rfl rfl
   obtain hS:=hS.flat1 hr0
   exact .inl ⟨wNo rfl,oCl rfl rfl Tryz.call16 rfl (wtRows (hd.at hS) (hM1.atQ hS) (by omega) (fun L hL => by rw [(tbl_row n n F) L hL]; omega)) (ar1 (ev rfl hv0)) cNw⟩
  refine stH rfl (fun ho hS=>?_) ?_
  ·exact inNo rfl (oLd ⟨Tryz.isAgg31,Tryz.sizeOf31⟩ hS 1 rfl rfl (ev rfl (ho 3 rfl)) rfl rfl rfl (nSm rfl isI))
  refine stT rfl (fun hT hS=>?_) ?_
  ·obtain ⟨hv2,hr2⟩:=hT 2 11 rfl rfl
   obtain hS:=hS.flat1 hr2
   exact .inl ⟨wNo rfl,oCl rfl rfl Tryz.call16 rfl (wtRows (he.at hS) (hM2.atQ hS) (by omega) (fun L hL => by rw [(tbl_row n n E) L hL]; omega)) (ar1 (ev rfl hv2)) cNw⟩
  refine stC rfl (fun _ f' _ _ _ _ hT hS _=>?_) ?_
  ·obtain ⟨pX,cX,TX,hTX,hv1,hr1⟩:=(hT 1 10 rfl rfl:(IQt n ((tbl n n F))) _ _)
   obtain hS:=hS.flat1 hr1
   have hQ:(.slice pX n cX:Value) = (fun (us:List Value) => ((vat (us.getD 0 undef) []):Value)) [f' 10]:=by show _ = ((vat (f' 10) []):Value); rw [hv1]; rfl
   exact .inl ⟨wNo rfl,oassign rfl rfl (ev rfl hv1) ⟨_,_,rfl,⟨hQ,rfl⟩,New.same _⟩⟩
  refine stC rfl (fun _ f' _ _ _ _ hT hS _=>?_) ?_
  ·obtain ⟨pY,cY,TY,hTY,hv3,hr3⟩:=(hT 3 12 rfl rfl:(IQt n ((tbl n n E))) _ _)
   obtain hS:=hS.flat1 hr3
   have hQ:(.slice pY n cY:Value) = (fun (us:List Value) => ((vat (us.getD 0 undef) []):Value)) [f' 12]:=by show _ = ((vat (f' 12) []):Value); rw [hv3]; rfl
   exact .inl ⟨wNo rfl,oassign rfl rfl (ev rfl hv3) ⟨_,_,rfl,⟨hQ,rfl⟩,New.same _⟩⟩
  exact sNi
 intro vs ρ w7 f' hf hT hS
 obtain ⟨hv0,hr0⟩:=hT 0 (by decide)
 obtain ⟨pX,cX,TX,hTX,hv1,hr1⟩:=(hT 1 (by decide):(IQt n ((tbl n n F))) _ _)
 obtain ⟨hv2,hr2⟩:=hT 2 (by decide)
 obtain ⟨pY,cY,TY,hTY,hv3,hr3⟩:=(hT 3 (by decide):(IQt n ((tbl n n E))) _ _)
 obtain ⟨hv4,hr4⟩:=(hT 4 (by decide):(fun (us:List Value) => Is ((vat (us.getD 0 undef) []))) [vs 1] _ _)
 replace hv4:vs 4 = .slice pX n cX:=hv4.trans (by show ((vat (vs 1) []):Value) = _; rw [hv1]; rfl)
 obtain ⟨hv5,hr5⟩:=(hT 5 (by decide):(fun (us:List Value) => Is ((vat (us.getD 0 undef) []))) [vs 3] _ _)
 replace hv5:vs 5 = .slice pY n cY:=hv5.trans (by show ((vat (vs 3) []):Value) = _; rw [hv3]; rfl)
 simp only [pool,if_true,hr0,hr1,hr2,hr3,hr4,hr5,List.nil_append,List.cons_append,List.append_nil] at hS
 simp only [layf,hv0,hv1,hv2,hv3,hv4,hv5] at hf
 subst hf; clear hT hv0 hv1 hv2 hv3 hv4 hv5 hr0 hr1 hr2 hr3 hr4 hr5
 refine wdone rfl ?_
 refine tNo (wSq (wsr (wmv rfl rfl ?_)))
 refine wl rfl (olen rfl rfl rfl Tryz.runUnderlying47 (p:=pX) (k:=n) (m:=cX) (ev rfl rfl) ?_)
 refine wmvc ?_
 refine wn1 (wBk ?_)
 have hlX:TX.length = n:=by rw [iq_tl hTX,tbl_len]
 have hlY:TY.length = n:=by rw [iq_tl hTY,tbl_len]
 refine wLp (σ := Nat) (fun i a9 w' => ∃ (fb:Nat → Value) (U:List Ir),a9 = act 51 (sets fb [(4,.pointer (some ⟨g5,0,none⟩)),(5,.slice pX n cX),(6,.slice pY n cY),(14,.int .i64 (n:Int)),(15,.int .i64 (i:Int))]) ∧ Sep w [.lst 39 1 pY n cY (itE TY),.lst 39 1 pX n cX (itE U),.blk g5 [.bool false,.slice none 0 0,.slice none 0 0] 31,.blk g3 [.bool be,.slice pe ne ce,.slice pu n cu] 31,.blk g1 [.bool bd,.slice pd nd cd,.slice pt n ct] 31] w' ∧ (i ≤ n) ∧ (Fil (itv U) n n i 0 (fun i k => F i k + E i k) F)) (fun i => n - i) (0) ⟨_,TX,aSs ⟨rfl,rfl,rfl,rfl,rfl,trivial⟩,hS,Nat.zero_le _,Fil.start hTX⟩ ?_
 clear hS; rintro i _ w8 ⟨fb,U,rfl,hS,hi,hV⟩
 refine wsr ?_
 by_cases hli:i < n
 ·
  have hlU:U.length = n:=by rw [← itv_len]; exact hV.len
  obtain ⟨gt9,hgt9⟩:=hS.lstPtr 1 rfl (by omega)
  obtain ⟨⟨pr,cr,Lr⟩,hTr⟩:∃ r,(U)[i]? = some r:=⟨_,List.getElem?_eq_getElem (by omega)⟩
  have hlr:Lr.length = n:=iq_len (rfl:itv U = itv U) hV.row hTr
  obtain ⟨gr,hgr⟩:=hS.irp 1 rfl hTr (by omega)
  refine wbt rfl rfl rfl rfl (bLs (decide_eq_true (by omega))) ?_
  refine wn1 (wSq ?_)
  refine wT (ev rfl rfl) ?_
  refine wk2 (wmv rfl rfl ?_)
  refine wav rfl rfl ?_
  refine wn2 (wmv rfl rfl ?_)
  refine wmv rfl rfl ?_
  refine wl rfl (oIx (p:=pX) (g:=gt9) (off:=0) (m:=n) (k:=i) (j:=(0 + i * 1)) rfl rfl Tryz.runUnderlying47 Tryz.sizeOf39 (ev rfl rfl) hgt9 (ev rfl rfl) (by omega) rfl ?_)
  refine wl rfl (oLc ⟨Tryz.isAgg39,Tryz.sizeOf39⟩ rfl rfl (ev rfl rfl) (hS.irc 1 rfl hTr hgt9) ?_)
  refine wl rfl (olen rfl rfl rfl Tryz.runUnderlying39 (p:=pr) (k:=Lr.length) (m:=cr) (ev rfl rfl) ?_)
  refine wmvc ?_
  refine wn1 (wBk ?_)
  refine wLp (σ := Nat) (fun k a9 w' => ∃ (fb:Nat → Value) (V:List Ir),a9 = act 51 (sets fb [(4,.pointer (some ⟨g5,0,none⟩)),(5,.slice pX n cX),(6,.slice pY n cY),(7,.int .i64 (i:Int)),(14,.int .i64 (n:Int)),(15,.int .i64 (i:Int)),(22,.int .i64 (Lr.length:Int)),(23,.int .i64 (k:Int))]) ∧ Sep w [.lst 39 1 pY n cY (itE TY),.lst 39 1 pX n cX (itE V),.blk g5 [.bool false,.slice none 0 0,.slice none 0 0] 31,.blk g3 [.bool be,.slice pe ne ce,.slice pu n cu] 31,.blk g1 [.bool bd,.slice pd nd cd,.slice pt n ct] 31] w' ∧ (k ≤ Lr.length) ∧ (Fil (itv V) n n i k (fun i k => F i k + E i k) F)) (fun k => Lr.length - k) (0) ⟨_,U,aSs ⟨rfl,rfl,rfl,rfl,rfl,rfl,rfl,rfl,trivial⟩,hS,Nat.zero_le _,hV⟩ ?_
  clear hS; rintro k _ w10 ⟨fb,V,rfl,hS,hk,hV2⟩
  refine wsr ?_
  by_cases hlk:k < Lr.length
  ·
   have hlV:V.length = n:=by rw [← itv_len]; exact hV2.len
   obtain ⟨gt11,hgt11⟩:=hS.lstPtr 1 rfl (by omega)
   obtain ⟨⟨pq,cq,Lq⟩,hTq⟩:∃ r,(V)[i]? = some r:=⟨_,List.getElem?_eq_getElem (by omega)⟩
   have hlq:Lq.length = n:=iq_len (rfl:itv V = itv V) hV2.row hTq
   obtain ⟨gq,hgq⟩:=hS.irp 1 rfl hTq (by omega)
   obtain ⟨⟨px,nx,cx,qx,mx,dx,zx⟩,hLx⟩:∃ e,Lq[k]? = some e:=⟨_,List.getElem?_eq_getElem (by omega)⟩
   have hwx:Wd zx 2097408:=by have h9:=(iq_el (rfl:itv V = itv V) hTq hLx).trans (hV2.el (by omega) (by omega) (Nat.le_refl _)); have h8:=hF i k (by omega) (by omega); rw [← h9] at h8; exact h8
   have hzx:zx = _:=(iq_el (rfl:itv V = itv V) hTq hLx).trans (hV2.el (by omega) (by omega) (Nat.le_refl _))
   obtain ⟨gt12,hgt12⟩:=hS.lstPtr 0 rfl (by omega)
   obtain ⟨⟨pv,cv,Lv⟩,hTv⟩:∃ r,(TY)[i]? = some r:=⟨_,List.getElem?_eq_getElem (by omega)⟩
   have hlv:Lv.length = n:=iq_len hTY (tbl_row n n E) hTv
   obtain ⟨gv,hgv⟩:=hS.irp 0 rfl hTv (by omega)
   obtain ⟨⟨py,ny,cy,qy,my,dy,zy⟩,hLy⟩:∃ e,Lv[k]? = some e:=⟨_,List.getElem?_eq_getElem (by omega)⟩
   have hwy:Wd zy 2097408:=by have h9:=(iq_el hTY hTv hLy).trans (tbl_el (by omega) (by omega)); have h8:=hE i k (by omega) (by omega); rw [← h9] at h8; exact h8
   have hzy:zy = _:=(iq_el hTY hTv hLy).trans (tbl_el (by omega) (by omega))
   refine wbt rfl rfl rfl rfl (bLs (decide_eq_true (by omega))) ?_
   refine wn1 (wSq ?_)
   refine wT (ev rfl rfl) ?_
   refine wk2 (wmv rfl rfl ?_)
   refine wav rfl rfl ?_
   refine wn1 ?_
   obtain ⟨z1,hz1⟩:∃ z:Int,Hid (zx + zy = z):=⟨_,rfl⟩
   have hk1:Wd z1 2097408:=by rw [← hz1.out,hzx,hzy]; exact hR i k (by omega) (by omega)
   have hk2:Wd 1 2:=wd1
   refine wSg 21 [26,27,28,29,30,31,32,33,34,35,36,37,38,39,40,41,42,43,44,45,46] [[],[],[0,1],[2,0,1],[],[],[],[5,6],[7,5,6],[],[8,9,5,6,7],[10,5,6,7,8,9],[],[],[12,13],[14,12,13],[],[15,16,12,13,14],[17,12,13,14,15,16],[11,18,5,6,7,8,9,10,12,13,14,15,16,17],[3,4,0,1,2,5,6,7,8,9,10,11,12,13,14,15,16,17,18,19]] [] [] [] (fun i9 => ([iSv (.slice pX n cX),iSv (.int .i64 (i:Int)),iSv (.pointer (some ⟨gt11,(0 + i * 1),none⟩)),iSv (.slice pq Lq.length cq),iSv (.int .i64 (k:Int)),iSv (.slice pX n cX),iSv (.int .i64 (i:Int)),iSv (.pointer (some ⟨gt11,(0 + i * 1),none⟩)),iSv (.slice pq Lq.length cq),iSv (.int .i64 (k:Int)),iSv (.pointer (some ⟨gq,(0 + k * 4),none⟩)),iSv (.agg #[.bool (ng zx),.slice px nx cx,.bool (ng 1),.slice qx mx dx]),iSv (.slice pY n cY),iSv (.int .i64 (i:Int)),iSv (.pointer (some ⟨gt12,(0 + i * 1),none⟩)),iSv (.slice pv Lv.length cv),iSv (.int .i64 (k:Int)),iSv (.pointer (some ⟨gv,(0 + k * 4),none⟩)),iSv (.agg #[.bool (ng zy),.slice py ny cy,.bool (ng 1),.slice qy my dy]),fun _ => Rrt z1 1,iSv (.pointer (some ⟨gq,(0 + k * 4),none⟩))]:List (List Value → Tell)).getD i9 (fun _ _ _ => False)) hNi (fun d _ _ _ _ h => (by cases d <;> exact h)) (by kernel_rfl) (by kernel_rfl) (by kernel_rfl) hS ?_ ?_
   ·
    refine stM rfl rfl rfl rfl rfl (fun _=>isI) ?_
    refine stM rfl rfl rfl rfl rfl (fun _=>isI) ?_
    refine stT rfl (fun hT hS=>?_) ?_
    ·obtain ⟨hv0,hr0⟩:=hT 0 26 rfl rfl
     obtain ⟨hv1,hr1⟩:=hT 1 27 rfl rfl
     obtain hS:=hS.flat2 hr0 hr1
     exact inNo rfl (oIx (p:=pX) (g:=gt11) (off:=0) (m:=n) (k:=i) (j:=(0 + i * 1)) rfl rfl Tryz.runUnderlying47 Tryz.sizeOf39 (ev rfl hv0) hgt11 (ev rfl hv1) (by omega) rfl (nSm rfl isI))
    refine stT rfl (fun hT hS=>?_) ?_
    ·obtain ⟨hv2,hr2⟩:=hT 2 28 rfl rfl
     obtain hS:=hS.flat1 hr2
     exact inNo rfl (oLc ⟨Tryz.isAgg39,Tryz.sizeOf39⟩ rfl rfl (ev rfl hv2) (hS.irc 1 rfl hTq hgt11) (nSm rfl isI))
    refine stM rfl rfl rfl rfl rfl (fun _=>isI) ?_
    refine stM rfl rfl rfl rfl rfl (fun _=>isI) ?_
    refine stM rfl rfl rfl rfl rfl (fun _=>isI) ?_
    refine stT rfl (fun hT hS=>?_) ?_
    ·obtain ⟨hv5,hr5⟩:=hT 5 31 rfl rfl
     obtain ⟨hv6,hr6⟩:=hT 6 32 rfl rfl
     obtain hS:=hS.flat2 hr5 hr6
     exact inNo rfl (oIx (p:=pX) (g:=gt11) (off:=0) (m:=n) (k:=i) (j:=(0 + i * 1)) rfl rfl Tryz.runUnderlying47 Tryz.sizeOf39 (ev rfl hv5) hgt11 (ev rfl hv6) (by omega) rfl (nSm rfl isI))
    refine stT rfl (fun hT hS=>?_) ?_
    ·obtain ⟨hv7,hr7⟩:=hT 7 33 rfl rfl
     obtain hS:=hS.flat1 hr7
     exact inNo rfl (oLc ⟨Tryz.isAgg39,Tryz.sizeOf39⟩ rfl rfl (ev rfl hv7) (hS.irc 1 rfl hTq hgt11) (nSm rfl isI))
    refine stM rfl rfl rfl rfl rfl (fun _=>isI) ?_
    refine stT rfl (fun hT hS=>?_) ?_
    ·obtain ⟨hv8,hr8⟩:=hT 8 34 rfl rfl
     obtain ⟨hv9,hr9⟩:=hT 9 35 rfl rfl
     obtain hS:=hS.flat2 hr8 hr9
     exact inNo rfl (oIx (p:=pq) (g:=gq) (off:=0) (m:=Lq.length) (k:=k) (j:=(0 + k * 4)) rfl rfl Tryz.runUnderlying39 Tryz.sizeOf43 (ev rfl hv8) hgq (ev rfl hv9) (by omega) rfl (nSm rfl isI))
    refine stT rfl (fun hT hS=>?_) ?_
    ·obtain ⟨hv10,hr10⟩:=hT 10 36 rfl rfl
     obtain hS:=hS.flat1 hr10
     exact inNo rfl (oloadA aggR rfl rfl (ev rfl hv10) (hS.iec 1 rfl hTq hLx hgq) rfl (nSm rfl isI))
    refine stM rfl rfl rfl rfl rfl (fun _=>isI) ?_
    refine stM rfl rfl rfl rfl rfl (fun _=>isI) ?_
    refine stT rfl (fun hT hS=>?_) ?_
    ·obtain ⟨hv12,hr12⟩:=hT 12 38 rfl rfl
     obtain ⟨hv13,hr13⟩:=hT 13 39 rfl rfl
     obtain hS:=hS.flat2 hr12 hr13
     exact inNo rfl (oIx (p:=pY) (g:=gt12) (off:=0) (m:=n) (k:=i) (j:=(0 + i * 1)) rfl rfl Tryz.runUnderlying47 Tryz.sizeOf39 (ev rfl hv12) hgt12 (ev rfl hv13) (by omega) rfl (nSm rfl isI))
    refine stT rfl (fun hT hS=>?_) ?_
    ·obtain ⟨hv14,hr14⟩:=hT 14 40 rfl rfl
     obtain hS:=hS.flat1 hr14
     exact inNo rfl (oLc ⟨Tryz.isAgg39,Tryz.sizeOf39⟩ rfl rfl (ev rfl hv14) (hS.irc 0 rfl hTv hgt12) (nSm rfl isI))
    refine stM rfl rfl rfl rfl rfl (fun _=>isI) ?_
    refine stT rfl (fun hT hS=>?_) ?_
    ·obtain ⟨hv15,hr15⟩:=hT 15 41 rfl rfl
     obtain ⟨hv16,hr16⟩:=hT 16 42 rfl rfl
     obtain hS:=hS.flat2 hr15 hr16
     exact inNo rfl (oIx (p:=pv) (g:=gv) (off:=0) (m:=Lv.length) (k:=k) (j:=(0 + k * 4)) rfl rfl Tryz.runUnderlying39 Tryz.sizeOf43 (ev rfl hv15) hgv (ev rfl hv16) (by omega) rfl (nSm rfl isI))
    refine stT rfl (fun hT hS=>?_) ?_
    ·obtain ⟨hv17,hr17⟩:=hT 17 43 rfl rfl
     obtain hS:=hS.flat1 hr17
     exact inNo rfl (oloadA aggR rfl rfl (ev rfl hv17) (hS.iec 0 rfl hTv hLy hgv) rfl (nSm rfl isI))
    refine stT rfl (fun hT hS=>?_) ?_
    ·obtain ⟨hv11,hr11⟩:=hT 11 37 rfl rfl
     obtain ⟨hv18,hr18⟩:=hT 18 44 rfl rfl
     obtain hS:=hS.flat2 hr11 hr18
     exact .inl ⟨wNo rfl,oCl rfl rfl Tryz.call64 rfl ((show Calls _ _ _ _ (Ret (Rrt z1 1) _) from by rw [← hz1.out]; exact wiadd ((hS.iez 1 rfl hTq hLx hwx).mono (by omega)) ((hS.ied 1 rfl hTq hLx).mono (by omega)) ((hS.iez 0 rfl hTv hLy hwy).mono (by omega)) ((hS.ied 0 rfl hTv hLy).mono (by omega)))) (ar2 (ev rfl hv11) (ev rfl hv18)) cNw⟩
    refine stT rfl (fun hT hS=>?_) ?_
    ·obtain ⟨hv3,hr3⟩:=hT 3 29 rfl rfl
     obtain ⟨hv4,hr4⟩:=hT 4 30 rfl rfl
     obtain hS:=hS.flat2 hr3 hr4
     exact inNo rfl (oIx (p:=pq) (g:=gq) (off:=0) (m:=Lq.length) (k:=k) (j:=(0 + k * 4)) rfl rfl Tryz.runUnderlying39 Tryz.sizeOf43 (ev rfl hv3) hgq (ev rfl hv4) (by omega) rfl (nSm rfl isI))
    exact sNi
   intro vs ρ w13 f' hf hT hS
   obtain ⟨hv0,hr0⟩:=hT 0 (by decide)
   obtain ⟨hv1,hr1⟩:=hT 1 (by decide)
   obtain ⟨hv2,hr2⟩:=hT 2 (by decide)
   obtain ⟨hv3,hr3⟩:=hT 3 (by decide)
   obtain ⟨hv4,hr4⟩:=hT 4 (by decide)
   obtain ⟨hv5,hr5⟩:=hT 5 (by decide)
   obtain ⟨hv6,hr6⟩:=hT 6 (by decide)
   obtain ⟨hv7,hr7⟩:=hT 7 (by decide)
   obtain ⟨hv8,hr8⟩:=hT 8 (by decide)
   obtain ⟨hv9,hr9⟩:=hT 9 (by decide)
   obtain ⟨hv10,hr10⟩:=hT 10 (by decide)
   obtain ⟨hv11,hr11⟩:=hT 11 (by decide)
   obtain ⟨hv12,hr12⟩:=hT 12 (by decide)
   obtain ⟨hv13,hr13⟩:=hT 13 (by decide)
   obtain ⟨hv14,hr14⟩:=hT 14 (by decide)
   obtain ⟨hv15,hr15⟩:=hT 15 (by decide)
   obtain ⟨hv16,hr16⟩:=hT 16 (by decide)
   obtain ⟨hv17,hr17⟩:=hT 17 (by decide)
   obtain ⟨hv18,hr18⟩:=hT 18 (by decide)
   obtain ⟨p1,n1,c1,p2,n2,c2,hv19,hr19⟩:=(hT 19 (by decide):(Rrt z1 1) _ _)
   obtain ⟨hv20,hr20⟩:=hT 20 (by decide)
   simp only [pool,if_true,hr0,hr1,hr2,hr3,hr4,hr5,hr6,hr7,hr8,hr9,hr10,hr11,hr12,hr13,hr14,hr15,hr16,hr17,hr18,hr19,hr20,List.nil_append,List.cons_append,List.append_nil] at hS
   simp only [layf,hv0,hv1,hv2,hv3,hv4,hv5,hv6,hv7,hv8,hv9,hv10,hv11,hv12,hv13,hv14,hv15,hv16,hv17,hv18,hv19,hv20] at hf
   subst hf; clear hT hv0 hv1 hv2 hv3 hv4 hv5 hv6 hv7 hv8 hv9 hv10 hv11 hv12 hv13 hv14 hv15 hv16 hv17 hv18 hv19 hv20 hr0 hr1 hr2 hr3 hr4 hr5 hr6 hr7 hr8 hr9 hr10 hr11 hr12 hr13 hr14 hr15 hr16 hr17 hr18 hr19 hr20
   obtain hS:=(show Sep w [.lst 39 1 pX n cX (itE V),.rowm p1 n1 c1 (lim z1.natAbs),.rowm p2 n2 c2 (lim (1:Int).natAbs),.lst 39 1 pY n cY (itE TY),.blk g5 [.bool false,.slice none 0 0,.slice none 0 0] 31,.blk g3 [.bool be,.slice pe ne ce,.slice pu n cu] 31,.blk g1 [.bool bd,.slice pd nd cd,.slice pt n ct] 31] w13 from hS.pick [3,0,1,2,4,5,6] (by decide) rfl)
   obtain hS:=hS.itake hTq hlq
   obtain hS:=(show Sep w [.rowm p1 n1 c1 (lim z1.natAbs),.rowm p2 n2 c2 (lim (1:Int).natAbs),.lst 43 4 pq n cq (iqs Lq),.lst 39 1 pX n cX ((itE V).set i ⟨[.slice pq n cq],[]⟩),.lst 39 1 pY n cY (itE TY),.blk g5 [.bool false,.slice none 0 0,.slice none 0 0] 31,.blk g3 [.bool be,.slice pe ne ce,.slice pu n cu] 31,.blk g1 [.bool bd,.slice pd nd cd,.slice pt n ct] 31] w13 from hS.pick [2,3,0,1,4,5,6,7] (by decide) rfl)
   refine wLt 21 rfl (by kernel_rfl) (ostoreL (i:=k) (g:=gq) [.bool (ng z1),.slice p1 n1 c1,.bool (ng 1),.slice p2 n2 c2] [.rowm p1 n1 c1 (lim z1.natAbs),.rowm p2 n2 c2 (lim (1:Int).natAbs)] Tryz.sizeOf43 hS rfl rfl (ev rfl rfl) (ev rfl rfl) (rfl) rfl rfl rfl hgq (by omega) rfl ?_)
   clear hS; intro w14 hS
   rw [show (⟨[.bool (ng z1),.slice p1 n1 c1,.bool (ng 1),.slice p2 n2 c2],[.rowm p1 n1 c1 (lim z1.natAbs),.rowm p2 n2 c2 (lim (1:Int).natAbs)]⟩:El) = iqE ⟨p1,n1,c1,p2,n2,c2,z1⟩ from rfl,iqs_set] at hS
   obtain hS:=hS.iput (by omega) (List.length_set.trans hlq)
   refine ⟨hNi,?_⟩
   refine wdone rfl ?_
   refine blkN (tNo (wreg (wbc (z:=.int .i64 ((k + 1:Nat):Int)) rfl rfl (bAd (wI6 (by omega) (by omega))) ?_)))
   refine wmv rfl rfl ?_
   refine wn1 ?_
   exact ⟨(k + 1),⟨_,_,aSs ⟨rfl,rfl,rfl,rfl,rfl,rfl,rfl,rfl,trivial⟩,hS.pick [1,0,2,3,4] (by decide) rfl,by omega,by rw [iq_put rfl hTq]; exact hV2.fill (by omega) (by omega) (by rw [← hz1.out,hzx,hzy])⟩,by omega⟩
  refine wbt rfl rfl rfl rfl (bLs (decide_eq_false (by omega))) ?_
  refine wn1 (wSq ?_)
  refine wF (ev rfl rfl) ?_
  refine wEx ?_
  refine tEx ?_
  refine tEx ?_
  refine blkE ?_
  refine blkN (tNo (wreg ?_))
  have hkn:k = n:=by omega
  refine wbc (z:=.int .i64 ((i + 1:Nat):Int)) rfl rfl (bAd (wI6 (by omega) (by omega))) ?_
  refine wmv rfl rfl ?_
  refine wn1 ?_
  exact ⟨(i + 1),⟨_,_,aSs ⟨rfl,rfl,rfl,rfl,rfl,trivial⟩,hS.pick [0,1,2,3,4] (by decide) rfl,by omega,hV2.nxt hkn⟩,by omega⟩
 refine wbt rfl rfl rfl rfl (bLs (decide_eq_false (by omega))) ?_
 refine wn1 (wSq ?_)
 refine wF (ev rfl rfl) ?_
 refine wEx ?_
 refine tEx ?_
 refine tEx ?_
 refine blkE ?_
 refine tNo (wsr (wmv rfl rfl ?_))
 have hVV:=hV.done (show i = n by omega)
 refine wcl Tryz.call105 (wtFrom (show RTb _ _ _ ((tbl n n (fun i k => F i k + E i k))) 2097408 from hVV ▸ hS.itb 1 rfl (by rw [hVV]; exact fun L hL => by have h8:=(tbl_wd hR) L hL; omega) (by decide) (by omega) (by rw [hVV]; exact fun L hL => by have h8:=(tbl_row n n _) L hL; omega)) (by omega) (by omega) (fun L hL => by have h8:=(tbl_row n n _) L hL; omega) (tbl_wd hR)) (ar1 (ev rfl rfl)) hS ?_
 clear hS; rintro _ _ w9 ⟨pDM,nDM,cDM,pSM,cSM,rsM,rfl,rfl,hMM⟩ hS
 refine wl rfl (oSt _ _ Tryz.sizeOf31 hS 4 rfl rfl (ev rfl rfl) (ev rfl rfl) rfl rfl rfl rfl rfl rfl ?_)
 clear hS; intro w10 hS
 refine wn1 ?_
 refine wLv ?_
 refine wr1 Tryz.results89 (tellC (cs:=[.bool (ng 1),.slice pDM nDM cDM,.slice pSM n cSM]) ⟨Tryz.isAgg31,Tryz.sizeOf31⟩ hS 4 rfl rfl rfl rfl) ?_
 exact ⟨_,_,rfl,⟨_,_,_,_,_,_,rfl,rfl,hMM⟩,(show Sep w [.row pDM nDM cDM (lim (1:Int).natAbs),.pack rsM] _ from hS.pick [0,1] (by decide) rfl).newH rfl⟩
open Go.RowKit
def acG (F E:Nat → Nat → Int) (i k l:Nat):Nat → Nat → Int:=fun x y => if x = i ∧ y = k then su l (fun j => F i j * E j k) else 0
theorem acG_at (F E:Nat → Nat → Int) (i k l:Nat):acG F E i k l i k = su l (fun j => F i j * E j k):=if_pos ⟨rfl,rfl⟩
theorem Fil.acs {V:List (List Int)} {n i k:Nat} {f F E:Nat → Nat → Int} (h:Fil V n n i k f (fun _ _ => 0)):Fil V n n i k f (acG F E i k 0):=h.same fun x y _ _ _ => by unfold acG; split <;> rfl
theorem Fil.ac1 {V:List (List Int)} {n i k l:Nat} {f F E:Nat → Nat → Int} {z:Int} (h:Fil V n n i k f (acG F E i k l)) (hi:i < n) (hk:k < n) (hz:z = su l (fun j => F i j * E j k) + F i l * E l k):Fil (V.set i ((V.getD i []).set k z)) n n i k f (acG F E i k (l + 1)) :=
  h.put hi hk (by rw [acG_at]; exact hz) fun x y e => by unfold acG; rw [if_neg e,if_neg e]
theorem Fil.acd {V:List (List Int)} {n i k l:Nat} {F E:Nat → Nat → Int} (h:Fil V n n i k (mm n F E) (acG F E i k l)) (hl:l = n):Fil V n n i (k + 1) (mm n F E) (fun _ _ => 0):=by
  subst hl
  exact (h.adv (by rw [acG_at]; rfl)).same fun x y _ _ e => by unfold acG; rw [if_neg (by omega)]
theorem wtMul {n:Nat} {F E:Nat → Nat → Int} {w:World} {bd:Bool} {pd pt:Option Addr} {nd cd ct:Nat} (hd:Zr w bd pd nd cd 1 2) (hM1:TB w pt n (tbl n n F) 2097408) {be:Bool} {pe pu:Option Addr} {ne ce cu:Nat} (he:Zr w be pe ne ce 1 2) (hM2:TB w pu n (tbl n n E) 2097408) (h0:n ≠ 0) (hn:n ≤ 1000) (hF:∀ i k,i < n → k < n → Wd (F i k) 2097408) (hE:∀ i k,i < n → k < n → Wd (E i k) 2097408) (hP:∀ i k l,i < n → k < n → l ≤ n → Wd (su l fun j => F i j * E j k) 2097408) :
  Calls Tryz.prog 87 #[.agg #[.bool bd,.slice pd nd cd,.slice pt n ct],.agg #[.bool be,.slice pe ne ce,.slice pu n cu]] w (Ret (MTt n (tbl n n (mm n F E)) 2097408) w):=by
 have hS:=Sep.init w
 refine went Tryz.func87 rfl (n:=74) rfl rfl ?_
 refine wsr (wl rfl (obox [.bool bd,.slice pd nd cd,.slice pt n ct] hS rfl rfl (ev rfl rfl) rfl ?_))
 clear hS; intro g1 w2 hS
 refine wl rfl (obox [.bool be,.slice pe ne ce,.slice pu n cu] hS rfl rfl (ev rfl rfl) rfl ?_)
 clear hS; intro g3 w4 hS
 refine wl rfl (oAl [.bool false,.slice none 0 0,.slice none 0 0] hS rfl rfl Tryz.zeroValue31 rfl ?_)
 clear hS; intro g5 w6 hS
 refine wn1 (wSq ?_)
 refine wSg 6 [13,14,15,16,5,6] [[],[0],[],[2,0,1],[1,0,2,3],[3,0,1,2,4]] [[],[],[],[],[1],[3]] [] [] (fun i9 => ([iSv (.agg #[.bool bd,.slice pd nd cd,.slice pt n ct]),fun _ => IQt n ((tbl n n F)),iSv (.agg #[.bool be,.slice pe ne ce,.slice pu n cu]),fun _ => IQt n ((tbl n n E)),fun us => Is ((vat (us.getD 0 undef) [])),fun us => Is ((vat (us.getD 0 undef) []))]:List (List Value → Tell)).getD i9 (fun _ _ _ => False)) hNi (fun d _ _ _ _ h => (by cases d <;> exact h)) (by kernel_rfl) (by kernel_rfl) (by kernel_rfl) hS ?_ ?_
 ·
  refine stH rfl (fun ho hS=>?_) ?_
  ·exact inNo rfl (oLd ⟨Tryz.isAgg31,Tryz.sizeOf31⟩ hS 2 rfl rfl (ev rfl (ho 2 rfl)) rfl rfl rfl (nSm rfl isI))
  refine stT rfl (fun hT hS=>?_) ?_
  ·obtain ⟨hv0,hr0⟩:=hT 0 13 rfl rfl
   obtain hS:=hS.flat1 hr0
   exact .inl ⟨wNo rfl,oCl rfl rfl Tryz.call16 rfl (wtRows (hd.at hS) (hM1.atQ hS) (by omega) (fun L hL => by rw [(tbl_row n n F) L hL]; omega)) (ar1 (ev rfl hv0)) cNw⟩
  refine stH rfl (fun ho hS=>?_) ?_
  ·exact inNo rfl (oLd ⟨Tryz.isAgg31,Tryz.sizeOf31⟩ hS 1 rfl rfl (ev rfl (ho 3 rfl)) rfl rfl rfl (nSm rfl isI))
  refine stT rfl (fun hT hS=>?_) ?_
  ·obtain ⟨hv2,hr2⟩:=hT 2 15 rfl rfl
   obtain hS:=hS.flat1 hr2
   exact .inl ⟨wNo rfl,oCl rfl rfl Tryz.call16 rfl (wtRows (he.at hS) (hM2.atQ hS) (by omega) (fun L hL => by rw [(tbl_row n n E) L hL]; omega)) (ar1 (ev rfl hv2)) cNw⟩
  refine stC rfl (fun _ f' _ _ _ _ hT hS _=>?_) ?_
  ·obtain ⟨pA,cA,TA,hTA,hv1,hr1⟩:=(hT 1 14 rfl rfl:(IQt n ((tbl n n F))) _ _)
   obtain hS:=hS.flat1 hr1
   have hQ:(.slice pA n cA:Value) = (fun (us:List Value) => ((vat (us.getD 0 undef) []):Value)) [f' 14]:=by show _ = ((vat (f' 14) []):Value); rw [hv1]; rfl
   exact .inl ⟨wNo rfl,oassign rfl rfl (ev rfl hv1) ⟨_,_,rfl,⟨hQ,rfl⟩,New.same _⟩⟩
  refine stC rfl (fun _ f' _ _ _ _ hT hS _=>?_) ?_
  ·obtain ⟨pB,cB,TB,hTB,hv3,hr3⟩:=(hT 3 16 rfl rfl:(IQt n ((tbl n n E))) _ _)
   obtain hS:=hS.flat1 hr3
   have hQ:(.slice pB n cB:Value) = (fun (us:List Value) => ((vat (us.getD 0 undef) []):Value)) [f' 16]:=by show _ = ((vat (f' 16) []):Value); rw [hv3]; rfl
   exact .inl ⟨wNo rfl,oassign rfl rfl (ev rfl hv3) ⟨_,_,rfl,⟨hQ,rfl⟩,New.same _⟩⟩
  exact sNi
 intro vs ρ w7 f' hf hT hS
 obtain ⟨hv0,hr0⟩:=hT 0 (by decide)
 obtain ⟨pA,cA,TA,hTA,hv1,hr1⟩:=(hT 1 (by decide):(IQt n ((tbl n n F))) _ _)
 obtain ⟨hv2,hr2⟩:=hT 2 (by decide)
 obtain ⟨pB,cB,TB,hTB,hv3,hr3⟩:=(hT 3 (by decide):(IQt n ((tbl n n E))) _ _)
 obtain ⟨hv4,hr4⟩:=(hT 4 (by decide):(fun (us:List Value) => Is ((vat (us.getD 0 undef) []))) [vs 1] _ _)
 replace hv4:vs 4 = .slice pA n cA:=hv4.trans (by show ((vat (vs 1) []):Value) = _; rw [hv1]; rfl)
 obtain ⟨hv5,hr5⟩:=(hT 5 (by decide):(fun (us:List Value) => Is ((vat (us.getD 0 undef) []))) [vs 3] _ _)
 replace hv5:vs 5 = .slice pB n cB:=hv5.trans (by show ((vat (vs 3) []):Value) = _; rw [hv3]; rfl)
 simp only [pool,if_true,hr0,hr1,hr2,hr3,hr4,hr5,List.nil_append,List.cons_append,List.append_nil] at hS
 simp only [layf,hv0,hv1,hv2,hv3,hv4,hv5] at hf
 subst hf; clear hT hv0 hv1 hv2 hv3 hv4 hv5 hr0 hr1 hr2 hr3 hr4 hr5
 refine wdone rfl ?_
 refine tNo (wsr (wl rfl (oLd ⟨Tryz.isAgg31,Tryz.sizeOf31⟩ hS 3 rfl rfl (ev rfl rfl) rfl rfl rfl ?_)))
 have hlA:TA.length = n:=by rw [iq_tl hTA,tbl_len]
 have hlB:TB.length = n:=by rw [iq_tl hTB,tbl_len]
 refine wcl Tryz.call60 (wtSize (c:=n) (hM2.atQ hS) (by omega) (tbl_row n n E)) (ar1 (ev rfl rfl)) hS ?_
 clear hS; rintro _ _ w8 ⟨rfl,rfl⟩ hS
 refine wmv rfl rfl ?_
 refine wl rfl (oEx rfl rfl (ev rfl rfl) rfl ?_)
 refine wl rfl (oEx rfl rfl (ev rfl rfl) rfl ?_)
 refine wav rfl rfl ?_
 refine wav rfl rfl ?_
 refine wn2 (wmv rfl rfl ?_)
 refine wl rfl (olen rfl rfl rfl Tryz.runUnderlying47 (p:=pA) (k:=n) (m:=cA) (ev rfl rfl) ?_)
 refine wmv rfl rfl ?_
 refine wcl Tryz.call114 (wtfill (by omega) (by omega)) (ar2 (ev rfl rfl) (ev rfl rfl)) hS ?_
 clear hS; rintro _ _ w9 ⟨pX,cX,TX,hTX,rfl,rfl⟩ hS
 refine wav rfl rfl ?_
 refine wn1 (wSq (wsr (wmv rfl rfl ?_)))
 refine wl rfl (olen rfl rfl rfl Tryz.runUnderlying47 (p:=pA) (k:=n) (m:=cA) (ev rfl rfl) ?_)
 refine wmvc ?_
 refine wn1 (wBk ?_)
 refine wLp (σ := Nat) (fun i a9 w' => ∃ (fb:Nat → Value) (U:List Ir),a9 = act 74 (sets fb [(4,.pointer (some ⟨g5,0,none⟩)),(5,.slice pA n cA),(6,.slice pB n cB),(8,.int .i64 (n:Int)),(9,.slice pX n cX),(27,.int .i64 (n:Int)),(28,.int .i64 (i:Int))]) ∧ Sep w [.lst 39 1 pX n cX (itE U),.lst 39 1 pB n cB (itE TB),.lst 39 1 pA n cA (itE TA),.blk g5 [.bool false,.slice none 0 0,.slice none 0 0] 31,.blk g3 [.bool be,.slice pe ne ce,.slice pu n cu] 31,.blk g1 [.bool bd,.slice pd nd cd,.slice pt n ct] 31] w' ∧ (i ≤ n) ∧ (Fil (itv U) n n i 0 (mm n F E) (fun _ _ => 0))) (fun i => n - i) (0) ⟨_,TX,aSs ⟨rfl,rfl,rfl,rfl,rfl,rfl,rfl,trivial⟩,hS,Nat.zero_le _,Fil.start (hTX.trans (zeroT_tbl n n))⟩ ?_
 clear hS; rintro i _ w10 ⟨fb,U,rfl,hS,hi,hV⟩
 refine wsr ?_
 by_cases hli:i < n
 ·
  refine wbt rfl rfl rfl rfl (bLs (decide_eq_true (by omega))) ?_
  refine wn1 (wSq ?_)
  refine wT (ev rfl rfl) ?_
  refine wk2 (wmv rfl rfl ?_)
  refine wav rfl rfl ?_
  refine wn2 (wavc ?_)
  refine wn1 (wBk ?_)
  refine wLp (σ := Nat) (fun k a9 w' => ∃ (fb:Nat → Value) (V:List Ir),a9 = act 74 (sets fb [(4,.pointer (some ⟨g5,0,none⟩)),(5,.slice pA n cA),(6,.slice pB n cB),(8,.int .i64 (n:Int)),(9,.slice pX n cX),(10,.int .i64 (i:Int)),(11,.int .i64 (k:Int)),(27,.int .i64 (n:Int)),(28,.int .i64 (i:Int))]) ∧ Sep w [.lst 39 1 pX n cX (itE V),.lst 39 1 pB n cB (itE TB),.lst 39 1 pA n cA (itE TA),.blk g5 [.bool false,.slice none 0 0,.slice none 0 0] 31,.blk g3 [.bool be,.slice pe ne ce,.slice pu n cu] 31,.blk g1 [.bool bd,.slice pd nd cd,.slice pt n ct] 31] w' ∧ (k ≤ n) ∧ (Fil (itv V) n n i k (mm n F E) (fun _ _ => 0))) (fun k => n - k) (0) ⟨_,U,aSs ⟨rfl,rfl,rfl,rfl,rfl,rfl,rfl,rfl,rfl,trivial⟩,hS,Nat.zero_le _,hV⟩ ?_
  clear hS; rintro k _ w11 ⟨fb,V,rfl,hS,hk,hV2⟩
  refine wSq (wsr (wmv rfl rfl ?_))
  refine wmv rfl rfl ?_
  by_cases hlk:k < n
  ·
   refine wbt rfl rfl rfl rfl (bLs (decide_eq_true (by omega))) ?_
   refine wn1 ?_
   refine wT (ev rfl rfl) ?_
   refine wk2 (wmv rfl rfl ?_)
   refine wl rfl (olen rfl rfl rfl Tryz.runUnderlying47 (p:=pB) (k:=n) (m:=cB) (ev rfl rfl) ?_)
   refine wmvc ?_
   refine wn1 (wBk ?_)
   refine wLp (σ := Nat) (fun l a9 w' => ∃ (fb:Nat → Value) (Y:List Ir),a9 = act 74 (sets fb [(4,.pointer (some ⟨g5,0,none⟩)),(5,.slice pA n cA),(6,.slice pB n cB),(8,.int .i64 (n:Int)),(9,.slice pX n cX),(10,.int .i64 (i:Int)),(11,.int .i64 (k:Int)),(27,.int .i64 (n:Int)),(28,.int .i64 (i:Int)),(37,.int .i64 (n:Int)),(38,.int .i64 (l:Int))]) ∧ Sep w [.lst 39 1 pX n cX (itE Y),.lst 39 1 pB n cB (itE TB),.lst 39 1 pA n cA (itE TA),.blk g5 [.bool false,.slice none 0 0,.slice none 0 0] 31,.blk g3 [.bool be,.slice pe ne ce,.slice pu n cu] 31,.blk g1 [.bool bd,.slice pd nd cd,.slice pt n ct] 31] w' ∧ (l ≤ n) ∧ (Fil (itv Y) n n i k (mm n F E) (acG F E i k l))) (fun l => n - l) (0) ⟨_,V,aSs ⟨rfl,rfl,rfl,rfl,rfl,rfl,rfl,rfl,rfl,rfl,rfl,trivial⟩,hS,Nat.zero_le _,hV2.acs⟩ ?_
   clear hS; rintro l _ w12 ⟨fb,Y,rfl,hS,hl,hV3⟩
   refine wsr ?_
   by_cases hll:l < n
   ·
    have hlY:Y.length = n:=by rw [← itv_len]; exact hV3.len
    obtain ⟨gt13,hgt13⟩:=hS.lstPtr 0 rfl (by omega)
    obtain ⟨⟨pq,cq,Lq⟩,hTq⟩:∃ r,(Y)[i]? = some r:=⟨_,List.getElem?_eq_getElem (by omega)⟩
    have hlq:Lq.length = n:=iq_len (rfl:itv Y = itv Y) hV3.row hTq
    obtain ⟨gq,hgq⟩:=hS.irp 0 rfl hTq (by omega)
    obtain ⟨⟨px,nx,cx,qx,mx,dx,zx⟩,hLx⟩:∃ e,Lq[k]? = some e:=⟨_,List.getElem?_eq_getElem (by omega)⟩
    have hwx:Wd zx 2097408:=by have h9:=(iq_el (rfl:itv Y = itv Y) hTq hLx).trans ((hV3.el (by omega) (by omega) (Nat.le_refl _)).trans (acG_at F E i k l)); have h8:=hP i k l (by omega) (by omega) (by omega); rw [← h9] at h8; exact h8
    have hzx:zx = _:=(iq_el (rfl:itv Y = itv Y) hTq hLx).trans ((hV3.el (by omega) (by omega) (Nat.le_refl _)).trans (acG_at F E i k l))
    obtain ⟨gt14,hgt14⟩:=hS.lstPtr 2 rfl (by omega)
    obtain ⟨⟨pa,ca,La⟩,hTa⟩:∃ r,(TA)[i]? = some r:=⟨_,List.getElem?_eq_getElem (by omega)⟩
    have hla:La.length = n:=iq_len hTA (tbl_row n n F) hTa
    obtain ⟨ga,hga⟩:=hS.irp 2 rfl hTa (by omega)
    obtain ⟨⟨py,ny,cy,qy,my,dy,zy⟩,hLy⟩:∃ e,La[l]? = some e:=⟨_,List.getElem?_eq_getElem (by omega)⟩
    have hwy:Wd zy 2097408:=by have h9:=(iq_el hTA hTa hLy).trans (tbl_el (by omega) (by omega)); have h8:=hF i l (by omega) (by omega); rw [← h9] at h8; exact h8
    have hzy:zy = _:=(iq_el hTA hTa hLy).trans (tbl_el (by omega) (by omega))
    obtain ⟨gt15,hgt15⟩:=hS.lstPtr 1 rfl (by omega)
    obtain ⟨⟨pb,cb,Lb⟩,hTb⟩:∃ r,(TB)[l]? = some r:=⟨_,List.getElem?_eq_getElem (by omega)⟩
    have hlb:Lb.length = n:=iq_len hTB (tbl_row n n E) hTb
    obtain ⟨gb,hgb⟩:=hS.irp 1 rfl hTb (by omega)
    obtain ⟨⟨pv,nv,cv,qv,mv,dv,zv⟩,hLv⟩:∃ e,Lb[k]? = some e:=⟨_,List.getElem?_eq_getElem (by omega)⟩
    have hwv:Wd zv 2097408:=by have h9:=(iq_el hTB hTb hLv).trans (tbl_el (by omega) (by omega)); have h8:=hE l k (by omega) (by omega); rw [← h9] at h8; exact h8
    have hzv:zv = _:=(iq_el hTB hTb hLv).trans (tbl_el (by omega) (by omega))
    refine wbt rfl rfl rfl rfl (bLs (decide_eq_true (by omega))) ?_
    refine wn1 (wSq ?_)
    refine wT (ev rfl rfl) ?_
    refine wk2 (wmv rfl rfl ?_)
    refine wav rfl rfl ?_
    refine wn1 ?_
    obtain ⟨z1,hz1⟩:∃ z:Int,Hid (zy * zv = z):=⟨_,rfl⟩
    have hk1:Wd z1 4194816:=Wd.mul hwy hwv hz1 (by omega)
    have hk2:Wd 1 2:=wd1
    obtain ⟨z3,hz3⟩:∃ z:Int,Hid (zx + z1 = z):=⟨_,rfl⟩
    have hk3:Wd z3 2097408:=by rw [← hz3.out,hzx, ← hz1.out,hzy,hzv]; exact hP i k (l + 1) (by omega) (by omega) (by omega)
    have hk4:Wd 1 2:=wd1
    refine wSg 29 [41,42,43,44,45,46,47,48,49,50,51,52,53,54,55,56,57,58,59,60,61,62,63,64,65,66,67,68,69] [[],[],[0,1],[2,0,1],[],[],[],[5,6],[7,5,6],[],[8,9,5,6,7],[10,5,6,7,8,9],[],[],[12,13],[14,12,13],[],[15,16,12,13,14],[17,12,13,14,15,16],[],[],[19,20],[21,19,20],[],[22,23,19,20,21],[24,19,20,21,22,23],[18,25,12,13,14,15,16,17,19,20,21,22,23,24],[11,26,5,6,7,8,9,10,12,13,14,15,16,17,18,19,20,21,22,23,24,25],[3,4,0,1,2,5,6,7,8,9,10,11,12,13,14,15,16,17,18,19,20,21,22,23,24,25,26,27]] [] [] [] (fun i9 => ([iSv (.slice pX n cX),iSv (.int .i64 (i:Int)),iSv (.pointer (some ⟨gt13,(0 + i * 1),none⟩)),iSv (.slice pq Lq.length cq),iSv (.int .i64 (k:Int)),iSv (.slice pX n cX),iSv (.int .i64 (i:Int)),iSv (.pointer (some ⟨gt13,(0 + i * 1),none⟩)),iSv (.slice pq Lq.length cq),iSv (.int .i64 (k:Int)),iSv (.pointer (some ⟨gq,(0 + k * 4),none⟩)),iSv (.agg #[.bool (ng zx),.slice px nx cx,.bool (ng 1),.slice qx mx dx]),iSv (.slice pA n cA),iSv (.int .i64 (i:Int)),iSv (.pointer (some ⟨gt14,(0 + i * 1),none⟩)),iSv (.slice pa La.length ca),iSv (.int .i64 (l:Int)),iSv (.pointer (some ⟨ga,(0 + l * 4),none⟩)),iSv (.agg #[.bool (ng zy),.slice py ny cy,.bool (ng 1),.slice qy my dy]),iSv (.slice pB n cB),iSv (.int .i64 (l:Int)),iSv (.pointer (some ⟨gt15,(0 + l * 1),none⟩)),iSv (.slice pb Lb.length cb),iSv (.int .i64 (k:Int)),iSv (.pointer (some ⟨gb,(0 + k * 4),none⟩)),iSv (.agg #[.bool (ng zv),.slice pv nv cv,.bool (ng 1),.slice qv mv dv]),fun _ => Rrt z1 1,fun _ => Rrt z3 1,iSv (.pointer (some ⟨gq,(0 + k * 4),none⟩))]:List (List Value → Tell)).getD i9 (fun _ _ _ => False)) hNi (fun d _ _ _ _ h => (by cases d <;> exact h)) (by kernel_rfl) (by kernel_rfl) (by kernel_rfl) hS ?_ ?_
    ·
     refine stM rfl rfl rfl rfl rfl (fun _=>isI) ?_
     refine stM rfl rfl rfl rfl rfl (fun _=>isI) ?_
     refine stT rfl (fun hT hS=>?_) ?_
     ·obtain ⟨hv0,hr0⟩:=hT 0 41 rfl rfl
      obtain ⟨hv1,hr1⟩:=hT 1 42 rfl rfl
      obtain hS:=hS.flat2 hr0 hr1
      exact inNo rfl (oIx (p:=pX) (g:=gt13) (off:=0) (m:=n) (k:=i) (j:=(0 + i * 1)) rfl rfl Tryz.runUnderlying47 Tryz.sizeOf39 (ev rfl hv0) hgt13 (ev rfl hv1) (by omega) rfl (nSm rfl isI))
     refine stT rfl (fun hT hS=>?_) ?_
     ·obtain ⟨hv2,hr2⟩:=hT 2 43 rfl rfl
      obtain hS:=hS.flat1 hr2
      exact inNo rfl (oLc ⟨Tryz.isAgg39,Tryz.sizeOf39⟩ rfl rfl (ev rfl hv2) (hS.irc 0 rfl hTq hgt13) (nSm rfl isI))
     refine stM rfl rfl rfl rfl rfl (fun _=>isI) ?_
     refine stM rfl rfl rfl rfl rfl (fun _=>isI) ?_
     refine stM rfl rfl rfl rfl rfl (fun _=>isI) ?_
     refine stT rfl (fun hT hS=>?_) ?_
     ·obtain ⟨hv5,hr5⟩:=hT 5 46 rfl rfl
      obtain ⟨hv6,hr6⟩:=hT 6 47 rfl rfl
      obtain hS:=hS.flat2 hr5 hr6
      exact inNo rfl (oIx (p:=pX) (g:=gt13) (off:=0) (m:=n) (k:=i) (j:=(0 + i * 1)) rfl rfl Tryz.runUnderlying47 Tryz.sizeOf39 (ev rfl hv5) hgt13 (ev rfl hv6) (by omega) rfl (nSm rfl isI))
     refine stT rfl (fun hT hS=>?_) ?_
     ·obtain ⟨hv7,hr7⟩:=hT 7 48 rfl rfl
      obtain hS:=hS.flat1 hr7
      exact inNo rfl (oLc ⟨Tryz.isAgg39,Tryz.sizeOf39⟩ rfl rfl (ev rfl hv7) (hS.irc 0 rfl hTq hgt13) (nSm rfl isI))
     refine stM rfl rfl rfl rfl rfl (fun _=>isI) ?_
     refine stT rfl (fun hT hS=>?_) ?_
     ·obtain ⟨hv8,hr8⟩:=hT 8 49 rfl rfl
      obtain ⟨hv9,hr9⟩:=hT 9 50 rfl rfl
      obtain hS:=hS.flat2 hr8 hr9
      exact inNo rfl (oIx (p:=pq) (g:=gq) (off:=0) (m:=Lq.length) (k:=k) (j:=(0 + k * 4)) rfl rfl Tryz.runUnderlying39 Tryz.sizeOf43 (ev rfl hv8) hgq (ev rfl hv9) (by omega) rfl (nSm rfl isI))
     refine stT rfl (fun hT hS=>?_) ?_
     ·obtain ⟨hv10,hr10⟩:=hT 10 51 rfl rfl
      obtain hS:=hS.flat1 hr10
      exact inNo rfl (oloadA aggR rfl rfl (ev rfl hv10) (hS.iec 0 rfl hTq hLx hgq) rfl (nSm rfl isI))
     refine stM rfl rfl rfl rfl rfl (fun _=>isI) ?_
     refine stM rfl rfl rfl rfl rfl (fun _=>isI) ?_
     refine stT rfl (fun hT hS=>?_) ?_
     ·obtain ⟨hv12,hr12⟩:=hT 12 53 rfl rfl
      obtain ⟨hv13,hr13⟩:=hT 13 54 rfl rfl
      obtain hS:=hS.flat2 hr12 hr13
      exact inNo rfl (oIx (p:=pA) (g:=gt14) (off:=0) (m:=n) (k:=i) (j:=(0 + i * 1)) rfl rfl Tryz.runUnderlying47 Tryz.sizeOf39 (ev rfl hv12) hgt14 (ev rfl hv13) (by omega) rfl (nSm rfl isI))
     refine stT rfl (fun hT hS=>?_) ?_
     ·obtain ⟨hv14,hr14⟩:=hT 14 55 rfl rfl
      obtain hS:=hS.flat1 hr14
      exact inNo rfl (oLc ⟨Tryz.isAgg39,Tryz.sizeOf39⟩ rfl rfl (ev rfl hv14) (hS.irc 2 rfl hTa hgt14) (nSm rfl isI))
     refine stM rfl rfl rfl rfl rfl (fun _=>isI) ?_
     refine stT rfl (fun hT hS=>?_) ?_
     ·obtain ⟨hv15,hr15⟩:=hT 15 56 rfl rfl
      obtain ⟨hv16,hr16⟩:=hT 16 57 rfl rfl
      obtain hS:=hS.flat2 hr15 hr16
      exact inNo rfl (oIx (p:=pa) (g:=ga) (off:=0) (m:=La.length) (k:=l) (j:=(0 + l * 4)) rfl rfl Tryz.runUnderlying39 Tryz.sizeOf43 (ev rfl hv15) hga (ev rfl hv16) (by omega) rfl (nSm rfl isI))
     refine stT rfl (fun hT hS=>?_) ?_
     ·obtain ⟨hv17,hr17⟩:=hT 17 58 rfl rfl
      obtain hS:=hS.flat1 hr17
      exact inNo rfl (oloadA aggR rfl rfl (ev rfl hv17) (hS.iec 2 rfl hTa hLy hga) rfl (nSm rfl isI))
     refine stM rfl rfl rfl rfl rfl (fun _=>isI) ?_
     refine stM rfl rfl rfl rfl rfl (fun _=>isI) ?_
     refine stT rfl (fun hT hS=>?_) ?_
     ·obtain ⟨hv19,hr19⟩:=hT 19 60 rfl rfl
      obtain ⟨hv20,hr20⟩:=hT 20 61 rfl rfl
      obtain hS:=hS.flat2 hr19 hr20
      exact inNo rfl (oIx (p:=pB) (g:=gt15) (off:=0) (m:=n) (k:=l) (j:=(0 + l * 1)) rfl rfl Tryz.runUnderlying47 Tryz.sizeOf39 (ev rfl hv19) hgt15 (ev rfl hv20) (by omega) rfl (nSm rfl isI))
     refine stT rfl (fun hT hS=>?_) ?_
     ·obtain ⟨hv21,hr21⟩:=hT 21 62 rfl rfl
      obtain hS:=hS.flat1 hr21
      exact inNo rfl (oLc ⟨Tryz.isAgg39,Tryz.sizeOf39⟩ rfl rfl (ev rfl hv21) (hS.irc 1 rfl hTb hgt15) (nSm rfl isI))
     refine stM rfl rfl rfl rfl rfl (fun _=>isI) ?_
     refine stT rfl (fun hT hS=>?_) ?_
     ·obtain ⟨hv22,hr22⟩:=hT 22 63 rfl rfl
      obtain ⟨hv23,hr23⟩:=hT 23 64 rfl rfl
      obtain hS:=hS.flat2 hr22 hr23
      exact inNo rfl (oIx (p:=pb) (g:=gb) (off:=0) (m:=Lb.length) (k:=k) (j:=(0 + k * 4)) rfl rfl Tryz.runUnderlying39 Tryz.sizeOf43 (ev rfl hv22) hgb (ev rfl hv23) (by omega) rfl (nSm rfl isI))
     refine stT rfl (fun hT hS=>?_) ?_
     ·obtain ⟨hv24,hr24⟩:=hT 24 65 rfl rfl
      obtain hS:=hS.flat1 hr24
      exact inNo rfl (oloadA aggR rfl rfl (ev rfl hv24) (hS.iec 1 rfl hTb hLv hgb) rfl (nSm rfl isI))
     refine stT rfl (fun hT hS=>?_) ?_
     ·obtain ⟨hv18,hr18⟩:=hT 18 59 rfl rfl
      obtain ⟨hv25,hr25⟩:=hT 25 66 rfl rfl
      obtain hS:=hS.flat2 hr18 hr25
      exact .inl ⟨wNo rfl,oCl rfl rfl Tryz.call51 rfl ((show Calls _ _ _ _ (Ret (Rrt z1 1) _) from by rw [← hz1.out]; exact wimul ((hS.iez 2 rfl hTa hLy hwy).mono (by omega)) ((hS.ied 2 rfl hTa hLy).mono (by omega)) ((hS.iez 1 rfl hTb hLv hwv).mono (by omega)) ((hS.ied 1 rfl hTb hLv).mono (by omega)))) (ar2 (ev rfl hv18) (ev rfl hv25)) cNw⟩
     refine stT rfl (fun hT hS=>?_) ?_
     ·obtain ⟨hv11,hr11⟩:=hT 11 52 rfl rfl
      obtain ⟨p1,n1,c1,p2,n2,c2,hv26,hr26⟩:=(hT 26 67 rfl rfl:(Rrt z1 1) _ _)
      obtain hS:=hS.flat2 hr11 hr26
      exact .inl ⟨wNo rfl,oCl rfl rfl Tryz.call64 rfl ((show Calls _ _ _ _ (Ret (Rrt z3 1) _) from by rw [← hz3.out]; exact wiadd ((hS.iez 0 rfl hTq hLx hwx).mono (by omega)) ((hS.ied 0 rfl hTq hLx).mono (by omega)) (((hS.slm 6 rfl).zr hk1).mono (by omega)) (((hS.slm 7 rfl).zr hk2).mono (by omega)))) (ar2 (ev rfl hv11) (ev rfl hv26)) cNw⟩
     refine stT rfl (fun hT hS=>?_) ?_
     ·obtain ⟨hv3,hr3⟩:=hT 3 44 rfl rfl
      obtain ⟨hv4,hr4⟩:=hT 4 45 rfl rfl
      obtain hS:=hS.flat2 hr3 hr4
      exact inNo rfl (oIx (p:=pq) (g:=gq) (off:=0) (m:=Lq.length) (k:=k) (j:=(0 + k * 4)) rfl rfl Tryz.runUnderlying39 Tryz.sizeOf43 (ev rfl hv3) hgq (ev rfl hv4) (by omega) rfl (nSm rfl isI))
     exact sNi
    intro vs ρ w16 f' hf hT hS
    obtain ⟨hv0,hr0⟩:=hT 0 (by decide)
    obtain ⟨hv1,hr1⟩:=hT 1 (by decide)
    obtain ⟨hv2,hr2⟩:=hT 2 (by decide)
    obtain ⟨hv3,hr3⟩:=hT 3 (by decide)
    obtain ⟨hv4,hr4⟩:=hT 4 (by decide)
    obtain ⟨hv5,hr5⟩:=hT 5 (by decide)
    obtain ⟨hv6,hr6⟩:=hT 6 (by decide)
    obtain ⟨hv7,hr7⟩:=hT 7 (by decide)
    obtain ⟨hv8,hr8⟩:=hT 8 (by decide)
    obtain ⟨hv9,hr9⟩:=hT 9 (by decide)
    obtain ⟨hv10,hr10⟩:=hT 10 (by decide)
    obtain ⟨hv11,hr11⟩:=hT 11 (by decide)
    obtain ⟨hv12,hr12⟩:=hT 12 (by decide)
    obtain ⟨hv13,hr13⟩:=hT 13 (by decide)
    obtain ⟨hv14,hr14⟩:=hT 14 (by decide)
    obtain ⟨hv15,hr15⟩:=hT 15 (by decide)
    obtain ⟨hv16,hr16⟩:=hT 16 (by decide)
    obtain ⟨hv17,hr17⟩:=hT 17 (by decide)
    obtain ⟨hv18,hr18⟩:=hT 18 (by decide)
    obtain ⟨hv19,hr19⟩:=hT 19 (by decide)
    obtain ⟨hv20,hr20⟩:=hT 20 (by decide)
    obtain ⟨hv21,hr21⟩:=hT 21 (by decide)
    obtain ⟨hv22,hr22⟩:=hT 22 (by decide)
    obtain ⟨hv23,hr23⟩:=hT 23 (by decide)
    obtain ⟨hv24,hr24⟩:=hT 24 (by decide)
    obtain ⟨hv25,hr25⟩:=hT 25 (by decide)
    obtain ⟨p1,n1,c1,p2,n2,c2,hv26,hr26⟩:=(hT 26 (by decide):(Rrt z1 1) _ _)
    obtain ⟨p3,n3,c3,p4,n4,c4,hv27,hr27⟩:=(hT 27 (by decide):(Rrt z3 1) _ _)
    obtain ⟨hv28,hr28⟩:=hT 28 (by decide)
    simp only [pool,if_true,hr0,hr1,hr2,hr3,hr4,hr5,hr6,hr7,hr8,hr9,hr10,hr11,hr12,hr13,hr14,hr15,hr16,hr17,hr18,hr19,hr20,hr21,hr22,hr23,hr24,hr25,hr26,hr27,hr28,List.nil_append,List.cons_append,List.append_nil] at hS
    simp only [layf,hv0,hv1,hv2,hv3,hv4,hv5,hv6,hv7,hv8,hv9,hv10,hv11,hv12,hv13,hv14,hv15,hv16,hv17,hv18,hv19,hv20,hv21,hv22,hv23,hv24,hv25,hv26,hv27,hv28] at hf
    subst hf; clear hT hv0 hv1 hv2 hv3 hv4 hv5 hv6 hv7 hv8 hv9 hv10 hv11 hv12 hv13 hv14 hv15 hv16 hv17 hv18 hv19 hv20 hv21 hv22 hv23 hv24 hv25 hv26 hv27 hv28 hr0 hr1 hr2 hr3 hr4 hr5 hr6 hr7 hr8 hr9 hr10 hr11 hr12 hr13 hr14 hr15 hr16 hr17 hr18 hr19 hr20 hr21 hr22 hr23 hr24 hr25 hr26 hr27 hr28
    obtain hS:=(show Sep w [.lst 39 1 pX n cX (itE Y),.rowm p3 n3 c3 (lim z3.natAbs),.rowm p4 n4 c4 (lim (1:Int).natAbs),.rowm p1 n1 c1 (lim z1.natAbs),.rowm p2 n2 c2 (lim (1:Int).natAbs),.lst 39 1 pB n cB (itE TB),.lst 39 1 pA n cA (itE TA),.blk g5 [.bool false,.slice none 0 0,.slice none 0 0] 31,.blk g3 [.bool be,.slice pe ne ce,.slice pu n cu] 31,.blk g1 [.bool bd,.slice pd nd cd,.slice pt n ct] 31] w16 from hS.pick [4,0,1,2,3,5,6,7,8,9] (by decide) rfl)
    obtain hS:=hS.itake hTq hlq
    obtain hS:=(show Sep w [.rowm p3 n3 c3 (lim z3.natAbs),.rowm p4 n4 c4 (lim (1:Int).natAbs),.lst 43 4 pq n cq (iqs Lq),.lst 39 1 pX n cX ((itE Y).set i ⟨[.slice pq n cq],[]⟩),.rowm p1 n1 c1 (lim z1.natAbs),.rowm p2 n2 c2 (lim (1:Int).natAbs),.lst 39 1 pB n cB (itE TB),.lst 39 1 pA n cA (itE TA),.blk g5 [.bool false,.slice none 0 0,.slice none 0 0] 31,.blk g3 [.bool be,.slice pe ne ce,.slice pu n cu] 31,.blk g1 [.bool bd,.slice pd nd cd,.slice pt n ct] 31] w16 from hS.pick [2,3,0,1,4,5,6,7,8,9,10] (by decide) rfl)
    refine wLt 29 rfl (by kernel_rfl) (ostoreL (i:=k) (g:=gq) [.bool (ng z3),.slice p3 n3 c3,.bool (ng 1),.slice p4 n4 c4] [.rowm p3 n3 c3 (lim z3.natAbs),.rowm p4 n4 c4 (lim (1:Int).natAbs)] Tryz.sizeOf43 hS rfl rfl (ev rfl rfl) (ev rfl rfl) (rfl) rfl rfl rfl hgq (by omega) rfl ?_)
    clear hS; intro w17 hS
    rw [show (⟨[.bool (ng z3),.slice p3 n3 c3,.bool (ng 1),.slice p4 n4 c4],[.rowm p3 n3 c3 (lim z3.natAbs),.rowm p4 n4 c4 (lim (1:Int).natAbs)]⟩:El) = iqE ⟨p3,n3,c3,p4,n4,c4,z3⟩ from rfl,iqs_set] at hS
    obtain hS:=hS.iput (by omega) (List.length_set.trans hlq)
    refine ⟨hNi,?_⟩
    refine wdone rfl ?_
    refine blkN (tNo (wreg (wbc (z:=.int .i64 ((l + 1:Nat):Int)) rfl rfl (bAd (wI6 (by omega) (by omega))) ?_)))
    refine wmv rfl rfl ?_
    refine wn1 ?_
    exact ⟨(l + 1),⟨_,_,aSs ⟨rfl,rfl,rfl,rfl,rfl,rfl,rfl,rfl,rfl,rfl,rfl,trivial⟩,hS.pick [0,3,4,5,6,7] (by decide) rfl,by omega,by rw [iq_put rfl hTq]; exact hV3.ac1 (by omega) (by omega) (by rw [← hz3.out,hzx, ← hz1.out,hzy,hzv])⟩,by omega⟩
   refine wbt rfl rfl rfl rfl (bLs (decide_eq_false (by omega))) ?_
   refine wn1 (wSq ?_)
   refine wF (ev rfl rfl) ?_
   refine wEx ?_
   refine tEx ?_
   refine tEx ?_
   refine blkE ?_
   refine blkN (tNo (wreg (wmv rfl rfl ?_)))
   refine wbc (z:=.int .i64 ((k + 1:Nat):Int)) rfl rfl (bAd (wI6 (by omega) (by omega))) ?_
   refine wav rfl rfl ?_
   refine wn1 ?_
   exact ⟨(k + 1),⟨_,_,aSs ⟨rfl,rfl,rfl,rfl,rfl,rfl,rfl,rfl,rfl,trivial⟩,hS.pick [0,1,2,3,4,5] (by decide) rfl,by omega,hV3.acd (by omega)⟩,by omega⟩
  refine wbt rfl rfl rfl rfl (bLs (decide_eq_false (by omega))) ?_
  refine wn1 ?_
  refine wF (ev rfl rfl) ?_
  refine wEx ?_
  refine tEx ?_
  refine tEx ?_
  refine blkE ?_
  refine blkN (tNo (wreg (wbc (z:=.int .i64 ((i + 1:Nat):Int)) rfl rfl (bAd (wI6 (by omega) (by omega))) ?_)))
  refine wmv rfl rfl ?_
  refine wn1 ?_
  exact ⟨(i + 1),⟨_,_,aSs ⟨rfl,rfl,rfl,rfl,rfl,rfl,rfl,trivial⟩,hS.pick [0,1,2,3,4,5] (by decide) rfl,by omega,hV2.nxt (by omega)⟩,by omega⟩
 refine wbt rfl rfl rfl rfl (bLs (decide_eq_false (by omega))) ?_
 refine wn1 (wSq ?_)
 refine wF (ev rfl rfl) ?_
 refine wEx ?_
 refine tEx ?_
 refine tEx ?_
 refine blkE ?_
 refine tNo (wsr (wmv rfl rfl ?_))
 have hVV:=hV.done (show i = n by omega)
 refine wcl Tryz.call105 (wtFrom (show RTb _ _ _ ((tbl n n (mm n F E))) 2097408 from hVV ▸ hS.itb 0 rfl (by rw [hVV]; exact fun L hL => by have h8:=(tbl_wd fun i k hi hk => hP i k n hi hk (Nat.le_refl _)) L hL; omega) (by decide) (by omega) (by rw [hVV]; exact fun L hL => by have h8:=(tbl_row n n _) L hL; omega)) (by omega) (by omega) (fun L hL => by have h8:=(tbl_row n n _) L hL; omega) (tbl_wd fun i k hi hk => hP i k n hi hk (Nat.le_refl _))) (ar1 (ev rfl rfl)) hS ?_
 clear hS; rintro _ _ w11 ⟨pDM,nDM,cDM,pSM,cSM,rsM,rfl,rfl,hMM⟩ hS
 refine wl rfl (oSt _ _ Tryz.sizeOf31 hS 5 rfl rfl (ev rfl rfl) (ev rfl rfl) rfl rfl rfl rfl rfl rfl ?_)
 clear hS; intro w12 hS
 refine wn1 ?_
 refine wLv ?_
 refine wr1 Tryz.results87 (tellC (cs:=[.bool (ng 1),.slice pDM nDM cDM,.slice pSM n cSM]) ⟨Tryz.isAgg31,Tryz.sizeOf31⟩ hS 5 rfl rfl rfl rfl) ?_
 exact ⟨_,_,rfl,⟨_,_,_,_,_,_,rfl,rfl,hMM⟩,(show Sep w [.row pDM nDM cDM (lim (1:Int).natAbs),.pack rsM] _ from hS.pick [0,1] (by decide) rfl).newH rfl⟩
end Go.Proofs.YtnlnibngpeempaaGreatDoor
