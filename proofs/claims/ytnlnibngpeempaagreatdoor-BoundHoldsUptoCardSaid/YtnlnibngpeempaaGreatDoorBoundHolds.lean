
/-
  The walk of similelaw22.BoundHolds.
-/
import Derived.Test.YtnlnibngpeempaaGreatDoorV5
import Derived.Test.YtnlnibngpeempaaGreatDoorLT
set_option linter.unusedVariables false
set_option linter.unusedSimpArgs false
set_option maxRecDepth 100000
set_option maxHeartbeats 16000000
namespace Go.Proofs.YtnlnibngpeempaaGreatDoor
open Go.RowKit
theorem boundHolds_bad {pt:Option Addr} {nt ct:Nat} {T:List (List Int)} {w:World} (ht:Tb w) (hTB:TB w pt nt T 1048576) (hf:fitc T ≠ 0) :
  Calls Tryz.prog 3 #[.slice pt nt ct] w (Ret (Is (.bool true)) w):=by
 have hS:=Sep.init w
 refine went Tryz.func3 rfl (n:=112) rfl rfl ?_
 refine wsr (wavc ?_)
 refine wn1 (wSq (wsr (wmv rfl rfl ?_)))
 refine wcl Tryz.call5 (wqfitG ((hTB.mono (by omega)).at hS)) (ar1 (ev rfl rfl)) hS ?_
 clear hS; rintro _ _ w1 ⟨rfl,rfl⟩ hS
 refine wbc rfl rfl (bNe (neT hf)) ?_
 refine wn1 ?_
 refine wT (ev rfl rfl) ?_
 refine wsr (wcl Tryz.call6 (wbawake (ht.at hS)) (args0 ) hS ?_)
 clear hS; rintro _ _ w2 ⟨rfl,rfl⟩ hS
 refine wav rfl rfl ?_
 refine wn1 ?_
 refine wLv ?_
 refine thenR ?_
 refine wr1 Tryz.results3 (tlT (v:=.bool true) rfl rfl) ?_
 exact ⟨_,_,rfl,isI,hS.new0⟩
theorem boundHolds_good {S0:Nat} {W:Nat → Nat} {pt:Option Addr} {nt ct:Nat} {T:List (List Int)} {w:World} (ht:Tb w) (hTB:TB w pt nt T 1048576) (hf:fitc T = 0) (hras:(∀ i,i < nt → (T.getD i []).length = nt) → ∀ r,r < nt → ras nt (eT T) r < 4294967296 ^ W r) (hS0:sN nt W = S0) (hS2:S0 ≤ 1048700) :
  Calls Tryz.prog 3 #[.slice pt nt ct] w (Ret (Is (.bool true)) w):=by
 obtain ⟨hr0,h0,h24⟩:=fitc_ok hf
 have hTl:=hTB.1
 rw [hTl] at h0 h24
 have hr:∀ L ∈ T,L.length = nt:=fun L hL => (hr0 L hL).trans hTl
 have hr2:∀ i,i < nt → (T.getD i []).length = nt:=fun i hi => by
  rw [getD_some (List.getElem?_eq_getElem (show i < T.length by omega))]; exact hr _ (List.getElem_mem _)
 have hT6:TB w pt nt T 67108864:=hTB.mono (by omega)
 have hT9:TB w pt nt T 2097408:=hTB.mono (by omega)
 have hW0:=hras hr2
 obtain ⟨d,b,hLv,hbv⟩:=lev_exA h0 (eT T)
 have hLC:=lev_V h0 hLv hbv hW0 (Nat.le_of_eq hS0) hS2
 have hself:=tbl_self hTl hr
 have hTW:=hTB.wd
 have hWc:=coefs_wdS hTB hr h24
 have hnn:=coefs_nn T
 have hCl:=coefs_len T
 have hhad:=had_le hr2
 have hS:=Sep.init w
 refine went Tryz.func3 rfl (n:=112) rfl rfl ?_
 refine wsr (wavc ?_)
 refine wn1 (wSq (wsr (wmv rfl rfl ?_)))
 refine wcl Tryz.call5 ((show Calls _ _ _ _ (Ret (Is (.int .i64 0)) _) from by rw [← hf]; exact wqfitG (hT6.at hS))) (ar1 (ev rfl rfl)) hS ?_
 clear hS; rintro _ _ w1 ⟨rfl,rfl⟩ hS
 refine wbc (u:=.int .i64 0) (v:=.int .i64 0) (z:=.bool false) rfl rfl (bNe (by decide)) ?_
 refine wn1 ?_
 refine wF (ev rfl rfl) ?_
 refine wSk (tNo (wsr ?_))
 have hk1:Wd 1 2:=Wd.i64 (by omega) (by omega)
 refine wcl Tryz.call7 (wqof (z:=1) (by omega) (by omega)) (ar1 evc) hS ?_
 clear hS; rintro _ _ w2 ⟨p1,n1,c1,rfl,rfl⟩ hS
 refine wmv rfl rfl ?_
 refine wl rfl (obuild (ps:=#[(0,.agg #[.bool (ng 1),.slice p1 n1 c1]),(1,.slice pt nt ct)]) (v:=.agg #[.bool (ng 1),.slice p1 n1 c1,.slice pt nt ct]) rfl rfl (parts2 (ev rfl rfl) (ev rfl rfl)) (fun w => by simp [go_sem,Instr.build,Instr.fill]) ?_)
 refine wl rfl (oAl [.bool false,.slice none 0 0,.slice none 0 0] hS rfl rfl Tryz.zeroValue31 rfl ?_)
 clear hS; intro g3 w4 hS
 refine wl rfl (oSt _ _ Tryz.sizeOf31 hS 0 rfl rfl (ev rfl rfl) (ev rfl rfl) rfl rfl rfl rfl rfl rfl ?_)
 clear hS; intro w5 hS
 refine wn2 (wmv rfl rfl ?_)
 refine wcl Tryz.call8 (wbcoeffs (hT6.at hS) hr h0 h24) (ar1 (ev rfl rfl)) hS ?_
 clear hS; rintro _ _ w6 ⟨pC,cC,QC,hQC,rfl,rfl⟩ hS
 refine wmv rfl rfl ?_
 refine wl rfl (oEx rfl rfl (ev rfl rfl) rfl ?_)
 refine wl rfl (oEx rfl rfl (ev rfl rfl) rfl ?_)
 refine wav rfl rfl ?_
 refine wav rfl rfl ?_
 refine wn2 (wmv rfl rfl ?_)
 have hkB:Wd (mxA (coefs T) (nt + 1)) 26000000:=mxA_wd hWc _
 refine wcl Tryz.call9 (wbbound (hT6.at hS) hr h0 h24) (ar1 (ev rfl rfl)) hS ?_
 clear hS; rintro _ _ w7 ⟨pB,nB,cB,rfl,rfl⟩ hS
 refine wmv rfl rfl ?_
 refine wl rfl (oEx rfl rfl (ev rfl rfl) rfl ?_)
 refine wl rfl (oEx rfl rfl (ev rfl rfl) rfl ?_)
 refine wl rfl (oAl [.bool false,.slice none 0 0] hS rfl rfl Tryz.zeroValue28 rfl ?_)
 clear hS; intro g8 w9 hS
 refine wl rfl (oSt _ _ Tryz.sizeOf28 hS 0 rfl rfl (ev rfl rfl) (ev rfl rfl) rfl rfl rfl rfl rfl rfl ?_)
 clear hS; intro w10 hS
 refine wav rfl rfl ?_
 refine wn2 (wmv rfl rfl ?_)
 refine wcl Tryz.call10 (wbhad (hTB.at hS) hr h0 h24) (ar1 (ev rfl rfl)) hS ?_
 clear hS; rintro _ _ w11 ⟨pH,nH,cH,rfl,rfl⟩ hS
 refine wmv rfl rfl ?_
 refine wl rfl (oEx rfl rfl (ev rfl rfl) rfl ?_)
 refine wl rfl (oEx rfl rfl (ev rfl rfl) rfl ?_)
 refine wl rfl (oAl [.bool false,.slice none 0 0] hS rfl rfl Tryz.zeroValue28 rfl ?_)
 clear hS; intro g12 w13 hS
 refine wl rfl (oSt _ _ Tryz.sizeOf28 hS 0 rfl rfl (ev rfl rfl) (ev rfl rfl) rfl rfl rfl rfl rfl rfl ?_)
 clear hS; intro w14 hS
 refine wav rfl rfl ?_
 refine wn2 (wmv rfl rfl ?_)
 refine wl rfl (olen rfl rfl rfl Tryz.runUnderlying22 (p:=pt) (k:=nt) (m:=ct) (ev rfl rfl) ?_)
 refine wav rfl rfl ?_
 refine wn1 (wSq (wsr (wmv rfl rfl ?_)))
 refine wcl Tryz.call11 (wbnum) (ar1 (ev rfl rfl)) hS ?_
 clear hS; rintro _ _ w15 ⟨rfl,rfl⟩ hS
 refine wbc (u:=.int .i64 0) (v:=.int .i64 0) (z:=.bool false) rfl rfl (bNe (by decide)) ?_
 refine wmv rfl rfl ?_
 refine wlOn (e:=42) rfl rfl rfl rfl (omove rfl rfl (ev rfl rfl) ?_)
 refine wlOn (e:=42) rfl rfl rfl rfl (oCl rfl rfl Tryz.call11 rfl (wbnum) (ar1 (ev rfl rfl)) ?_)
 rintro _ w16 ⟨_,_,rfl,⟨rfl,rfl⟩,hN⟩
 refine ⟨_,rfl,?_⟩
 replace hS:=hS.news hN; clear hN
 refine wlOn (e:=42) rfl rfl rfl rfl (obin (u:=.int .i64 0) (v:=.int .i64 0) (z:=.bool false) rfl rfl (ev rfl rfl) evc (bNe (by decide)) ?_)
 refine wl rfl (opick rfl rfl (ev rfl rfl) (ev rfl rfl) ?_)
 refine wmv rfl rfl ?_
 refine wlOn (e:=47) rfl rfl rfl rfl (omove rfl rfl (ev rfl rfl) ?_)
 refine wlOn (e:=47) rfl rfl rfl rfl (oCl rfl rfl Tryz.call11 rfl (wbnum) (ar1 (ev rfl rfl)) ?_)
 rintro _ w17 ⟨_,_,rfl,⟨rfl,rfl⟩,hN⟩
 refine ⟨_,rfl,?_⟩
 replace hS:=hS.news hN; clear hN
 refine wlOn (e:=47) rfl rfl rfl rfl (obin (u:=.int .i64 0) (v:=.int .i64 0) (z:=.bool false) rfl rfl (ev rfl rfl) evc (bNe (by decide)) ?_)
 refine wl rfl (opick rfl rfl (ev rfl rfl) (ev rfl rfl) ?_)
 refine wmv rfl rfl ?_
 refine wlOn (e:=52) rfl rfl rfl rfl (omove rfl rfl (ev rfl rfl) ?_)
 refine wlOn (e:=52) rfl rfl rfl rfl (olen rfl rfl rfl Tryz.runUnderlying32 (p:=pC) (k:=nt + 1) (m:=cC) (ev rfl rfl) ?_)
 refine wlOn (e:=52) rfl rfl rfl rfl (omove rfl rfl (ev rfl rfl) ?_)
 refine wlOn (e:=52) rfl rfl rfl rfl (obin (z:=.int .i64 ((nt + 1:Nat):Int)) rfl rfl (ev rfl rfl) evc (bAd (wI6 (by omega) (by omega))) ?_)
 refine wlOn (e:=52) rfl rfl rfl rfl (obin rfl rfl (ev rfl rfl) (ev rfl rfl) (bNe (neF rfl)) ?_)
 refine wl rfl (opick rfl rfl (ev rfl rfl) (ev rfl rfl) ?_)
 refine wn1 ?_
 refine wF (ev rfl rfl) ?_
 refine wSk (tNo (wsr (wl rfl (oLd ⟨Tryz.isAgg31,Tryz.sizeOf31⟩ hS 5 rfl rfl (ev rfl rfl) rfl rfl rfl ?_))))
 refine wcl Tryz.call12 (wpchar20 ((hS.sl 6 rfl).zr hk1) (hself ▸ hT9.at hS) h0 (by omega) hLC) (ar1 (ev rfl rfl)) hS ?_
 clear hS; rintro _ _ w18 ⟨pP,cP,LP,hLP,rfl,rfl⟩ hS
 refine wav rfl rfl ?_
 refine wn1 (wSq (wsr (wmv rfl rfl ?_)))
 refine wl rfl (olen rfl rfl rfl Tryz.runUnderlying32 (p:=pC) (k:=nt + 1) (m:=cC) (ev rfl rfl) ?_)
 refine wmvc ?_
 refine wn1 (wBk ?_)
 refine wLp (σ := Nat) (fun i a9 w' => ∃ (fb:Nat → Value),a9 = act 112 (sets fb [(3,.pointer (some ⟨g3,0,none⟩)),(4,.slice pC (nt + 1) cC),(6,.pointer (some ⟨g8,0,none⟩)),(8,.pointer (some ⟨g12,0,none⟩)),(10,.int .i64 (nt:Int)),(11,.slice pP ((nt + 1)) cP),(62,.int .i64 ((nt + 1:Nat):Int)),(63,.int .i64 (i:Int))]) ∧ Sep w [.lst 43 4 pP ((nt + 1)) cP (iqs LP),.blk g12 [.bool (ng (((hadN (hadP T nt):Nat):Int))),.slice pH nH cH] 28,.row pH nH cH (lim (((hadN (hadP T nt):Nat):Int)).natAbs),.blk g8 [.bool (ng ((mxA (coefs T) (nt + 1)))),.slice pB nB cB] 28,.row pB nB cB (lim ((mxA (coefs T) (nt + 1))).natAbs),.lst 28 2 pC (nt + 1) cC (zzE QC),.blk g3 [.bool (ng 1),.slice p1 n1 c1,.slice pt nt ct] 31,.row p1 n1 c1 (lim (1:Int).natAbs)] w' ∧ (i ≤ nt + 1)) (fun i => nt + 1 - i) (0) ⟨_,aSs ⟨rfl,rfl,rfl,rfl,rfl,rfl,rfl,rfl,trivial⟩,hS,Nat.zero_le _⟩ ?_
 clear hS; rintro i _ w19 ⟨fb,rfl,hS,hi⟩
 refine wsr ?_
 by_cases hlt:i < nt + 1
 ·
  refine wbt rfl rfl rfl rfl (bLs (decide_eq_true (by omega))) ?_
  refine wn1 (wSq ?_)
  refine wT (ev rfl rfl) ?_
  refine wk2 (wmv rfl rfl ?_)
  refine wav rfl rfl ?_
  refine wn2 (wmv rfl rfl ?_)
  refine wmv rfl rfl ?_
  refine wmv rfl rfl ?_
  obtain ⟨gC,hgC⟩:=hS.lstPtr 5 rfl (by omega)
  obtain ⟨gP,hgP⟩:=hS.lstPtr 0 rfl (by omega)
  have hQl:QC.length = nt + 1:=by rw [← zsq_len,hQC,hCl,hTl]
  have hPl:LP.length = nt + 1:=by rw [← izs_len,hLP,dls_len]
  obtain ⟨⟨px,nx,cx,zx⟩,hqx⟩:∃ q,QC[i]? = some q:=⟨_,List.getElem?_eq_getElem (by omega)⟩
  have hzx:(coefs T).getD i 0 = zx:=by rw [← hQC]; exact zsq_get hqx
  have hwx:Wd zx 26000000:=by rw [← hzx]; exact hWc i
  obtain ⟨⟨pe,ne,ce,qe,me,de,ze⟩,heP⟩:∃ q,LP[nt - i]? = some q:=⟨_,List.getElem?_eq_getElem (by omega)⟩
  have hze:ze = d (nt - i):=izs_dls hLP (by omega) heP
  have hwe:Wd ze 2097408:=by rw [hze]; exact hLC.wd _ (by omega)
  have h7:=coef_kept hTl hr2 hLv (show i ≤ nt by omega)
  have h8:=coef_bound T (show i ≤ nt by omega)
  have h9:=hnn i
  rw [← hze,hzx] at h7
  rw [hzx] at h8 h9
  have hle:ze.natAbs ≤ zx.natAbs:=by omega
  have hngx:ng zx = false:=decide_eq_false (by omega)
  clear h7
  refine wbt (z:=.int .i64 ((nt - i:Nat):Int)) rfl rfl rfl rfl (bin_sub (by rw [show (nt:Int) - (i:Int) = ((nt - i:Nat):Int) by omega]; exact wI6 (by omega) (by omega))) ?_
  refine wl rfl (oIx (p:=pP) (g:=gP) (off:=0) (m:=(nt + 1)) (k:=nt - i) (j:=(0 + (nt - i) * 4)) rfl rfl Tryz.runUnderlying40 Tryz.sizeOf43 (ev rfl rfl) hgP (ev rfl rfl) (by omega) rfl ?_)
  refine wl rfl (oFA (g:=gP) (off:=(0 + (nt - i) * 4)) ((0 + (nt - i) * 4) + 0) rfl rfl (ev rfl rfl) Tryz.runUnderlying43 rfl Tryz.sizeOf28 rfl ?_)
  refine wl rfl (oloadA aggZ rfl rfl (ev (v:=.pointer (some ⟨gP,((0 + (nt - i) * 4) + 0),none⟩)) rfl rfl) (fun j v hj => (cell_sub (us:=[.bool (ng ze),.slice pe ne ce]) (hS.lstAtA 0 rfl hgP (nt - i) (iqs_get heP) (by decide) (by omega)) 0 rfl) j v hj) rfl ?_)
  refine wl rfl (oAl [.bool false,.slice none 0 0] hS rfl rfl Tryz.zeroValue28 rfl ?_)
  clear hS; intro g20 w21 hS
  refine wl rfl (oSt _ _ Tryz.sizeOf28 hS 0 rfl rfl (ev rfl rfl) (ev rfl rfl) rfl rfl rfl rfl rfl rfl ?_)
  clear hS; intro w22 hS
  refine wn1 (wSq ?_)
  obtain ⟨s2,hs2⟩:∃ z:Int,Hid (cmpN ze.natAbs zx.natAbs = z):=⟨_,rfl⟩
  obtain ⟨s3,hs3⟩:∃ z:Int,Hid (cmpZ zx ((mxA (coefs T) (nt + 1))) = z):=⟨_,rfl⟩
  refine wSg 25 [73,74,75,76,77,78,79,80,81,82,83,84,85,86,87,88,89,90,91,92,93,94,95,96,97] [[],[0],[],[],[2,3],[4,2,3],[5,2,3,4],[1,6,0,2,3,4,5],[7,0,1,2,3,4,5,6],[8,0,1,2,3,4,5,6,7],[9,0,1,2,3,4,5,6,7,8],[9,0,1,2,3,4,5,6,7,8],[9,10,11,0,1,2,3,4,5,6,7,8],[9,12,0,1,2,3,4,5,6,7,8,10,11],[9,13,0,1,2,3,4,5,6,7,8,10,11,12],[9,14,0,1,2,3,4,5,6,7,8,10,11,12,13],[15,0,1,2,3,4,5,6,7,8,9,10,11,12,13,14],[16,0,1,2,3,4,5,6,7,8,9,10,11,12,13,14,15],[16,0,1,2,3,4,5,6,7,8,9,10,11,12,13,14,15],[16,17,18,0,1,2,3,4,5,6,7,8,9,10,11,12,13,14,15],[16,19,0,1,2,3,4,5,6,7,8,9,10,11,12,13,14,15,17,18],[16,0,1,2,3,4,5,6,7,8,9,10,11,12,13,14,15],[16,20,21,0,1,2,3,4,5,6,7,8,9,10,11,12,13,14,15,17,18,19],[16,22,0,1,2,3,4,5,6,7,8,9,10,11,12,13,14,15,17,18,19,20,21],[16,23,0,1,2,3,4,5,6,7,8,9,10,11,12,13,14,15,17,18,19,20,21,22]] [] [] [] (fun i9 => ([iSv (.pointer (some ⟨g20,1,none⟩)),iSv (.slice pe ne ce),iSv (.slice pC (nt + 1) cC),iSv (.int .i64 (i:Int)),iSv (.pointer (some ⟨gC,(0 + i * 2),none⟩)),iSv (.pointer (some ⟨gC,((0 + i * 2) + 1),none⟩)),iSv (.slice px nx cx),iSv (.int .i64 s2),iSv (.bool false),iSv (.bool false),iSv (.slice pC (nt + 1) cC),iSv (.int .i64 (i:Int)),iSv (.pointer (some ⟨gC,(0 + i * 2),none⟩)),iSv (.pointer (some ⟨gC,((0 + i * 2) + 0),none⟩)),iSv (.bool false),iSv (.bool false),iSv (.bool false),iSv (.slice pC (nt + 1) cC),iSv (.int .i64 (i:Int)),iSv (.pointer (some ⟨gC,(0 + i * 2),none⟩)),iSv (.agg #[.bool (ng zx),.slice px nx cx]),iSv (.agg #[.bool (ng ((mxA (coefs T) (nt + 1)))),.slice pB nB cB]),iSv (.int .i64 s3),iSv (.bool false),iSv (.bool false)]:List (List Value → Tell)).getD i9 (fun _ _ _ => False)) hNi (fun d _ _ _ _ h => (by cases d <;> exact h)) (by kernel_rfl) (by kernel_rfl) (by kernel_rfl) hS ?_ ?_
  ·
   refine stH rfl (fun ho _=>?_) ?_
   ·exact inNo rfl (oFA (g:=g20) (off:=0) 1 rfl rfl (ev rfl (ho 13 rfl)) Tryz.runUnderlying28 rfl Tryz.sizeOf26 rfl (nSm rfl isI))
   refine stT rfl (fun hT hS=>?_) ?_
   ·obtain ⟨hv0,hr0⟩:=hT 0 73 rfl rfl
    obtain hS:=hS.flat1 hr0
    exact inNo rfl (oL1 oneN hS 0 rfl rfl (ev rfl hv0) rfl rfl (nSm rfl isI))
   refine stM rfl rfl rfl rfl rfl (fun _=>isI) ?_
   refine stM rfl rfl rfl rfl rfl (fun _=>isI) ?_
   refine stT rfl (fun hT hS=>?_) ?_
   ·obtain ⟨hv2,hr2⟩:=hT 2 75 rfl rfl
    obtain ⟨hv3,hr3⟩:=hT 3 76 rfl rfl
    obtain hS:=hS.flat2 hr2 hr3
    exact inNo rfl (oIx (p:=pC) (g:=gC) (off:=0) (m:=nt + 1) (k:=i) (j:=(0 + i * 2)) rfl rfl Tryz.runUnderlying32 Tryz.sizeOf28 (ev rfl hv2) hgC (ev rfl hv3) (by omega) rfl (nSm rfl isI))
   refine stT rfl (fun hT hS=>?_) ?_
   ·obtain ⟨hv4,hr4⟩:=hT 4 77 rfl rfl
    obtain hS:=hS.flat1 hr4
    exact inNo rfl (oFA (g:=gC) (off:=(0 + i * 2)) ((0 + i * 2) + 1) rfl rfl (ev rfl hv4) Tryz.runUnderlying28 rfl Tryz.sizeOf26 rfl (nSm rfl isI))
   refine stT rfl (fun hT hS=>?_) ?_
   ·obtain ⟨hv5,hr5⟩:=hT 5 78 rfl rfl
    obtain hS:=hS.flat1 hr5
    exact inNo rfl (oLc oneN rfl rfl (ev (v:=.pointer (some ⟨gC,((0 + i * 2) + 1),none⟩)) rfl hv5) ((cell_sub (us:=[.slice px nx cx]) (hS.lstAtA 6 rfl hgC i (zzE_get hqx) (by decide) (by omega)) 1 rfl) 0 _ rfl) (nSm rfl isI))
   refine stT rfl (fun hT hS=>?_) ?_
   ·obtain ⟨hv1,hr1⟩:=hT 1 74 rfl rfl
    obtain ⟨hv6,hr6⟩:=hT 6 79 rfl rfl
    obtain hS:=hS.flat2 hr1 hr6
    exact .inl ⟨wNo rfl,oCl rfl rfl Tryz.call13 rfl (wmcmp (hS.lqz (a:=0) 1 rfl heP hwe).nr (hS.zwZr 6 rfl hqx hwx).nr hs2) (ar2 (ev rfl hv1) (ev rfl hv6)) cNw⟩
   refine stT rfl (fun hT hS=>?_) ?_
   ·obtain ⟨hv7,hr7⟩:=hT 7 80 rfl rfl
    obtain hS:=hS.flat1 hr7
    exact inNo rfl (obin (z:=.bool false) rfl rfl (ev rfl hv7) evc (bin_gtr (cmpN_gtF hs2 hle)) (nSm rfl isI))
   refine stT rfl (fun hT hS=>?_) ?_
   ·obtain ⟨hv8,hr8⟩:=hT 8 81 rfl rfl
    obtain hS:=hS.flat1 hr8
    exact inNo rfl (omove rfl rfl (ev rfl hv8) (nSm rfl isI))
   refine stC rfl (fun _ _ _ _ _ ho hT hS _=>?_) ?_
   ·obtain ⟨hv9,hr9⟩:=hT 9 82 rfl rfl
    obtain hS:=hS.flat1 hr9
    exact .inl ⟨want_on (e:=82) rfl rfl rfl hv9,omove rfl rfl (ev rfl (ho 4 rfl)) ⟨_,_,rfl,isI,New.same _⟩⟩
   refine stC rfl (fun _ _ _ _ _ ho hT hS _=>?_) ?_
   ·obtain ⟨hv9,hr9⟩:=hT 9 82 rfl rfl
    obtain hS:=hS.flat1 hr9
    exact .inl ⟨want_on (e:=82) rfl rfl rfl hv9,omove rfl rfl (ev rfl (ho 12 rfl)) ⟨_,_,rfl,isI,New.same _⟩⟩
   refine stT rfl (fun hT hS=>?_) ?_
   ·obtain ⟨hv9,hr9⟩:=hT 9 82 rfl rfl
    obtain ⟨hv10,hr10⟩:=hT 10 83 rfl rfl
    obtain ⟨hv11,hr11⟩:=hT 11 84 rfl rfl
    obtain hS:=hS.flat3 hr9 hr10 hr11
    exact .inl ⟨want_on (e:=82) rfl rfl rfl hv9,oIx (p:=pC) (g:=gC) (off:=0) (m:=nt + 1) (k:=i) (j:=(0 + i * 2)) rfl rfl Tryz.runUnderlying32 Tryz.sizeOf28 (ev rfl hv10) hgC (ev rfl hv11) (by omega) rfl ⟨_,_,rfl,isI,New.same _⟩⟩
   refine stT rfl (fun hT hS=>?_) ?_
   ·obtain ⟨hv9,hr9⟩:=hT 9 82 rfl rfl
    obtain ⟨hv12,hr12⟩:=hT 12 85 rfl rfl
    obtain hS:=hS.flat2 hr9 hr12
    exact .inl ⟨want_on (e:=82) rfl rfl rfl hv9,oFA (g:=gC) (off:=(0 + i * 2)) ((0 + i * 2) + 0) rfl rfl (ev rfl hv12) Tryz.runUnderlying28 rfl Tryz.sizeOf4 rfl ⟨_,_,rfl,isI,New.same _⟩⟩
   refine stT rfl (fun hT hS=>?_) ?_
   ·obtain ⟨hv9,hr9⟩:=hT 9 82 rfl rfl
    obtain ⟨hv13,hr13⟩:=hT 13 86 rfl rfl
    obtain hS:=hS.flat2 hr9 hr13
    exact .inl ⟨want_on (e:=82) rfl rfl rfl hv9,oLc oneB rfl rfl (ev (v:=.pointer (some ⟨gC,((0 + i * 2) + 0),none⟩)) rfl hv13) (((cell_sub (us:=[.bool (ng zx)]) (hS.lstAtA 6 rfl hgC i (zzE_get hqx) (by decide) (by omega)) 0 rfl) 0 _ rfl).trans (congrArg (fun t => some (Value.bool t)) hngx)) ⟨_,_,rfl,isI,New.same _⟩⟩
   refine stT rfl (fun hT hS=>?_) ?_
   ·obtain ⟨hv9,hr9⟩:=hT 9 82 rfl rfl
    obtain ⟨hv14,hr14⟩:=hT 14 87 rfl rfl
    obtain hS:=hS.flat2 hr9 hr14
    exact inNo rfl (opick rfl rfl (ev rfl hv9) (ev rfl hv14) (nSm rfl isI))
   refine stT rfl (fun hT hS=>?_) ?_
   ·obtain ⟨hv15,hr15⟩:=hT 15 88 rfl rfl
    obtain hS:=hS.flat1 hr15
    exact inNo rfl (omove rfl rfl (ev rfl hv15) (nSm rfl isI))
   refine stC rfl (fun _ _ _ _ _ ho hT hS _=>?_) ?_
   ·obtain ⟨hv16,hr16⟩:=hT 16 89 rfl rfl
    obtain hS:=hS.flat1 hr16
    exact .inl ⟨want_on (e:=89) rfl rfl rfl hv16,omove rfl rfl (ev rfl (ho 4 rfl)) ⟨_,_,rfl,isI,New.same _⟩⟩
   refine stC rfl (fun _ _ _ _ _ ho hT hS _=>?_) ?_
   ·obtain ⟨hv16,hr16⟩:=hT 16 89 rfl rfl
    obtain hS:=hS.flat1 hr16
    exact .inl ⟨want_on (e:=89) rfl rfl rfl hv16,omove rfl rfl (ev rfl (ho 12 rfl)) ⟨_,_,rfl,isI,New.same _⟩⟩
   refine stT rfl (fun hT hS=>?_) ?_
   ·obtain ⟨hv16,hr16⟩:=hT 16 89 rfl rfl
    obtain ⟨hv17,hr17⟩:=hT 17 90 rfl rfl
    obtain ⟨hv18,hr18⟩:=hT 18 91 rfl rfl
    obtain hS:=hS.flat3 hr16 hr17 hr18
    exact .inl ⟨want_on (e:=89) rfl rfl rfl hv16,oIx (p:=pC) (g:=gC) (off:=0) (m:=nt + 1) (k:=i) (j:=(0 + i * 2)) rfl rfl Tryz.runUnderlying32 Tryz.sizeOf28 (ev rfl hv17) hgC (ev rfl hv18) (by omega) rfl ⟨_,_,rfl,isI,New.same _⟩⟩
   refine stT rfl (fun hT hS=>?_) ?_
   ·obtain ⟨hv16,hr16⟩:=hT 16 89 rfl rfl
    obtain ⟨hv19,hr19⟩:=hT 19 92 rfl rfl
    obtain hS:=hS.flat2 hr16 hr19
    exact .inl ⟨want_on (e:=89) rfl rfl rfl hv16,oloadA aggZ rfl rfl (ev (v:=.pointer (some ⟨gC,(0 + i * 2),none⟩)) rfl hv19) (fun j v hj => (hS.lstAtA 6 rfl hgC i (zzE_get hqx) (by decide) (by omega)) j v hj) rfl ⟨_,_,rfl,isI,New.same _⟩⟩
   refine stC rfl (fun _ _ _ _ _ ho hT hS _=>?_) ?_
   ·obtain ⟨hv16,hr16⟩:=hT 16 89 rfl rfl
    obtain hS:=hS.flat1 hr16
    exact .inl ⟨want_on (e:=89) rfl rfl rfl hv16,oLd aggZ hS 4 rfl rfl (ev rfl (ho 6 rfl)) rfl rfl rfl ⟨_,_,rfl,isI,New.same _⟩⟩
   refine stT rfl (fun hT hS=>?_) ?_
   ·obtain ⟨hv16,hr16⟩:=hT 16 89 rfl rfl
    obtain ⟨hv20,hr20⟩:=hT 20 93 rfl rfl
    obtain ⟨hv21,hr21⟩:=hT 21 94 rfl rfl
    obtain hS:=hS.flat3 hr16 hr20 hr21
    exact .inl ⟨want_on (e:=89) rfl rfl rfl hv16,oCl rfl rfl Tryz.call14 rfl (wqcmp ((hS.zwZr 6 rfl hqx hwx).mono (by omega)) (((hS.sl 5 rfl).zr hkB).mono (by omega)) hs3) (ar2 (ev rfl hv20) (ev rfl hv21)) cNw⟩
   refine stT rfl (fun hT hS=>?_) ?_
   ·obtain ⟨hv16,hr16⟩:=hT 16 89 rfl rfl
    obtain ⟨hv22,hr22⟩:=hT 22 95 rfl rfl
    obtain hS:=hS.flat2 hr16 hr22
    exact .inl ⟨want_on (e:=89) rfl rfl rfl hv16,obin (z:=.bool false) rfl rfl (ev rfl hv22) evc (bin_gtr ((cmpZ_gtD hs3).trans (decide_eq_false (by omega)))) ⟨_,_,rfl,isI,New.same _⟩⟩
   refine stT rfl (fun hT hS=>?_) ?_
   ·obtain ⟨hv16,hr16⟩:=hT 16 89 rfl rfl
    obtain ⟨hv23,hr23⟩:=hT 23 96 rfl rfl
    obtain hS:=hS.flat2 hr16 hr23
    exact inNo rfl (opick rfl rfl (ev rfl hv16) (ev rfl hv23) (nSm rfl isI))
   exact sNi
  intro vs ρ w23 f' hf hT hS
  obtain ⟨hv0,hr0⟩:=hT 0 (by decide)
  obtain ⟨hv1,hr1⟩:=hT 1 (by decide)
  obtain ⟨hv2,hr2⟩:=hT 2 (by decide)
  obtain ⟨hv3,hr3⟩:=hT 3 (by decide)
  obtain ⟨hv4,hr4⟩:=hT 4 (by decide)
  obtain ⟨hv5,hr5⟩:=hT 5 (by decide)
  obtain ⟨hv6,hr6⟩:=hT 6 (by decide)
  obtain ⟨hv7,hr7⟩:=hT 7 (by decide)
  obtain ⟨hv8,hr8⟩:=hT 8 (by decide)
  obtain ⟨hv9,hr9⟩:=hT 9 (by decide)
  obtain ⟨hv10,hr10⟩:=hT 10 (by decide)
  obtain ⟨hv11,hr11⟩:=hT 11 (by decide)
  obtain ⟨hv12,hr12⟩:=hT 12 (by decide)
  obtain ⟨hv13,hr13⟩:=hT 13 (by decide)
  obtain ⟨hv14,hr14⟩:=hT 14 (by decide)
  obtain ⟨hv15,hr15⟩:=hT 15 (by decide)
  obtain ⟨hv16,hr16⟩:=hT 16 (by decide)
  obtain ⟨hv17,hr17⟩:=hT 17 (by decide)
  obtain ⟨hv18,hr18⟩:=hT 18 (by decide)
  obtain ⟨hv19,hr19⟩:=hT 19 (by decide)
  obtain ⟨hv20,hr20⟩:=hT 20 (by decide)
  obtain ⟨hv21,hr21⟩:=hT 21 (by decide)
  obtain ⟨hv22,hr22⟩:=hT 22 (by decide)
  obtain ⟨hv23,hr23⟩:=hT 23 (by decide)
  obtain ⟨hv24,hr24⟩:=hT 24 (by decide)
  simp only [pool,if_true,hr0,hr1,hr2,hr3,hr4,hr5,hr6,hr7,hr8,hr9,hr10,hr11,hr12,hr13,hr14,hr15,hr16,hr17,hr18,hr19,hr20,hr21,hr22,hr23,hr24,List.nil_append,List.cons_append,List.append_nil] at hS
  simp only [layf,hv0,hv1,hv2,hv3,hv4,hv5,hv6,hv7,hv8,hv9,hv10,hv11,hv12,hv13,hv14,hv15,hv16,hv17,hv18,hv19,hv20,hv21,hv22,hv23,hv24] at hf
  subst hf; clear hT hv0 hv1 hv2 hv3 hv4 hv5 hv6 hv7 hv8 hv9 hv10 hv11 hv12 hv13 hv14 hv15 hv16 hv17 hv18 hv19 hv20 hv21 hv22 hv23 hv24 hr0 hr1 hr2 hr3 hr4 hr5 hr6 hr7 hr8 hr9 hr10 hr11 hr12 hr13 hr14 hr15 hr16 hr17 hr18 hr19 hr20 hr21 hr22 hr23 hr24
  refine wdone rfl ?_
  refine tNo ?_
  refine wF (ev rfl rfl) ?_
  refine wSk (blkN (tNo (wreg (wbc (z:=.int .i64 ((i + 1:Nat):Int)) rfl rfl (bAd (wI6 (by omega) (by omega))) ?_))))
  refine wmv rfl rfl ?_
  refine wn1 ?_
  exact ⟨(i + 1),⟨_,aSs ⟨rfl,rfl,rfl,rfl,rfl,rfl,rfl,rfl,trivial⟩,hS.pick [1,2,3,4,5,6,7,8] (by decide) rfl,by omega⟩,by omega⟩
 refine wbt rfl rfl rfl rfl (bLs (decide_eq_false (by omega))) ?_
 refine wn1 (wSq ?_)
 refine wF (ev rfl rfl) ?_
 refine wEx ?_
 refine tEx ?_
 refine tEx ?_
 refine blkE ?_
 refine tNo (wsr (wl rfl (oLd ⟨Tryz.isAgg31,Tryz.sizeOf31⟩ hS 6 rfl rfl (ev rfl rfl) rfl rfl rfl ?_)))
 refine wcl Tryz.call16 (wtRows ((hS.sl 7 rfl).zr hk1) (hT9.at hS) (by omega) (fun L hL => by rw [hr L hL]; omega)) (ar1 (ev rfl rfl)) hS ?_
 clear hS; rintro _ _ w20 ⟨pR,cR,TR,hTR,rfl,rfl⟩ hS
 refine wcl Tryz.call15 (wdet12 (N:=eT T) (S0:=S0) (V0:=W) (hself ▸ hTR ▸ hS.itl 0 rfl (hTR.symm ▸ fun L hL z hz => (hTW L hL z hz).mono (by omega)) (by omega) (by omega) (hTR.symm ▸ fun L hL => by rw [hr L hL]; omega)) h0 (by omega) hW0 hS0 hS2) (ar1 (ev rfl rfl)) hS ?_
 clear hS; rintro _ _ w21 ⟨pA,nA,cA,pA1,nA1,cA1,rfl,rfl⟩ hS
 refine wl rfl (oAl [.bool false,.slice none 0 0,.bool false,.slice none 0 0] hS rfl rfl Tryz.zeroValue43 rfl ?_)
 clear hS; intro g22 w23 hS
 refine wl rfl (oSt _ _ Tryz.sizeOf43 hS 0 rfl rfl (ev rfl rfl) (ev rfl rfl) rfl rfl rfl rfl rfl rfl ?_)
 clear hS; intro w24 hS
 refine wn2 (wl rfl (oFA (g:=g22) (off:=0) 0 rfl rfl (ev rfl rfl) Tryz.runUnderlying43 rfl Tryz.sizeOf28 rfl ?_))
 refine wl rfl (oFA (g:=g22) (off:=0) 1 rfl rfl (ev rfl rfl) Tryz.runUnderlying28 rfl Tryz.sizeOf26 rfl ?_)
 refine wl rfl (oL1 oneN hS 0 rfl rfl (ev rfl rfl) rfl rfl ?_)
 refine wl rfl (oFA (g:=g12) (off:=0) 1 rfl rfl (ev rfl rfl) Tryz.runUnderlying28 rfl Tryz.sizeOf26 rfl ?_)
 refine wl rfl (oL1 oneN hS 5 rfl rfl (ev rfl rfl) rfl rfl ?_)
 obtain ⟨s2,hs2⟩:∃ z:Int,Hid (cmpN ((dt nt (eT T)).natAbs) ((((hadN (hadP T nt):Nat):Int)).natAbs) = z):=⟨_,rfl⟩
 refine wcl Tryz.call13 (wmcmp (hS.slm 1 rfl).nrI (hS.sl 6 rfl).nrI hs2) (ar2 (ev rfl rfl) (ev rfl rfl)) hS ?_
 clear hS; rintro _ _ w25 ⟨rfl,rfl⟩ hS
 refine wbc (z:=.bool true) rfl rfl (bin_leq (cmpN_leT hs2 (by omega))) ?_
 refine wmv rfl rfl ?_
 refine wlOn (e:=109) rfl rfl rfl rfl (oCl rfl rfl Tryz.call6 rfl (wbawake (ht.at hS)) (args0 ) ?_)
 rintro _ w26 ⟨_,_,rfl,⟨rfl,rfl⟩,hN⟩
 refine ⟨_,rfl,?_⟩
 replace hS:=hS.news hN; clear hN
 refine wl rfl (opick rfl rfl (ev rfl rfl) (ev rfl rfl) ?_)
 refine wav rfl rfl ?_
 refine wn1 ?_
 refine wLv ?_
 refine wr1 Tryz.results3 (tlT (v:=.bool true) rfl rfl) ?_
 exact ⟨_,_,rfl,isI,hS.new0⟩
theorem boundHolds_walk {pt:Option Addr} {nt ct:Nat} {RT:List (List (Bool × List Nat))} {w:World} (hR:TRw w pt nt RT 1048576) (hlb:(RT.map fun r => (r.map fun e => e.2.length).sum).sum ≤ 1048576) (h1:Tab w) (h2:Bases w):Calls Tryz.prog 3 #[.slice pt nt ct] w (RetB w true):=by
  have hT:=hR.tb (K2:=1048576) (Nat.le_refl _)
  by_cases hf:fitc (tvr RT) = 0
  · exact Ret.bool (boundHolds_good ⟨h1,h2⟩ hT hf (fun hr => ras_rowW hR hr) (rowW_sum hR.1) (Nat.le_trans hlb (by omega)))
  exact Ret.bool (boundHolds_bad ⟨h1,h2⟩ hT hf)
end Go.Proofs.YtnlnibngpeempaaGreatDoor
