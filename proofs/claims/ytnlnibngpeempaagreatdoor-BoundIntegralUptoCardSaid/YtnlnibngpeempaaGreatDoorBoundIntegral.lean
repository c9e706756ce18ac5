
/-
  The walk of similelaw22.BoundIntegral.
-/
import Derived.Test.YtnlnibngpeempaaGreatDoorI4
import Derived.Test.YtnlnibngpeempaaGreatDoorLT
set_option linter.unusedVariables false
set_option linter.unusedSimpArgs false
set_option maxRecDepth 100000
set_option maxHeartbeats 16000000
namespace Go.Proofs.YtnlnibngpeempaaGreatDoor
open Go.RowKit
theorem fitM_ok {D:Int} {T:List (List Int)} (h:fitM D T = 0):D ≠ 0 ∧ evenB T = true ∧ T.length ≠ 0 ∧ T.length = (T.getD 0 []).length ∧ htM D T ≤ 4096 ∧ T.length ≤ 24:=by
 unfold fitM at h
 split at h
 ·exact absurd h ‹_›
 rename_i h1
 have h1:chkM D T = 0:=by omega
 split at h
 ·omega
 split at h
 ·omega
 have hD:D ≠ 0:=fun e => by unfold chkM at h1; rw [if_pos e] at h1; omega
 refine ⟨hD,?_,by omega,by omega,by omega,by omega⟩
 unfold chkM at h1; rw [if_neg hD] at h1
 cases he:evenB T with
 | true => rfl
 | false => rw [he] at h1; simp at h1
theorem zu_get {T:List Zu} {i:Nat} {r:Zu} (h:T[i]? = some r):(zuT T)[i]? = some (zuE r):=by simp [zuT,h]
theorem set_past {α : Type} {W V:List α} {i:Nat} {x : α} (h:∀ k,i ≤ k → W[k]? = V[k]?):∀ k,i + 1 ≤ k → (W.set i x)[k]? = V[k]? := fun k hk => by
  rw [List.getElem?_set_ne (by omega)]; exact h k (by omega)
theorem boundIntegral_walk0 {bd:Bool} {pd pt:Option Addr} {nd' cd nt ct:Nat} {xd:List Nat} {RT:List (List (Bool × List Nat))} {w:World} (ht:Tb w) (hsd:Sl w pd nd' cd xd) (hnd:nd' ≤ 1048576) (hR:TRw w pt nt RT 1048576) (hfr:(tvr RT).flatten.length ≤ 1048576) :
  Calls Tryz.prog 4 #[.agg #[.bool bd,.slice pd nd' cd,.slice pt nt ct]] w (Ret (Is (.bool true)) w):=by
 obtain ⟨D,hDz⟩:∃ D,zv bd (val xd) = D:=⟨_,rfl⟩
 have hd:Zr w bd pd nd' cd D 1048576:=⟨_,hsd,hDz,hnd⟩
 obtain ⟨hb1,hb2⟩:=hR.bd
 have hT0:=hR.tb (Nat.le_refl _)
 have hb:∀ L ∈ tvr RT,L.length ≤ 1048576:=fun L hL => by
  obtain ⟨L0,h0,rfl⟩:=List.mem_map.1 hL
  rw [List.length_map]; exact hb1 L0 h0
 obtain ⟨T,hTd⟩:∃ T,tvr RT = T:=⟨_,rfl⟩
 have hfl:=hfr
 have hTT:=hT0
 rw [hTd] at hTT hb hfl
 have hTl:=hTT.1
 have hTb:=hTT.2.1
 have hS:=Sep.init w
 refine went Tryz.func4 rfl (n:=155) rfl rfl ?_
 refine wsr (wl rfl (obox [.bool bd,.slice pd nd' cd,.slice pt nt ct] hS rfl rfl (ev rfl rfl) rfl ?_))
 clear hS; intro g1 w2 hS
 refine wavc ?_
 refine wn2 (wl rfl (oLd ⟨Tryz.isAgg31,Tryz.sizeOf31⟩ hS 0 rfl rfl (ev rfl rfl) rfl rfl rfl ?_))
 refine wcl Tryz.call17 (wtCopyM (hsd.below hS.below (Nat.le_refl _)) hnd (hR.at hS)) (ar1 (ev rfl rfl)) hS ?_
 clear hS; rintro _ _ w3 ⟨pDg,cDg,pg,cg,Ug,hUg,rfl,rfl⟩ hS
 refine wl rfl (oAl [.bool false,.slice none 0 0,.slice none 0 0] hS rfl rfl Tryz.zeroValue31 rfl ?_)
 clear hS; intro g4 w5 hS
 refine wl rfl (oSt _ _ Tryz.sizeOf31 hS 0 rfl rfl (ev rfl rfl) (ev rfl rfl) rfl rfl rfl rfl rfl rfl ?_)
 clear hS; intro w6 hS
 refine wn2 (wl rfl (oLd ⟨Tryz.isAgg31,Tryz.sizeOf31⟩ hS 0 rfl rfl (ev rfl rfl) rfl rfl rfl ?_))
 by_cases he:fitM D T = 0
 ·
  obtain ⟨hD,hev,h0,hsq,hh,h24⟩:=fitM_ok he
  rw [hTl] at h0 hsq h24
  have hrT:∀ L ∈ T,L.length = nt:=fun L hL => by rw [evenB_row hev L hL, ← hsq]
  have hc:∀ L ∈ T,0 < L.length ∧ L.length ≤ 1000:=fun L hL => by have:=hrT L hL; omega
  have hrr:∀ L ∈ mdT D T,L.length = nt:=mdT_rn hrT
  refine wcl Tryz.call18 (wbintO (show Zr _ bd pDg nd' cDg D 1048576 from ⟨_,hS.sl 1 rfl,hDz,hnd⟩) (show TB _ pg nt T 1048576 from hTd ▸ hS.uTB (K:=1048576) 2 rfl hUg hTb hb1 hb2) hD hev hb hfl h0 hsq hh h24) (ar1 (ev rfl rfl)) hS ?_
  clear hS; rintro _ _ w7 ⟨pDa,nDa,cDa,pa,ca,Va,hVa,rfl,rfl⟩ hS
  refine wmv rfl rfl ?_
  refine wl rfl (oEx rfl rfl (ev rfl rfl) rfl ?_)
  refine wl rfl (oEx rfl rfl (ev rfl rfl) rfl ?_)
  refine wl rfl (oEx rfl rfl (ev rfl rfl) rfl ?_)
  refine wl rfl (oAl [.bool false,.slice none 0 0] hS rfl rfl Tryz.zeroValue28 rfl ?_)
  clear hS; intro g8 w9 hS
  refine wl rfl (oSt _ _ Tryz.sizeOf28 hS 0 rfl rfl (ev rfl rfl) (ev rfl rfl) rfl rfl rfl rfl rfl rfl ?_)
  clear hS; intro w10 hS
  refine wav rfl rfl ?_
  refine wav rfl rfl ?_
  refine wn2 (wl rfl (oLd ⟨Tryz.isAgg31,Tryz.sizeOf31⟩ hS 3 rfl rfl (ev rfl rfl) rfl rfl rfl ?_))
  refine wcl Tryz.call18 (wbintO (show Zr _ bd pDg nd' cDg D 1048576 from ⟨_,hS.sl 4 rfl,hDz,hnd⟩) (show TB _ pg nt T 1048576 from hTd ▸ hS.uTB (K:=1048576) 5 rfl hUg hTb hb1 hb2) hD hev hb hfl h0 hsq hh h24) (ar1 (ev rfl rfl)) hS ?_
  clear hS; rintro _ _ w11 ⟨pDb,nDb,cDb,pb,cb,Vb,hVb,rfl,rfl⟩ hS
  refine wmv rfl rfl ?_
  refine wl rfl (oEx rfl rfl (ev rfl rfl) rfl ?_)
  refine wl rfl (oEx rfl rfl (ev rfl rfl) rfl ?_)
  refine wl rfl (oEx rfl rfl (ev rfl rfl) rfl ?_)
  refine wl rfl (oAl [.bool false,.slice none 0 0] hS rfl rfl Tryz.zeroValue28 rfl ?_)
  clear hS; intro g12 w13 hS
  refine wl rfl (oSt _ _ Tryz.sizeOf28 hS 0 rfl rfl (ev rfl rfl) (ev rfl rfl) rfl rfl rfl rfl rfl rfl ?_)
  clear hS; intro w14 hS
  refine wav rfl rfl ?_
  refine wav rfl rfl ?_
  refine wn2 (wl rfl (oLd ⟨Tryz.isAgg31,Tryz.sizeOf31⟩ hS 6 rfl rfl (ev rfl rfl) rfl rfl rfl ?_))
  refine wcl Tryz.call19 (wbradO (show Zr _ bd pDg nd' cDg D 1048576 from ⟨_,hS.sl 7 rfl,hDz,hnd⟩) (show TB _ pg nt T 1048576 from hTd ▸ hS.uTB (K:=1048576) 8 rfl hUg hTb hb1 hb2) hD hev hb hfl h0 hsq hh h24) (ar1 (ev rfl rfl)) hS ?_
  clear hS; rintro _ _ w15 ⟨pra,nra,cra,prb,nrb,crb,rfl,rfl⟩ hS
  refine wmv rfl rfl ?_
  refine wl rfl (oEx rfl rfl (ev rfl rfl) rfl ?_)
  refine wl rfl (oEx rfl rfl (ev rfl rfl) rfl ?_)
  refine wl rfl (oAl [.bool false,.slice none 0 0,.bool false,.slice none 0 0] hS rfl rfl Tryz.zeroValue43 rfl ?_)
  clear hS; intro g16 w17 hS
  refine wl rfl (oSt _ _ Tryz.sizeOf43 hS 0 rfl rfl (ev rfl rfl) (ev rfl rfl) rfl rfl rfl rfl rfl rfl ?_)
  clear hS; intro w18 hS
  refine wav rfl rfl ?_
  refine wn2 (wl rfl (oLd ⟨Tryz.isAgg31,Tryz.sizeOf31⟩ hS 12 rfl rfl (ev rfl rfl) rfl rfl rfl ?_))
  refine wcl Tryz.call20 (wtFitM (hd.at hS) (hTT.at hS) hb) (ar1 (ev rfl rfl)) hS ?_
  clear hS; rintro _ _ w19 ⟨rfl,rfl⟩ hS
  refine wav rfl rfl ?_
  refine wn1 (wSq (wsr (wmv rfl rfl ?_)))
  refine wbc rfl rfl (bNe (neF he)) ?_
  refine wn1 ?_
  refine wF (ev rfl rfl) ?_
  refine wSk (tNo (wsr (wl rfl (oLd ⟨Tryz.isAgg31,Tryz.sizeOf31⟩ hS 12 rfl rfl (ev rfl rfl) rfl rfl rfl ?_))))
  refine wcl Tryz.call22 (wtInt (hd.at hS) (hTT.at hS) hD h0 (by omega) hc) (ar1 (ev rfl rfl)) hS ?_
  clear hS; rintro _ _ w20 ⟨pDW,nDW,cDW,pSW,cSW,rsW,rfl,rfl,hMW⟩ hS
  refine wmv rfl rfl ?_
  refine wl rfl (oEx rfl rfl (ev rfl rfl) rfl ?_)
  refine wl rfl (oEx rfl rfl (ev rfl rfl) rfl ?_)
  refine wl rfl (oAl [.bool false,.slice none 0 0] hS rfl rfl Tryz.zeroValue28 rfl ?_)
  clear hS; intro g21 w22 hS
  refine wl rfl (oSt _ _ Tryz.sizeOf28 hS 0 rfl rfl (ev rfl rfl) (ev rfl rfl) rfl rfl rfl rfl rfl rfl ?_)
  clear hS; intro w23 hS
  refine wav rfl rfl ?_
  refine wn1 (wSq (wSq ?_))
  refine wSg 27 [83,84,85,86,87,88,89,90,91,92,93,94,95,96,97,98,99,100,101,102,103,104,105,106,107,108,109] [[],[0],[1,0],[2,0,1],[3,0,1,2],[3,0,1,2],[3,4,5,0,1,2],[3,6,0,1,2,4,5],[3,7,0,1,2,4,5,6],[8,0,1,2,3,4,5,6,7],[9,0,1,2,3,4,5,6,7,8],[9,0,1,2,3,4,5,6,7,8],[9,10,11,0,1,2,3,4,5,6,7,8],[9,12,0,1,2,3,4,5,6,7,8,10,11],[9,13,0,1,2,3,4,5,6,7,8,10,11,12],[14,0,1,2,3,4,5,6,7,8,9,10,11,12,13],[15,0,1,2,3,4,5,6,7,8,9,10,11,12,13,14],[15,16,0,1,2,3,4,5,6,7,8,9,10,11,12,13,14],[15,17,0,1,2,3,4,5,6,7,8,9,10,11,12,13,14,16],[15,18,0,1,2,3,4,5,6,7,8,9,10,11,12,13,14,16,17],[19,0,1,2,3,4,5,6,7,8,9,10,11,12,13,14,15,16,17,18],[20,0,1,2,3,4,5,6,7,8,9,10,11,12,13,14,15,16,17,18,19],[20,0,1,2,3,4,5,6,7,8,9,10,11,12,13,14,15,16,17,18,19],[20,22,0,1,2,3,4,5,6,7,8,9,10,11,12,13,14,15,16,17,18,19],[20,21,23,0,1,2,3,4,5,6,7,8,9,10,11,12,13,14,15,16,17,18,19,22],[20,24,0,1,2,3,4,5,6,7,8,9,10,11,12,13,14,15,16,17,18,19,21,22,23],[20,25,0,1,2,3,4,5,6,7,8,9,10,11,12,13,14,15,16,17,18,19,21,22,23,24]] [] [] [] (fun i9 => ([iSv (.int .i64 0),iSv (.int .i64 0),iSv (.bool false),iSv (.bool false),iSv (.agg #[.bool (ng ((mdD D T.flatten))),.slice pDa nDa cDa]),iSv (.agg #[.bool (ng ((mdD D T.flatten))),.slice pDW nDW cDW]),iSv (.bool true),iSv (.bool false),iSv (.bool false),iSv (.bool false),iSv (.slice pa nt ca),iSv (.slice pSW nt cSW),iSv (.bool true),iSv (.bool false),iSv (.bool false),iSv (.bool false),iSv (.int .i64 0),iSv (.int .i64 0),iSv (.bool false),iSv (.bool false),iSv (.bool false),iSv (.agg #[.bool (ng ((RN (radM D T) (mdD D T.flatten)))),.slice pra nra cra,.bool (ng ((RD (radM D T) (mdD D T.flatten)))),.slice prb nrb crb]),iSv (.agg #[.bool bd,.slice pd nd' cd,.slice pt nt ct]),fun _ => Rrt ((RN (radM D T) (mdD D T.flatten))) ((RD (radM D T) (mdD D T.flatten))),iSv (.bool true),iSv (.bool false),iSv (.bool false)]:List (List Value → Tell)).getD i9 (fun _ _ _ => False)) hNi (fun d _ _ _ _ h => (by cases d <;> exact h)) (by kernel_rfl) (by kernel_rfl) (by kernel_rfl) hS ?_ ?_
  ·
   refine stM rfl rfl rfl rfl rfl (fun _=>isI) ?_
   refine stT rfl (fun hT hS=>?_) ?_
   ·obtain ⟨hv0,hr0⟩:=hT 0 83 rfl rfl
    obtain hS:=hS.flat1 hr0
    exact .inl ⟨wNo rfl,oCl rfl rfl Tryz.call11 rfl (wbnum) (ar1 (ev rfl hv0)) cNw⟩
   refine stT rfl (fun hT hS=>?_) ?_
   ·obtain ⟨hv1,hr1⟩:=hT 1 84 rfl rfl
    obtain hS:=hS.flat1 hr1
    exact inNo rfl (obin (u:=.int .i64 0) (v:=.int .i64 0) (z:=.bool false) rfl rfl (ev rfl hv1) evc (bNe (by decide)) (nSm rfl isI))
   refine stT rfl (fun hT hS=>?_) ?_
   ·obtain ⟨hv2,hr2⟩:=hT 2 85 rfl rfl
    obtain hS:=hS.flat1 hr2
    exact inNo rfl (omove rfl rfl (ev rfl hv2) (nSm rfl isI))
   refine stC rfl (fun _ _ _ _ _ ho hT hS _=>?_) ?_
   ·obtain ⟨hv3,hr3⟩:=hT 3 86 rfl rfl
    obtain hS:=hS.flat1 hr3
    exact .inl ⟨want_on (e:=86) rfl rfl rfl hv3,oLd aggZ hS 9 rfl rfl (ev rfl (ho 4 rfl)) rfl rfl rfl ⟨_,_,rfl,isI,New.same _⟩⟩
   refine stC rfl (fun _ _ _ _ _ ho hT hS _=>?_) ?_
   ·obtain ⟨hv3,hr3⟩:=hT 3 86 rfl rfl
    obtain hS:=hS.flat1 hr3
    exact .inl ⟨want_on (e:=86) rfl rfl rfl hv3,oLd aggZ hS 0 rfl rfl (ev rfl (ho 13 rfl)) rfl rfl rfl ⟨_,_,rfl,isI,New.same _⟩⟩
   refine stT rfl (fun hT hS=>?_) ?_
   ·obtain ⟨hv3,hr3⟩:=hT 3 86 rfl rfl
    obtain ⟨hv4,hr4⟩:=hT 4 87 rfl rfl
    obtain ⟨hv5,hr5⟩:=hT 5 88 rfl rfl
    obtain hS:=hS.flat3 hr3 hr4 hr5
    exact .inl ⟨want_on (e:=86) rfl rfl rfl hv3,oCl rfl rfl Tryz.call23 rfl (wqsame (x:=(mdD D T.flatten)) (y:=(mdD D T.flatten)) (hS.sl 10 rfl) (hS.sl 1 rfl) (rfl)) (ar2 (ev rfl hv4) (ev rfl hv5)) cNw⟩
   refine stT rfl (fun hT hS=>?_) ?_
   ·obtain ⟨hv3,hr3⟩:=hT 3 86 rfl rfl
    obtain ⟨hv6,hr6⟩:=hT 6 89 rfl rfl
    obtain hS:=hS.flat2 hr3 hr6
    exact .inl ⟨want_on (e:=86) rfl rfl rfl hv3,onot rfl rfl (ev rfl hv6) ⟨_,_,rfl,isI,New.same _⟩⟩
   refine stT rfl (fun hT hS=>?_) ?_
   ·obtain ⟨hv3,hr3⟩:=hT 3 86 rfl rfl
    obtain ⟨hv7,hr7⟩:=hT 7 90 rfl rfl
    obtain hS:=hS.flat2 hr3 hr7
    exact inNo rfl (opick rfl rfl (ev rfl hv3) (ev rfl hv7) (nSm rfl isI))
   refine stT rfl (fun hT hS=>?_) ?_
   ·obtain ⟨hv8,hr8⟩:=hT 8 91 rfl rfl
    obtain hS:=hS.flat1 hr8
    exact inNo rfl (omove rfl rfl (ev rfl hv8) (nSm rfl isI))
   refine stC rfl (fun _ _ _ _ _ ho hT hS _=>?_) ?_
   ·obtain ⟨hv9,hr9⟩:=hT 9 92 rfl rfl
    obtain hS:=hS.flat1 hr9
    exact .inl ⟨want_on (e:=92) rfl rfl rfl hv9,omove rfl rfl (ev rfl (ho 5 rfl)) ⟨_,_,rfl,isI,New.same _⟩⟩
   refine stC rfl (fun _ _ _ _ _ ho hT hS _=>?_) ?_
   ·obtain ⟨hv9,hr9⟩:=hT 9 92 rfl rfl
    obtain hS:=hS.flat1 hr9
    exact .inl ⟨want_on (e:=92) rfl rfl rfl hv9,omove rfl rfl (ev rfl (ho 14 rfl)) ⟨_,_,rfl,isI,New.same _⟩⟩
   refine stT rfl (fun hT hS=>?_) ?_
   ·obtain ⟨hv9,hr9⟩:=hT 9 92 rfl rfl
    obtain ⟨hv10,hr10⟩:=hT 10 93 rfl rfl
    obtain ⟨hv11,hr11⟩:=hT 11 94 rfl rfl
    obtain hS:=hS.flat3 hr9 hr10 hr11
    exact .inl ⟨want_on (e:=92) rfl rfl rfl hv9,oCl rfl rfl Tryz.call24 rfl (wltables (hS.zutb 11 rfl hVa (mdT_wd hTT) hTb (mdT_rb hb)) (hMW _ (hS.get 2 rfl))) (ar2 (ev rfl hv10) (ev rfl hv11)) cNw⟩
   refine stT rfl (fun hT hS=>?_) ?_
   ·obtain ⟨hv9,hr9⟩:=hT 9 92 rfl rfl
    obtain ⟨hv12,hr12⟩:=hT 12 95 rfl rfl
    obtain hS:=hS.flat2 hr9 hr12
    exact .inl ⟨want_on (e:=92) rfl rfl rfl hv9,onot rfl rfl (ev rfl hv12) ⟨_,_,rfl,isI,New.same _⟩⟩
   refine stT rfl (fun hT hS=>?_) ?_
   ·obtain ⟨hv9,hr9⟩:=hT 9 92 rfl rfl
    obtain ⟨hv13,hr13⟩:=hT 13 96 rfl rfl
    obtain hS:=hS.flat2 hr9 hr13
    exact inNo rfl (opick rfl rfl (ev rfl hv9) (ev rfl hv13) (nSm rfl isI))
   refine stT rfl (fun hT hS=>?_) ?_
   ·obtain ⟨hv14,hr14⟩:=hT 14 97 rfl rfl
    obtain hS:=hS.flat1 hr14
    exact inNo rfl (omove rfl rfl (ev rfl hv14) (nSm rfl isI))
   refine stC rfl (fun _ _ _ _ _ ho hT hS _=>?_) ?_
   ·obtain ⟨hv15,hr15⟩:=hT 15 98 rfl rfl
    obtain hS:=hS.flat1 hr15
    exact .inl ⟨want_on (e:=98) rfl rfl rfl hv15,omove rfl rfl (ev rfl (ho 11 rfl)) ⟨_,_,rfl,isI,New.same _⟩⟩
   refine stT rfl (fun hT hS=>?_) ?_
   ·obtain ⟨hv15,hr15⟩:=hT 15 98 rfl rfl
    obtain ⟨hv16,hr16⟩:=hT 16 99 rfl rfl
    obtain hS:=hS.flat2 hr15 hr16
    exact .inl ⟨want_on (e:=98) rfl rfl rfl hv15,oCl rfl rfl Tryz.call11 rfl (wbnum) (ar1 (ev rfl hv16)) cNw⟩
   refine stT rfl (fun hT hS=>?_) ?_
   ·obtain ⟨hv15,hr15⟩:=hT 15 98 rfl rfl
    obtain ⟨hv17,hr17⟩:=hT 17 100 rfl rfl
    obtain hS:=hS.flat2 hr15 hr17
    exact .inl ⟨want_on (e:=98) rfl rfl rfl hv15,obin (u:=.int .i64 0) (v:=.int .i64 0) (z:=.bool false) rfl rfl (ev rfl hv17) evc (bNe (by decide)) ⟨_,_,rfl,isI,New.same _⟩⟩
   refine stT rfl (fun hT hS=>?_) ?_
   ·obtain ⟨hv15,hr15⟩:=hT 15 98 rfl rfl
    obtain ⟨hv18,hr18⟩:=hT 18 101 rfl rfl
    obtain hS:=hS.flat2 hr15 hr18
    exact inNo rfl (opick rfl rfl (ev rfl hv15) (ev rfl hv18) (nSm rfl isI))
   refine stT rfl (fun hT hS=>?_) ?_
   ·obtain ⟨hv19,hr19⟩:=hT 19 102 rfl rfl
    obtain hS:=hS.flat1 hr19
    exact inNo rfl (omove rfl rfl (ev rfl hv19) (nSm rfl isI))
   refine stC rfl (fun _ _ _ _ _ ho hT hS _=>?_) ?_
   ·obtain ⟨hv20,hr20⟩:=hT 20 103 rfl rfl
    obtain hS:=hS.flat1 hr20
    exact .inl ⟨want_on (e:=103) rfl rfl rfl hv20,oLd aggR hS 3 rfl rfl (ev rfl (ho 10 rfl)) rfl rfl rfl ⟨_,_,rfl,isI,New.same _⟩⟩
   refine stC rfl (fun _ _ _ _ _ ho hT hS _=>?_) ?_
   ·obtain ⟨hv20,hr20⟩:=hT 20 103 rfl rfl
    obtain hS:=hS.flat1 hr20
    exact .inl ⟨want_on (e:=103) rfl rfl rfl hv20,oLd ⟨Tryz.isAgg31,Tryz.sizeOf31⟩ hS 15 rfl rfl (ev rfl (ho 1 rfl)) rfl rfl rfl ⟨_,_,rfl,isI,New.same _⟩⟩
   refine stT rfl (fun hT hS=>?_) ?_
   ·obtain ⟨hv20,hr20⟩:=hT 20 103 rfl rfl
    obtain ⟨hv22,hr22⟩:=hT 22 105 rfl rfl
    obtain hS:=hS.flat2 hr20 hr22
    exact .inl ⟨want_on (e:=103) rfl rfl rfl hv20,oCl rfl rfl Tryz.call26 rfl ((show Calls _ _ _ _ (Ret (Rrt (RN (radM D T) (mdD D T.flatten)) (RD (radM D T) (mdD D T.flatten))) _) from by unfold radM; rw [hTl]; exact wtRadM (hd.at hS) (hTT.at hS) hD (fun L hL => (hc L hL).2) (rtT_md hD).symm (nD_pos hD) (mdD_wd hd.wd) (mdT_wd hTT) hrr h24)) (ar1 (ev rfl hv22)) cNw⟩
   refine stT rfl (fun hT hS=>?_) ?_
   ·obtain ⟨hv20,hr20⟩:=hT 20 103 rfl rfl
    obtain ⟨hv21,hr21⟩:=hT 21 104 rfl rfl
    obtain ⟨pqa,nqa,cqa,pqb,nqb,cqb,hv23,hr23⟩:=(hT 23 106 rfl rfl:(Rrt ((RN (radM D T) (mdD D T.flatten))) ((RD (radM D T) (mdD D T.flatten)))) _ _)
    obtain hS:=hS.flat3 hr20 hr21 hr23
    exact .inl ⟨want_on (e:=103) rfl rfl rfl hv20,oCl rfl rfl Tryz.call25 rfl (wssame (x:=(RN (radM D T) (mdD D T.flatten))) (y:=(RD (radM D T) (mdD D T.flatten))) (u:=(RN (radM D T) (mdD D T.flatten))) (v:=(RD (radM D T) (mdD D T.flatten))) (hS.slm 4 rfl) (hS.slm 5 rfl) (hS.slm 16 rfl) (hS.slm 17 rfl) (rfl) (rfl)) (ar2 (ev rfl hv21) (ev rfl hv23)) cNw⟩
   refine stT rfl (fun hT hS=>?_) ?_
   ·obtain ⟨hv20,hr20⟩:=hT 20 103 rfl rfl
    obtain ⟨hv24,hr24⟩:=hT 24 107 rfl rfl
    obtain hS:=hS.flat2 hr20 hr24
    exact .inl ⟨want_on (e:=103) rfl rfl rfl hv20,onot rfl rfl (ev rfl hv24) ⟨_,_,rfl,isI,New.same _⟩⟩
   refine stT rfl (fun hT hS=>?_) ?_
   ·obtain ⟨hv20,hr20⟩:=hT 20 103 rfl rfl
    obtain ⟨hv25,hr25⟩:=hT 25 108 rfl rfl
    obtain hS:=hS.flat2 hr20 hr25
    exact inNo rfl (opick rfl rfl (ev rfl hv20) (ev rfl hv25) (nSm rfl isI))
   exact sNi
  intro vs ρ w24 f' hf hT hS
  obtain ⟨hv0,hr0⟩:=hT 0 (by decide)
  obtain ⟨hv1,hr1⟩:=hT 1 (by decide)
  obtain ⟨hv2,hr2⟩:=hT 2 (by decide)
  obtain ⟨hv3,hr3⟩:=hT 3 (by decide)
  obtain ⟨hv4,hr4⟩:=hT 4 (by decide)
  obtain ⟨hv5,hr5⟩:=hT 5 (by decide)
  obtain ⟨hv6,hr6⟩:=hT 6 (by decide)
  obtain ⟨hv7,hr7⟩:=hT 7 (by decide)
  obtain ⟨hv8,hr8⟩:=hT 8 (by decide)
  obtain ⟨hv9,hr9⟩:=hT 9 (by decide)
  obtain ⟨hv10,hr10⟩:=hT 10 (by decide)
  obtain ⟨hv11,hr11⟩:=hT 11 (by decide)
  obtain ⟨hv12,hr12⟩:=hT 12 (by decide)
  obtain ⟨hv13,hr13⟩:=hT 13 (by decide)
  obtain ⟨hv14,hr14⟩:=hT 14 (by decide)
  obtain ⟨hv15,hr15⟩:=hT 15 (by decide)
  obtain ⟨hv16,hr16⟩:=hT 16 (by decide)
  obtain ⟨hv17,hr17⟩:=hT 17 (by decide)
  obtain ⟨hv18,hr18⟩:=hT 18 (by decide)
  obtain ⟨hv19,hr19⟩:=hT 19 (by decide)
  obtain ⟨hv20,hr20⟩:=hT 20 (by decide)
  obtain ⟨hv21,hr21⟩:=hT 21 (by decide)
  obtain ⟨hv22,hr22⟩:=hT 22 (by decide)
  obtain ⟨pqa,nqa,cqa,pqb,nqb,cqb,hv23,hr23⟩:=(hT 23 (by decide):(Rrt ((RN (radM D T) (mdD D T.flatten))) ((RD (radM D T) (mdD D T.flatten)))) _ _)
  obtain ⟨hv24,hr24⟩:=hT 24 (by decide)
  obtain ⟨hv25,hr25⟩:=hT 25 (by decide)
  obtain ⟨hv26,hr26⟩:=hT 26 (by decide)
  simp only [pool,if_true,hr0,hr1,hr2,hr3,hr4,hr5,hr6,hr7,hr8,hr9,hr10,hr11,hr12,hr13,hr14,hr15,hr16,hr17,hr18,hr19,hr20,hr21,hr22,hr23,hr24,hr25,hr26,List.nil_append,List.cons_append,List.append_nil] at hS
  simp only [layf,hv0,hv1,hv2,hv3,hv4,hv5,hv6,hv7,hv8,hv9,hv10,hv11,hv12,hv13,hv14,hv15,hv16,hv17,hv18,hv19,hv20,hv21,hv22,hv23,hv24,hv25,hv26] at hf
  subst hf; clear hT hv0 hv1 hv2 hv3 hv4 hv5 hv6 hv7 hv8 hv9 hv10 hv11 hv12 hv13 hv14 hv15 hv16 hv17 hv18 hv19 hv20 hv21 hv22 hv23 hv24 hv25 hv26 hr0 hr1 hr2 hr3 hr4 hr5 hr6 hr7 hr8 hr9 hr10 hr11 hr12 hr13 hr14 hr15 hr16 hr17 hr18 hr19 hr20 hr21 hr22 hr23 hr24 hr25 hr26
  refine wdone rfl ?_
  refine tNo ?_
  refine wF (ev rfl rfl) ?_
  refine wSk (tNo (wSq (wsr (wmv rfl rfl ?_))))
  refine wl rfl (olen rfl rfl rfl Tryz.runUnderlying22 (p:=pa) (k:=nt) (m:=ca) (ev rfl rfl) ?_)
  refine wmvc ?_
  refine wn1 (wBk ?_)
  have hWn:(zuT Va).length = nt:=by rw [show (zuT Va).length = Va.length from List.length_map _, ← zuv_len,hVa,mdT_len,hTl]
  refine wLp (σ := Nat) (fun i a9 w' => ∃ (fb:Nat → Value) (W:List El),a9 = act 155 (sets fb [(1,.pointer (some ⟨g1,0,none⟩)),(2,.bool false),(3,.pointer (some ⟨g4,0,none⟩)),(8,.slice pb nt cb),(14,.slice pSW nt cSW),(110,.slice pa nt ca),(111,.int .i64 (nt:Int)),(112,.int .i64 (i:Int))]) ∧ Sep w [.rowm pqa nqa cqa (lim ((RN (radM D T) (mdD D T.flatten))).natAbs),.rowm pqb nqb cqb (lim ((RD (radM D T) (mdD D T.flatten))).natAbs),.blk g21 [.bool (ng ((mdD D T.flatten))),.slice pDW nDW cDW] 28,.row pDW nDW cDW (lim ((mdD D T.flatten)).natAbs),.pack rsW,.blk g16 [.bool (ng ((RN (radM D T) (mdD D T.flatten)))),.slice pra nra cra,.bool (ng ((RD (radM D T) (mdD D T.flatten)))),.slice prb nrb crb] 43,.rowm pra nra cra (lim ((RN (radM D T) (mdD D T.flatten))).natAbs),.rowm prb nrb crb (lim ((RD (radM D T) (mdD D T.flatten))).natAbs),.blk g12 [.bool (ng ((mdD D T.flatten))),.slice pDb nDb cDb] 28,.row pDb nDb cDb (lim ((mdD D T.flatten)).natAbs),.lst 32 1 pb nt cb (zuT Vb),.blk g8 [.bool (ng ((mdD D T.flatten))),.slice pDa nDa cDa] 28,.row pDa nDa cDa (lim ((mdD D T.flatten)).natAbs),.lst 32 1 pa nt ca W,.blk g4 [.bool bd,.slice pDg nd' cDg,.slice pg nt cg] 31,.row pDg nd' cDg xd,.lst 32 1 pg nt cg (uuE Ug),.blk g1 [.bool bd,.slice pd nd' cd,.slice pt nt ct] 31] w' ∧ (i ≤ nt) ∧ (∀ k,i ≤ k → W[k]? = (zuT Va)[k]?) ∧ (W.length = nt)) (fun i => nt - i) (0) ⟨_,(zuT Va),aSs ⟨rfl,rfl,rfl,rfl,rfl,rfl,rfl,rfl,trivial⟩,hS,Nat.zero_le _,fun _ _ => rfl,hWn⟩ ?_
  clear hS; rintro i _ w25 ⟨fb,W,rfl,hS,hi,hW,hWl⟩
  refine wsr ?_
  by_cases hli:i < nt
  ·
   refine wbt rfl rfl rfl rfl (bLs (decide_eq_true (by omega))) ?_
   refine wn1 (wSq ?_)
   refine wT (ev rfl rfl) ?_
   refine wk2 ?_
   obtain ⟨gT,hgT⟩:=hS.lstPtr 13 rfl (by omega)
   obtain ⟨⟨pr,cr,Q⟩,hVr⟩:∃ r,Va[i]? = some r:=⟨_,List.getElem?_eq_getElem (by rw [← zuv_len,hVa,mdT_len]; omega)⟩
   have hWr:W[i]? = some (zuE ⟨pr,cr,Q⟩):=by rw [hW i (Nat.le_refl _)]; exact zu_get hVr
   have hQn:Q.length = nt:=by rw [← zsq_len]; exact hrr _ (List.mem_of_getElem? (zuv_get hVa hVr))
   refine wl rfl (oIx (p:=pa) (g:=gT) (off:=0) (m:=nt) (k:=i) (j:=(0 + i * 1)) rfl rfl Tryz.runUnderlying22 Tryz.sizeOf32 (ev rfl rfl) hgT (ev rfl rfl) (by omega) rfl ?_)
   refine wl rfl (oLc ⟨Tryz.isAgg32,Tryz.sizeOf32⟩ rfl rfl (ev (v:=.pointer (some ⟨gT,(0 + i * 1),none⟩)) rfl rfl) (hS.lstAt 13 rfl hgT i 0 hWr rfl (by decide) (by omega)) ?_)
   refine wav rfl rfl ?_
   refine wn2 (wmv rfl rfl ?_)
   refine wl rfl (olen rfl rfl rfl Tryz.runUnderlying32 (p:=pr) (k:=Q.length) (m:=cr) (ev rfl rfl) ?_)
   refine wmvc ?_
   refine wn1 (wBk ?_)
   obtain hS:=(show Sep w [.lst 32 1 pa nt ca W,.rowm pqa nqa cqa (lim ((RN (radM D T) (mdD D T.flatten))).natAbs),.rowm pqb nqb cqb (lim ((RD (radM D T) (mdD D T.flatten))).natAbs),.blk g21 [.bool (ng ((mdD D T.flatten))),.slice pDW nDW cDW] 28,.row pDW nDW cDW (lim ((mdD D T.flatten)).natAbs),.pack rsW,.blk g16 [.bool (ng ((RN (radM D T) (mdD D T.flatten)))),.slice pra nra cra,.bool (ng ((RD (radM D T) (mdD D T.flatten)))),.slice prb nrb crb] 43,.rowm pra nra cra (lim ((RN (radM D T) (mdD D T.flatten))).natAbs),.rowm prb nrb crb (lim ((RD (radM D T) (mdD D T.flatten))).natAbs),.blk g12 [.bool (ng ((mdD D T.flatten))),.slice pDb nDb cDb] 28,.row pDb nDb cDb (lim ((mdD D T.flatten)).natAbs),.lst 32 1 pb nt cb (zuT Vb),.blk g8 [.bool (ng ((mdD D T.flatten))),.slice pDa nDa cDa] 28,.row pDa nDa cDa (lim ((mdD D T.flatten)).natAbs),.blk g4 [.bool bd,.slice pDg nd' cDg,.slice pg nt cg] 31,.row pDg nd' cDg xd,.lst 32 1 pg nt cg (uuE Ug),.blk g1 [.bool bd,.slice pd nd' cd,.slice pt nt ct] 31] w25 from hS.pick [13,0,1,2,3,4,5,6,7,8,9,10,11,12,14,15,16,17] (by decide) rfl)
   obtain hS:=(show Sep w [.lst 28 2 pr Q.length cr (zzE Q),.lst 32 1 pa nt ca ((W.set i ⟨[.slice pr Q.length cr],[]⟩)),.rowm pqa nqa cqa (lim ((RN (radM D T) (mdD D T.flatten))).natAbs),.rowm pqb nqb cqb (lim ((RD (radM D T) (mdD D T.flatten))).natAbs),.blk g21 [.bool (ng ((mdD D T.flatten))),.slice pDW nDW cDW] 28,.row pDW nDW cDW (lim ((mdD D T.flatten)).natAbs),.pack rsW,.blk g16 [.bool (ng ((RN (radM D T) (mdD D T.flatten)))),.slice pra nra cra,.bool (ng ((RD (radM D T) (mdD D T.flatten)))),.slice prb nrb crb] 43,.rowm pra nra cra (lim ((RN (radM D T) (mdD D T.flatten))).natAbs),.rowm prb nrb crb (lim ((RD (radM D T) (mdD D T.flatten))).natAbs),.blk g12 [.bool (ng ((mdD D T.flatten))),.slice pDb nDb cDb] 28,.row pDb nDb cDb (lim ((mdD D T.flatten)).natAbs),.lst 32 1 pb nt cb (zuT Vb),.blk g8 [.bool (ng ((mdD D T.flatten))),.slice pDa nDa cDa] 28,.row pDa nDa cDa (lim ((mdD D T.flatten)).natAbs),.blk g4 [.bool bd,.slice pDg nd' cDg,.slice pg nt cg] 31,.row pDg nd' cDg xd,.lst 32 1 pg nt cg (uuE Ug),.blk g1 [.bool bd,.slice pd nd' cd,.slice pt nt ct] 31] w25 from hS.takeEl hWr)
   refine wLp (σ := Nat) (fun j a9 w' => ∃ (fb:Nat → Value) (es:List El),a9 = act 155 (sets fb [(1,.pointer (some ⟨g1,0,none⟩)),(2,.bool false),(3,.pointer (some ⟨g4,0,none⟩)),(8,.slice pb nt cb),(14,.slice pSW nt cSW),(16,.slice pr Q.length cr),(110,.slice pa nt ca),(111,.int .i64 (nt:Int)),(112,.int .i64 (i:Int)),(117,.int .i64 (Q.length:Int)),(118,.int .i64 (j:Int))]) ∧ Sep w [.lst 28 2 pr Q.length cr es,.lst 32 1 pa nt ca ((W.set i ⟨[.slice pr Q.length cr],[]⟩)),.rowm pqa nqa cqa (lim ((RN (radM D T) (mdD D T.flatten))).natAbs),.rowm pqb nqb cqb (lim ((RD (radM D T) (mdD D T.flatten))).natAbs),.blk g21 [.bool (ng ((mdD D T.flatten))),.slice pDW nDW cDW] 28,.row pDW nDW cDW (lim ((mdD D T.flatten)).natAbs),.pack rsW,.blk g16 [.bool (ng ((RN (radM D T) (mdD D T.flatten)))),.slice pra nra cra,.bool (ng ((RD (radM D T) (mdD D T.flatten)))),.slice prb nrb crb] 43,.rowm pra nra cra (lim ((RN (radM D T) (mdD D T.flatten))).natAbs),.rowm prb nrb crb (lim ((RD (radM D T) (mdD D T.flatten))).natAbs),.blk g12 [.bool (ng ((mdD D T.flatten))),.slice pDb nDb cDb] 28,.row pDb nDb cDb (lim ((mdD D T.flatten)).natAbs),.lst 32 1 pb nt cb (zuT Vb),.blk g8 [.bool (ng ((mdD D T.flatten))),.slice pDa nDa cDa] 28,.row pDa nDa cDa (lim ((mdD D T.flatten)).natAbs),.blk g4 [.bool bd,.slice pDg nd' cDg,.slice pg nt cg] 31,.row pDg nd' cDg xd,.lst 32 1 pg nt cg (uuE Ug),.blk g1 [.bool bd,.slice pd nd' cd,.slice pt nt ct] 31] w' ∧ (j ≤ Q.length) ∧ (∀ k,j ≤ k → es[k]? = (zzE Q)[k]?) ∧ (es.length = Q.length)) (fun j => Q.length - j) (0) ⟨_,(zzE Q),aSs ⟨rfl,rfl,rfl,rfl,rfl,rfl,rfl,rfl,rfl,rfl,rfl,trivial⟩,hS,Nat.zero_le _,fun _ _ => rfl,zzE_len _⟩ ?_
   clear hS; rintro j _ w26 ⟨fb,es,rfl,hS,hj,hes,hel⟩
   refine wsr ?_
   by_cases hlj:j < Q.length
   ·
    refine wbt rfl rfl rfl rfl (bLs (decide_eq_true (by omega))) ?_
    refine wn1 (wSq ?_)
    refine wT (ev rfl rfl) ?_
    refine wk2 (wmv rfl rfl ?_)
    refine wav rfl rfl ?_
    refine wn1 (wSq (wsr (wmv rfl rfl ?_)))
    refine wmv rfl rfl ?_
    obtain ⟨gR,hgR⟩:=hS.lstPtr 0 rfl (by omega)
    obtain ⟨⟨pq,nq,cq,zq⟩,hqj⟩:∃ r,Q[j]? = some r:=⟨_,List.getElem?_eq_getElem (by omega)⟩
    have heq:es[j]? = some (zwE ⟨pq,nq,cq,zq⟩):=by rw [hes j (Nat.le_refl _)]; exact zzE_get hqj
    refine wl rfl (oIx (p:=pr) (g:=gR) (off:=0) (m:=Q.length) (k:=j) (j:=(0 + j * 2)) rfl rfl Tryz.runUnderlying32 Tryz.sizeOf28 (ev rfl rfl) hgR (ev rfl rfl) (by omega) rfl ?_)
    refine wl rfl (oFA (g:=gR) (off:=(0 + j * 2)) ((0 + j * 2) + 1) rfl rfl (ev rfl rfl) Tryz.runUnderlying28 rfl Tryz.sizeOf26 rfl ?_)
    refine wl rfl (oLc oneN rfl rfl (ev (v:=.pointer (some ⟨gR,((0 + j * 2) + 1),none⟩)) rfl rfl) (hS.lstAt 0 rfl hgR j 1 heq rfl (by decide) (by omega)) ?_)
    refine wl rfl (olen rfl rfl rfl Tryz.runUnderlying26 (p:=pq) (k:=nq) (m:=cq) (ev rfl rfl) ?_)
    refine wmvc ?_
    refine wn1 (wBk ?_)
    obtain hS:=(show Sep w [.rowm pq nq cq (lim zq.natAbs),.lst 28 2 pr Q.length cr ((es.set j ⟨[.bool (ng zq),.slice pq nq cq],[]⟩)),.lst 32 1 pa nt ca ((W.set i ⟨[.slice pr Q.length cr],[]⟩)),.rowm pqa nqa cqa (lim ((RN (radM D T) (mdD D T.flatten))).natAbs),.rowm pqb nqb cqb (lim ((RD (radM D T) (mdD D T.flatten))).natAbs),.blk g21 [.bool (ng ((mdD D T.flatten))),.slice pDW nDW cDW] 28,.row pDW nDW cDW (lim ((mdD D T.flatten)).natAbs),.pack rsW,.blk g16 [.bool (ng ((RN (radM D T) (mdD D T.flatten)))),.slice pra nra cra,.bool (ng ((RD (radM D T) (mdD D T.flatten)))),.slice prb nrb crb] 43,.rowm pra nra cra (lim ((RN (radM D T) (mdD D T.flatten))).natAbs),.rowm prb nrb crb (lim ((RD (radM D T) (mdD D T.flatten))).natAbs),.blk g12 [.bool (ng ((mdD D T.flatten))),.slice pDb nDb cDb] 28,.row pDb nDb cDb (lim ((mdD D T.flatten)).natAbs),.lst 32 1 pb nt cb (zuT Vb),.blk g8 [.bool (ng ((mdD D T.flatten))),.slice pDa nDa cDa] 28,.row pDa nDa cDa (lim ((mdD D T.flatten)).natAbs),.blk g4 [.bool bd,.slice pDg nd' cDg,.slice pg nt cg] 31,.row pDg nd' cDg xd,.lst 32 1 pg nt cg (uuE Ug),.blk g1 [.bool bd,.slice pd nd' cd,.slice pt nt ct] 31] w26 from hS.takeEl heq)
    have hen:(es.set j ⟨[.bool (ng zq),.slice pq nq cq],[]⟩)[j]? = some ⟨[.bool (ng zq),.slice pq nq cq],[]⟩:=List.getElem?_set_self (by omega)
    have hnq:=hS.slm 0 rfl
    have hnq2:=hnq.le
    have hnq3:=hnq.cap
    simp only [maxLen] at hnq3
    refine wLp (σ := Nat) (fun k a9 w' => ∃ (fb:Nat → Value) (xs:List Nat),a9 = act 155 (sets fb [(1,.pointer (some ⟨g1,0,none⟩)),(2,.bool false),(3,.pointer (some ⟨g4,0,none⟩)),(8,.slice pb nt cb),(14,.slice pSW nt cSW),(16,.slice pr Q.length cr),(17,.int .i64 (j:Int)),(110,.slice pa nt ca),(111,.int .i64 (nt:Int)),(112,.int .i64 (i:Int)),(117,.int .i64 (Q.length:Int)),(118,.int .i64 (j:Int)),(126,.int .i64 (nq:Int)),(127,.int .i64 (k:Int))]) ∧ Sep w [.rowm pq nq cq xs,.lst 28 2 pr Q.length cr ((es.set j ⟨[.bool (ng zq),.slice pq nq cq],[]⟩)),.lst 32 1 pa nt ca ((W.set i ⟨[.slice pr Q.length cr],[]⟩)),.rowm pqa nqa cqa (lim ((RN (radM D T) (mdD D T.flatten))).natAbs),.rowm pqb nqb cqb (lim ((RD (radM D T) (mdD D T.flatten))).natAbs),.blk g21 [.bool (ng ((mdD D T.flatten))),.slice pDW nDW cDW] 28,.row pDW nDW cDW (lim ((mdD D T.flatten)).natAbs),.pack rsW,.blk g16 [.bool (ng ((RN (radM D T) (mdD D T.flatten)))),.slice pra nra cra,.bool (ng ((RD (radM D T) (mdD D T.flatten)))),.slice prb nrb crb] 43,.rowm pra nra cra (lim ((RN (radM D T) (mdD D T.flatten))).natAbs),.rowm prb nrb crb (lim ((RD (radM D T) (mdD D T.flatten))).natAbs),.blk g12 [.bool (ng ((mdD D T.flatten))),.slice pDb nDb cDb] 28,.row pDb nDb cDb (lim ((mdD D T.flatten)).natAbs),.lst 32 1 pb nt cb (zuT Vb),.blk g8 [.bool (ng ((mdD D T.flatten))),.slice pDa nDa cDa] 28,.row pDa nDa cDa (lim ((mdD D T.flatten)).natAbs),.blk g4 [.bool bd,.slice pDg nd' cDg,.slice pg nt cg] 31,.row pDg nd' cDg xd,.lst 32 1 pg nt cg (uuE Ug),.blk g1 [.bool bd,.slice pd nd' cd,.slice pt nt ct] 31] w' ∧ (k ≤ nq)) (fun k => nq - k) (0) ⟨_,(lim zq.natAbs),aSs ⟨rfl,rfl,rfl,rfl,rfl,rfl,rfl,rfl,rfl,rfl,rfl,rfl,rfl,rfl,trivial⟩,hS,Nat.zero_le _⟩ ?_
    clear hS; rintro k _ w27 ⟨fb,xs,rfl,hS,hk⟩
    refine wsr ?_
    by_cases hlk:k < nq
    ·
     refine wbt rfl rfl rfl rfl (bLs (decide_eq_true (by omega))) ?_
     refine wn1 (wSq ?_)
     refine wT (ev rfl rfl) ?_
     refine wk2 (wmv rfl rfl ?_)
     refine wav rfl rfl ?_
     refine wn1 (wreg (wmv rfl rfl ?_))
     refine wmv rfl rfl ?_
     obtain ⟨gq,hgq,_,_⟩:=(hS.rowmAt 0 rfl).pos (show 0 < nq by omega)
     refine wl rfl (oIx (p:=pr) (g:=gR) (off:=0) (m:=Q.length) (k:=j) (j:=(0 + j * 2)) rfl rfl Tryz.runUnderlying32 Tryz.sizeOf28 (ev rfl rfl) hgR (ev rfl rfl) (by omega) rfl ?_)
     refine wl rfl (oFA (g:=gR) (off:=(0 + j * 2)) ((0 + j * 2) + 1) rfl rfl (ev rfl rfl) Tryz.runUnderlying28 rfl Tryz.sizeOf26 rfl ?_)
     refine wl rfl (oLc oneN rfl rfl (ev (v:=.pointer (some ⟨gR,((0 + j * 2) + 1),none⟩)) rfl rfl) (hS.lstAt 1 rfl hgR j 1 hen rfl (by decide) (by omega)) ?_)
     refine wmv rfl rfl ?_
     refine wl rfl (oIx (p:=pq) (g:=gq) (off:=0) (m:=nq) (k:=k) (j:=k) rfl rfl Tryz.runUnderlying26 Tryz.sizeOf63 (ev rfl rfl) hgq (ev rfl rfl) (by omega) (by simp) ?_)
     refine wl rfl (ostoreRow (i:=k) (u:=5) Tryz.sizeOf63 hS 0 rfl rfl (ev rfl rfl) (evc (v:=.int .u32 ((5:Nat):Int))) rfl hgq (by omega) (by omega) ?_)
     clear hS; intro w28 hS
     refine wnil (blkN (tNo (wreg (wbc (z:=.int .i64 ((k + 1:Nat):Int)) rfl rfl (bAd (wI6 (by omega) (by omega))) ?_))))
     refine wmv rfl rfl ?_
     refine wn1 ?_
     exact ⟨(k + 1),⟨_,_,aSs ⟨rfl,rfl,rfl,rfl,rfl,rfl,rfl,rfl,rfl,rfl,rfl,rfl,rfl,rfl,trivial⟩,hS.pick [0,1,2,3,4,5,6,7,8,9,10,11,12,13,14,15,16,17,18,19] (by decide) rfl,by omega⟩,by omega⟩
    refine wbt rfl rfl rfl rfl (bLs (decide_eq_false (by omega))) ?_
    refine wn1 (wSq ?_)
    refine wF (ev rfl rfl) ?_
    refine wEx ?_
    refine tEx ?_
    refine tEx ?_
    refine blkE ?_
    refine tNo (wreg (wmv rfl rfl ?_))
    refine wmv rfl rfl ?_
    refine wl rfl (obuild (ps:=#[]) (v:=.agg #[.bool false,.slice none 0 0]) rfl rfl (parts0) (fun w => by simp [go_sem,Instr.build,Instr.fill]) ?_)
    refine wl rfl (oIx (p:=pr) (g:=gR) (off:=0) (m:=Q.length) (k:=j) (j:=(0 + j * 2)) rfl rfl Tryz.runUnderlying32 Tryz.sizeOf28 (ev rfl rfl) hgR (ev rfl rfl) (by omega) rfl ?_)
    obtain hS:=(show Sep w [.lst 28 2 pr Q.length cr ((es.set j ⟨[.bool (ng zq),.slice pq nq cq],[]⟩)),.rowm pq nq cq xs,.lst 32 1 pa nt ca ((W.set i ⟨[.slice pr Q.length cr],[]⟩)),.rowm pqa nqa cqa (lim ((RN (radM D T) (mdD D T.flatten))).natAbs),.rowm pqb nqb cqb (lim ((RD (radM D T) (mdD D T.flatten))).natAbs),.blk g21 [.bool (ng ((mdD D T.flatten))),.slice pDW nDW cDW] 28,.row pDW nDW cDW (lim ((mdD D T.flatten)).natAbs),.pack rsW,.blk g16 [.bool (ng ((RN (radM D T) (mdD D T.flatten)))),.slice pra nra cra,.bool (ng ((RD (radM D T) (mdD D T.flatten)))),.slice prb nrb crb] 43,.rowm pra nra cra (lim ((RN (radM D T) (mdD D T.flatten))).natAbs),.rowm prb nrb crb (lim ((RD (radM D T) (mdD D T.flatten))).natAbs),.blk g12 [.bool (ng ((mdD D T.flatten))),.slice pDb nDb cDb] 28,.row pDb nDb cDb (lim ((mdD D T.flatten)).natAbs),.lst 32 1 pb nt cb (zuT Vb),.blk g8 [.bool (ng ((mdD D T.flatten))),.slice pDa nDa cDa] 28,.row pDa nDa cDa (lim ((mdD D T.flatten)).natAbs),.blk g4 [.bool bd,.slice pDg nd' cDg,.slice pg nt cg] 31,.row pDg nd' cDg xd,.lst 32 1 pg nt cg (uuE Ug),.blk g1 [.bool bd,.slice pd nd' cd,.slice pt nt ct] 31] w27 from hS.pick [1,0,2,3,4,5,6,7,8,9,10,11,12,13,14,15,16,17,18,19] (by decide) rfl)
    refine wl rfl (ostoreL (i:=j) (g:=gR) [.bool false,.slice none 0 0] [] Tryz.sizeOf28 hS rfl rfl (ev rfl rfl) (ev rfl rfl) (rfl) rfl rfl rfl hgR (by omega) rfl ?_)
    clear hS; intro w28 hS
    refine wnil (blkN (tNo (wreg (wbc (z:=.int .i64 ((j + 1:Nat):Int)) rfl rfl (bAd (wI6 (by omega) (by omega))) ?_))))
    refine wmv rfl rfl ?_
    refine wn1 ?_
    exact ⟨(j + 1),⟨_,_,aSs ⟨rfl,rfl,rfl,rfl,rfl,rfl,rfl,rfl,rfl,rfl,rfl,trivial⟩,hS.pick [0,2,3,4,5,6,7,8,9,10,11,12,13,14,15,16,17,18,19] (by decide) rfl,by omega,by rw [List.set_set]; exact set_past hes,by rw [List.length_set,List.length_set]; exact hel⟩,by omega⟩
   refine wbt rfl rfl rfl rfl (bLs (decide_eq_false (by omega))) ?_
   refine wn1 (wSq ?_)
   refine wF (ev rfl rfl) ?_
   refine wEx ?_
   refine tEx ?_
   refine tEx ?_
   refine blkE ?_
   refine blkN (tNo (wreg (wbc (z:=.int .i64 ((i + 1:Nat):Int)) rfl rfl (bAd (wI6 (by omega) (by omega))) ?_)))
   refine wmv rfl rfl ?_
   refine wn1 ?_
   exact ⟨(i + 1),⟨_,_,aSs ⟨rfl,rfl,rfl,rfl,rfl,rfl,rfl,rfl,trivial⟩,hS.pick [2,3,4,5,6,7,8,9,10,11,12,13,14,1,15,16,17,18] (by decide) rfl,by omega,set_past hW,by rw [List.length_set]; exact hWl⟩,by omega⟩
  refine wbt rfl rfl rfl rfl (bLs (decide_eq_false (by omega))) ?_
  refine wn1 (wSq ?_)
  refine wF (ev rfl rfl) ?_
  refine wEx ?_
  refine tEx ?_
  refine tEx ?_
  refine blkE ?_
  refine tNo (wsr (wmv rfl rfl ?_))
  refine wmv rfl rfl ?_
  refine wcl Tryz.call24 (wltables (hS.zutb 10 rfl hVb (mdT_wd hTT) hTb (mdT_rb hb)) (hMW _ (hS.get 4 rfl))) (ar2 (ev rfl rfl) (ev rfl rfl)) hS ?_
  clear hS; rintro _ _ w26 ⟨rfl,rfl⟩ hS
  refine wmv rfl rfl ?_
  refine wlOn (e:=147) rfl rfl rfl rfl (oLd ⟨Tryz.isAgg31,Tryz.sizeOf31⟩ hS 14 rfl rfl (ev rfl rfl) rfl rfl rfl ?_)
  refine wlOn (e:=147) rfl rfl rfl rfl (oLd ⟨Tryz.isAgg31,Tryz.sizeOf31⟩ hS 17 rfl rfl (ev rfl rfl) rfl rfl rfl ?_)
  refine wlOn (e:=147) rfl rfl rfl rfl (oCl rfl rfl Tryz.call27 rfl (wtEqualM (show Zr _ bd pDg nd' cDg D 1048576 from ⟨_,hS.sl 15 rfl,hDz,hnd⟩) (hd.at hS) (show TB _ pg nt T 1048576 from hTd ▸ hS.uTB (K:=1048576) 16 rfl hUg hTb hb1 hb2) (hTT.at hS) hD h0 (by omega) hc) (ar2 (ev rfl rfl) (ev rfl rfl)) ?_)
  rintro _ w27 ⟨_,_,rfl,⟨rfl,rfl⟩,hN⟩
  refine ⟨_,rfl,?_⟩
  replace hS:=hS.news hN; clear hN
  refine wl rfl (opick rfl rfl (ev rfl rfl) (ev rfl rfl) ?_)
  refine wmv rfl rfl ?_
  refine wlOn (e:=152) rfl rfl rfl rfl (oCl rfl rfl Tryz.call6 rfl (wbawake (ht.at hS)) (args0 ) ?_)
  rintro _ w28 ⟨_,_,rfl,⟨rfl,rfl⟩,hN⟩
  refine ⟨_,rfl,?_⟩
  replace hS:=hS.news hN; clear hN
  refine wl rfl (opick rfl rfl (ev rfl rfl) (ev rfl rfl) ?_)
  refine wav rfl rfl ?_
  refine wn1 ?_
  refine wLv ?_
  refine wr1 Tryz.results4 (tlT (v:=.bool true) rfl rfl) ?_
  exact ⟨_,_,rfl,isI,hS.new0⟩
 refine wcl Tryz.call18 (wbintE (show Zr _ bd pDg nd' cDg D 1048576 from ⟨_,hS.sl 1 rfl,hDz,hnd⟩) (show TB _ pg nt T 1048576 from hTd ▸ hS.uTB (K:=1048576) 2 rfl hUg hTb hb1 hb2) hb hfl he) (ar1 (ev rfl rfl)) hS ?_
 clear hS; rintro _ _ w7 ⟨rfl,rfl⟩ hS
 refine wmv rfl rfl ?_
 refine wl rfl (oEx rfl rfl (ev rfl rfl) rfl ?_)
 refine wl rfl (oEx rfl rfl (ev rfl rfl) rfl ?_)
 refine wl rfl (oEx rfl rfl (ev rfl rfl) rfl ?_)
 refine wl rfl (oAl [.bool false,.slice none 0 0] hS rfl rfl Tryz.zeroValue28 rfl ?_)
 clear hS; intro g8 w9 hS
 refine wl rfl (oSt _ _ Tryz.sizeOf28 hS 0 rfl rfl (ev rfl rfl) (ev rfl rfl) rfl rfl rfl rfl rfl rfl ?_)
 clear hS; intro w10 hS
 refine wav rfl rfl ?_
 refine wav rfl rfl ?_
 refine wn2 (wl rfl (oLd ⟨Tryz.isAgg31,Tryz.sizeOf31⟩ hS 1 rfl rfl (ev rfl rfl) rfl rfl rfl ?_))
 refine wcl Tryz.call18 (wbintE (show Zr _ bd pDg nd' cDg D 1048576 from ⟨_,hS.sl 2 rfl,hDz,hnd⟩) (show TB _ pg nt T 1048576 from hTd ▸ hS.uTB (K:=1048576) 3 rfl hUg hTb hb1 hb2) hb hfl he) (ar1 (ev rfl rfl)) hS ?_
 clear hS; rintro _ _ w11 ⟨rfl,rfl⟩ hS
 refine wmv rfl rfl ?_
 refine wl rfl (oEx rfl rfl (ev rfl rfl) rfl ?_)
 refine wl rfl (oEx rfl rfl (ev rfl rfl) rfl ?_)
 refine wl rfl (oEx rfl rfl (ev rfl rfl) rfl ?_)
 refine wl rfl (oAl [.bool false,.slice none 0 0] hS rfl rfl Tryz.zeroValue28 rfl ?_)
 clear hS; intro g12 w13 hS
 refine wl rfl (oSt _ _ Tryz.sizeOf28 hS 0 rfl rfl (ev rfl rfl) (ev rfl rfl) rfl rfl rfl rfl rfl rfl ?_)
 clear hS; intro w14 hS
 refine wav rfl rfl ?_
 refine wav rfl rfl ?_
 refine wn2 (wl rfl (oLd ⟨Tryz.isAgg31,Tryz.sizeOf31⟩ hS 2 rfl rfl (ev rfl rfl) rfl rfl rfl ?_))
 refine wcl Tryz.call19 (wbradE (show Zr _ bd pDg nd' cDg D 1048576 from ⟨_,hS.sl 3 rfl,hDz,hnd⟩) (show TB _ pg nt T 1048576 from hTd ▸ hS.uTB (K:=1048576) 4 rfl hUg hTb hb1 hb2) hb hfl he) (ar1 (ev rfl rfl)) hS ?_
 clear hS; rintro _ _ w15 ⟨rfl,rfl⟩ hS
 refine wmv rfl rfl ?_
 refine wl rfl (oEx rfl rfl (ev rfl rfl) rfl ?_)
 refine wl rfl (oEx rfl rfl (ev rfl rfl) rfl ?_)
 refine wl rfl (oAl [.bool false,.slice none 0 0,.bool false,.slice none 0 0] hS rfl rfl Tryz.zeroValue43 rfl ?_)
 clear hS; intro g16 w17 hS
 refine wl rfl (oSt _ _ Tryz.sizeOf43 hS 0 rfl rfl (ev rfl rfl) (ev rfl rfl) rfl rfl rfl rfl rfl rfl ?_)
 clear hS; intro w18 hS
 refine wav rfl rfl ?_
 refine wn2 (wl rfl (oLd ⟨Tryz.isAgg31,Tryz.sizeOf31⟩ hS 6 rfl rfl (ev rfl rfl) rfl rfl rfl ?_))
 refine wcl Tryz.call20 (wtFitM (hd.at hS) (hTT.at hS) hb) (ar1 (ev rfl rfl)) hS ?_
 clear hS; rintro _ _ w19 ⟨rfl,rfl⟩ hS
 refine wav rfl rfl ?_
 refine wn1 (wSq (wsr (wmv rfl rfl ?_)))
 refine wbc rfl rfl (bNe (neT he)) ?_
 refine wn1 ?_
 refine wT (ev rfl rfl) ?_
 refine wsr (wl rfl (oLd aggZ hS 2 rfl rfl (ev rfl rfl) rfl rfl rfl ?_))
 refine wcl Tryz.call21 (wlnothing) (ar1 (ev rfl rfl)) hS ?_
 clear hS; rintro _ _ w20 ⟨rfl,rfl⟩ hS
 refine wmv rfl rfl ?_
 refine wlOn (e:=44) rfl rfl rfl rfl (omove rfl rfl (ev rfl rfl) ?_)
 refine wlOn (e:=44) rfl rfl rfl rfl (olen rfl rfl rfl Tryz.runUnderlying22 (p:=none) (k:=0) (m:=0) (ev rfl rfl) ?_)
 refine wlOn (e:=44) rfl rfl rfl rfl (obin rfl rfl (ev rfl rfl) evc (bEq (eqT rfl)) ?_)
 refine wl rfl (opick rfl rfl (ev rfl rfl) (ev rfl rfl) ?_)
 refine wmv rfl rfl ?_
 refine wlOn (e:=49) rfl rfl rfl rfl (omove rfl rfl (ev rfl rfl) ?_)
 refine wlOn (e:=49) rfl rfl rfl rfl (oCl rfl rfl Tryz.call11 rfl (wbnum) (ar1 (ev rfl rfl)) ?_)
 rintro _ w21 ⟨_,_,rfl,⟨rfl,rfl⟩,hN⟩
 refine ⟨_,rfl,?_⟩
 replace hS:=hS.news hN; clear hN
 refine wlOn (e:=49) rfl rfl rfl rfl (omove rfl rfl (ev rfl rfl) ?_)
 refine wlOn (e:=49) rfl rfl rfl rfl (obin rfl rfl (ev rfl rfl) (ev rfl rfl) (bEq (eqT rfl)) ?_)
 refine wl rfl (opick rfl rfl (ev rfl rfl) (ev rfl rfl) ?_)
 refine wmv rfl rfl ?_
 refine wlOn (e:=55) rfl rfl rfl rfl (oFA (g:=g16) (off:=0) 0 rfl rfl (ev rfl rfl) Tryz.runUnderlying43 rfl Tryz.sizeOf28 rfl ?_)
 refine wlOn (e:=55) rfl rfl rfl rfl (oFA (g:=g16) (off:=0) 1 rfl rfl (ev rfl rfl) Tryz.runUnderlying28 rfl Tryz.sizeOf26 rfl ?_)
 refine wlOn (e:=55) rfl rfl rfl rfl (oL1 oneN hS 0 rfl rfl (ev rfl rfl) rfl rfl ?_)
 refine wlOn (e:=55) rfl rfl rfl rfl (olen rfl rfl rfl Tryz.runUnderlying26 (p:=none) (k:=0) (m:=0) (ev rfl rfl) ?_)
 refine wlOn (e:=55) rfl rfl rfl rfl (obin rfl rfl (ev rfl rfl) evc (bEq (eqT rfl)) ?_)
 refine wl rfl (opick rfl rfl (ev rfl rfl) (ev rfl rfl) ?_)
 refine wmv rfl rfl ?_
 refine wlOn (e:=62) rfl rfl rfl rfl (oFA (g:=g16) (off:=0) 2 rfl rfl (ev rfl rfl) Tryz.runUnderlying43 rfl Tryz.sizeOf28 rfl ?_)
 refine wlOn (e:=62) rfl rfl rfl rfl (oFA (g:=g16) (off:=2) 3 rfl rfl (ev rfl rfl) Tryz.runUnderlying28 rfl Tryz.sizeOf26 rfl ?_)
 refine wlOn (e:=62) rfl rfl rfl rfl (oL1 oneN hS 0 rfl rfl (ev rfl rfl) rfl rfl ?_)
 refine wlOn (e:=62) rfl rfl rfl rfl (olen rfl rfl rfl Tryz.runUnderlying26 (p:=none) (k:=0) (m:=0) (ev rfl rfl) ?_)
 refine wlOn (e:=62) rfl rfl rfl rfl (obin rfl rfl (ev rfl rfl) evc (bEq (eqT rfl)) ?_)
 refine wl rfl (opick rfl rfl (ev rfl rfl) (ev rfl rfl) ?_)
 refine wmv rfl rfl ?_
 refine wlOn (e:=69) rfl rfl rfl rfl (omove rfl rfl (ev rfl rfl) ?_)
 refine wlOn (e:=69) rfl rfl rfl rfl (oCl rfl rfl Tryz.call11 rfl (wbnum) (ar1 (ev rfl rfl)) ?_)
 rintro _ w22 ⟨_,_,rfl,⟨rfl,rfl⟩,hN⟩
 refine ⟨_,rfl,?_⟩
 replace hS:=hS.news hN; clear hN
 refine wlOn (e:=69) rfl rfl rfl rfl (omove rfl rfl (ev rfl rfl) ?_)
 refine wlOn (e:=69) rfl rfl rfl rfl (obin rfl rfl (ev rfl rfl) (ev rfl rfl) (bEq (eqT rfl)) ?_)
 refine wl rfl (opick rfl rfl (ev rfl rfl) (ev rfl rfl) ?_)
 refine wmv rfl rfl ?_
 refine wlOn (e:=75) rfl rfl rfl rfl (oCl rfl rfl Tryz.call6 rfl (wbawake (ht.at hS)) (args0 ) ?_)
 rintro _ w23 ⟨_,_,rfl,⟨rfl,rfl⟩,hN⟩
 refine ⟨_,rfl,?_⟩
 replace hS:=hS.news hN; clear hN
 refine wl rfl (opick rfl rfl (ev rfl rfl) (ev rfl rfl) ?_)
 refine wav rfl rfl ?_
 refine wn1 ?_
 refine wLv ?_
 refine thenR ?_
 refine wr1 Tryz.results4 (tlT (v:=.bool true) rfl rfl) ?_
 exact ⟨_,_,rfl,isI,hS.new0⟩
theorem boundIntegral_walk {bd:Bool} {pd pt:Option Addr} {nd' cd nt ct:Nat} {xd:List Nat} {RT:List (List (Bool × List Nat))} {w:World} (hsd:Sl w pd nd' cd xd) (hR:TRw w pt nt RT 1048576) (hfr:(tvr RT).flatten.length ≤ 1048576) (h1:Tab w) (h2:Bases w) (hnd:nd' ≤ 1048576):Calls Tryz.prog 4 #[.agg #[.bool bd,.slice pd nd' cd,.slice pt nt ct]] w (RetB w true) :=
  Ret.bool (boundIntegral_walk0 ⟨h1,h2⟩ hsd hnd hR hfr)
end Go.Proofs.YtnlnibngpeempaaGreatDoor
