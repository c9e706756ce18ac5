/-
  Contracts and lemmas, joined in one text.
-/
import Derived.Test.YtnlnibngpeempaaGreatDoorI2
set_option linter.unusedVariables false
set_option linter.unusedSimpArgs false
/-
  The document's matrices: Check,Size,Rows,Height,Fit.
-/
set_option maxRecDepth 100000
set_option maxHeartbeats 16000000
namespace Go.Proofs.YtnlnibngpeempaaGreatDoor
open Go.RowKit
theorem ftv_get {T:List Fw} {i:Nat} {p:Option Addr} {c:Nat} {L:List Fq} {TT:List (List (Int × Int))} (h:ftv T = TT) (hi:T[i]? = some ⟨p,c,L⟩):TT[i]? = some (fqv L):=by
  rw [← h]; unfold ftv; rw [List.getElem?_map,hi]; rfl
theorem Sep.ftc {w0 w:World} {R:List Res} {t:TypeId} {p pr:Option Addr} {n c cr i g:Nat} {T:List Fw} {L:List Fq} (hS:Sep w0 R w) (k:Nat) (hk:R[k]? = some (.lst t 1 p n c (ftE T))) (hi:T[i]? = some ⟨pr,cr,L⟩) (hp:p = some ⟨g,0,none⟩):w.cell? ⟨g,0 + i * 1,none⟩ = some (.slice pr L.length cr):=by
  obtain ⟨g',h1,h2,_⟩:=lst_cell (show (Res.lst t 1 p n c (ftE T)).holds w from hS.get k hk) (show (ftE T)[i]? = some (fwE ⟨pr,cr,L⟩) by simp [ftE,hi]) (by decide)
  rw [hp] at h1
  simp only [Option.some.injEq,Addr.mk.injEq,and_true] at h1
  subst h1
  have:=h2 0 _ rfl
  rwa [Nat.add_zero] at this
theorem Sep.ftr {w0 w:World} {R:List Res} {t:TypeId} {p pr:Option Addr} {n c cr i K:Nat} {T:List Fw} {L:List Fq} (hS:Sep w0 R w) (k:Nat) (hk:R[k]? = some (.lst t 1 p n c (ftE T))) (hi:T[i]? = some ⟨pr,cr,L⟩) (hW:FW (fqv L) K) (hn:L.length ≤ 1048576):Rs w pr L.length (fqv L) K:=by
  obtain ⟨_,_,_,h3⟩:=lst_cell (show (Res.lst t 1 p n c (ftE T)).holds w from hS.get k hk) (show (ftE T)[i]? = some (fwE ⟨pr,cr,L⟩) by simp [ftE,hi]) (by decide)
  exact fl_rs (h3 _ List.mem_cons_self) hW hn
theorem low_rt {D:Int} {T:List (List Int)} {L:List (Int × Int)} (hD:D ≠ 0) (h:L ∈ rtT D T):lows L = L:=by
  obtain ⟨L0,_,rfl⟩:=List.mem_map.1 h
  unfold lows; rw [List.map_map]
  refine List.map_congr_left fun x _ => ?_
  show (RN (RN x D) (RD x D),RD (RN x D) (RD x D)) = _
  rw [RN_idem hD,RD_idem hD]
theorem ne_rt {D:Int} {T:List (List Int)} {L:List (Int × Int)} (hD:D ≠ 0) (h:L ∈ rtT D T):∀ e ∈ L,e.2 ≠ 0:=fun e he => rtT_ne (T:=T) hD e (List.mem_flatten.2 ⟨L,h,he⟩)
theorem htM_R {D:Int} {T:List (List Int)} (hD:D ≠ 0):hgR (rtT D T) T.length = htM D T:=by
  have e:(rtT D T).flatten.length = T.flatten.length:=by rw [rtT_flat,List.length_map]
  unfold htM
  rw [hgR_flat,List.take_of_length_le (by rw [rtT_len]; omega),rtT_low hD, ← e,hgt_eq]
theorem wtcheck {bd:Bool} {pd pt:Option Addr} {nd' cd nt ct:Nat} {D:Int} {T:List (List Int)} {w:World} (hd:Zr w bd pd nd' cd D 1048576) (hT:TB w pt nt T 1048576) :
  Calls Tryz.prog 59 #[.agg #[.bool bd,.slice pd nd' cd,.slice pt nt ct]] w (Ret (Is (.int .i64 (chkM D T))) w):=by
 have hTl:=hT.1
 have hTb:=hT.2.1
 have hS:=Sep.init w
 refine went Tryz.func59 rfl (n:=25) rfl rfl ?_
 refine wsr (wl rfl (obox [.bool bd,.slice pd nd' cd,.slice pt nt ct] hS rfl rfl (ev rfl rfl) rfl ?_))
 clear hS; intro g1 w2 hS
 refine wavc ?_
 refine wn1 (wSq (wsr (wl rfl (oFA (g:=g1) (off:=0) 0 rfl rfl (ev rfl rfl) Tryz.runUnderlying31 rfl Tryz.sizeOf28 rfl ?_))))
 refine wl rfl (oLd aggZ hS 0 rfl rfl (ev rfl rfl) rfl rfl rfl ?_)
 obtain ⟨s1,hs1⟩:∃ z:Int,Hid ((D:Int).sign = z):=⟨_,rfl⟩
 refine wcl Tryz.call45 (wqsign ((hd.at hS).mono (by omega)) hs1) (ar1 (ev rfl rfl)) hS ?_
 clear hS; rintro _ _ w3 ⟨rfl,rfl⟩ hS
 by_cases h0:D = 0
 ·
  refine wbc rfl rfl (bEq (eqT (by have h9:=hs1.out; rw [h0] at h9; exact h9.symm))) ?_
  refine wn1 ?_
  refine wT (ev rfl rfl) ?_
  refine wsr (wavc ?_)
  refine wn1 ?_
  refine wLv ?_
  refine thenR ?_
  have hk:chkM D T = 6:=if_pos h0
  refine wr1 Tryz.results59 (tlT (v:=.int .i64 6) rfl rfl) ?_
  exact ⟨_,_,rfl,⟨by rw [hk],rfl⟩,hS.new0⟩
 refine wbc rfl rfl (bEq (eqF (fun h => h0 (Int.sign_eq_zero_iff_zero.1 (hs1.out.trans h))))) ?_
 refine wn1 ?_
 refine wF (ev rfl rfl) ?_
 refine wSk (tNo (wSq (wsr (wl rfl (oFA (g:=g1) (off:=0) 2 rfl rfl (ev rfl rfl) Tryz.runUnderlying31 rfl Tryz.sizeOf22 rfl ?_)))))
 refine wl rfl (oL1 ⟨Tryz.isAgg22,Tryz.sizeOf22⟩ hS 0 rfl rfl (ev rfl rfl) rfl rfl ?_)
 refine wl rfl (olen rfl rfl rfl Tryz.runUnderlying22 (p:=pt) (k:=nt) (m:=ct) (ev rfl rfl) ?_)
 refine wmvc ?_
 refine wn1 (wBk ?_)
 refine wLp (σ := Nat) (fun i a9 w' => ∃ (fb:Nat → Value),a9 = act 25 (sets fb [(1,.pointer (some ⟨g1,0,none⟩)),(10,.slice pt nt ct),(11,.int .i64 (nt:Int)),(12,.int .i64 (i:Int))]) ∧ Sep w [.blk g1 [.bool bd,.slice pd nd' cd,.slice pt nt ct] 31] w' ∧ (i ≤ nt) ∧ (∀ j L,j < i → T[j]? = some L → L.length = (T.getD 0 []).length)) (fun i => nt - i) (0) ⟨_,aSs ⟨rfl,rfl,rfl,rfl,trivial⟩,hS,Nat.zero_le _,fun j L h => absurd h (Nat.not_lt_zero _)⟩ ?_
 clear hS; rintro i _ w4 ⟨fb,rfl,hS,hi,he⟩
 refine wsr ?_
 by_cases hli:i < nt
 ·
  refine wbt rfl rfl rfl rfl (bLs (decide_eq_true (by omega))) ?_
  refine wn1 (wSq ?_)
  refine wT (ev rfl rfl) ?_
  refine wk2 ?_
  obtain ⟨xr,hxr⟩:∃ r,(T)[i]? = some r:=⟨_,List.getElem?_eq_getElem (by have:=hT.1; omega)⟩
  obtain ⟨br,ofr,pr,cr,hpr,hcr,hsr⟩:=hT.2.2 i _ hxr
  obtain ⟨xs0,hxs0⟩:∃ r,(T)[0]? = some r:=⟨_,List.getElem?_eq_getElem (by have:=hT.1; omega)⟩
  obtain ⟨bs0,ofs0,ps0,cs0,hps0,hcs0,hss0⟩:=hT.2.2 0 _ hxs0
  have hx0:T.getD 0 [] = xs0:=by simp [List.getD,hxs0]
  refine wl rfl (oIx (p:=pt) (g:=br) (off:=ofr) (m:=nt) (k:=i) (j:=(ofr + i * 1)) rfl rfl Tryz.runUnderlying22 Tryz.sizeOf32 (ev rfl rfl) hpr (ev rfl rfl) (by omega) rfl ?_)
  refine wl rfl (oLc ⟨Tryz.isAgg32,Tryz.sizeOf32⟩ rfl rfl (ev rfl rfl) (hS.cellAt (hcr 0 _ rfl)) ?_)
  refine wav rfl rfl ?_
  refine wn2 (wmv rfl rfl ?_)
  refine wl rfl (olen rfl rfl rfl Tryz.runUnderlying32 (p:=pr) (k:=xr.length) (m:=cr) (ev rfl rfl) ?_)
  refine wl rfl (oFA (g:=g1) (off:=0) 2 rfl rfl (ev rfl rfl) Tryz.runUnderlying31 rfl Tryz.sizeOf22 rfl ?_)
  refine wl rfl (oL1 ⟨Tryz.isAgg22,Tryz.sizeOf22⟩ hS 0 rfl rfl (ev rfl rfl) rfl rfl ?_)
  refine wl rfl (oIx (p:=pt) (g:=bs0) (off:=ofs0) (m:=nt) (k:=0) (j:=(ofs0 + 0 * 1)) rfl rfl Tryz.runUnderlying22 Tryz.sizeOf32 (ev rfl rfl) hps0 evc (by omega) rfl ?_)
  refine wl rfl (oLc ⟨Tryz.isAgg32,Tryz.sizeOf32⟩ rfl rfl (ev rfl rfl) (hS.cellAt (hcs0 0 _ rfl)) ?_)
  refine wl rfl (olen rfl rfl rfl Tryz.runUnderlying32 (p:=ps0) (k:=xs0.length) (m:=cs0) (ev rfl rfl) ?_)
  by_cases hne:xr.length = xs0.length
  ·
   refine wbt rfl rfl rfl rfl (bNe (neF (by omega))) ?_
   refine wn1 ?_
   refine wF (ev rfl rfl) ?_
   refine wSk (blkN (tNo (wreg (wbc (z:=.int .i64 ((i + 1:Nat):Int)) rfl rfl (bAd (wI6 (by omega) (by omega))) ?_))))
   refine wmv rfl rfl ?_
   refine wn1 ?_
   exact ⟨(i + 1),⟨_,aSs ⟨rfl,rfl,rfl,rfl,trivial⟩,hS.pick [0] (by decide) rfl,by omega,fun j L h hL => by
    by_cases e:j = i
    ·subst e; rw [hxr] at hL; cases hL; rw [hx0]; omega
    exact he j L (by omega) hL⟩,by omega⟩
  refine wbt rfl rfl rfl rfl (bNe (neT (by omega))) ?_
  refine wn1 ?_
  refine wT (ev rfl rfl) ?_
  refine wsr (wavc ?_)
  refine wn1 ?_
  refine wLv ?_
  refine blkR ?_
  refine thenR ?_
  refine thenR ?_
  refine blkR ?_
  refine thenR ?_
  have hk:chkM D T = 2:=by unfold chkM; rw [if_neg h0,if_neg (by rw [evenB_no hxr (by rw [hx0]; exact hne)]; decide)]
  refine wr1 Tryz.results59 (tlT (v:=.int .i64 2) rfl rfl) ?_
  exact ⟨_,_,rfl,⟨by rw [hk],rfl⟩,hS.new0⟩
 refine wbt rfl rfl rfl rfl (bLs (decide_eq_false (by omega))) ?_
 refine wn1 (wSq ?_)
 refine wF (ev rfl rfl) ?_
 refine wEx ?_
 refine tEx ?_
 refine tEx ?_
 refine blkE ?_
 refine tNo (wsr (wavc ?_))
 refine wn1 ?_
 refine wLv ?_
 have hk:chkM D T = 0:=chkM_ok h0 (evenB_of fun j L hL => he j L (by have:=(List.getElem?_eq_some_iff.1 hL).1; omega) hL)
 refine wr1 Tryz.results59 (tlT (v:=.int .i64 0) rfl rfl) ?_
 exact ⟨_,_,rfl,⟨by rw [hk],rfl⟩,hS.new0⟩
theorem wtsize {bd:Bool} {pd pt:Option Addr} {nd' cd nt ct:Nat} {D:Int} {T:List (List Int)} {w:World} (hT:TB w pt nt T 1048576) :
  Calls Tryz.prog 60 #[.agg #[.bool bd,.slice pd nd' cd,.slice pt nt ct]] w (Ret (Is (.tuple #[.int .i64 ((nt:Nat):Int),.int .i64 (((T.getD 0 []).length:Nat):Int)])) w):=by
 have hTl:=hT.1
 have hTb:=hT.2.1
 have hS:=Sep.init w
 refine went Tryz.func60 rfl (n:=16) rfl rfl ?_
 refine wsr (wl rfl (obox [.bool bd,.slice pd nd' cd,.slice pt nt ct] hS rfl rfl (ev rfl rfl) rfl ?_))
 clear hS; intro g1 w2 hS
 refine wavc ?_
 refine wavc ?_
 refine wn1 (wSq (wsr (wl rfl (oFA (g:=g1) (off:=0) 2 rfl rfl (ev rfl rfl) Tryz.runUnderlying31 rfl Tryz.sizeOf22 rfl ?_))))
 refine wl rfl (oL1 ⟨Tryz.isAgg22,Tryz.sizeOf22⟩ hS 0 rfl rfl (ev rfl rfl) rfl rfl ?_)
 refine wl rfl (olen rfl rfl rfl Tryz.runUnderlying22 (p:=pt) (k:=nt) (m:=ct) (ev rfl rfl) ?_)
 by_cases h0:nt = 0
 ·
  refine wbc rfl rfl (bEq (eqT (by omega))) ?_
  refine wn1 ?_
  refine wT (ev rfl rfl) ?_
  refine wsr (wavc ?_)
  refine wavc ?_
  refine wn1 ?_
  refine wLv ?_
  refine thenR ?_
  have hx0:(T.getD 0 []).length = 0:=by simp [List.getD,show T.length ≤ 0 by omega]
  subst h0
  refine wret2 Tryz.results60 (tlT (v:=.int .i64 0) rfl rfl) (tlT (v:=.int .i64 0) rfl rfl) ?_
  exact ⟨_,_,rfl,⟨by rw [hx0]; try rfl,rfl⟩,hS.new0⟩
 refine wbc rfl rfl (bEq (eqF (by omega))) ?_
 refine wn1 ?_
 refine wF (ev rfl rfl) ?_
 refine wSk (tNo (wSq ?_))
 obtain ⟨xs0,hxs0⟩:∃ r,(T)[0]? = some r:=⟨_,List.getElem?_eq_getElem (by have:=hT.1; omega)⟩
 obtain ⟨bs0,ofs0,ps0,cs0,hps0,hcs0,hss0⟩:=hT.2.2 0 _ hxs0
 have hx0:(T.getD 0 []).length = xs0.length:=by simp [List.getD,hxs0]
 refine wSg 10 [8,9,10,11,12,13,14,15,2,3] [[],[0],[1,0],[],[3],[4,3],[5,3,4],[6,3,4,5],[2,0,1],[7,0,1,2,3,4,5,6,8]] [] [] [] (fun i9 => ([iSv (.pointer (some ⟨g1,2,none⟩)),iSv (.slice pt nt ct),iSv (.int .i64 (nt:Int)),iSv (.pointer (some ⟨g1,2,none⟩)),iSv (.slice pt nt ct),iSv (.pointer (some ⟨bs0,(ofs0 + 0 * 1),none⟩)),iSv (.slice ps0 xs0.length cs0),iSv (.int .i64 (xs0.length:Int)),iSv (.int .i64 (nt:Int)),iSv (.int .i64 (xs0.length:Int))]:List (List Value → Tell)).getD i9 (fun _ _ _ => False)) hNi (fun d _ _ _ _ h => (by cases d <;> exact h)) (by kernel_rfl) (by kernel_rfl) (by kernel_rfl) hS ?_ ?_
 ·
  refine stH rfl (fun ho _=>?_) ?_
  ·exact inNo rfl (oFA (g:=g1) (off:=0) 2 rfl rfl (ev rfl (ho 1 rfl)) Tryz.runUnderlying31 rfl Tryz.sizeOf22 rfl (nSm rfl isI))
  refine stT rfl (fun hT hS=>?_) ?_
  ·obtain ⟨hv0,hr0⟩:=hT 0 8 rfl rfl
   obtain hS:=hS.flat1 hr0
   exact inNo rfl (oL1 ⟨Tryz.isAgg22,Tryz.sizeOf22⟩ hS 0 rfl rfl (ev rfl hv0) rfl rfl (nSm rfl isI))
  refine stT rfl (fun hT hS=>?_) ?_
  ·obtain ⟨hv1,hr1⟩:=hT 1 9 rfl rfl
   obtain hS:=hS.flat1 hr1
   exact inNo rfl (olen rfl rfl rfl Tryz.runUnderlying22 (p:=pt) (k:=nt) (m:=ct) (ev rfl hv1) (nSm rfl isI))
  refine stH rfl (fun ho _=>?_) ?_
  ·exact inNo rfl (oFA (g:=g1) (off:=0) 2 rfl rfl (ev rfl (ho 1 rfl)) Tryz.runUnderlying31 rfl Tryz.sizeOf22 rfl (nSm rfl isI))
  refine stT rfl (fun hT hS=>?_) ?_
  ·obtain ⟨hv3,hr3⟩:=hT 3 11 rfl rfl
   obtain hS:=hS.flat1 hr3
   exact inNo rfl (oL1 ⟨Tryz.isAgg22,Tryz.sizeOf22⟩ hS 0 rfl rfl (ev rfl hv3) rfl rfl (nSm rfl isI))
  refine stT rfl (fun hT hS=>?_) ?_
  ·obtain ⟨hv4,hr4⟩:=hT 4 12 rfl rfl
   obtain hS:=hS.flat1 hr4
   exact inNo rfl (oIx (p:=pt) (g:=bs0) (off:=ofs0) (m:=nt) (k:=0) (j:=(ofs0 + 0 * 1)) rfl rfl Tryz.runUnderlying22 Tryz.sizeOf32 (ev rfl hv4) hps0 evc (by omega) rfl (nSm rfl isI))
  refine stT rfl (fun hT hS=>?_) ?_
  ·obtain ⟨hv5,hr5⟩:=hT 5 13 rfl rfl
   obtain hS:=hS.flat1 hr5
   exact inNo rfl (oLc ⟨Tryz.isAgg32,Tryz.sizeOf32⟩ rfl rfl (ev rfl hv5) (hS.cellAt (hcs0 0 _ rfl)) (nSm rfl isI))
  refine stT rfl (fun hT hS=>?_) ?_
  ·obtain ⟨hv6,hr6⟩:=hT 6 14 rfl rfl
   obtain hS:=hS.flat1 hr6
   exact inNo rfl (olen rfl rfl rfl Tryz.runUnderlying32 (p:=ps0) (k:=xs0.length) (m:=cs0) (ev rfl hv6) (nSm rfl isI))
  refine stT rfl (fun hT hS=>?_) ?_
  ·obtain ⟨hv2,hr2⟩:=hT 2 10 rfl rfl
   obtain hS:=hS.flat1 hr2
   exact inNo rfl (oassign rfl rfl (ev rfl hv2) (nSm rfl isI))
  refine stT rfl (fun hT hS=>?_) ?_
  ·obtain ⟨hv7,hr7⟩:=hT 7 15 rfl rfl
   obtain hS:=hS.flat1 hr7
   exact inNo rfl (oassign rfl rfl (ev rfl hv7) (nSm rfl isI))
  exact sNi
 intro vs ρ w3 f' hf hT hS
 obtain ⟨hv0,hr0⟩:=hT 0 (by decide)
 obtain ⟨hv1,hr1⟩:=hT 1 (by decide)
 obtain ⟨hv2,hr2⟩:=hT 2 (by decide)
 obtain ⟨hv3,hr3⟩:=hT 3 (by decide)
 obtain ⟨hv4,hr4⟩:=hT 4 (by decide)
 obtain ⟨hv5,hr5⟩:=hT 5 (by decide)
 obtain ⟨hv6,hr6⟩:=hT 6 (by decide)
 obtain ⟨hv7,hr7⟩:=hT 7 (by decide)
 obtain ⟨hv8,hr8⟩:=hT 8 (by decide)
 obtain ⟨hv9,hr9⟩:=hT 9 (by decide)
 simp only [pool,if_true,hr0,hr1,hr2,hr3,hr4,hr5,hr6,hr7,hr8,hr9,List.nil_append,List.cons_append,List.append_nil] at hS
 simp only [layf,hv0,hv1,hv2,hv3,hv4,hv5,hv6,hv7,hv8,hv9] at hf
 subst hf; clear hT hv0 hv1 hv2 hv3 hv4 hv5 hv6 hv7 hv8 hv9 hr0 hr1 hr2 hr3 hr4 hr5 hr6 hr7 hr8 hr9
 refine wdone rfl ?_
 refine tNo ?_
 refine wLv ?_
 refine wret2 Tryz.results60 (tlT (v:=.int .i64 (nt:Int)) rfl rfl) (tlT (v:=.int .i64 (xs0.length:Int)) rfl rfl) ?_
 exact ⟨_,_,rfl,⟨by rw [hx0]; try rfl,rfl⟩,hS.new0⟩
theorem wtRowsM {bd:Bool} {pd pt:Option Addr} {nd' cd nt ct:Nat} {D:Int} {T:List (List Int)} {w:World} (hd:Zr w bd pd nd' cd D 1048576) (hT:TB w pt nt T 1048576) (hD:D ≠ 0) (hb:∀ L ∈ T,L.length ≤ 1048576) :
  Calls Tryz.prog 16 #[.agg #[.bool bd,.slice pd nd' cd,.slice pt nt ct]] w (Ret (FQt nt (rtT D T)) w):=by
 have hTl:=hT.1
 have hTb:=hT.2.1
 have hS:=Sep.init w
 refine went Tryz.func16 rfl (n:=40) rfl rfl ?_
 refine wsr (wl rfl (obox [.bool bd,.slice pd nd' cd,.slice pt nt ct] hS rfl rfl (ev rfl rfl) rfl ?_))
 clear hS; intro g1 w2 hS
 refine wavc ?_
 refine wn2 (wavc ?_)
 refine wn1 (wSq (wsr (wl rfl (oFA (g:=g1) (off:=0) 2 rfl rfl (ev rfl rfl) Tryz.runUnderlying31 rfl Tryz.sizeOf22 rfl ?_))))
 refine wl rfl (oL1 ⟨Tryz.isAgg22,Tryz.sizeOf22⟩ hS 0 rfl rfl (ev rfl rfl) rfl rfl ?_)
 refine wl rfl (olen rfl rfl rfl Tryz.runUnderlying22 (p:=pt) (k:=nt) (m:=ct) (ev rfl rfl) ?_)
 refine wmvc ?_
 refine wn1 (wBk ?_)
 replace hS:=hS.nilLst 39 1
 refine wLp (σ := Nat) (fun i a9 w' => ∃ (fb:Nat → Value) (V:List Fw) (pX:Option Addr) (cX:Nat),a9 = act 40 (sets fb [(1,.pointer (some ⟨g1,0,none⟩)),(2,.slice none 0 0),(3,.slice pX i cX),(10,.slice pt nt ct),(11,.int .i64 (nt:Int)),(12,.int .i64 (i:Int))]) ∧ Sep w [.lst 39 1 pX i cX (ftE V),.blk g1 [.bool bd,.slice pd nd' cd,.slice pt nt ct] 31] w' ∧ (i ≤ nt) ∧ (ftv V = (rtT D T).take i)) (fun i => nt - i) (0) ⟨_,[],none,0,aSs ⟨rfl,rfl,rfl,rfl,rfl,rfl,trivial⟩,hS,Nat.zero_le _,rfl⟩ ?_
 clear hS; rintro i _ w3 ⟨fb,V,pX,cX,rfl,hS,hi,hV⟩
 refine wsr ?_
 by_cases hli:i < nt
 ·
  obtain ⟨xr,hxr⟩:∃ r,(T)[i]? = some r:=⟨_,List.getElem?_eq_getElem (by have:=hT.1; omega)⟩
  obtain ⟨br,ofr,pr,cr,hpr,hcr,hsr⟩:=hT.2.2 i _ hxr
  have hrb:=hb xr (List.mem_of_getElem? hxr)
  refine wbt rfl rfl rfl rfl (bLs (decide_eq_true (by omega))) ?_
  refine wn1 (wSq ?_)
  refine wT (ev rfl rfl) ?_
  refine wk2 (wl rfl (oIx (p:=pt) (g:=br) (off:=ofr) (m:=nt) (k:=i) (j:=(ofr + i * 1)) rfl rfl Tryz.runUnderlying22 Tryz.sizeOf32 (ev rfl rfl) hpr (ev rfl rfl) (by omega) rfl ?_))
  refine wl rfl (oLc ⟨Tryz.isAgg32,Tryz.sizeOf32⟩ rfl rfl (ev rfl rfl) (hS.cellAt (hcr 0 _ rfl)) ?_)
  refine wav rfl rfl ?_
  refine wn2 (wmv rfl rfl ?_)
  refine wl rfl (olen rfl rfl rfl Tryz.runUnderlying32 (p:=pr) (k:=xr.length) (m:=cr) (ev rfl rfl) ?_)
  refine wl rfl (omakeL (zs:=[.bool false,.slice none 0 0,.bool false,.slice none 0 0]) (k:=xr.length) (m:=xr.length) hS rfl rfl Tryz.underlying39 infoRat rfl rfl (by decide) rfl (ev rfl rfl) (ev rfl rfl) (by omega) (by omega) (by omega) ?_)
  clear hS; intro g4 w5 hS
  refine wav rfl rfl ?_
  refine wn1 (wSq (wsr (wmv rfl rfl ?_)))
  refine wl rfl (olen rfl rfl rfl Tryz.runUnderlying32 (p:=pr) (k:=xr.length) (m:=cr) (ev rfl rfl) ?_)
  refine wmvc ?_
  refine wn1 (wBk ?_)
  rw [show List.replicate xr.length (⟨[.bool false,.slice none 0 0,.bool false,.slice none 0 0],[]⟩:El) = fqs [] ++ List.replicate (xr.length - 0) nilF from rfl] at hS
  refine wLp (σ := Nat) (fun k a9 w' => ∃ (fb:Nat → Value) (L:List Fq),a9 = act 40 (sets fb [(1,.pointer (some ⟨g1,0,none⟩)),(2,.slice none 0 0),(3,.slice pX i cX),(6,.slice (some ⟨g4,0,none⟩) xr.length xr.length),(10,.slice pt nt ct),(11,.int .i64 (nt:Int)),(12,.int .i64 (i:Int)),(19,.slice pr xr.length cr),(20,.int .i64 (xr.length:Int)),(21,.int .i64 (k:Int))]) ∧ Sep w [.lst 43 4 (some ⟨g4,0,none⟩) xr.length xr.length (fqs L ++ List.replicate (xr.length - k) nilF),.lst 39 1 pX i cX (ftE V),.blk g1 [.bool bd,.slice pd nd' cd,.slice pt nt ct] 31] w' ∧ (k ≤ xr.length) ∧ (fqv L = (xr.map (fun x => (RN x D,RD x D))).take k)) (fun k => xr.length - k) (0) ⟨_,[],aSs ⟨rfl,rfl,rfl,rfl,rfl,rfl,rfl,rfl,rfl,rfl,trivial⟩,hS,Nat.zero_le _,rfl⟩ ?_
  clear hS; rintro k _ w6 ⟨fb,L,rfl,hS,hk,hL⟩
  refine wsr ?_
  by_cases hlk:k < xr.length
  ·
   obtain ⟨ze,ge,oe,be,pe,ne,ce,hle,hpe,hce,hze⟩:=hsr.el hlk
   refine wbt rfl rfl rfl rfl (bLs (decide_eq_true (by omega))) ?_
   refine wn1 (wSq ?_)
   refine wT (ev rfl rfl) ?_
   refine wk2 (wmv rfl rfl ?_)
   refine wl rfl (oIx (p:=pr) (g:=ge) (off:=oe) (m:=xr.length) (k:=k) (j:=(oe + k * 2)) rfl rfl Tryz.runUnderlying32 Tryz.sizeOf28 (ev rfl rfl) hpe (ev rfl rfl) hlk rfl ?_)
   refine wl rfl (oloadA aggZ rfl rfl (ev rfl rfl) (fun j v hj => hS.cellAt (hce j v hj)) rfl ?_)
   refine wl rfl (oAl [.bool false,.slice none 0 0] hS rfl rfl Tryz.zeroValue28 rfl ?_)
   clear hS; intro g7 w8 hS
   refine wav rfl rfl ?_
   refine wl rfl (oSt _ _ Tryz.sizeOf28 hS 0 rfl rfl (ev rfl rfl) (ev rfl rfl) rfl rfl rfl rfl rfl rfl ?_)
   clear hS; intro w9 hS
   refine wn1 (wreg (wmv rfl rfl ?_))
   refine wmv rfl rfl ?_
   refine wl rfl (oLd aggZ hS 0 rfl rfl (ev rfl rfl) rfl rfl rfl ?_)
   refine wl rfl (oFA (g:=g1) (off:=0) 0 rfl rfl (ev rfl rfl) Tryz.runUnderlying31 rfl Tryz.sizeOf28 rfl ?_)
   refine wl rfl (oLd aggZ hS 3 rfl rfl (ev rfl rfl) rfl rfl rfl ?_)
   obtain ⟨z1,hz1⟩:∃ z:Int,Hid (RN ze D = z):=⟨_,rfl⟩
   have hk1:Wd z1 1048576:=Wd.rn hze.wd hz1
   obtain ⟨z2,hz2⟩:∃ z:Int,Hid (RD ze D = z):=⟨_,rfl⟩
   have hk2:Wd z2 1048576:=Wd.rd hd.wd hz2
   refine wcl Tryz.call54 (wsmake ((hze.at hS).mono (by omega)) ((hd.at hS).mono (by omega)) hD hz1 hz2) (ar2 (ev rfl rfl) (ev rfl rfl)) hS ?_
   clear hS; rintro _ _ w10 ⟨p1,n1,c1,p2,n2,c2,rfl,rfl⟩ hS
   refine wl rfl (oIx (p:=(some ⟨g4,0,none⟩)) (g:=g4) (off:=0) (m:=xr.length) (k:=k) (j:=(0 + k * 4)) rfl rfl Tryz.runUnderlying39 Tryz.sizeOf43 (ev rfl rfl) (rfl) (ev rfl rfl) (by omega) rfl ?_)
   obtain hS:=(show Sep w [.rowm p1 n1 c1 (lim z1.natAbs),.rowm p2 n2 c2 (lim z2.natAbs),.lst 43 4 (some ⟨g4,0,none⟩) xr.length xr.length (fqs L ++ List.replicate (xr.length - k) nilF),.blk g7 [.bool be,.slice pe ne ce] 28,.lst 39 1 pX i cX (ftE V),.blk g1 [.bool bd,.slice pd nd' cd,.slice pt nt ct] 31] w10 from hS.pick [0,1,3,2,4,5] (by decide) rfl)
   refine wl rfl (ostoreL (i:=k) (g:=g4) [.bool (ng z1),.slice p1 n1 c1,.bool (ng z2),.slice p2 n2 c2] [.rowm p1 n1 c1 (lim z1.natAbs),.rowm p2 n2 c2 (lim z2.natAbs)] Tryz.sizeOf43 hS rfl rfl (ev rfl rfl) (ev rfl rfl) (rfl) rfl rfl rfl rfl (by omega) rfl ?_)
   clear hS; intro w11 hS
   refine wnil (blkN (tNo (wreg (wbc (z:=.int .i64 ((k + 1:Nat):Int)) rfl rfl (bAd (wI6 (by omega) (by omega))) ?_))))
   refine wmv rfl rfl ?_
   refine wn1 ?_
   have hLk:L.length = k:=by rw [← fqv_len,hL,List.length_take,List.length_map]; omega
   have hfq:=fillF (m:=xr.length - (k + 1)) (e:=⟨p1,n1,c1,p2,n2,c2,z1,z2⟩) hLk
   rw [show xr.length - (k + 1) + 1 = xr.length - k by omega] at hfq
   rw [show (⟨[.bool (ng z1),.slice p1 n1 c1,.bool (ng z2),.slice p2 n2 c2],[.rowm p1 n1 c1 (lim z1.natAbs),.rowm p2 n2 c2 (lim z2.natAbs)]⟩:El) = fqE ⟨p1,n1,c1,p2,n2,c2,z1,z2⟩ from rfl,hfq] at hS
   exact ⟨(k + 1),⟨_,_,aSs ⟨rfl,rfl,rfl,rfl,rfl,rfl,rfl,rfl,rfl,rfl,trivial⟩,hS.pick [0,2,3] (by decide) rfl,by omega,by rw [fqv_snoc,hL,take_nx (show (xr.map (fun x => (RN x D,RD x D)))[k]? = some (RN ze D,RD ze D) by rw [List.getElem?_map,hle]; rfl), ← hz1.out, ← hz2.out]⟩,by omega⟩
  refine wbt rfl rfl rfl rfl (bLs (decide_eq_false (by omega))) ?_
  refine wn1 (wSq ?_)
  refine wF (ev rfl rfl) ?_
  refine wEx ?_
  refine tEx ?_
  refine tEx ?_
  refine blkE ?_
  refine tNo (wreg (wmv rfl rfl ?_))
  refine wmv rfl rfl ?_
  refine wl rfl (obslice (ps:=#[(0,.slice (some ⟨g4,0,none⟩) xr.length xr.length)]) (z:=.slice none 0 0) [.slice (some ⟨g4,0,none⟩) xr.length xr.length] hS rfl rfl Tryz.runUnderlying47 Tryz.sizeOf39 Tryz.zeroValue39 (parts1 (ev (v:=.slice (some ⟨g4,0,none⟩) xr.length xr.length) rfl rfl)) rfl (by decide) (fill1_1s rfl rfl) ?_)
  clear hS; intro g7 w8 hS
  have hkc:k = xr.length:=by omega
  have hLc:L.length = xr.length:=by rw [← fqv_len,hL,List.length_take,List.length_map]; omega
  rw [show xr.length - k = 0 by omega,List.replicate_zero,List.append_nil] at hS
  obtain hS:=(show Sep w [.lst 43 4 (some ⟨g4,0,none⟩) xr.length xr.length (fqs L),.lst 39 1 pX i cX (ftE V),.blk g7 [.slice (some ⟨g4,0,none⟩) xr.length xr.length] 39,.blk g1 [.bool bd,.slice pd nd' cd,.slice pt nt ct] 31] w8 from hS.pick [1,2,0,3] (by decide) rfl)
  refine wl rfl (oappendL (p:=pX) (m:=i) (c:=cX) (g2:=g7) (c2:=1) (off:=0) [.slice (some ⟨g4,0,none⟩) xr.length xr.length] [.lst 43 4 (some ⟨g4,0,none⟩) xr.length xr.length (fqs L)] hS rfl rfl Tryz.underlying47 infoRRo rfl (by decide) (ev rfl rfl) (ev rfl rfl) (fun j v hj => by rw [Nat.zero_add]; exact (blk_cell (hS.blkAt 2 rfl) j).trans hj) rfl rfl rfl (by omega) (by omega) ?_)
  clear hS; intro p10 c11 w9 hS
  refine wav rfl rfl ?_
  refine wnil (blkN (tNo (wreg (wbc (z:=.int .i64 ((i + 1:Nat):Int)) rfl rfl (bAd (wI6 (by omega) (by omega))) ?_))))
  refine wmv rfl rfl ?_
  refine wn1 ?_
  rw [ft_snoc hLc] at hS
  exact ⟨(i + 1),⟨_,_,_,_,aSs ⟨rfl,rfl,rfl,rfl,rfl,rfl,trivial⟩,hS.pick [0,2] (by decide) rfl,by omega,by rw [ftv_snoc,hV,hL,hkc,show (xr.map (fun x => (RN x D,RD x D))).take xr.length = xr.map (fun x => (RN x D,RD x D)) from List.take_of_length_le (by rw [List.length_map]; omega),take_nx (rtT_get hxr)]⟩,by omega⟩
 refine wbt rfl rfl rfl rfl (bLs (decide_eq_false (by omega))) ?_
 refine wn1 (wSq ?_)
 refine wF (ev rfl rfl) ?_
 refine wEx ?_
 refine tEx ?_
 refine tEx ?_
 refine blkE ?_
 refine tNo (wsr (wmv rfl rfl ?_))
 refine wav rfl rfl ?_
 refine wn1 ?_
 refine wLv ?_
 refine wr1 Tryz.results16 (tlT (v:=.slice pX i cX) rfl rfl) ?_
 have hin:i = nt:=by omega
 rw [hin] at hS
 exact ⟨_,_,by rw [hin],⟨pX,cX,V,by rw [hV,List.take_of_length_le (show (rtT D T).length ≤ i by rw [rtT_len]; omega)],rfl,rfl⟩,hS.newR 0 rfl rfl⟩
theorem wtHeightM {bd:Bool} {pd pt:Option Addr} {nd' cd nt ct:Nat} {D:Int} {T:List (List Int)} {w:World} (hd:Zr w bd pd nd' cd D 1048576) (hT:TB w pt nt T 1048576) (hD:D ≠ 0) (hb:∀ L ∈ T,L.length ≤ 1048576) :
  Calls Tryz.prog 61 #[.agg #[.bool bd,.slice pd nd' cd,.slice pt nt ct]] w (Ret (Is (.int .i64 ((htM D T:Nat):Int))) w):=by
 have hTl:=hT.1
 have hTb:=hT.2.1
 have hS:=Sep.init w
 refine went Tryz.func61 rfl (n:=22) rfl rfl ?_
 refine wsr (wl rfl (obox [.bool bd,.slice pd nd' cd,.slice pt nt ct] hS rfl rfl (ev rfl rfl) rfl ?_))
 clear hS; intro g1 w2 hS
 refine wavc ?_
 refine wn2 (wavc ?_)
 refine wn1 (wSq (wsr (wl rfl (oLd ⟨Tryz.isAgg31,Tryz.sizeOf31⟩ hS 0 rfl rfl (ev rfl rfl) rfl rfl rfl ?_))))
 refine wcl Tryz.call16 (wtRowsM (hd.at hS) (hT.at hS) hD hb) (ar1 (ev rfl rfl)) hS ?_
 clear hS; rintro _ _ w3 ⟨pr,cr,Vr,hVr,rfl,rfl⟩ hS
 refine wl rfl (olen rfl rfl rfl Tryz.runUnderlying47 (p:=pr) (k:=nt) (m:=cr) (ev rfl rfl) ?_)
 refine wmvc ?_
 refine wn1 (wBk ?_)
 refine wLp (σ := Nat) (fun i a9 w' => ∃ (fb:Nat → Value) (h:Nat),a9 = act 22 (sets fb [(2,.int .i64 0),(3,.int .i64 (h:Int)),(8,.slice pr nt cr),(9,.int .i64 (nt:Int)),(10,.int .i64 (i:Int))]) ∧ Sep w [.lst 39 1 pr nt cr (ftE Vr),.blk g1 [.bool bd,.slice pd nd' cd,.slice pt nt ct] 31] w' ∧ (i ≤ nt) ∧ (h = hgR (rtT D T) i)) (fun i => nt - i) (0) ⟨_,0,aSs ⟨rfl,rfl,rfl,rfl,rfl,trivial⟩,hS,Nat.zero_le _,rfl⟩ ?_
 clear hS; rintro i _ w4 ⟨fb,h,rfl,hS,hi,hh⟩
 refine wsr ?_
 by_cases hlt:i < nt
 ·
  refine wbt rfl rfl rfl rfl (bLs (decide_eq_true (by omega))) ?_
  refine wn1 (wSq ?_)
  refine wT (ev rfl rfl) ?_
  refine wk2 ?_
  obtain ⟨gr,hgr⟩:=hS.lstPtr 0 rfl (by omega)
  obtain ⟨⟨py,cy,Ly⟩,hVr0⟩:∃ r,Vr[i]? = some r:=⟨_,List.getElem?_eq_getElem (by rw [← ftv_len,hVr,rtT_len]; omega)⟩
  have hqr:=ftv_get hVr hVr0
  have hgr9:hgR (rtT D T) (i + 1) = max (hgR (rtT D T) i) ((fqv Ly).foldl hg1 0):=by rw [hgR,show (rtT D T).getD i [] = fqv Ly by simp [List.getD,hqr]]
  refine wl rfl (oIx (p:=pr) (g:=gr) (off:=0) (m:=nt) (k:=i) (j:=(0 + i * 1)) rfl rfl Tryz.runUnderlying47 Tryz.sizeOf39 (ev rfl rfl) hgr (ev rfl rfl) (by omega) rfl ?_)
  refine wl rfl (oLc ⟨Tryz.isAgg39,Tryz.sizeOf39⟩ rfl rfl (ev rfl rfl) (hS.ftc 0 rfl hVr0 hgr) ?_)
  refine wav rfl rfl ?_
  refine wn2 (wmv rfl rfl ?_)
  have hmr:=List.mem_of_getElem? hqr
  have hR9:=hS.ftr (K:=1048576) 0 rfl hVr0 (rtT_wd hT hd.wd _ hmr) (by rw [← fqv_len]; exact rtT_row hb _ hmr)
  refine wcl Tryz.call104 ((show Calls _ _ _ _ (Ret (Is (.int .i64 (((fqv Ly).foldl hg1 0:Nat):Int))) _) from by rw [← hgt_eq,fqv_len]; have h9:=wsheight (cl:=cy) (hR9.mono (by decide)) (ne_rt hD hmr); rwa [low_rt hD hmr] at h9)) (ar1 (ev rfl rfl)) hS ?_
  clear hS; rintro _ _ w5 ⟨rfl,rfl⟩ hS
  refine wav rfl rfl ?_
  refine wn2 (wmv rfl rfl ?_)
  refine wmv rfl rfl ?_
  by_cases hgt:h < (fqv Ly).foldl hg1 0
  ·
   refine wbt rfl rfl rfl rfl (bin_gtr (decide_eq_true (by omega))) ?_
   refine wn1 ?_
   refine wT (ev rfl rfl) ?_
   refine wreg (wmv rfl rfl ?_)
   refine wav rfl rfl ?_
   refine wnil (blkN (tNo (wreg (wbc (z:=.int .i64 ((i + 1:Nat):Int)) rfl rfl (bAd (wI6 (by omega) (by omega))) ?_))))
   refine wmv rfl rfl ?_
   refine wn1 ?_
   exact ⟨(i + 1),⟨_,_,aSs ⟨rfl,rfl,rfl,rfl,rfl,trivial⟩,hS.pick [0,1] (by decide) rfl,by omega,by rw [hgr9]; omega⟩,by omega⟩
  refine wbt rfl rfl rfl rfl (bin_gtr (decide_eq_false (by omega))) ?_
  refine wn1 ?_
  refine wF (ev rfl rfl) ?_
  refine wSk (blkN (tNo (wreg (wbc (z:=.int .i64 ((i + 1:Nat):Int)) rfl rfl (bAd (wI6 (by omega) (by omega))) ?_))))
  refine wmv rfl rfl ?_
  refine wn1 ?_
  exact ⟨(i + 1),⟨_,_,aSs ⟨rfl,rfl,rfl,rfl,rfl,trivial⟩,hS.pick [0,1] (by decide) rfl,by omega,by rw [hgr9]; omega⟩,by omega⟩
 refine wbt rfl rfl rfl rfl (bLs (decide_eq_false (by omega))) ?_
 refine wn1 (wSq ?_)
 refine wF (ev rfl rfl) ?_
 refine wEx ?_
 refine tEx ?_
 refine tEx ?_
 refine blkE ?_
 refine tNo (wsr (wmv rfl rfl ?_))
 refine wav rfl rfl ?_
 refine wn1 ?_
 refine wLv ?_
 refine wr1 Tryz.results61 (tlT (v:=.int .i64 (h:Int)) rfl rfl) ?_
 have hin:i = T.length:=by omega
 have hk:h = htM D T:=by rw [hh,hin]; exact htM_R hD
 exact ⟨_,_,rfl,⟨by rw [hk],rfl⟩,hS.new0⟩
theorem wtFitM {bd:Bool} {pd pt:Option Addr} {nd' cd nt ct:Nat} {D:Int} {T:List (List Int)} {w:World} (hd:Zr w bd pd nd' cd D 1048576) (hT:TB w pt nt T 1048576) (hb:∀ L ∈ T,L.length ≤ 1048576) :
  Calls Tryz.prog 20 #[.agg #[.bool bd,.slice pd nd' cd,.slice pt nt ct]] w (Ret (Is (.int .i64 (fitM D T))) w):=by
 have hTl:=hT.1
 have hTb:=hT.2.1
 have hS:=Sep.init w
 refine went Tryz.func20 rfl (n:=30) rfl rfl ?_
 refine wsr (wl rfl (obox [.bool bd,.slice pd nd' cd,.slice pt nt ct] hS rfl rfl (ev rfl rfl) rfl ?_))
 clear hS; intro g1 w2 hS
 refine wavc ?_
 refine wn1 (wSq (wsr (wl rfl (oLd ⟨Tryz.isAgg31,Tryz.sizeOf31⟩ hS 0 rfl rfl (ev rfl rfl) rfl rfl rfl ?_))))
 refine wcl Tryz.call59 (wtcheck (hd.at hS) (hT.at hS)) (ar1 (ev rfl rfl)) hS ?_
 clear hS; rintro _ _ w3 ⟨rfl,rfl⟩ hS
 refine wav rfl rfl ?_
 refine wn2 (wmv rfl rfl ?_)
 by_cases h1:chkM D T = 0
 ·
  refine wbc rfl rfl (bNe (neF h1)) ?_
  refine wn1 ?_
  refine wF (ev rfl rfl) ?_
  refine wSk (tNo (wsr (wl rfl (oLd ⟨Tryz.isAgg31,Tryz.sizeOf31⟩ hS 0 rfl rfl (ev rfl rfl) rfl rfl rfl ?_))))
  refine wcl Tryz.call60 (wtsize (bd:=bd) (pd:=pd) (nd':=nd') (cd:=cd) (D:=D) (hT.at hS)) (ar1 (ev rfl rfl)) hS ?_
  clear hS; rintro _ _ w4 ⟨rfl,rfl⟩ hS
  refine wmv rfl rfl ?_
  refine wl rfl (oEx rfl rfl (ev rfl rfl) rfl ?_)
  refine wl rfl (oEx rfl rfl (ev rfl rfl) rfl ?_)
  refine wav rfl rfl ?_
  refine wav rfl rfl ?_
  refine wn1 (wSq (wsr (wmv rfl rfl ?_)))
  have hD:D ≠ 0:=fun h => by unfold chkM at h1; rw [if_pos h] at h1; omega
  by_cases h0:nt = 0
  ·
   refine wbc rfl rfl (bEq (eqT (by omega))) ?_
   refine wmv rfl rfl ?_
   refine wlOff (e:=18) (d:=19) (b':=true) rfl rfl rfl rfl rfl rfl ?_
   refine wlOff (e:=18) (d:=20) (b':=true) rfl rfl rfl rfl rfl rfl ?_
   refine wlOff (e:=18) (d:=21) (b':=true) rfl rfl rfl rfl rfl rfl ?_
   refine wl rfl (opick rfl rfl (ev rfl rfl) evc ?_)
   refine wn1 ?_
   refine wT (ev rfl rfl) ?_
   refine wsr (wavc ?_)
   refine wn1 ?_
   refine wLv ?_
   refine thenR ?_
   have hk:fitM D T = 3:=by unfold fitM; rw [if_neg (by omega),if_pos (by omega)]
   refine wr1 Tryz.results20 (tlT (v:=.int .i64 3) rfl rfl) ?_
   exact ⟨_,_,rfl,⟨by rw [hk],rfl⟩,hS.new0⟩
  refine wbc rfl rfl (bEq (eqF (by omega))) ?_
  refine wmv rfl rfl ?_
  refine wlOn (e:=18) rfl rfl rfl rfl (omove rfl rfl (ev rfl rfl) ?_)
  refine wlOn (e:=18) rfl rfl rfl rfl (omove rfl rfl (ev rfl rfl) ?_)
  by_cases hsq:nt = (T.getD 0 []).length
  ·
   refine wlOn (e:=18) rfl rfl rfl rfl (obin rfl rfl (ev rfl rfl) (ev rfl rfl) (bNe (neF (by omega))) ?_)
   refine wl rfl (opick rfl rfl (ev rfl rfl) (ev rfl rfl) ?_)
   refine wn1 ?_
   refine wF (ev rfl rfl) ?_
   refine wSk (tNo (wSq (wsr (wmv rfl rfl ?_))))
   by_cases h24:24 < nt
   ·
    refine wbc rfl rfl (bin_gtr (decide_eq_true (by omega))) ?_
    refine wmv rfl rfl ?_
    refine wlOff (e:=25) (d:=26) (b':=true) rfl rfl rfl rfl rfl rfl ?_
    refine wlOff (e:=25) (d:=27) (b':=true) rfl rfl rfl rfl rfl rfl ?_
    refine wlOff (e:=25) (d:=28) (b':=true) rfl rfl rfl rfl rfl rfl ?_
    refine wl rfl (opick rfl rfl (ev rfl rfl) evc ?_)
    refine wn1 ?_
    refine wT (ev rfl rfl) ?_
    refine wsr (wavc ?_)
    refine wn1 ?_
    refine wLv ?_
    refine thenR ?_
    have hk:fitM D T = 4:=by unfold fitM; rw [if_neg (by omega),if_neg (by omega),if_pos (by omega)]
    refine wr1 Tryz.results20 (tlT (v:=.int .i64 4) rfl rfl) ?_
    exact ⟨_,_,rfl,⟨by rw [hk],rfl⟩,hS.new0⟩
   refine wbc rfl rfl (bin_gtr (decide_eq_false (by omega))) ?_
   refine wmv rfl rfl ?_
   refine wlOn (e:=25) rfl rfl rfl rfl (oLd ⟨Tryz.isAgg31,Tryz.sizeOf31⟩ hS 0 rfl rfl (ev rfl rfl) rfl rfl rfl ?_)
   refine wlOn (e:=25) rfl rfl rfl rfl (oCl rfl rfl Tryz.call61 rfl (wtHeightM (hd.at hS) (hT.at hS) hD hb) (ar1 (ev rfl rfl)) ?_)
   rintro _ w5 ⟨_,_,rfl,⟨rfl,rfl⟩,hN⟩
   refine ⟨_,rfl,?_⟩
   replace hS:=hS.news hN; clear hN
   by_cases hh:4096 < htM D T
   ·
    refine wlOn (e:=25) rfl rfl rfl rfl (obin rfl rfl (ev rfl rfl) evc (bin_gtr (decide_eq_true (by omega))) ?_)
    refine wl rfl (opick rfl rfl (ev rfl rfl) (ev rfl rfl) ?_)
    refine wn1 ?_
    refine wT (ev rfl rfl) ?_
    refine wsr (wavc ?_)
    refine wn1 ?_
    refine wLv ?_
    refine thenR ?_
    have hk:fitM D T = 4:=by unfold fitM; rw [if_neg (by omega),if_neg (by omega),if_pos (by omega)]
    refine wr1 Tryz.results20 (tlT (v:=.int .i64 4) rfl rfl) ?_
    exact ⟨_,_,rfl,⟨by rw [hk],rfl⟩,hS.new0⟩
   refine wlOn (e:=25) rfl rfl rfl rfl (obin rfl rfl (ev rfl rfl) evc (bin_gtr (decide_eq_false (by omega))) ?_)
   refine wl rfl (opick rfl rfl (ev rfl rfl) (ev rfl rfl) ?_)
   refine wn1 ?_
   refine wF (ev rfl rfl) ?_
   refine wSk (tNo (wsr (wavc ?_)))
   refine wn1 ?_
   refine wLv ?_
   have hk:fitM D T = 0:=by unfold fitM; rw [if_neg (by omega),if_neg (by omega),if_neg (by omega)]
   refine wr1 Tryz.results20 (tlT (v:=.int .i64 0) rfl rfl) ?_
   exact ⟨_,_,rfl,⟨by rw [hk],rfl⟩,hS.new0⟩
  refine wlOn (e:=18) rfl rfl rfl rfl (obin rfl rfl (ev rfl rfl) (ev rfl rfl) (bNe (neT (by omega))) ?_)
  refine wl rfl (opick rfl rfl (ev rfl rfl) (ev rfl rfl) ?_)
  refine wn1 ?_
  refine wT (ev rfl rfl) ?_
  refine wsr (wavc ?_)
  refine wn1 ?_
  refine wLv ?_
  refine thenR ?_
  have hk:fitM D T = 3:=by unfold fitM; rw [if_neg (by omega),if_pos (by omega)]
  refine wr1 Tryz.results20 (tlT (v:=.int .i64 3) rfl rfl) ?_
  exact ⟨_,_,rfl,⟨by rw [hk],rfl⟩,hS.new0⟩
 refine wbc rfl rfl (bNe (neT h1)) ?_
 refine wn1 ?_
 refine wT (ev rfl rfl) ?_
 refine wsr (wmv rfl rfl ?_)
 refine wav rfl rfl ?_
 refine wn1 ?_
 refine wLv ?_
 refine thenR ?_
 have hk:fitM D T = chkM D T:=by unfold fitM; rw [if_pos h1]
 refine wr1 Tryz.results20 (tlT (v:=.int .i64 ((chkM D T))) rfl rfl) ?_
 exact ⟨_,_,rfl,⟨by rw [hk],rfl⟩,hS.new0⟩
open Go.RowKit
theorem dvd_abs {a b:Int} (h:a ∣ b) (hb:b ≠ 0):a.natAbs ≤ b.natAbs:=Nat.le_of_dvd (by omega) (Int.natAbs_dvd_natAbs.2 h)
theorem Wd.dvd {a b:Int} {k:Nat} (h:a ∣ b) (hb:b ≠ 0) (hw:Wd b k):Wd a k:=Nat.le_trans (ll_mono (dvd_abs h hb)) hw
theorem dens_rt (D:Int) (T:List (List Int)):dens (rtT D T).flatten = T.flatten.map fun x => RD x D:=by
  rw [rtT_flat]; unfold dens; rw [List.map_map]; rfl
theorem wtcommonM {w:World} {pl:Option Addr} {m cl:Nat} {D:Int} {T:List (List Int)} (hl:Rs w pl m (rtT D T).flatten 1048576) (hD:D ≠ 0) (hW:Wd D 1048576):Calls Tryz.prog 131 #[.slice pl m cl] w (Ret (CQt (mdD D T.flatten) (fun j => (mdT D T).flatten.getD j 0) m) w):=by
 have hml:m = T.flatten.length:=by rw [hl.1,rtT_flat,List.length_map]
 have h:=wqcommon (cl:=cl) (hl.mono (by decide)) (rtT_ne hD) (fun i _ => by
  rw [rtT_low hD,dens_rt]
  refine (Wd.dvd ?_ hD hW).mono (by decide)
  unfold facc
  refine foldl_lcm_dvd ⟨D,(Int.one_mul D).symm⟩ fun x hx => ?_
  obtain ⟨y,_,rfl⟩:=List.mem_map.1 (List.mem_of_mem_take hx)
  exact RD_dvd)
 have hden:facc lcmZ 1 (dens (lows (rtT D T).flatten)) m = mdD D T.flatten:=by
  rw [rtT_low hD,dens_rt]
  unfold facc
  rw [List.take_of_length_le (by rw [List.length_map]; omega)]
  exact den_same hD _
 refine h.mono fun e w' ⟨v,r,h1,h2,h3⟩ => ⟨v,r,h1,?_,h3⟩
 rw [hden] at h2
 obtain ⟨p,n,c,q,d,es,h4,h5,h6⟩:=h2
 refine ⟨p,n,c,q,d,es,⟨h4.1,fun j hj => ?_⟩,h5,h6⟩
 obtain ⟨p',n',c',h7⟩:=h4.2 j hj
 refine ⟨p',n',c',?_⟩
 rw [h7]
 congr 2
 have hjT:j < T.flatten.length:=by omega
 have hx:=List.getElem?_eq_getElem hjT
 rw [rtT_low hD,cnum_at (e:=(RN T.flatten[j] D,RD T.flatten[j] D)) (by rw [rtT_flat,List.getElem?_map,hx]; rfl),mdT_flat]
 show RN T.flatten[j] D * (mdD D T.flatten).tdiv (RD T.flatten[j] D) = _
 rw [nX_num hD (List.getElem_mem hjT)]
 simp only [List.getD_eq_getElem?_getD,List.getElem?_map,hx]; rfl
theorem rt_md {D:Int} {T:List (List Int)} {j:Nat} {xu:List (Int × Int)} (h:(rtT D T)[j]? = some xu):∃ L,(mdT D T)[j]? = some L ∧ L.length = xu.length:=by
  unfold rtT at h
  rw [List.getElem?_map] at h
  obtain ⟨L0,h0,rfl⟩:=Option.map_eq_some_iff.1 h
  exact ⟨_,mdT_get h0,by rw [List.length_map,List.length_map]⟩
theorem rt_bd {D:Int} {T:List (List Int)} (h:∀ L ∈ T,0 < L.length ∧ L.length ≤ 1000):∀ L ∈ rtT D T,0 < L.length ∧ L.length ≤ 1000:=fun L hL => by
  obtain ⟨L0,h0,rfl⟩:=List.mem_map.1 hL
  rw [List.length_map]; exact h L0 h0
def IRt (D:Int) (n:Nat) (T:List (List Int)) (K:Nat):Tell:=fun v r => ∃ (pd:Option Addr) (nd' cd:Nat) (ps:Option Addr) (cs:Nat) (rs:List Res),v = .tuple #[.agg #[.bool (ng D),.slice pd nd' cd],.slice ps n cs] ∧ r = [.row pd nd' cd (lim D.natAbs),.pack rs] ∧ ∀ w,(Res.pack rs).holds w → TRw w ps n (nrm T) K
theorem wtFromM {D:Int} {T:List (List Int)} {px:Option Addr} {n cx:Nat} {w:World} (hX:RQb w px n (rtT D T) 1048576) (hD:D ≠ 0) (hWD:Wd D 1048576) (hWT:TW' (mdT D T) 1048576) (h0:n ≠ 0) (hn:n ≤ 1000) (hc:∀ L ∈ T,0 < L.length ∧ L.length ≤ 1000) :
  Calls Tryz.prog 105 #[.slice px n cx] w (Ret (MRt (mdD D T.flatten) n (mdT D T) 1048576) w):=by
 have hTl:=hX.1
 have hTm:(mdT D T).length = n:=by rw [mdT_len, ← rtT_len D,hTl]
 have hcm:∀ L ∈ mdT D T,0 < L.length ∧ L.length ≤ 1000:=mdT_row (P:=fun k => 0 < k ∧ k ≤ 1000) hc
 have hoff:∀ i,i ≤ n → offI (mdT D T) i ≤ 1000000:=fun i hi => by
  have h1:=offI_le (fun L hL => (hcm L hL).2) i
  have h2:i * 1000 ≤ n * 1000:=Nat.mul_le_mul_right _ hi
  omega
 have hfl:offI (mdT D T) n = (mdT D T).flatten.length:=offI_all hTm
 have hfp:0 < offI (mdT D T) n:=by
  obtain ⟨L,hL⟩:∃ L,(mdT D T)[0]? = some L:=⟨_,List.getElem?_eq_getElem (by omega)⟩
  have h1:=offI_S hL
  have h2:=(hcm L (List.mem_of_getElem? hL)).1
  have h3:=offI_mono (T:=mdT D T) (show 0 + 1 ≤ n by omega)
  omega
 have hS:=Sep.init w
 refine went Tryz.func105 rfl (n:=57) rfl rfl ?_
 refine wsr (wl rfl (oAl [.bool false,.slice none 0 0,.slice none 0 0] hS rfl rfl Tryz.zeroValue31 rfl ?_))
 clear hS; intro g1 w2 hS
 refine wn2 (wavc ?_)
 refine wn1 (wSq (wsr (wmv rfl rfl ?_)))
 refine wl rfl (olen rfl rfl rfl Tryz.runUnderlying47 (p:=px) (k:=n) (m:=cx) (ev rfl rfl) ?_)
 refine wmvc ?_
 refine wn1 (wBk ?_)
 replace hS:=hS.nilLst 43 4
 refine wLp (σ := Nat) (fun i a9 w' => ∃ (fb:Nat → Value) (es:List El) (pA:Option Addr) (mA:Nat) (cA:Nat),a9 = act 57 (sets fb [(0,.slice px n cx),(2,.pointer (some ⟨g1,0,none⟩)),(3,.slice pA mA cA),(12,.slice px n cx),(13,.int .i64 (n:Int)),(14,.int .i64 (i:Int))]) ∧ Sep w [.lst 43 4 pA mA cA es,.blk g1 [.bool false,.slice none 0 0,.slice none 0 0] 31] w' ∧ (i ≤ n) ∧ (AllF w es (((rtT D T).take i).flatten) 1048576) ∧ (mA = offI (mdT D T) i)) (fun i => n - i) (0) ⟨_,[],none,0,0,aSs ⟨rfl,rfl,rfl,rfl,rfl,rfl,trivial⟩,hS,Nat.zero_le _,AllF.nil _ _,rfl⟩ ?_
 clear hS; rintro i _ w3 ⟨fb,es,pA,mA,cA,rfl,hS,hi,hA,hm⟩
 refine wsr ?_
 by_cases hli:i < n
 ·
  obtain ⟨xr,hxr⟩:∃ r,((rtT D T))[i]? = some r:=⟨_,List.getElem?_eq_getElem (by have:=hX.1; omega)⟩
  obtain ⟨br,ofr,pr,cr,hpr,hcr,hsr⟩:=hX.2.2 i _ hxr
  have hrb:=rt_bd hc xr (List.mem_of_getElem? hxr)
  obtain ⟨Lm,hLm,hlm⟩:=rt_md hxr
  obtain ⟨_,gq,oq,_,_,_,_,_,_,_,_,_,hpq,_⟩:=hsr.el (show 0 < xr.length by omega)
  subst hpq
  obtain ⟨es2,hq2,hc2⟩:=rs_elsF hsr
  have hoi:=hoff i (by omega)
  refine wbt rfl rfl rfl rfl (bLs (decide_eq_true (by omega))) ?_
  refine wn1 (wSq ?_)
  refine wT (ev rfl rfl) ?_
  refine wk2 (wl rfl (oIx (p:=px) (g:=br) (off:=ofr) (m:=n) (k:=i) (j:=(ofr + i * 1)) rfl rfl Tryz.runUnderlying47 Tryz.sizeOf39 (ev rfl rfl) hpr (ev rfl rfl) (by omega) rfl ?_))
  refine wl rfl (oLc ⟨Tryz.isAgg39,Tryz.sizeOf39⟩ rfl rfl (ev rfl rfl) (hS.cellAt (hcr 0 _ rfl)) ?_)
  refine wav rfl rfl ?_
  refine wn1 (wreg (wmv rfl rfl ?_))
  refine wmv rfl rfl ?_
  refine wl rfl (oappendC (p:=pA) (m:=mA) (c:=cA) (a:=⟨gq,oq,none⟩) (k:=xr.length) (c2:=cr) es2 hS rfl rfl Tryz.underlying39 infoRat rfl (by decide) (ev rfl rfl) (ev rfl rfl) (hq2.2.1) (hq2.2.2.1) (hq2.1) (fun j u hu => by rw [Addr.add_mid]; exact hS.cellAt (by rw [← Addr.add_mid]; exact hc2 j u hu)) (hrb.1) (by omega) (by omega) ?_)
  clear hS; intro p5 c6 w4 hS
  refine wav rfl rfl ?_
  refine wnil (blkN (tNo (wreg (wbc (z:=.int .i64 ((i + 1:Nat):Int)) rfl rfl (bAd (wI6 (by omega) (by omega))) ?_))))
  refine wmv rfl rfl ?_
  refine wn1 ?_
  exact ⟨(i + 1),⟨_,_,_,_,_,aSs ⟨rfl,rfl,rfl,rfl,rfl,rfl,trivial⟩,hS.pick [0,1] (by decide) rfl,by omega,by rw [flI_S hxr]; exact hA.app hq2,by rw [offI_S hLm,hm,hlm]⟩,by omega⟩
 refine wbt rfl rfl rfl rfl (bLs (decide_eq_false (by omega))) ?_
 refine wn1 (wSq ?_)
 refine wF (ev rfl rfl) ?_
 refine wEx ?_
 refine tEx ?_
 refine tEx ?_
 refine blkE ?_
 refine tNo (wsr (wmv rfl rfl ?_))
 have hin:i = n:=by omega
 rw [hin,List.take_of_length_le (by omega)] at hA
 rw [hin] at hm
 have hmA:=hoff n (Nat.le_refl _)
 refine wcl Tryz.call131 (wtcommonM (AllF.rs hS 0 rfl hA (by omega)) hD hWD) (ar1 (ev rfl rfl)) hS ?_
 clear hS; rintro _ _ w4 ⟨pDd,nDd,cDd,qN,dN,esN,hNEN,rfl,rfl⟩ hS
 refine wmv rfl rfl ?_
 refine wl rfl (oEx rfl rfl (ev rfl rfl) rfl ?_)
 refine wl rfl (oEx rfl rfl (ev rfl rfl) rfl ?_)
 refine wl rfl (oAl [.bool false,.slice none 0 0] hS rfl rfl Tryz.zeroValue28 rfl ?_)
 clear hS; intro g5 w6 hS
 refine wl rfl (oSt _ _ Tryz.sizeOf28 hS 0 rfl rfl (ev rfl rfl) (ev rfl rfl) rfl rfl rfl rfl rfl rfl ?_)
 clear hS; intro w7 hS
 refine wav rfl rfl ?_
 refine wn2 (wl rfl (oLd aggZ hS 0 rfl rfl (ev rfl rfl) rfl rfl rfl ?_))
 refine wl rfl (obuild (ps:=#[(0,.agg #[.bool (ng ((mdD D T.flatten))),.slice pDd nDd cDd])]) (v:=.agg #[.bool (ng ((mdD D T.flatten))),.slice pDd nDd cDd,.slice none 0 0]) rfl rfl (parts1 (ev rfl rfl)) (fun w => by simp [go_sem,Instr.build,Instr.fill]) ?_)
 refine wl rfl (oAl [.bool false,.slice none 0 0,.slice none 0 0] hS rfl rfl Tryz.zeroValue31 rfl ?_)
 clear hS; intro g8 w9 hS
 refine wl rfl (oSt _ _ Tryz.sizeOf31 hS 0 rfl rfl (ev rfl rfl) (ev rfl rfl) rfl rfl rfl rfl rfl rfl ?_)
 clear hS; intro w10 hS
 refine wn2 (wavc ?_)
 refine wn1 (wSq (wsr (wmv rfl rfl ?_)))
 refine wl rfl (olen rfl rfl rfl Tryz.runUnderlying47 (p:=px) (k:=n) (m:=cx) (ev rfl rfl) ?_)
 refine wmvc ?_
 refine wn1 (wBk ?_)
 obtain ⟨gN,hgN⟩:=hS.lstPtr 3 rfl (by omega)
 have hcN:=hS.lstCap 3 rfl
 replace hS:=hS.nilLst 32 1
 refine wLp (σ := Nat) (fun j a9 w' => ∃ (fb:Nat → Value) (pS:Option Addr) (cS:Nat),a9 = act 57 (sets fb [(2,.pointer (some ⟨g1,0,none⟩)),(7,.slice qN mA dN),(8,.pointer (some ⟨g8,0,none⟩)),(9,.int .i64 ((((offI (mdT D T) j):Nat):Int))),(29,.slice px n cx),(30,.int .i64 (n:Int)),(31,.int .i64 (j:Int))]) ∧ Sep w [.lst 32 1 pS j cS (slsI gN (mdT D T) j),.blk g8 [.bool (ng (mdD D T.flatten)),.slice pDd nDd cDd,.slice pS j cS] 31,.blk g5 [.bool (ng ((mdD D T.flatten))),.slice pDd nDd cDd] 28,.row pDd nDd cDd (lim ((mdD D T.flatten)).natAbs),.lst 28 2 qN mA dN esN,.lst 43 4 pA mA cA es,.blk g1 [.bool false,.slice none 0 0,.slice none 0 0] 31] w' ∧ (j ≤ n)) (fun j => n - j) (0) ⟨_,none,0,aSs ⟨rfl,rfl,rfl,rfl,rfl,rfl,rfl,trivial⟩,hS,Nat.zero_le _⟩ ?_
 clear hS; rintro j _ w11 ⟨fb,pS,cS,rfl,hS,hj⟩
 refine wsr ?_
 by_cases hlj:j < n
 ·
  obtain ⟨xu,hxu⟩:∃ r,((rtT D T))[j]? = some r:=⟨_,List.getElem?_eq_getElem (by have:=hX.1; omega)⟩
  obtain ⟨bu,ofu,pu,cu,hpu,hcu,hsu⟩:=hX.2.2 j _ hxu
  have hub:=rt_bd hc xu (List.mem_of_getElem? hxu)
  obtain ⟨Lu,hLu,hlu⟩:=rt_md hxu
  have hoj:=hoff (j + 1) (by omega)
  have hou:offI (mdT D T) (j + 1) = offI (mdT D T) j + xu.length:=by rw [offI_S hLu,hlu]
  have hom:=offI_mono (T:=mdT D T) (show j + 1 ≤ n by omega)
  refine wbt rfl rfl rfl rfl (bLs (decide_eq_true (by omega))) ?_
  refine wn1 (wSq ?_)
  refine wT (ev rfl rfl) ?_
  refine wk2 (wl rfl (oIx (p:=px) (g:=bu) (off:=ofu) (m:=n) (k:=j) (j:=(ofu + j * 1)) rfl rfl Tryz.runUnderlying47 Tryz.sizeOf39 (ev rfl rfl) hpu (ev rfl rfl) (by omega) rfl ?_))
  refine wl rfl (oLc ⟨Tryz.isAgg39,Tryz.sizeOf39⟩ rfl rfl (ev rfl rfl) (hS.cellAt (hcu 0 _ rfl)) ?_)
  refine wav rfl rfl ?_
  refine wn1 (wSq ?_)
  refine wSg 14 [35,36,37,38,39,40,41,42,43,44,45,46,47,48] [[],[0],[],[],[],[],[5],[4,6,5],[],[],[9],[8,10,9],[2,3,7,11,4,5,6,8,9,10],[12,2,3,4,5,6,7,8,9,10,11]] [] [] [] (fun i9 => ([iSv (.pointer (some ⟨g8,2,none⟩)),iSv (.slice pS j cS),iSv (.slice qN mA dN),iSv (.int .i64 ((((offI (mdT D T) j):Nat):Int))),iSv (.int .i64 ((((offI (mdT D T) j):Nat):Int))),iSv (.slice pu xu.length cu),iSv (.int .i64 (xu.length:Int)),iSv (.int .i64 (((offI (mdT D T) (j + 1):Nat):Int))),iSv (.int .i64 ((((offI (mdT D T) j):Nat):Int))),iSv (.slice pu xu.length cu),iSv (.int .i64 (xu.length:Int)),iSv (.int .i64 (((offI (mdT D T) (j + 1):Nat):Int))),iSv (.slice (some ⟨gN,0 + ((offI (mdT D T) j)) * 2,none⟩) ((offI (mdT D T) (j + 1) - (offI (mdT D T) j))) ((offI (mdT D T) (j + 1) - (offI (mdT D T) j)))),fun _ => Slb [.slice (some ⟨gN,0 + ((offI (mdT D T) j)) * 2,none⟩) ((offI (mdT D T) (j + 1) - (offI (mdT D T) j))) ((offI (mdT D T) (j + 1) - (offI (mdT D T) j)))] 32 1]:List (List Value → Tell)).getD i9 (fun _ _ _ => False)) hNi (fun d _ _ _ _ h => (by cases d <;> exact h)) (by kernel_rfl) (by kernel_rfl) (by kernel_rfl) hS ?_ ?_
  ·
   refine stH rfl (fun ho _=>?_) ?_
   ·exact inNo rfl (oFA (g:=g8) (off:=0) 2 rfl rfl (ev rfl (ho 8 rfl)) Tryz.runUnderlying31 rfl Tryz.sizeOf22 rfl (nSm rfl isI))
   refine stT rfl (fun hT hS=>?_) ?_
   ·obtain ⟨hv0,hr0⟩:=hT 0 35 rfl rfl
    obtain hS:=hS.flat1 hr0
    exact inNo rfl (oL1 ⟨Tryz.isAgg22,Tryz.sizeOf22⟩ hS 1 rfl rfl (ev rfl hv0) rfl rfl (nSm rfl isI))
   refine stM rfl rfl rfl rfl rfl (fun _=>isI) ?_
   refine stM rfl rfl rfl rfl rfl (fun _=>isI) ?_
   refine stM rfl rfl rfl rfl rfl (fun _=>isI) ?_
   refine stM rfl rfl rfl rfl rfl (fun _=>isI) ?_
   refine stT rfl (fun hT hS=>?_) ?_
   ·obtain ⟨hv5,hr5⟩:=hT 5 40 rfl rfl
    obtain hS:=hS.flat1 hr5
    exact inNo rfl (olen rfl rfl rfl Tryz.runUnderlying39 (p:=pu) (k:=xu.length) (m:=cu) (ev rfl hv5) (nSm rfl isI))
   refine stT rfl (fun hT hS=>?_) ?_
   ·obtain ⟨hv4,hr4⟩:=hT 4 39 rfl rfl
    obtain ⟨hv6,hr6⟩:=hT 6 41 rfl rfl
    obtain hS:=hS.flat2 hr4 hr6
    exact inNo rfl (obin (z:=.int .i64 (((offI (mdT D T) (j + 1):Nat):Int))) rfl rfl (ev rfl hv4) (ev rfl hv6) (bAd (by rw [hou]; exact wI6 (by omega) (by omega))) (nSm rfl isI))
   refine stM rfl rfl rfl rfl rfl (fun _=>isI) ?_
   refine stM rfl rfl rfl rfl rfl (fun _=>isI) ?_
   refine stT rfl (fun hT hS=>?_) ?_
   ·obtain ⟨hv9,hr9⟩:=hT 9 44 rfl rfl
    obtain hS:=hS.flat1 hr9
    exact inNo rfl (olen rfl rfl rfl Tryz.runUnderlying39 (p:=pu) (k:=xu.length) (m:=cu) (ev rfl hv9) (nSm rfl isI))
   refine stT rfl (fun hT hS=>?_) ?_
   ·obtain ⟨hv8,hr8⟩:=hT 8 43 rfl rfl
    obtain ⟨hv10,hr10⟩:=hT 10 45 rfl rfl
    obtain hS:=hS.flat2 hr8 hr10
    exact inNo rfl (obin (z:=.int .i64 (((offI (mdT D T) (j + 1):Nat):Int))) rfl rfl (ev rfl hv8) (ev rfl hv10) (bAd (by rw [hou]; exact wI6 (by omega) (by omega))) (nSm rfl isI))
   refine stT rfl (fun hT hS=>?_) ?_
   ·obtain ⟨hv2,hr2⟩:=hT 2 37 rfl rfl
    obtain ⟨hv3,hr3⟩:=hT 3 38 rfl rfl
    obtain ⟨hv7,hr7⟩:=hT 7 42 rfl rfl
    obtain ⟨hv11,hr11⟩:=hT 11 46 rfl rfl
    obtain hS:=hS.flat4 hr2 hr3 hr7 hr11
    exact inNo rfl (osliceB (g:=gN) (m:=mA) (c:=dN) (l:=((offI (mdT D T) j))) (h:=(offI (mdT D T) (j + 1))) rfl rfl Tryz.underlying32 Tryz.sizeOf28 (ev rfl hv2) hgN (ev rfl hv3) (ev rfl hv7) (ev rfl hv11) (by omega) (by omega) (nSm rfl isI))
   refine stT rfl (fun hT hS=>?_) ?_
   ·obtain ⟨hv12,hr12⟩:=hT 12 47 rfl rfl
    obtain hS:=hS.flat1 hr12
    exact .inl ⟨wNo rfl,obsliceN (ps:=#[(0,.slice (some ⟨gN,0 + ((offI (mdT D T) j)) * 2,none⟩) ((offI (mdT D T) (j + 1) - (offI (mdT D T) j))) ((offI (mdT D T) (j + 1) - (offI (mdT D T) j))))]) (z:=.slice none 0 0) [.slice (some ⟨gN,0 + ((offI (mdT D T) j)) * 2,none⟩) ((offI (mdT D T) (j + 1) - (offI (mdT D T) j))) ((offI (mdT D T) (j + 1) - (offI (mdT D T) j)))] rfl rfl Tryz.runUnderlying22 Tryz.sizeOf32 Tryz.zeroValue32 (parts1 (ev (v:=.slice (some ⟨gN,0 + ((offI (mdT D T) j)) * 2,none⟩) ((offI (mdT D T) (j + 1) - (offI (mdT D T) j))) ((offI (mdT D T) (j + 1) - (offI (mdT D T) j)))) rfl hv12)) rfl (by decide) (fill1_1s rfl rfl) ⟨_,_,rfl,⟨_,rfl,rfl⟩,New.blk _ _ _⟩⟩
   exact sNi
  intro vs ρ w13 f' hf hT hS
  obtain ⟨hv0,hr0⟩:=hT 0 (by decide)
  obtain ⟨hv1,hr1⟩:=hT 1 (by decide)
  obtain ⟨hv2,hr2⟩:=hT 2 (by decide)
  obtain ⟨hv3,hr3⟩:=hT 3 (by decide)
  obtain ⟨hv4,hr4⟩:=hT 4 (by decide)
  obtain ⟨hv5,hr5⟩:=hT 5 (by decide)
  obtain ⟨hv6,hr6⟩:=hT 6 (by decide)
  obtain ⟨hv7,hr7⟩:=hT 7 (by decide)
  obtain ⟨hv8,hr8⟩:=hT 8 (by decide)
  obtain ⟨hv9,hr9⟩:=hT 9 (by decide)
  obtain ⟨hv10,hr10⟩:=hT 10 (by decide)
  obtain ⟨hv11,hr11⟩:=hT 11 (by decide)
  obtain ⟨hv12,hr12⟩:=hT 12 (by decide)
  obtain ⟨g12,hv13,hr13⟩:=(hT 13 (by decide):(Slb [.slice (some ⟨gN,0 + ((offI (mdT D T) j)) * 2,none⟩) ((offI (mdT D T) (j + 1) - (offI (mdT D T) j))) ((offI (mdT D T) (j + 1) - (offI (mdT D T) j)))] 32 1) _ _)
  simp only [pool,if_true,hr0,hr1,hr2,hr3,hr4,hr5,hr6,hr7,hr8,hr9,hr10,hr11,hr12,hr13,List.nil_append,List.cons_append,List.append_nil] at hS
  simp only [layf,hv0,hv1,hv2,hv3,hv4,hv5,hv6,hv7,hv8,hv9,hv10,hv11,hv12,hv13] at hf
  subst hf; clear hT hv0 hv1 hv2 hv3 hv4 hv5 hv6 hv7 hv8 hv9 hv10 hv11 hv12 hv13 hr0 hr1 hr2 hr3 hr4 hr5 hr6 hr7 hr8 hr9 hr10 hr11 hr12 hr13
  obtain hS:=(show Sep w [.lst 32 1 pS j cS (slsI gN (mdT D T) j),.blk g12 [.slice (some ⟨gN,0 + ((offI (mdT D T) j)) * 2,none⟩) ((offI (mdT D T) (j + 1) - (offI (mdT D T) j))) ((offI (mdT D T) (j + 1) - (offI (mdT D T) j)))] 32,.blk g8 [.bool (ng (mdD D T.flatten)),.slice pDd nDd cDd,.slice pS j cS] 31,.blk g5 [.bool (ng ((mdD D T.flatten))),.slice pDd nDd cDd] 28,.row pDd nDd cDd (lim ((mdD D T.flatten)).natAbs),.lst 28 2 qN mA dN esN,.lst 43 4 pA mA cA es,.blk g1 [.bool false,.slice none 0 0,.slice none 0 0] 31] w13 from hS.pick [1,0,2,3,4,5,6,7] (by decide) rfl)
  refine wLt 14 rfl (by kernel_rfl) (oappendL (p:=pS) (m:=j) (c:=cS) (g2:=g12) (c2:=1) (off:=0) [.slice (some ⟨gN,0 + ((offI (mdT D T) j)) * 2,none⟩) ((offI (mdT D T) (j + 1) - (offI (mdT D T) j))) ((offI (mdT D T) (j + 1) - (offI (mdT D T) j)))] [] hS rfl rfl Tryz.underlying22 infoIRo rfl (by decide) (ev rfl rfl) (ev rfl rfl) (fun j v hj => by rw [Nat.zero_add]; exact (blk_cell (hS.blkAt 1 rfl) j).trans hj) rfl rfl rfl (by omega) (by omega) ?_)
  clear hS; intro p15 c16 w14 hS
  refine ⟨hNi,?_⟩
  refine wLt 15 rfl (by kernel_rfl) (oFA (g:=g8) (off:=0) 2 rfl rfl (ev rfl rfl) Tryz.runUnderlying31 rfl Tryz.sizeOf22 rfl ?_)
  refine ⟨hNi,?_⟩
  refine wLt 16 rfl (by kernel_rfl) (oSt _ _ Tryz.sizeOf22 hS 2 rfl rfl (ev rfl rfl) (ev rfl rfl) rfl rfl rfl rfl rfl rfl ?_)
  clear hS; intro w17 hS
  refine ⟨hNi,?_⟩
  refine wdone rfl ?_
  refine tNo (wreg (wmv rfl rfl ?_))
  refine wmv rfl rfl ?_
  refine wl rfl (olen rfl rfl rfl Tryz.runUnderlying39 (p:=pu) (k:=xu.length) (m:=cu) (ev rfl rfl) ?_)
  have hgd:(mdT D T).getD j [] = Lu:=by simp [List.getD,hLu]
  have hsl9:(⟨[.slice (some ⟨gN,0 + offI (mdT D T) j * 2,none⟩) (offI (mdT D T) (j + 1) - offI (mdT D T) j) (offI (mdT D T) (j + 1) - offI (mdT D T) j)],[]⟩:El) = slI gN (mdT D T) j:=by unfold slI; rw [hgd,offI_S hLu,Nat.add_sub_cancel_left]
  rw [hsl9, ← slsI_S] at hS
  refine wbt (z:=.int .i64 (((offI (mdT D T) (j + 1):Nat):Int))) rfl rfl rfl rfl (bAd (by rw [hou]; exact wI6 (by omega) (by omega))) ?_
  refine wav rfl rfl ?_
  refine wnil (blkN (tNo (wreg (wbc (z:=.int .i64 ((j + 1:Nat):Int)) rfl rfl (bAd (wI6 (by omega) (by omega))) ?_))))
  refine wmv rfl rfl ?_
  refine wn1 ?_
  exact ⟨(j + 1),⟨_,_,_,aSs ⟨rfl,rfl,rfl,rfl,rfl,rfl,rfl,trivial⟩,hS.pick [0,2,3,4,5,6,7] (by decide) rfl,by omega⟩,by omega⟩
 refine wbt rfl rfl rfl rfl (bLs (decide_eq_false (by omega))) ?_
 refine wn1 (wSq ?_)
 refine wF (ev rfl rfl) ?_
 refine wEx ?_
 refine tEx ?_
 refine tEx ?_
 refine blkE ?_
 refine tNo (wsr (wl rfl (oLd ⟨Tryz.isAgg31,Tryz.sizeOf31⟩ hS 1 rfl rfl (ev rfl rfl) rfl rfl rfl ?_)))
 refine wl rfl (oSt _ _ Tryz.sizeOf31 hS 6 rfl rfl (ev rfl rfl) (ev rfl rfl) rfl rfl rfl rfl rfl rfl ?_)
 clear hS; intro w12 hS
 refine wn1 ?_
 refine wLv ?_
 refine wr1 Tryz.results105 (tellC (cs:=[.bool (ng (mdD D T.flatten)),.slice pDd nDd cDd,.slice pS j cS]) ⟨Tryz.isAgg31,Tryz.sizeOf31⟩ hS 6 rfl rfl rfl rfl) ?_
 have hji:j = n:=by omega
 obtain hS:=(show Sep w [.row pDd nDd cDd (lim ((mdD D T.flatten)).natAbs),.lst 28 2 qN mA dN esN,.lst 32 1 pS j cS (slsI gN (mdT D T) j)] w12 from hS.pick [3,4,0] (by decide) rfl)
 rw [hji,hgN] at hS
 have hP:Sep w [.pack [.lst 28 2 (some ⟨gN,0,none⟩) mA dN esN,.lst 32 1 pS n cS (slsI gN (mdT D T) n)],.row pDd nDd cDd (lim ((mdD D T.flatten)).natAbs)] w12:=Sep.pack [.lst 28 2 (some ⟨gN,0,none⟩) mA dN esN,.lst 32 1 pS n cS (slsI gN (mdT D T) n)] rfl (hS.pick [1,2,0] (by decide) rfl)
 exact ⟨_,_,by rw [hji],⟨_,_,_,_,_,_,rfl,rfl,fun w' hh => trw_of (hh.1 _ List.mem_cons_self) hNEN (by rw [hm,hfl]) (hh.1 _ (List.mem_cons_of_mem _ List.mem_cons_self)) hTm (by omega) hWT fun L hL => by have:=(hcm L hL).2; omega⟩,(hP.pick [1,0] (by decide) rfl).newA rfl⟩
theorem wtNormM {bd:Bool} {pd pt:Option Addr} {nd' cd nt ct:Nat} {D:Int} {T:List (List Int)} {w:World} (hd:Zr w bd pd nd' cd D 1048576) (hT:TB w pt nt T 1048576) (hD:D ≠ 0) (h0:nt ≠ 0) (hn:nt ≤ 1000) (hc:∀ L ∈ T,0 < L.length ∧ L.length ≤ 1000) :
  Calls Tryz.prog 62 #[.agg #[.bool bd,.slice pd nd' cd,.slice pt nt ct]] w (Ret (MRt (mdD D T.flatten) nt (mdT D T) 1048576) w):=by
 have hTl:=hT.1
 have hTb:=hT.2.1
 have hS:=Sep.init w
 refine went Tryz.func62 rfl (n:=6) rfl rfl ?_
 refine wsr (wl rfl (obox [.bool bd,.slice pd nd' cd,.slice pt nt ct] hS rfl rfl (ev rfl rfl) rfl ?_))
 clear hS; intro g1 w2 hS
 refine wl rfl (oAl [.bool false,.slice none 0 0,.slice none 0 0] hS rfl rfl Tryz.zeroValue31 rfl ?_)
 clear hS; intro g3 w4 hS
 refine wn2 (wl rfl (oLd ⟨Tryz.isAgg31,Tryz.sizeOf31⟩ hS 1 rfl rfl (ev rfl rfl) rfl rfl rfl ?_))
 refine wcl Tryz.call16 (wtRowsM (hd.at hS) (hT.at hS) hD (fun L hL => by have:=(hc L hL).2; omega)) (ar1 (ev rfl rfl)) hS ?_
 clear hS; rintro _ _ w5 ⟨pr,cr,Vr,hVr,rfl,rfl⟩ hS
 refine wcl Tryz.call105 (wtFromM (hS.ftb (K:=1048576) 0 rfl hVr (rtT_wd hT hd.wd) hTb (rtT_row (fun L hL => by have:=(hc L hL).2; omega))) hD hd.wd (mdT_wd hT) h0 hn hc) (ar1 (ev rfl rfl)) hS ?_
 clear hS; rintro _ _ w6 ⟨pDM,nDM,cDM,pSM,cSM,rsM,rfl,rfl,hMM⟩ hS
 refine wl rfl (oSt _ _ Tryz.sizeOf31 hS 3 rfl rfl (ev rfl rfl) (ev rfl rfl) rfl rfl rfl rfl rfl rfl ?_)
 clear hS; intro w7 hS
 refine wn1 ?_
 refine wLv ?_
 refine wr1 Tryz.results62 (tellC (cs:=[.bool (ng ((mdD D T.flatten))),.slice pDM nDM cDM,.slice pSM nt cSM]) ⟨Tryz.isAgg31,Tryz.sizeOf31⟩ hS 3 rfl rfl rfl rfl) ?_
 exact ⟨_,_,rfl,⟨_,_,_,_,_,_,rfl,rfl,hMM⟩,(hS.pick [0,1] (by decide) rfl).newA rfl⟩
theorem wtInt {bd:Bool} {pd pt:Option Addr} {nd' cd nt ct:Nat} {D:Int} {T:List (List Int)} {w:World} (hd:Zr w bd pd nd' cd D 1048576) (hT:TB w pt nt T 1048576) (hD:D ≠ 0) (h0:nt ≠ 0) (hn:nt ≤ 1000) (hc:∀ L ∈ T,0 < L.length ∧ L.length ≤ 1000) :
  Calls Tryz.prog 22 #[.agg #[.bool bd,.slice pd nd' cd,.slice pt nt ct]] w (Ret (IRt (mdD D T.flatten) nt (mdT D T) 1048576) w):=by
 have hTl:=hT.1
 have hTb:=hT.2.1
 have hS:=Sep.init w
 refine went Tryz.func22 rfl (n:=11) rfl rfl ?_
 refine wsr (wl rfl (obox [.bool bd,.slice pd nd' cd,.slice pt nt ct] hS rfl rfl (ev rfl rfl) rfl ?_))
 clear hS; intro g1 w2 hS
 refine wl rfl (oAl [.bool false,.slice none 0 0] hS rfl rfl Tryz.zeroValue28 rfl ?_)
 clear hS; intro g3 w4 hS
 refine wavc ?_
 refine wn2 (wl rfl (oLd ⟨Tryz.isAgg31,Tryz.sizeOf31⟩ hS 1 rfl rfl (ev rfl rfl) rfl rfl rfl ?_))
 refine wcl Tryz.call62 (wtNormM (hd.at hS) (hT.at hS) hD h0 hn hc) (ar1 (ev rfl rfl)) hS ?_
 clear hS; rintro _ _ w5 ⟨pDM,nDM,cDM,pSM,cSM,rsM,rfl,rfl,hMM⟩ hS
 refine wl rfl (oAl [.bool false,.slice none 0 0,.slice none 0 0] hS rfl rfl Tryz.zeroValue31 rfl ?_)
 clear hS; intro g6 w7 hS
 refine wl rfl (oSt _ _ Tryz.sizeOf31 hS 0 rfl rfl (ev rfl rfl) (ev rfl rfl) rfl rfl rfl rfl rfl rfl ?_)
 clear hS; intro w8 hS
 refine wn1 (wSq ?_)
 refine wstageP 4 [7,8,9,10] [[],[0],[],[2]] [] [2,3] [(g6,[.bool (ng ((mdD D T.flatten))),.slice pDM nDM cDM,.slice pSM nt cSM],31)] (fun i9 => ([iSv (.pointer (some ⟨g6,0,none⟩)),iSv (.agg #[.bool (ng ((mdD D T.flatten))),.slice pDM nDM cDM]),iSv (.pointer (some ⟨g6,2,none⟩)),iSv (.slice pSM nt cSM)]:List (List Value → Tell)).getD i9 (fun _ _ _ => False)) ((heldCons (hS.blkAt 0 rfl) hNi)) (fun d _ _ _ _ h => (by cases d <;> exact h)) (by kernel_rfl) (by kernel_rfl) (by kernel_rfl) hS ?_ ?_
 ·
  refine stH rfl (fun ho _=>?_) ?_
  ·exact inNo rfl (oFA (g:=g6) (off:=0) 0 rfl rfl (ev rfl (ho 4 rfl)) Tryz.runUnderlying31 rfl Tryz.sizeOf28 rfl (nSm rfl isI))
  refine stT rfl (fun hT hS=>?_) ?_
  ·obtain ⟨hv0,hr0⟩:=hT 0 7 rfl rfl
   obtain hS:=hS.flat1 hr0
   exact inNo rfl (oLd aggZ hS 0 rfl rfl (ev rfl hv0) rfl rfl rfl (nSm rfl isI))
  refine stepsPure rfl ?_ ?_
  ·intro f' ρ ho hT
   exact ⟨_,.inl ⟨wNo rfl,fun w hw => yfieldAddr (i:=1) (g:=g6) (off:=0) 2 rfl (ev rfl (ho 4 rfl)) Tryz.runUnderlying31 rfl Tryz.sizeOf22 rfl w⟩,isI⟩
  refine stepsPure rfl ?_ ?_
  ·intro f' ρ ho hT
   obtain ⟨hv2,hr2⟩:=hT 2 9 rfl rfl
   exact ⟨_,.inl ⟨wNo rfl,fun w hw => yload1 (v:=.slice pSM nt cSM) ⟨Tryz.isAgg22,Tryz.sizeOf22⟩ rfl (ev rfl hv2) (hw.at 0 rfl) rfl⟩,isI⟩
  exact sNi
 intro vs ρ w9 f' hf hT hS
 obtain ⟨hv0,hr0⟩:=hT 0 (by decide)
 obtain ⟨hv1,hr1⟩:=hT 1 (by decide)
 obtain ⟨hv2,hr2⟩:=hT 2 (by decide)
 obtain ⟨hv3,hr3⟩:=hT 3 (by decide)
 simp only [pool,if_true,hr0,hr1,hr2,hr3,List.nil_append,List.cons_append,List.append_nil] at hS
 simp only [layf,hv0,hv1,hv2,hv3] at hf
 subst hf; clear hT hv0 hv1 hv2 hv3 hr0 hr1 hr2 hr3
 refine wLt 4 rfl (by kernel_rfl) (oSt _ _ Tryz.sizeOf28 hS 3 rfl rfl (ev rfl rfl) (ev rfl rfl) rfl rfl rfl rfl rfl rfl ?_)
 clear hS; intro w10 hS
 refine ⟨(heldCons (hS.blkAt 0 rfl) hNi),?_⟩
 refine wLt 5 rfl (by kernel_rfl) (oassign rfl rfl (ev rfl rfl) ?_)
 refine ⟨(heldCons (hS.blkAt 0 rfl) hNi),?_⟩
 refine wdone rfl ?_
 refine tNo ?_
 refine wLv ?_
 refine wret2 Tryz.results22 (tellC (cs:=[.bool (ng ((mdD D T.flatten))),.slice pDM nDM cDM]) aggZ hS 3 rfl rfl rfl rfl) (tlT (v:=.slice pSM nt cSM) rfl rfl) ?_
 exact ⟨_,_,rfl,⟨_,_,_,_,_,_,rfl,rfl,hMM⟩,(hS.pick [1,2] (by decide) rfl).newA rfl⟩
theorem wtSameM {pdA pdB ptA ptB:Option Addr} {ndA cdA ndB cdB nt ctA ctB:Nat} {Q:Int} {TT:List (List Int)} {w:World} (hdA:Sl w pdA ndA cdA (lim Q.natAbs)) (hdB:Sl w pdB ndB cdB (lim Q.natAbs)) (hA:TRw w ptA nt (nrm TT) 1048576) (hB:TRw w ptB nt (nrm TT) 1048576) :
  Calls Tryz.prog 66 #[.agg #[.bool (ng Q),.slice pdA ndA cdA,.slice ptA nt ctA],.agg #[.bool (ng Q),.slice pdB ndB cdB,.slice ptB nt ctB]] w (Ret (Is (.bool true)) w):=by
 have hTl:=hA.1
 have hTb:=hA.2.1
 have hS:=Sep.init w
 refine went Tryz.func66 rfl (n:=40) rfl rfl ?_
 refine wsr (wl rfl (obox [.bool (ng Q),.slice pdA ndA cdA,.slice ptA nt ctA] hS rfl rfl (ev rfl rfl) rfl ?_))
 clear hS; intro g1 w2 hS
 refine wl rfl (obox [.bool (ng Q),.slice pdB ndB cdB,.slice ptB nt ctB] hS rfl rfl (ev rfl rfl) rfl ?_)
 clear hS; intro g3 w4 hS
 refine wavc ?_
 refine wn1 (wSq (wsr (wl rfl (oFA (g:=g1) (off:=0) 0 rfl rfl (ev rfl rfl) Tryz.runUnderlying31 rfl Tryz.sizeOf28 rfl ?_))))
 refine wl rfl (oLd aggZ hS 1 rfl rfl (ev rfl rfl) rfl rfl rfl ?_)
 refine wl rfl (oFA (g:=g3) (off:=0) 0 rfl rfl (ev rfl rfl) Tryz.runUnderlying31 rfl Tryz.sizeOf28 rfl ?_)
 refine wl rfl (oLd aggZ hS 0 rfl rfl (ev rfl rfl) rfl rfl rfl ?_)
 refine wcl Tryz.call23 (wqsame (x:=Q) (y:=Q) (hdA.below hS.below (Nat.le_refl _)) (hdB.below hS.below (Nat.le_refl _)) rfl) (ar2 (ev rfl rfl) (ev rfl rfl)) hS ?_
 clear hS; rintro _ _ w5 ⟨rfl,rfl⟩ hS
 refine wl rfl (onot rfl rfl (ev rfl rfl) ?_)
 refine wmv rfl rfl ?_
 refine wlOn (e:=12) rfl rfl rfl rfl (oFA (g:=g1) (off:=0) 2 rfl rfl (ev rfl rfl) Tryz.runUnderlying31 rfl Tryz.sizeOf22 rfl ?_)
 refine wlOn (e:=12) rfl rfl rfl rfl (oL1 ⟨Tryz.isAgg22,Tryz.sizeOf22⟩ hS 1 rfl rfl (ev rfl rfl) rfl rfl ?_)
 refine wlOn (e:=12) rfl rfl rfl rfl (olen rfl rfl rfl Tryz.runUnderlying22 (p:=ptA) (k:=nt) (m:=ctA) (ev rfl rfl) ?_)
 refine wlOn (e:=12) rfl rfl rfl rfl (oFA (g:=g3) (off:=0) 2 rfl rfl (ev rfl rfl) Tryz.runUnderlying31 rfl Tryz.sizeOf22 rfl ?_)
 refine wlOn (e:=12) rfl rfl rfl rfl (oL1 ⟨Tryz.isAgg22,Tryz.sizeOf22⟩ hS 0 rfl rfl (ev rfl rfl) rfl rfl ?_)
 refine wlOn (e:=12) rfl rfl rfl rfl (olen rfl rfl rfl Tryz.runUnderlying22 (p:=ptB) (k:=nt) (m:=ctB) (ev rfl rfl) ?_)
 refine wlOn (e:=12) rfl rfl rfl rfl (obin rfl rfl (ev rfl rfl) (ev rfl rfl) (bNe (neF rfl)) ?_)
 refine wl rfl (opick rfl rfl (ev rfl rfl) (ev rfl rfl) ?_)
 refine wn1 ?_
 refine wF (ev rfl rfl) ?_
 refine wSk (tNo (wSq (wsr (wl rfl (oFA (g:=g1) (off:=0) 2 rfl rfl (ev rfl rfl) Tryz.runUnderlying31 rfl Tryz.sizeOf22 rfl ?_)))))
 refine wl rfl (oL1 ⟨Tryz.isAgg22,Tryz.sizeOf22⟩ hS 1 rfl rfl (ev rfl rfl) rfl rfl ?_)
 refine wl rfl (olen rfl rfl rfl Tryz.runUnderlying22 (p:=ptA) (k:=nt) (m:=ctA) (ev rfl rfl) ?_)
 refine wmvc ?_
 refine wn1 (wBk ?_)
 refine wLp (σ := Nat) (fun i a9 w' => ∃ (fb:Nat → Value),a9 = act 40 (sets fb [(2,.pointer (some ⟨g1,0,none⟩)),(3,.pointer (some ⟨g3,0,none⟩)),(23,.int .i64 (nt:Int)),(24,.int .i64 (i:Int))]) ∧ Sep w [.blk g3 [.bool (ng Q),.slice pdB ndB cdB,.slice ptB nt ctB] 31,.blk g1 [.bool (ng Q),.slice pdA ndA cdA,.slice ptA nt ctA] 31] w' ∧ (i ≤ nt)) (fun i => nt - i) (0) ⟨_,aSs ⟨rfl,rfl,rfl,rfl,trivial⟩,hS,Nat.zero_le _⟩ ?_
 clear hS; rintro i _ w6 ⟨fb,rfl,hS,hi⟩
 refine wsr ?_
 by_cases hli:i < nt
 ·
  refine wbt rfl rfl rfl rfl (bLs (decide_eq_true (by omega))) ?_
  refine wn1 (wSq ?_)
  refine wT (ev rfl rfl) ?_
  refine wk2 (wmv rfl rfl ?_)
  refine wav rfl rfl ?_
  refine wn1 (wSq ?_)
  obtain ⟨xr,hxr⟩:∃ r,(nrm TT)[i]? = some r:=⟨_,List.getElem?_eq_getElem (by omega)⟩
  obtain ⟨bA,oA,qA,kA,hpA,hcA,hsA⟩:=hA.2.2 i _ hxr
  obtain ⟨bB,oB,qB,kB,hpB,hcB,hsB⟩:=hB.2.2 i _ hxr
  refine wSg 12 [27,28,29,30,31,32,33,34,35,36,37,38] [[],[0],[],[1,2,0],[3,0,1,2],[],[5],[],[6,7,5],[8,5,6,7],[4,9,0,1,2,3,5,6,7,8],[10,0,1,2,3,4,5,6,7,8,9]] [] [] [] (fun i9 => ([iSv (.pointer (some ⟨g1,2,none⟩)),iSv (.slice ptA nt ctA),iSv (.int .i64 (i:Int)),iSv (.pointer (some ⟨bA,(oA + i * 1),none⟩)),iSv (.slice qA xr.length kA),iSv (.pointer (some ⟨g3,2,none⟩)),iSv (.slice ptB nt ctB),iSv (.int .i64 (i:Int)),iSv (.pointer (some ⟨bB,(oB + i * 1),none⟩)),iSv (.slice qB xr.length kB),iSv (.bool true),iSv (.bool false)]:List (List Value → Tell)).getD i9 (fun _ _ _ => False)) hNi (fun d _ _ _ _ h => (by cases d <;> exact h)) (by kernel_rfl) (by kernel_rfl) (by kernel_rfl) hS ?_ ?_
  ·
   refine stH rfl (fun ho _=>?_) ?_
   ·exact inNo rfl (oFA (g:=g1) (off:=0) 2 rfl rfl (ev rfl (ho 2 rfl)) Tryz.runUnderlying31 rfl Tryz.sizeOf22 rfl (nSm rfl isI))
   refine stT rfl (fun hT hS=>?_) ?_
   ·obtain ⟨hv0,hr0⟩:=hT 0 27 rfl rfl
    obtain hS:=hS.flat1 hr0
    exact inNo rfl (oL1 ⟨Tryz.isAgg22,Tryz.sizeOf22⟩ hS 1 rfl rfl (ev rfl hv0) rfl rfl (nSm rfl isI))
   refine stM rfl rfl rfl rfl rfl (fun _=>isI) ?_
   refine stT rfl (fun hT hS=>?_) ?_
   ·obtain ⟨hv1,hr1⟩:=hT 1 28 rfl rfl
    obtain ⟨hv2,hr2⟩:=hT 2 29 rfl rfl
    obtain hS:=hS.flat2 hr1 hr2
    exact inNo rfl (oIx (p:=ptA) (g:=bA) (off:=oA) (m:=nt) (k:=i) (j:=(oA + i * 1)) rfl rfl Tryz.runUnderlying22 Tryz.sizeOf32 (ev rfl hv1) hpA (ev rfl hv2) (by omega) rfl (nSm rfl isI))
   refine stT rfl (fun hT hS=>?_) ?_
   ·obtain ⟨hv3,hr3⟩:=hT 3 30 rfl rfl
    obtain hS:=hS.flat1 hr3
    exact inNo rfl (oLc ⟨Tryz.isAgg32,Tryz.sizeOf32⟩ rfl rfl (ev rfl hv3) (hS.cellAt (hcA 0 _ rfl)) (nSm rfl isI))
   refine stH rfl (fun ho _=>?_) ?_
   ·exact inNo rfl (oFA (g:=g3) (off:=0) 2 rfl rfl (ev rfl (ho 3 rfl)) Tryz.runUnderlying31 rfl Tryz.sizeOf22 rfl (nSm rfl isI))
   refine stT rfl (fun hT hS=>?_) ?_
   ·obtain ⟨hv5,hr5⟩:=hT 5 32 rfl rfl
    obtain hS:=hS.flat1 hr5
    exact inNo rfl (oL1 ⟨Tryz.isAgg22,Tryz.sizeOf22⟩ hS 0 rfl rfl (ev rfl hv5) rfl rfl (nSm rfl isI))
   refine stM rfl rfl rfl rfl rfl (fun _=>isI) ?_
   refine stT rfl (fun hT hS=>?_) ?_
   ·obtain ⟨hv6,hr6⟩:=hT 6 33 rfl rfl
    obtain ⟨hv7,hr7⟩:=hT 7 34 rfl rfl
    obtain hS:=hS.flat2 hr6 hr7
    exact inNo rfl (oIx (p:=ptB) (g:=bB) (off:=oB) (m:=nt) (k:=i) (j:=(oB + i * 1)) rfl rfl Tryz.runUnderlying22 Tryz.sizeOf32 (ev rfl hv6) hpB (ev rfl hv7) (by omega) rfl (nSm rfl isI))
   refine stT rfl (fun hT hS=>?_) ?_
   ·obtain ⟨hv8,hr8⟩:=hT 8 35 rfl rfl
    obtain hS:=hS.flat1 hr8
    exact inNo rfl (oLc ⟨Tryz.isAgg32,Tryz.sizeOf32⟩ rfl rfl (ev rfl hv8) (hS.cellAt (hcB 0 _ rfl)) (nSm rfl isI))
   refine stT rfl (fun hT hS=>?_) ?_
   ·obtain ⟨hv4,hr4⟩:=hT 4 31 rfl rfl
    obtain ⟨hv9,hr9⟩:=hT 9 36 rfl rfl
    obtain hS:=hS.flat2 hr4 hr9
    exact .inl ⟨wNo rfl,oCl rfl rfl Tryz.call30 rfl (wqSameAll ((hsA.at hS).mono (by decide)) ((hsB.at hS).mono (by decide))) (ar2 (ev rfl hv4) (ev rfl hv9)) cNw⟩
   refine stT rfl (fun hT hS=>?_) ?_
   ·obtain ⟨hv10,hr10⟩:=hT 10 37 rfl rfl
    obtain hS:=hS.flat1 hr10
    exact inNo rfl (onot rfl rfl (ev rfl hv10) (nSm rfl isI))
   exact sNi
  intro vs ρ w7 f' hf hT hS
  obtain ⟨hv0,hr0⟩:=hT 0 (by decide)
  obtain ⟨hv1,hr1⟩:=hT 1 (by decide)
  obtain ⟨hv2,hr2⟩:=hT 2 (by decide)
  obtain ⟨hv3,hr3⟩:=hT 3 (by decide)
  obtain ⟨hv4,hr4⟩:=hT 4 (by decide)
  obtain ⟨hv5,hr5⟩:=hT 5 (by decide)
  obtain ⟨hv6,hr6⟩:=hT 6 (by decide)
  obtain ⟨hv7,hr7⟩:=hT 7 (by decide)
  obtain ⟨hv8,hr8⟩:=hT 8 (by decide)
  obtain ⟨hv9,hr9⟩:=hT 9 (by decide)
  obtain ⟨hv10,hr10⟩:=hT 10 (by decide)
  obtain ⟨hv11,hr11⟩:=hT 11 (by decide)
  simp only [pool,if_true,hr0,hr1,hr2,hr3,hr4,hr5,hr6,hr7,hr8,hr9,hr10,hr11,List.nil_append,List.cons_append,List.append_nil] at hS
  simp only [layf,hv0,hv1,hv2,hv3,hv4,hv5,hv6,hv7,hv8,hv9,hv10,hv11] at hf
  subst hf; clear hT hv0 hv1 hv2 hv3 hv4 hv5 hv6 hv7 hv8 hv9 hv10 hv11 hr0 hr1 hr2 hr3 hr4 hr5 hr6 hr7 hr8 hr9 hr10 hr11
  refine wdone rfl ?_
  refine tNo ?_
  refine wF (ev rfl rfl) ?_
  refine wSk (blkN (tNo (wreg (wbc (z:=.int .i64 ((i + 1:Nat):Int)) rfl rfl (bAd (wI6 (by omega) (by omega))) ?_))))
  refine wmv rfl rfl ?_
  refine wn1 ?_
  exact ⟨(i + 1),⟨_,aSs ⟨rfl,rfl,rfl,rfl,trivial⟩,hS.pick [0,1] (by decide) rfl,by omega⟩,by omega⟩
 refine wbt rfl rfl rfl rfl (bLs (decide_eq_false (by omega))) ?_
 refine wn1 (wSq ?_)
 refine wF (ev rfl rfl) ?_
 refine wEx ?_
 refine tEx ?_
 refine tEx ?_
 refine blkE ?_
 refine tNo (wsr (wavc ?_))
 refine wn1 ?_
 refine wLv ?_
 refine wr1 Tryz.results66 (tlT (v:=.bool true) rfl rfl) ?_
 exact ⟨_,_,rfl,isI,hS.new0⟩
theorem wtEqualM {bA bB:Bool} {pdA pdB ptA ptB:Option Addr} {ndA cdA ndB cdB nt ctA ctB:Nat} {D:Int} {T:List (List Int)} {w:World} (hdA:Zr w bA pdA ndA cdA D 1048576) (hdB:Zr w bB pdB ndB cdB D 1048576) (hTA:TB w ptA nt T 1048576) (hTB:TB w ptB nt T 1048576) (hD:D ≠ 0) (h0:nt ≠ 0) (hn:nt ≤ 1000) (hc:∀ L ∈ T,0 < L.length ∧ L.length ≤ 1000) :
  Calls Tryz.prog 27 #[.agg #[.bool bA,.slice pdA ndA cdA,.slice ptA nt ctA],.agg #[.bool bB,.slice pdB ndB cdB,.slice ptB nt ctB]] w (Ret (Is (.bool true)) w):=by
 have hTl:=hTA.1
 have hTb:=hTA.2.1
 have hS:=Sep.init w
 refine went Tryz.func27 rfl (n:=34) rfl rfl ?_
 refine wsr (wl rfl (obox [.bool bA,.slice pdA ndA cdA,.slice ptA nt ctA] hS rfl rfl (ev rfl rfl) rfl ?_))
 clear hS; intro g1 w2 hS
 refine wl rfl (obox [.bool bB,.slice pdB ndB cdB,.slice ptB nt ctB] hS rfl rfl (ev rfl rfl) rfl ?_)
 clear hS; intro g3 w4 hS
 refine wavc ?_
 refine wn2 (wl rfl (oLd ⟨Tryz.isAgg31,Tryz.sizeOf31⟩ hS 1 rfl rfl (ev rfl rfl) rfl rfl rfl ?_))
 refine wcl Tryz.call60 (wtsize (bd:=bA) (pd:=pdA) (nd':=ndA) (cd:=cdA) (D:=D) (hTA.at hS)) (ar1 (ev rfl rfl)) hS ?_
 clear hS; rintro _ _ w5 ⟨rfl,rfl⟩ hS
 refine wmv rfl rfl ?_
 refine wl rfl (oEx rfl rfl (ev rfl rfl) rfl ?_)
 refine wl rfl (oEx rfl rfl (ev rfl rfl) rfl ?_)
 refine wav rfl rfl ?_
 refine wav rfl rfl ?_
 refine wn2 (wl rfl (oLd ⟨Tryz.isAgg31,Tryz.sizeOf31⟩ hS 0 rfl rfl (ev rfl rfl) rfl rfl rfl ?_))
 refine wcl Tryz.call60 (wtsize (bd:=bB) (pd:=pdB) (nd':=ndB) (cd:=cdB) (D:=D) (hTB.at hS)) (ar1 (ev rfl rfl)) hS ?_
 clear hS; rintro _ _ w6 ⟨rfl,rfl⟩ hS
 refine wmv rfl rfl ?_
 refine wl rfl (oEx rfl rfl (ev rfl rfl) rfl ?_)
 refine wl rfl (oEx rfl rfl (ev rfl rfl) rfl ?_)
 refine wav rfl rfl ?_
 refine wav rfl rfl ?_
 refine wn1 (wSq ?_)
 refine wSg 16 [19,20,21,22,23,24,25,26,27,28,29,30,31,32,33,4] [[],[],[0,1],[2,0,1],[3,0,1,2],[3,0,1,2],[3,4,5,0,1,2],[3,6,0,1,2,4,5],[7,0,1,2,3,4,5,6],[8,0,1,2,3,4,5,6,7],[8,9,0,1,2,3,4,5,6,7],[8,0,1,2,3,4,5,6,7],[8,11,0,1,2,3,4,5,6,7,9,10],[8,10,12,0,1,2,3,4,5,6,7,9,11],[8,13,0,1,2,3,4,5,6,7,9,10,11,12],[14,0,1,2,3,4,5,6,7,8,9,10,11,12,13]] [] [] [] (fun i9 => ([iSv (.int .i64 (nt:Int)),iSv (.int .i64 (nt:Int)),iSv (.bool true),iSv (.bool true),iSv (.int .i64 ((((T.getD 0 []).length:Nat):Int))),iSv (.int .i64 ((((T.getD 0 []).length:Nat):Int))),iSv (.bool true),iSv (.bool true),iSv (.bool true),iSv (.agg #[.bool bA,.slice pdA ndA cdA,.slice ptA nt ctA]),fun _ => MRt ((mdD D T.flatten)) nt ((mdT D T)) 1048576,iSv (.agg #[.bool bB,.slice pdB ndB cdB,.slice ptB nt ctB]),fun _ => MRt ((mdD D T.flatten)) nt ((mdT D T)) 1048576,iSv (.bool true),iSv (.bool true),iSv (.bool true)]:List (List Value → Tell)).getD i9 (fun _ _ _ => False)) hNi (fun d _ _ _ _ h => (by cases d <;> exact h)) (by kernel_rfl) (by kernel_rfl) (by kernel_rfl) hS ?_ ?_
 ·
  refine stM rfl rfl rfl rfl rfl (fun _=>isI) ?_
  refine stM rfl rfl rfl rfl rfl (fun _=>isI) ?_
  refine stT rfl (fun hT hS=>?_) ?_
  ·obtain ⟨hv0,hr0⟩:=hT 0 19 rfl rfl
   obtain ⟨hv1,hr1⟩:=hT 1 20 rfl rfl
   obtain hS:=hS.flat2 hr0 hr1
   exact inNo rfl (obin rfl rfl (ev rfl hv0) (ev rfl hv1) (bEq (eqT rfl)) (nSm rfl isI))
  refine stT rfl (fun hT hS=>?_) ?_
  ·obtain ⟨hv2,hr2⟩:=hT 2 21 rfl rfl
   obtain hS:=hS.flat1 hr2
   exact inNo rfl (omove rfl rfl (ev rfl hv2) (nSm rfl isI))
  refine stC rfl (fun _ _ _ _ _ ho hT hS _=>?_) ?_
  ·obtain ⟨hv3,hr3⟩:=hT 3 22 rfl rfl
   obtain hS:=hS.flat1 hr3
   exact .inl ⟨want_on (e:=22) rfl rfl rfl hv3,omove rfl rfl (ev rfl (ho 6 rfl)) ⟨_,_,rfl,isI,New.same _⟩⟩
  refine stC rfl (fun _ _ _ _ _ ho hT hS _=>?_) ?_
  ·obtain ⟨hv3,hr3⟩:=hT 3 22 rfl rfl
   obtain hS:=hS.flat1 hr3
   exact .inl ⟨want_on (e:=22) rfl rfl rfl hv3,omove rfl rfl (ev rfl (ho 8 rfl)) ⟨_,_,rfl,isI,New.same _⟩⟩
  refine stT rfl (fun hT hS=>?_) ?_
  ·obtain ⟨hv3,hr3⟩:=hT 3 22 rfl rfl
   obtain ⟨hv4,hr4⟩:=hT 4 23 rfl rfl
   obtain ⟨hv5,hr5⟩:=hT 5 24 rfl rfl
   obtain hS:=hS.flat3 hr3 hr4 hr5
   exact .inl ⟨want_on (e:=22) rfl rfl rfl hv3,obin rfl rfl (ev rfl hv4) (ev rfl hv5) (bEq (eqT rfl)) ⟨_,_,rfl,isI,New.same _⟩⟩
  refine stT rfl (fun hT hS=>?_) ?_
  ·obtain ⟨hv3,hr3⟩:=hT 3 22 rfl rfl
   obtain ⟨hv6,hr6⟩:=hT 6 25 rfl rfl
   obtain hS:=hS.flat2 hr3 hr6
   exact inNo rfl (opick rfl rfl (ev rfl hv3) (ev rfl hv6) (nSm rfl isI))
  refine stT rfl (fun hT hS=>?_) ?_
  ·obtain ⟨hv7,hr7⟩:=hT 7 26 rfl rfl
   obtain hS:=hS.flat1 hr7
   exact inNo rfl (omove rfl rfl (ev rfl hv7) (nSm rfl isI))
  refine stC rfl (fun _ _ _ _ _ ho hT hS _=>?_) ?_
  ·obtain ⟨hv8,hr8⟩:=hT 8 27 rfl rfl
   obtain hS:=hS.flat1 hr8
   exact .inl ⟨want_on (e:=27) rfl rfl rfl hv8,oLd ⟨Tryz.isAgg31,Tryz.sizeOf31⟩ hS 1 rfl rfl (ev rfl (ho 2 rfl)) rfl rfl rfl ⟨_,_,rfl,isI,New.same _⟩⟩
  refine stT rfl (fun hT hS=>?_) ?_
  ·obtain ⟨hv8,hr8⟩:=hT 8 27 rfl rfl
   obtain ⟨hv9,hr9⟩:=hT 9 28 rfl rfl
   obtain hS:=hS.flat2 hr8 hr9
   exact .inl ⟨want_on (e:=27) rfl rfl rfl hv8,oCl rfl rfl Tryz.call62 rfl (wtNormM (hdA.at hS) (hTA.at hS) hD h0 hn hc) (ar1 (ev rfl hv9)) cNw⟩
  refine stC rfl (fun _ _ _ _ _ ho hT hS _=>?_) ?_
  ·obtain ⟨hv8,hr8⟩:=hT 8 27 rfl rfl
   obtain hS:=hS.flat1 hr8
   exact .inl ⟨want_on (e:=27) rfl rfl rfl hv8,oLd ⟨Tryz.isAgg31,Tryz.sizeOf31⟩ hS 0 rfl rfl (ev rfl (ho 3 rfl)) rfl rfl rfl ⟨_,_,rfl,isI,New.same _⟩⟩
  refine stT rfl (fun hT hS=>?_) ?_
  ·obtain ⟨hv8,hr8⟩:=hT 8 27 rfl rfl
   obtain ⟨hv11,hr11⟩:=hT 11 30 rfl rfl
   obtain hS:=hS.flat2 hr8 hr11
   exact .inl ⟨want_on (e:=27) rfl rfl rfl hv8,oCl rfl rfl Tryz.call62 rfl (wtNormM (hdB.at hS) (hTB.at hS) hD h0 hn hc) (ar1 (ev rfl hv11)) cNw⟩
  refine stT rfl (fun hT hS=>?_) ?_
  ·obtain ⟨hv8,hr8⟩:=hT 8 27 rfl rfl
   obtain ⟨pDMA,nDMA,cDMA,pSMA,cSMA,rsMA,hv10,hr10,hMMA⟩:=(hT 10 29 rfl rfl:(MRt ((mdD D T.flatten)) nt ((mdT D T)) 1048576) _ _)
   obtain ⟨pDMB,nDMB,cDMB,pSMB,cSMB,rsMB,hv12,hr12,hMMB⟩:=(hT 12 31 rfl rfl:(MRt ((mdD D T.flatten)) nt ((mdT D T)) 1048576) _ _)
   obtain hS:=hS.flat3 hr8 hr10 hr12
   exact .inl ⟨want_on (e:=27) rfl rfl rfl hv8,oCl rfl rfl Tryz.call66 rfl (wtSameM (hS.sl 2 rfl) (hS.sl 4 rfl) (hMMA _ (hS.get 3 rfl)) (hMMB _ (hS.get 5 rfl))) (ar2 (ev rfl hv10) (ev rfl hv12)) cNw⟩
  refine stT rfl (fun hT hS=>?_) ?_
  ·obtain ⟨hv8,hr8⟩:=hT 8 27 rfl rfl
   obtain ⟨hv13,hr13⟩:=hT 13 32 rfl rfl
   obtain hS:=hS.flat2 hr8 hr13
   exact inNo rfl (opick rfl rfl (ev rfl hv8) (ev rfl hv13) (nSm rfl isI))
  refine stT rfl (fun hT hS=>?_) ?_
  ·obtain ⟨hv14,hr14⟩:=hT 14 33 rfl rfl
   obtain hS:=hS.flat1 hr14
   exact inNo rfl (oassign rfl rfl (ev rfl hv14) (nSm rfl isI))
  exact sNi
 intro vs ρ w7 f' hf hT hS
 obtain ⟨hv0,hr0⟩:=hT 0 (by decide)
 obtain ⟨hv1,hr1⟩:=hT 1 (by decide)
 obtain ⟨hv2,hr2⟩:=hT 2 (by decide)
 obtain ⟨hv3,hr3⟩:=hT 3 (by decide)
 obtain ⟨hv4,hr4⟩:=hT 4 (by decide)
 obtain ⟨hv5,hr5⟩:=hT 5 (by decide)
 obtain ⟨hv6,hr6⟩:=hT 6 (by decide)
 obtain ⟨hv7,hr7⟩:=hT 7 (by decide)
 obtain ⟨hv8,hr8⟩:=hT 8 (by decide)
 obtain ⟨hv9,hr9⟩:=hT 9 (by decide)
 obtain ⟨pDMA,nDMA,cDMA,pSMA,cSMA,rsMA,hv10,hr10,hMMA⟩:=(hT 10 (by decide):(MRt ((mdD D T.flatten)) nt ((mdT D T)) 1048576) _ _)
 obtain ⟨hv11,hr11⟩:=hT 11 (by decide)
 obtain ⟨pDMB,nDMB,cDMB,pSMB,cSMB,rsMB,hv12,hr12,hMMB⟩:=(hT 12 (by decide):(MRt ((mdD D T.flatten)) nt ((mdT D T)) 1048576) _ _)
 obtain ⟨hv13,hr13⟩:=hT 13 (by decide)
 obtain ⟨hv14,hr14⟩:=hT 14 (by decide)
 obtain ⟨hv15,hr15⟩:=hT 15 (by decide)
 simp only [pool,if_true,hr0,hr1,hr2,hr3,hr4,hr5,hr6,hr7,hr8,hr9,hr10,hr11,hr12,hr13,hr14,hr15,List.nil_append,List.cons_append,List.append_nil] at hS
 simp only [layf,hv0,hv1,hv2,hv3,hv4,hv5,hv6,hv7,hv8,hv9,hv10,hv11,hv12,hv13,hv14,hv15] at hf
 subst hf; clear hT hv0 hv1 hv2 hv3 hv4 hv5 hv6 hv7 hv8 hv9 hv10 hv11 hv12 hv13 hv14 hv15 hr0 hr1 hr2 hr3 hr4 hr5 hr6 hr7 hr8 hr9 hr10 hr11 hr12 hr13 hr14 hr15
 refine wdone rfl ?_
 refine tNo ?_
 refine wLv ?_
 refine wr1 Tryz.results27 (tlT (v:=.bool true) rfl rfl) ?_
 exact ⟨_,_,rfl,isI,hS.new0⟩
end Go.Proofs.YtnlnibngpeempaaGreatDoor
