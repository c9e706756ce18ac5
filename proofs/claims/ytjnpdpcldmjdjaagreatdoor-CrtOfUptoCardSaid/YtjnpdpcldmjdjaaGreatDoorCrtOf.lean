
/-
  The walk of similelaw06.CrtOf.
-/
import Derived.Test.YtjnpdpcldmjdjaaGreatDoorC6
import Derived.Test.YtjnpdpcldmjdjaaGreatDoorLT
set_option linter.unusedVariables false
set_option linter.unusedSimpArgs false
set_option maxRecDepth 100000
set_option maxHeartbeats 16000000
namespace Go.Proofs.YtjnpdpcldmjdjaaGreatDoor
open Go.RowKit
theorem dgE_at {l:List Nat} {i:Nat} {x:Nat} (h:l[i]? = some x):(dgE l)[i]? = some ⟨[.int .u32 (x:Int)],[]⟩:=by simp [dgE,h]
theorem Sep.dgCell {w0 w:World} {R:List Res} (h:Sep w0 R w) (k:Nat) {n c i d g:Nat} {p:Option Addr} {l:List Nat} (hk:R[k]? = some (.lst 38 1 p n c (dgE l))) (hd:l[i]? = some d) (hp:p = some ⟨g,0,none⟩):w.cell? ⟨g,0 + i * 1,none⟩ = some (.int .u32 (d:Int)):=by
  obtain ⟨g9,h9,hc,_⟩:=h.lstCell k hk (dgE_at hd) (by omega)
  have e9:=Option.some.inj (hp.symm.trans h9)
  cases e9
  exact hc 0 _ rfl
theorem crtOf_walk0 {p:Option Addr} {n c k:Nat} {Zs:Int} {L:List (Nat × Nat)} {w:World} (ht:Tb w) (hL:RS w p n L) (hpc:p = none → c = 0) (h32:∀ x ∈ L,x.1 < 4294967296 ∧ x.2 < 4294967296) (hlen:L.length ≤ 1048576) (hk:Far L k) :
  Calls Tryz.prog 3 #[.slice p n c,.int .i64 Zs] w (Ret (Is (.bool true)) w):=by
 have hn1:=hL.1
 have hzL:=dgs_len L
 have hS:=Sep.init w
 refine wentM Tryz.func3 rfl (n:=193) rfl rfl ?_
 refine wSq ?_
 by_cases hgd:Gd L
 ·
  have hokL:=okl_of h32 hlen hgd
  have hwV:=hokL.wV
  have hwM:=hokL.wM
  refine wreg (wl rfl (obox [.slice p n c] hS rfl rfl (ev rfl rfl) rfl ?_))
  clear hS; intro g1 w2 hS
  refine wl rfl (obox [.int .i64 Zs] hS rfl rfl (ev rfl rfl) rfl ?_)
  clear hS; intro g3 w4 hS
  refine wl rfl (oAl [.bool false] hS rfl rfl Tryz.zeroValue4 rfl ?_)
  clear hS; intro g5 w6 hS
  refine wn2 (wl rfl (oL1 ⟨Tryz.isAgg22,Tryz.sizeOf22⟩ hS 2 rfl rfl (ev rfl rfl) rfl rfl ?_))
  refine wcl Tryz.call4 (wcof (ht.at hS) (hL.at hS) h32 hlen hgd) (ar1 (ev rfl rfl)) hS ?_
  clear hS; rintro _ _ w7 ⟨pva,nva,cva,pma,nma,cma,rfl,rfl⟩ hS
  refine wmv rfl rfl ?_
  refine wl rfl (oEx rfl rfl (ev rfl rfl) rfl ?_)
  refine wl rfl (oEx rfl rfl (ev rfl rfl) rfl ?_)
  refine wl rfl (oEx rfl rfl (ev rfl rfl) rfl ?_)
  refine wav rfl rfl ?_
  refine wav rfl rfl ?_
  refine wav rfl rfl ?_
  refine wn2 (wl rfl (oL1 ⟨Tryz.isAgg22,Tryz.sizeOf22⟩ hS 4 rfl rfl (ev rfl rfl) rfl rfl ?_))
  refine wcl Tryz.call5 (wcdigits (ht.at hS) (hL.at hS) h32 hlen hgd) (ar1 (ev rfl rfl)) hS ?_
  clear hS; rintro _ _ w8 ⟨pdA,cdA,rfl,rfl⟩ hS
  refine wmv rfl rfl ?_
  refine wl rfl (oEx rfl rfl (ev rfl rfl) rfl ?_)
  refine wl rfl (oEx rfl rfl (ev rfl rfl) rfl ?_)
  refine wav rfl rfl ?_
  refine wav rfl rfl ?_
  refine wn2 (wl rfl (oL1 ⟨Tryz.isAgg22,Tryz.sizeOf22⟩ hS 5 rfl rfl (ev rfl rfl) rfl rfl ?_))
  refine wcl Tryz.call6 (wkof (ht.at hS) (hL.at hS) h32 hlen hgd) (ar1 (ev rfl rfl)) hS ?_
  clear hS; rintro _ _ w9 ⟨gT,pvT,nvT,cvT,pmT,nmT,cmT,pFT,cFT,rfl,rfl⟩ hS
  refine wmv rfl rfl ?_
  refine wl rfl (oEx rfl rfl (ev rfl rfl) rfl ?_)
  refine wl rfl (oEx rfl rfl (ev rfl rfl) rfl ?_)
  refine wav rfl rfl ?_
  refine wav rfl rfl ?_
  refine wn1 (wSq (wsr (wmv rfl rfl ?_)))
  refine wcl Tryz.call7 (wlnum6) (ar1 (ev rfl rfl)) hS ?_
  clear hS; rintro _ _ w10 ⟨rfl,rfl⟩ hS
  refine wmv rfl rfl ?_
  refine wbt (u:=.int .i64 0) (v:=.int .i64 0) (z:=.bool false) rfl rfl rfl rfl (bNe (by decide)) ?_
  refine wmv rfl rfl ?_
  refine wlOn (e:=40) rfl rfl rfl rfl (omove rfl rfl (ev rfl rfl) ?_)
  refine wlOn (e:=40) rfl rfl rfl rfl (oCl rfl rfl Tryz.call7 rfl (wlnum6) (ar1 (ev rfl rfl)) ?_)
  rintro _ w11 ⟨_,_,rfl,⟨rfl,rfl⟩,hN⟩
  refine ⟨_,rfl,?_⟩
  replace hS:=hS.news hN; clear hN
  refine wlOn (e:=40) rfl rfl rfl rfl (omove rfl rfl (ev rfl rfl) ?_)
  refine wlOn (e:=40) rfl rfl rfl rfl (obin (u:=.int .i64 0) (v:=.int .i64 0) (z:=.bool false) rfl rfl (ev rfl rfl) (ev rfl rfl) (bNe (by decide)) ?_)
  refine wl rfl (opick rfl rfl (ev rfl rfl) (ev rfl rfl) ?_)
  refine wn1 ?_
  refine wF (ev rfl rfl) ?_
  refine wSk (tNo (wSq (wsr (wmv rfl rfl ?_))))
  refine wbc (u:=.int .i64 0) (v:=.int .i64 0) (z:=.bool false) rfl rfl (bNe (by decide)) ?_
  refine wn1 ?_
  refine wF (ev rfl rfl) ?_
  refine wsr (wl rfl (oL1 ⟨Tryz.isAgg22,Tryz.sizeOf22⟩ hS 9 rfl rfl (ev rfl rfl) rfl rfl ?_))
  refine wcl Tryz.call8 (wkdigits (ht.at hS) (hL.at hS) h32 hlen hgd) (ar1 (ev rfl rfl)) hS ?_
  clear hS; rintro _ _ w12 ⟨pdB,cdB,rfl,rfl⟩ hS
  refine wav rfl rfl ?_
  refine wn1 (wSq (wsr (wmv rfl rfl ?_)))
  refine wmv rfl rfl ?_
  refine wl rfl (oNC (a:=⟨gT,0,none⟩) rfl rfl (ev rfl rfl) ?_)
  refine wl rfl (oFA (g:=gT) (off:=0) 0 rfl rfl (ev rfl rfl) Tryz.runUnderlying37 rfl Tryz.sizeOf24 rfl ?_)
  refine wl rfl (oL1 oneN hS 1 rfl rfl (ev rfl rfl) rfl rfl ?_)
  refine wcl Tryz.call9 (wlsame6 (x:=(cv L).1) (y:=(cv L).1) (hS.slm 6 rfl) (((hS.sl 3 rfl).nr hwV).mono (by omega)) (rfl)) (ar2 (ev rfl rfl) (ev rfl rfl)) hS ?_
  clear hS; rintro _ _ w13 ⟨rfl,rfl⟩ hS
  refine wl rfl (onot rfl rfl (ev rfl rfl) ?_)
  refine wmv rfl rfl ?_
  refine wlOn (e:=70) rfl rfl rfl rfl (omove rfl rfl (ev rfl rfl) ?_)
  refine wlOn (e:=70) rfl rfl rfl rfl (omove rfl rfl (ev rfl rfl) ?_)
  refine wlOn (e:=70) rfl rfl rfl rfl (oNC (a:=⟨gT,0,none⟩) rfl rfl (ev rfl rfl) ?_)
  refine wlOn (e:=70) rfl rfl rfl rfl (oFA (g:=gT) (off:=0) 1 rfl rfl (ev rfl rfl) Tryz.runUnderlying37 rfl Tryz.sizeOf24 rfl ?_)
  refine wlOn (e:=70) rfl rfl rfl rfl (oL1 oneN hS 1 rfl rfl (ev rfl rfl) rfl rfl ?_)
  refine wlOn (e:=70) rfl rfl rfl rfl (oCl rfl rfl Tryz.call9 rfl (wlsame6 (x:=(cv L).2) (y:=(cv L).2) (hS.slm 7 rfl) (((hS.sl 4 rfl).nr hwM).mono (by omega)) (rfl)) (ar2 (ev rfl rfl) (ev rfl rfl)) ?_)
  rintro _ w14 ⟨_,_,rfl,⟨rfl,rfl⟩,hN⟩
  refine ⟨_,rfl,?_⟩
  replace hS:=hS.news hN; clear hN
  refine wlOn (e:=70) rfl rfl rfl rfl (onot rfl rfl (ev rfl rfl) ?_)
  refine wl rfl (opick rfl rfl (ev rfl rfl) (ev rfl rfl) ?_)
  refine wmv rfl rfl ?_
  refine wlOn (e:=79) rfl rfl rfl rfl (omove rfl rfl (ev rfl rfl) ?_)
  refine wlOn (e:=79) rfl rfl rfl rfl (olen rfl rfl rfl Tryz.runUnderlying23 (p:=pdA) (k:=L.length) (m:=cdA) (ev rfl rfl) ?_)
  refine wlOn (e:=79) rfl rfl rfl rfl (omove rfl rfl (ev rfl rfl) ?_)
  refine wlOn (e:=79) rfl rfl rfl rfl (olen rfl rfl rfl Tryz.runUnderlying23 (p:=pdB) (k:=L.length) (m:=cdB) (ev rfl rfl) ?_)
  refine wlOn (e:=79) rfl rfl rfl rfl (obin rfl rfl (ev rfl rfl) (ev rfl rfl) (bNe (neF rfl)) ?_)
  refine wl rfl (opick rfl rfl (ev rfl rfl) (ev rfl rfl) ?_)
  refine wn1 ?_
  refine wF (ev rfl rfl) ?_
  refine wSk (tNo (wsr (wmv rfl rfl ?_)))
  refine wl rfl (olen rfl rfl rfl Tryz.runUnderlying23 (p:=pdA) (k:=L.length) (m:=cdA) (ev rfl rfl) ?_)
  refine wmvc ?_
  refine wn1 (wBk ?_)
  refine wLp (σ := Nat) (fun i a9 w' => ∃ (fb:Nat → Value),a9 = act 193 (sets fb [(2,.pointer (some ⟨g1,0,none⟩)),(3,.pointer (some ⟨g3,0,none⟩)),(4,.pointer (some ⟨g5,0,none⟩)),(8,.slice pdA L.length cdA),(12,.slice pdB L.length cdB),(87,.int .i64 (L.length:Int)),(88,.int .i64 (i:Int))]) ∧ Sep w [.lst 38 1 pdB L.length cdB (dgE (dgs L)),.blk gT [.slice pvT nvT cvT,.slice pmT nmT cmT,.slice pFT L.length cFT] 37,.lst 45 2 pFT L.length cFT (rpE (rps L)),.row pvT nvT cvT (lim (cv L).1),.row pmT nmT cmT (lim (cv L).2),.lst 38 1 pdA L.length cdA (dgE (dgs L)),.rowm pva nva cva (lim ((cv L).1)),.rowm pma nma cma (lim ((cv L).2)),.blk g5 [.bool false] 4,.blk g3 [.int .i64 Zs] 3,.blk g1 [.slice p n c] 22] w' ∧ (i ≤ L.length)) (fun i => L.length - i) (0) ⟨_,aSs ⟨rfl,rfl,rfl,rfl,rfl,rfl,rfl,trivial⟩,hS,Nat.zero_le _⟩ ?_
  clear hS; rintro i _ w15 ⟨fb,rfl,hS,hi⟩
  refine wSq ?_
  by_cases hlt:i < L.length
  ·
   obtain ⟨d,hd⟩:∃ d,(dgs L)[i]? = some d:=⟨_,List.getElem?_eq_getElem (by rw [dgs_len]; exact hlt)⟩
   obtain ⟨gA,hgA,_,_⟩:=hS.lstCell 5 rfl (dgE_at hd) (by omega)
   obtain ⟨gB,hgB,_,_⟩:=hS.lstCell 0 rfl (dgE_at hd) (by omega)
   refine wreg (wbt rfl rfl rfl rfl (bLs (decide_eq_true (by omega))) ?_)
   refine wn1 (wSq ?_)
   refine wT (ev rfl rfl) ?_
   refine wk2 (wmv rfl rfl ?_)
   refine wav rfl rfl ?_
   refine wn1 (wSq ?_)
   refine wSg 9 [91,92,93,94,95,96,97,98,99] [[],[],[0,1],[2,0,1],[],[],[4,5],[6,4,5],[3,7,0,1,2,4,5,6]] [] [] [] (fun i9 => ([iSv (.slice pdA L.length cdA),iSv (.int .i64 (i:Int)),iSv (.pointer (some ⟨gA,(0 + i * 1),none⟩)),iSv (.int .u32 (d:Int)),iSv (.slice pdB L.length cdB),iSv (.int .i64 (i:Int)),iSv (.pointer (some ⟨gB,(0 + i * 1),none⟩)),iSv (.int .u32 (d:Int)),iSv (.bool false)]:List (List Value → Tell)).getD i9 (fun _ _ _ => False)) hNi (fun d _ _ _ _ h => (by cases d <;> exact h)) (by kernel_rfl) (by kernel_rfl) (by kernel_rfl) hS ?_ ?_
   ·
    refine stM rfl rfl rfl rfl rfl (fun _=>isI) ?_
    refine stM rfl rfl rfl rfl rfl (fun _=>isI) ?_
    refine stT rfl (fun hT hS=>?_) ?_
    ·obtain ⟨hv0,hr0⟩:=hT 0 91 rfl rfl
     obtain ⟨hv1,hr1⟩:=hT 1 92 rfl rfl
     obtain hS:=hS.flat2 hr0 hr1
     exact inNo rfl (oIx (p:=pdA) (g:=gA) (off:=0) (m:=L.length) (k:=i) (j:=(0 + i * 1)) rfl rfl Tryz.runUnderlying23 Tryz.sizeOf38 (ev rfl hv0) hgA (ev rfl hv1) hlt rfl (nSm rfl isI))
    refine stT rfl (fun hT hS=>?_) ?_
    ·obtain ⟨hv2,hr2⟩:=hT 2 93 rfl rfl
     obtain hS:=hS.flat1 hr2
     exact inNo rfl (oLc one32 rfl rfl (ev rfl hv2) (hS.dgCell 5 rfl hd hgA) (nSm rfl isI))
    refine stM rfl rfl rfl rfl rfl (fun _=>isI) ?_
    refine stM rfl rfl rfl rfl rfl (fun _=>isI) ?_
    refine stT rfl (fun hT hS=>?_) ?_
    ·obtain ⟨hv4,hr4⟩:=hT 4 95 rfl rfl
     obtain ⟨hv5,hr5⟩:=hT 5 96 rfl rfl
     obtain hS:=hS.flat2 hr4 hr5
     exact inNo rfl (oIx (p:=pdB) (g:=gB) (off:=0) (m:=L.length) (k:=i) (j:=(0 + i * 1)) rfl rfl Tryz.runUnderlying23 Tryz.sizeOf38 (ev rfl hv4) hgB (ev rfl hv5) hlt rfl (nSm rfl isI))
    refine stT rfl (fun hT hS=>?_) ?_
    ·obtain ⟨hv6,hr6⟩:=hT 6 97 rfl rfl
     obtain hS:=hS.flat1 hr6
     exact inNo rfl (oLc one32 rfl rfl (ev rfl hv6) (hS.dgCell 0 rfl hd hgB) (nSm rfl isI))
    refine stT rfl (fun hT hS=>?_) ?_
    ·obtain ⟨hv3,hr3⟩:=hT 3 94 rfl rfl
     obtain ⟨hv7,hr7⟩:=hT 7 98 rfl rfl
     obtain hS:=hS.flat2 hr3 hr7
     exact inNo rfl (obin rfl rfl (ev rfl hv3) (ev rfl hv7) (bNe (neF rfl)) (nSm rfl isI))
    exact sNi
   intro vs ρ w16 f' hf hT hS
   obtain ⟨hv0,hr0⟩:=hT 0 (by decide)
   obtain ⟨hv1,hr1⟩:=hT 1 (by decide)
   obtain ⟨hv2,hr2⟩:=hT 2 (by decide)
   obtain ⟨hv3,hr3⟩:=hT 3 (by decide)
   obtain ⟨hv4,hr4⟩:=hT 4 (by decide)
   obtain ⟨hv5,hr5⟩:=hT 5 (by decide)
   obtain ⟨hv6,hr6⟩:=hT 6 (by decide)
   obtain ⟨hv7,hr7⟩:=hT 7 (by decide)
   obtain ⟨hv8,hr8⟩:=hT 8 (by decide)
   simp only [pool,if_true,hr0,hr1,hr2,hr3,hr4,hr5,hr6,hr7,hr8,List.nil_append,List.cons_append,List.append_nil] at hS
   simp only [layf,hv0,hv1,hv2,hv3,hv4,hv5,hv6,hv7,hv8] at hf
   subst hf; clear hT hv0 hv1 hv2 hv3 hv4 hv5 hv6 hv7 hv8 hr0 hr1 hr2 hr3 hr4 hr5 hr6 hr7 hr8
   refine wdone rfl ?_
   refine tNo ?_
   refine wF (ev rfl rfl) ?_
   refine wSk (blkN (tNo (wreg (wbc (z:=.int .i64 ((i + 1:Nat):Int)) rfl rfl (bAd (wI6 (by omega) (by omega))) ?_))))
   refine wmv rfl rfl ?_
   refine wn1 ?_
   exact ⟨(i + 1),⟨_,aSs ⟨rfl,rfl,rfl,rfl,rfl,rfl,rfl,trivial⟩,hS.pick [0,1,2,3,4,5,6,7,8,9,10] (by decide) rfl,by omega⟩,by omega⟩
  refine wreg (wbt rfl rfl rfl rfl (bLs (decide_eq_false (by omega))) ?_)
  refine wn1 (wSq ?_)
  refine wF (ev rfl rfl) ?_
  refine wEx ?_
  refine tEx ?_
  refine tEx ?_
  refine blkE ?_
  refine tNo ?_
  exact crtof_rest rfl ht hL h32 hlen hk hpc ⟨rfl,rfl,rfl,trivial⟩ (hS.pick [10,9,8] (by decide) rfl)
 have hne:code [] L ≠ 0:=fun h => hgd (code_gd.1 h)
 refine wreg (wl rfl (obox [.slice p n c] hS rfl rfl (ev rfl rfl) rfl ?_))
 clear hS; intro g1 w2 hS
 refine wl rfl (obox [.int .i64 Zs] hS rfl rfl (ev rfl rfl) rfl ?_)
 clear hS; intro g3 w4 hS
 refine wl rfl (oAl [.bool false] hS rfl rfl Tryz.zeroValue4 rfl ?_)
 clear hS; intro g5 w6 hS
 refine wn2 (wl rfl (oL1 ⟨Tryz.isAgg22,Tryz.sizeOf22⟩ hS 2 rfl rfl (ev rfl rfl) rfl rfl ?_))
 refine wcl Tryz.call4 (wcofE (ht.at hS) (hL.at hS) h32 hlen hne) (ar1 (ev rfl rfl)) hS ?_
 clear hS; rintro _ _ w7 ⟨rfl,rfl⟩ hS
 refine wmv rfl rfl ?_
 refine wl rfl (oEx rfl rfl (ev rfl rfl) rfl ?_)
 refine wl rfl (oEx rfl rfl (ev rfl rfl) rfl ?_)
 refine wl rfl (oEx rfl rfl (ev rfl rfl) rfl ?_)
 refine wav rfl rfl ?_
 refine wav rfl rfl ?_
 refine wav rfl rfl ?_
 refine wn2 (wl rfl (oL1 ⟨Tryz.isAgg22,Tryz.sizeOf22⟩ hS 2 rfl rfl (ev rfl rfl) rfl rfl ?_))
 refine wcl Tryz.call5 (wcdigitsE (ht.at hS) (hL.at hS) h32 hlen hne) (ar1 (ev rfl rfl)) hS ?_
 clear hS; rintro _ _ w8 ⟨rfl,rfl⟩ hS
 refine wmv rfl rfl ?_
 refine wl rfl (oEx rfl rfl (ev rfl rfl) rfl ?_)
 refine wl rfl (oEx rfl rfl (ev rfl rfl) rfl ?_)
 refine wav rfl rfl ?_
 refine wav rfl rfl ?_
 refine wn2 (wl rfl (oL1 ⟨Tryz.isAgg22,Tryz.sizeOf22⟩ hS 2 rfl rfl (ev rfl rfl) rfl rfl ?_))
 refine wcl Tryz.call6 (wkofE (ht.at hS) (hL.at hS) h32 hlen hne) (ar1 (ev rfl rfl)) hS ?_
 clear hS; rintro _ _ w9 ⟨rfl,rfl⟩ hS
 refine wmv rfl rfl ?_
 refine wl rfl (oEx rfl rfl (ev rfl rfl) rfl ?_)
 refine wl rfl (oEx rfl rfl (ev rfl rfl) rfl ?_)
 refine wav rfl rfl ?_
 refine wav rfl rfl ?_
 refine wn1 (wSq (wsr (wmv rfl rfl ?_)))
 refine wcl Tryz.call7 (wlnum6) (ar1 (ev rfl rfl)) hS ?_
 clear hS; rintro _ _ w10 ⟨rfl,rfl⟩ hS
 refine wmv rfl rfl ?_
 refine wbt rfl rfl rfl rfl (bNe (neF rfl)) ?_
 refine wmv rfl rfl ?_
 refine wlOn (e:=40) rfl rfl rfl rfl (omove rfl rfl (ev rfl rfl) ?_)
 refine wlOn (e:=40) rfl rfl rfl rfl (oCl rfl rfl Tryz.call7 rfl (wlnum6) (ar1 (ev rfl rfl)) ?_)
 rintro _ w11 ⟨_,_,rfl,⟨rfl,rfl⟩,hN⟩
 refine ⟨_,rfl,?_⟩
 replace hS:=hS.news hN; clear hN
 refine wlOn (e:=40) rfl rfl rfl rfl (omove rfl rfl (ev rfl rfl) ?_)
 refine wlOn (e:=40) rfl rfl rfl rfl (obin rfl rfl (ev rfl rfl) (ev rfl rfl) (bNe (neF rfl)) ?_)
 refine wl rfl (opick rfl rfl (ev rfl rfl) (ev rfl rfl) ?_)
 refine wn1 ?_
 refine wF (ev rfl rfl) ?_
 refine wSk (tNo (wSq (wsr (wmv rfl rfl ?_))))
 refine wbc rfl rfl (bNe (neT (by omega))) ?_
 refine wn1 ?_
 refine wT (ev rfl rfl) ?_
 refine wsr (wmv rfl rfl ?_)
 refine wl rfl (olen rfl rfl rfl Tryz.runUnderlying24 (p:=none) (k:=0) (m:=0) (ev rfl rfl) ?_)
 refine wbc rfl rfl (bNe (neF (by omega))) ?_
 refine wmv rfl rfl ?_
 refine wlOn (e:=51) rfl rfl rfl rfl (omove rfl rfl (ev rfl rfl) ?_)
 refine wlOn (e:=51) rfl rfl rfl rfl (olen rfl rfl rfl Tryz.runUnderlying24 (p:=none) (k:=0) (m:=0) (ev rfl rfl) ?_)
 refine wlOn (e:=51) rfl rfl rfl rfl (obin rfl rfl (ev rfl rfl) evc (bNe (neF (by omega))) ?_)
 refine wl rfl (opick rfl rfl (ev rfl rfl) (ev rfl rfl) ?_)
 refine wmv rfl rfl ?_
 refine wlOn (e:=56) rfl rfl rfl rfl (omove rfl rfl (ev rfl rfl) ?_)
 refine wlOn (e:=56) rfl rfl rfl rfl (olen rfl rfl rfl Tryz.runUnderlying23 (p:=none) (k:=0) (m:=0) (ev rfl rfl) ?_)
 refine wlOn (e:=56) rfl rfl rfl rfl (obin rfl rfl (ev rfl rfl) evc (bNe (neF (by omega))) ?_)
 refine wl rfl (opick rfl rfl (ev rfl rfl) (ev rfl rfl) ?_)
 refine wn1 ?_
 refine wF (ev rfl rfl) ?_
 refine wSk (tNo ?_)
 exact crtof_rest rfl ht hL h32 hlen hk hpc ⟨rfl,rfl,rfl,trivial⟩ (hS.pick [2,1,0] (by decide) rfl)
theorem crtOf_walk {p:Option Addr} {n c:Nat} {L:List (Nat × Nat)} {Zs:Int} {w:World} (hL:RS w p n L) (h32:∀ x ∈ L,x.1 < 4294967296 ∧ x.2 < 4294967296) (hpc:p = none → c = 0) (h1:Tab w) (h2:Bases w) (hlen:L.length ≤ 1048576) (_ : -9223372036854775808 ≤ Zs ∧ Zs ≤ 9223372036854775807):Calls Tryz.prog 3 #[.slice p n c,.int .i64 Zs] w (RetB w true):=by
  obtain ⟨k,hk⟩:=far_ex h32 hlen
  exact Ret.bool (crtOf_walk0 ⟨h1,h2⟩ hL hpc h32 hlen hk)
end Go.Proofs.YtjnpdpcldmjdjaaGreatDoor
