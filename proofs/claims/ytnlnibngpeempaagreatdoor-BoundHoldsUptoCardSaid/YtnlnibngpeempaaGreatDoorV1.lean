/-
  Contracts and lemmas, joined in one text.
-/
import Derived.Test.YtnlnibngpeempaaGreatDoorQ1
import Derived.Test.YtnlnibngpeempaaGreatDoorH1
set_option linter.unusedVariables false
set_option linter.unusedSimpArgs false
/-
  A list's next element.
-/
set_option maxRecDepth 100000
set_option maxHeartbeats 16000000
namespace Go.Proofs.YtnlnibngpeempaaGreatDoor
open Go.RowKit
theorem take_next {α : Type} {L:List α} {i:Nat} {x : α} (h:L[i]? = some x):L.take (i + 1) = L.take i ++ [x]:=by
  rw [List.take_add_one,h]; rfl
theorem Sep.newH {S:List Res} {w w':World} (h:Sep w S w') (ha:S.all (fun r => !r.arg) = true):New w S w' :=
  ⟨h.below,h.holds,fun r hr g hg => h.low r hr (by have:=List.all_eq_true.1 ha r hr; simpa using this) g hg,h.apart⟩
theorem Sep.dupRow2 {w0 w:World} {R:List Res} (h:Sep w0 R w) (k:Nat) {p:Option Addr} {n c:Nat} {xs:List Nat} (hk:R[k]? = some (.row p n c xs)):Sep w0 (.row p n c xs :: R) w:=by
 have hm:(Res.row p n c xs) ∈ R:=List.mem_of_getElem? hk
 exact ⟨h.below,fun r hr => (List.mem_cons.1 hr).elim (fun e => by subst e; exact h.holds _ hm) (h.holds r),fun r hr => (List.mem_cons.1 hr).elim (fun e => by subst e; exact h.low _ hm) (h.low r),List.pairwise_cons.2 ⟨fun s hs => by
  obtain ⟨i,hi,rfl⟩:=List.getElem_of_mem hs
  obtain ⟨hk',he⟩:=List.getElem?_eq_some_iff.1 hk
  rcases Nat.lt_trichotomy k i with h1 | h1 | h1
  ·have:=List.pairwise_iff_getElem.1 h.apart k i hk' hi h1
   rwa [he] at this
  ·subst h1; rw [he]; intro hb; simp [Res.row] at hb
  have:=List.pairwise_iff_getElem.1 h.apart i k hi hk' h1
  rw [he] at this; exact this.symm,h.apart⟩⟩
open Go.RowKit
theorem wtfill {r c:Nat} {w:World} (hr:r ≤ 1000) (hc:c ≤ 1000) :
  Calls Tryz.prog 114 #[.int .i64 ((r:Nat):Int),.int .i64 ((c:Nat):Int)] w (Ret (IQt r (zeroT r c)) w):=by
 have hS:=Sep.init w
 refine went Tryz.func114 rfl (n:=31) rfl rfl ?_
 refine wsr (wavc ?_)
 refine wn2 (wavc ?_)
 refine wn1 (wSq (wsr (wavc ?_)))
 refine wn1 (wBk ?_)
 replace hS:=hS.nilLst 39 1
 refine wLp (σ := Nat) (fun i a9 w' => ∃ (fb:Nat → Value) (T:List Ir) (pX:Option Addr) (cX:Nat),a9 = act 31 (sets fb [(0,.int .i64 (r:Int)),(1,.int .i64 (c:Int)),(4,.slice none 0 0),(5,.slice pX i cX),(6,.int .i64 (i:Int))]) ∧ Sep w [.lst 39 1 pX i cX (itE T)] w' ∧ (i ≤ r) ∧ (itv T = List.replicate i (List.replicate c 0))) (fun i => r - i) (0) ⟨_,[],none,0,aSs ⟨rfl,rfl,rfl,rfl,rfl,trivial⟩,hS,Nat.zero_le _,rfl⟩ ?_
 clear hS; rintro i _ w1 ⟨fb,T,pX,cX,rfl,hS,hi,hT⟩
 refine wSq (wsr (wmv rfl rfl ?_))
 refine wmv rfl rfl ?_
 by_cases hli:i < r
 ·
  refine wbt rfl rfl rfl rfl (bLs (decide_eq_true (by omega))) ?_
  refine wn1 ?_
  refine wT (ev rfl rfl) ?_
  refine wk2 (wmv rfl rfl ?_)
  refine wl rfl (omakeL (zs:=[.bool false,.slice none 0 0,.bool false,.slice none 0 0]) (k:=c) (m:=c) hS rfl rfl Tryz.underlying39 infoRat rfl rfl (by decide) rfl (ev rfl rfl) (ev rfl rfl) (by omega) (by omega) (by omega) ?_)
  clear hS; intro g2 w3 hS
  refine wav rfl rfl ?_
  refine wn1 (wSq (wsr (wmv rfl rfl ?_)))
  refine wl rfl (olen rfl rfl rfl Tryz.runUnderlying39 (p:=(some ⟨g2,0,none⟩)) (k:=c) (m:=c) (ev rfl rfl) ?_)
  refine wmvc ?_
  refine wn1 (wBk ?_)
  rw [show List.replicate c (⟨[.bool false,.slice none 0 0,.bool false,.slice none 0 0],[]⟩:El) = iqs [] ++ List.replicate (c - 0) nilQ from rfl] at hS
  refine wLp (σ := Nat) (fun k a9 w' => ∃ (fb:Nat → Value) (L:List Iq),a9 = act 31 (sets fb [(0,.int .i64 (r:Int)),(1,.int .i64 (c:Int)),(4,.slice none 0 0),(5,.slice pX i cX),(6,.int .i64 (i:Int)),(7,.slice (some ⟨g2,0,none⟩) c c),(17,.int .i64 (c:Int)),(18,.int .i64 (k:Int))]) ∧ Sep w [.lst 43 4 (some ⟨g2,0,none⟩) c c (iqs L ++ List.replicate (c - k) nilQ),.lst 39 1 pX i cX (itE T)] w' ∧ (k ≤ c) ∧ (izs L = List.replicate k 0)) (fun k => c - k) (0) ⟨_,[],aSs ⟨rfl,rfl,rfl,rfl,rfl,rfl,rfl,rfl,trivial⟩,hS,Nat.zero_le _,rfl⟩ ?_
  clear hS; rintro k _ w4 ⟨fb,L,rfl,hS,hk,hL⟩
  refine wsr ?_
  by_cases hlk:k < c
  ·
   refine wbt rfl rfl rfl rfl (bLs (decide_eq_true (by omega))) ?_
   refine wn1 (wSq ?_)
   refine wT (ev rfl rfl) ?_
   refine wk2 (wmv rfl rfl ?_)
   refine wav rfl rfl ?_
   refine wn1 (wreg (wmv rfl rfl ?_))
   refine wmv rfl rfl ?_
   obtain ⟨z1,hz1⟩:∃ z:Int,Hid (0 = z):=⟨_,rfl⟩
   have hk1:Wd z1 2:=by rw [← hz1.out]; exact Wd.i64 (by omega) (by omega)
   have hk2:Wd 1 2:=wd1
   refine wcl Tryz.call48 ((show Calls _ _ _ _ (Ret (Rrt z1 1) _) from by rw [← hz1.out]; exact wsof (by omega) (by omega))) (ar1 evc) hS ?_
   clear hS; rintro _ _ w5 ⟨p1,n1,c1,p2,n2,c2,rfl,rfl⟩ hS
   refine wl rfl (oIx (p:=(some ⟨g2,0,none⟩)) (g:=g2) (off:=0) (m:=c) (k:=k) (j:=(0 + k * 4)) rfl rfl Tryz.runUnderlying39 Tryz.sizeOf43 (ev rfl rfl) (rfl) (ev rfl rfl) (by omega) rfl ?_)
   refine wl rfl (ostoreL (i:=k) (g:=g2) [.bool (ng z1),.slice p1 n1 c1,.bool (ng 1),.slice p2 n2 c2] [.rowm p1 n1 c1 (lim z1.natAbs),.rowm p2 n2 c2 (lim (1:Int).natAbs)] Tryz.sizeOf43 hS rfl rfl (ev rfl rfl) (ev rfl rfl) (rfl) rfl rfl rfl rfl (by omega) rfl ?_)
   clear hS; intro w6 hS
   refine wnil (blkN (tNo (wreg (wbc (z:=.int .i64 ((k + 1:Nat):Int)) rfl rfl (bAd (wI6 (by omega) (by omega))) ?_))))
   refine wmv rfl rfl ?_
   refine wn1 ?_
   have hLk:L.length = k:=by rw [← izs_len,hL,List.length_replicate]
   have hfq:=fillQ (m:=c - (k + 1)) (e:=⟨p1,n1,c1,p2,n2,c2,z1⟩) hLk
   rw [show c - (k + 1) + 1 = c - k by omega] at hfq
   rw [show (⟨[.bool (ng z1),.slice p1 n1 c1,.bool (ng 1),.slice p2 n2 c2],[.rowm p1 n1 c1 (lim z1.natAbs),.rowm p2 n2 c2 (lim (1:Int).natAbs)]⟩:El) = iqE ⟨p1,n1,c1,p2,n2,c2,z1⟩ from rfl,hfq] at hS
   have hz0:z1 = 0:=hz1.out.symm
   exact ⟨(k + 1),⟨_,_,aSs ⟨rfl,rfl,rfl,rfl,rfl,rfl,rfl,rfl,trivial⟩,hS.pick [0,1] (by decide) rfl,by omega,by rw [izs_snoc,hL,hz0, ← List.replicate_succ']⟩,by omega⟩
  refine wbt rfl rfl rfl rfl (bLs (decide_eq_false (by omega))) ?_
  refine wn1 (wSq ?_)
  refine wF (ev rfl rfl) ?_
  refine wEx ?_
  refine tEx ?_
  refine tEx ?_
  refine blkE ?_
  refine tNo (wreg (wmv rfl rfl ?_))
  refine wmv rfl rfl ?_
  refine wl rfl (obslice (ps:=#[(0,.slice (some ⟨g2,0,none⟩) c c)]) (z:=.slice none 0 0) [.slice (some ⟨g2,0,none⟩) c c] hS rfl rfl Tryz.runUnderlying47 Tryz.sizeOf39 Tryz.zeroValue39 (parts1 (ev (v:=.slice (some ⟨g2,0,none⟩) c c) rfl rfl)) rfl (by decide) (fill1_1s rfl rfl) ?_)
  clear hS; intro g5 w6 hS
  have hkc:k = c:=by omega
  have hLc:L.length = c:=by rw [← izs_len,hL,List.length_replicate,hkc]
  rw [show c - k = 0 by omega,List.replicate_zero,List.append_nil] at hS
  obtain hS:=(show Sep w [.lst 43 4 (some ⟨g2,0,none⟩) c c (iqs L),.lst 39 1 pX i cX (itE T),.blk g5 [.slice (some ⟨g2,0,none⟩) c c] 39] w6 from hS.pick [1,2,0] (by decide) rfl)
  refine wl rfl (oappendL (p:=pX) (m:=i) (c:=cX) (g2:=g5) (c2:=1) (off:=0) [.slice (some ⟨g2,0,none⟩) c c] [.lst 43 4 (some ⟨g2,0,none⟩) c c (iqs L)] hS rfl rfl Tryz.underlying47 infoRRow rfl (by decide) (ev rfl rfl) (ev rfl rfl) (fun j v hj => by rw [Nat.zero_add]; exact (blk_cell (hS.blkAt 2 rfl) j).trans hj) rfl rfl rfl (by omega) (by omega) ?_)
  clear hS; intro p8 c9 w7 hS
  refine wav rfl rfl ?_
  refine wnil (blkN (tNo (wreg (wmv rfl rfl ?_))))
  refine wbc (z:=.int .i64 ((i + 1:Nat):Int)) rfl rfl (bAd (wI6 (by omega) (by omega))) ?_
  refine wav rfl rfl ?_
  refine wn1 ?_
  rw [it_snoc hLc] at hS
  exact ⟨(i + 1),⟨_,_,_,_,aSs ⟨rfl,rfl,rfl,rfl,rfl,trivial⟩,hS.pick [0] (by decide) rfl,by omega,by rw [itv_snoc,hT,hL,hkc, ← List.replicate_succ']⟩,by omega⟩
 refine wbt rfl rfl rfl rfl (bLs (decide_eq_false (by omega))) ?_
 refine wn1 ?_
 refine wF (ev rfl rfl) ?_
 refine wEx ?_
 refine tEx ?_
 refine tEx ?_
 refine blkE ?_
 refine tNo (wsr (wmv rfl rfl ?_))
 refine wav rfl rfl ?_
 refine wn1 ?_
 refine wLv ?_
 refine wr1 Tryz.results114 (tlT (v:=.slice pX i cX) rfl rfl) ?_
 exact ⟨_,_,rfl,⟨pX,cX,T,by rw [hT,show i = r by omega]; rfl,by rw [show i = r by omega],by rw [show i = r by omega]⟩,hS.newR 0 rfl rfl⟩
theorem wtRows {bd:Bool} {pd pt:Option Addr} {nd' cd nt ct:Nat} {T:List (List Int)} {w:World} (hd:Zr w bd pd nd' cd 1 2) (hT:TB w pt nt T 2097408) (hn:nt ≤ 1000) (hb:∀ L ∈ T,L.length ≤ 1000) :
  Calls Tryz.prog 16 #[.agg #[.bool bd,.slice pd nd' cd,.slice pt nt ct]] w (Ret (IQt nt T) w):=by
 have hTl:=hT.1
 have hS:=Sep.init w
 refine went Tryz.func16 rfl (n:=40) rfl rfl ?_
 refine wsr (wl rfl (obox [.bool bd,.slice pd nd' cd,.slice pt nt ct] hS rfl rfl (ev rfl rfl) rfl ?_))
 clear hS; intro g1 w2 hS
 refine wavc ?_
 refine wn2 (wavc ?_)
 refine wn1 (wSq (wsr (wl rfl (oFA (g:=g1) (off:=0) 2 rfl rfl (ev rfl rfl) Tryz.runUnderlying31 rfl Tryz.sizeOf22 rfl ?_))))
 refine wl rfl (oL1 ⟨Tryz.isAgg22,Tryz.sizeOf22⟩ hS 0 rfl rfl (ev rfl rfl) rfl rfl ?_)
 refine wl rfl (olen rfl rfl rfl Tryz.runUnderlying22 (p:=pt) (k:=nt) (m:=ct) (ev rfl rfl) ?_)
 refine wmvc ?_
 refine wn1 (wBk ?_)
 replace hS:=hS.nilLst 39 1
 refine wLp (σ := Nat) (fun i a9 w' => ∃ (fb:Nat → Value) (V:List Ir) (pX:Option Addr) (cX:Nat),a9 = act 40 (sets fb [(1,.pointer (some ⟨g1,0,none⟩)),(2,.slice none 0 0),(3,.slice pX i cX),(10,.slice pt nt ct),(11,.int .i64 (nt:Int)),(12,.int .i64 (i:Int))]) ∧ Sep w [.lst 39 1 pX i cX (itE V),.blk g1 [.bool bd,.slice pd nd' cd,.slice pt nt ct] 31] w' ∧ (i ≤ nt) ∧ (itv V = T.take i)) (fun i => nt - i) (0) ⟨_,[],none,0,aSs ⟨rfl,rfl,rfl,rfl,rfl,rfl,trivial⟩,hS,Nat.zero_le _,rfl⟩ ?_
 clear hS; rintro i _ w3 ⟨fb,V,pX,cX,rfl,hS,hi,hV⟩
 refine wsr ?_
 by_cases hli:i < nt
 ·
  obtain ⟨xr,hxr⟩:∃ r,(T)[i]? = some r:=⟨_,List.getElem?_eq_getElem (by have:=hT.1; omega)⟩
  obtain ⟨br,ofr,pr,cr,hpr,hcr,hsr⟩:=hT.2.2 i _ hxr
  have hrb:=hb xr (List.mem_of_getElem? hxr)
  refine wbt rfl rfl rfl rfl (bLs (decide_eq_true (by omega))) ?_
  refine wn1 (wSq ?_)
  refine wT (ev rfl rfl) ?_
  refine wk2 (wl rfl (oIx (p:=pt) (g:=br) (off:=ofr) (m:=nt) (k:=i) (j:=(ofr + i * 1)) rfl rfl Tryz.runUnderlying22 Tryz.sizeOf32 (ev rfl rfl) hpr (ev rfl rfl) (by omega) rfl ?_))
  refine wl rfl (oLc ⟨Tryz.isAgg32,Tryz.sizeOf32⟩ rfl rfl (ev rfl rfl) (hS.cellAt (hcr 0 _ rfl)) ?_)
  refine wav rfl rfl ?_
  refine wn2 (wmv rfl rfl ?_)
  refine wl rfl (olen rfl rfl rfl Tryz.runUnderlying32 (p:=pr) (k:=xr.length) (m:=cr) (ev rfl rfl) ?_)
  refine wl rfl (omakeL (zs:=[.bool false,.slice none 0 0,.bool false,.slice none 0 0]) (k:=xr.length) (m:=xr.length) hS rfl rfl Tryz.underlying39 infoRat rfl rfl (by decide) rfl (ev rfl rfl) (ev rfl rfl) (by omega) (by omega) (by omega) ?_)
  clear hS; intro g4 w5 hS
  refine wav rfl rfl ?_
  refine wn1 (wSq (wsr (wmv rfl rfl ?_)))
  refine wl rfl (olen rfl rfl rfl Tryz.runUnderlying32 (p:=pr) (k:=xr.length) (m:=cr) (ev rfl rfl) ?_)
  refine wmvc ?_
  refine wn1 (wBk ?_)
  rw [show List.replicate xr.length (⟨[.bool false,.slice none 0 0,.bool false,.slice none 0 0],[]⟩:El) = iqs [] ++ List.replicate (xr.length - 0) nilQ from rfl] at hS
  refine wLp (σ := Nat) (fun k a9 w' => ∃ (fb:Nat → Value) (L:List Iq),a9 = act 40 (sets fb [(1,.pointer (some ⟨g1,0,none⟩)),(2,.slice none 0 0),(3,.slice pX i cX),(6,.slice (some ⟨g4,0,none⟩) xr.length xr.length),(10,.slice pt nt ct),(11,.int .i64 (nt:Int)),(12,.int .i64 (i:Int)),(19,.slice pr xr.length cr),(20,.int .i64 (xr.length:Int)),(21,.int .i64 (k:Int))]) ∧ Sep w [.lst 43 4 (some ⟨g4,0,none⟩) xr.length xr.length (iqs L ++ List.replicate (xr.length - k) nilQ),.lst 39 1 pX i cX (itE V),.blk g1 [.bool bd,.slice pd nd' cd,.slice pt nt ct] 31] w' ∧ (k ≤ xr.length) ∧ (izs L = xr.take k)) (fun k => xr.length - k) (0) ⟨_,[],aSs ⟨rfl,rfl,rfl,rfl,rfl,rfl,rfl,rfl,rfl,rfl,trivial⟩,hS,Nat.zero_le _,rfl⟩ ?_
  clear hS; rintro k _ w6 ⟨fb,L,rfl,hS,hk,hL⟩
  refine wsr ?_
  by_cases hlk:k < xr.length
  ·
   obtain ⟨ze,ge,oe,be,pe,ne,ce,hle,hpe,hce,hze⟩:=hsr.el hlk
   refine wbt rfl rfl rfl rfl (bLs (decide_eq_true (by omega))) ?_
   refine wn1 (wSq ?_)
   refine wT (ev rfl rfl) ?_
   refine wk2 (wmv rfl rfl ?_)
   refine wl rfl (oIx (p:=pr) (g:=ge) (off:=oe) (m:=xr.length) (k:=k) (j:=(oe + k * 2)) rfl rfl Tryz.runUnderlying32 Tryz.sizeOf28 (ev rfl rfl) hpe (ev rfl rfl) hlk rfl ?_)
   refine wl rfl (oloadA aggZ rfl rfl (ev rfl rfl) (fun j v hj => hS.cellAt (hce j v hj)) rfl ?_)
   refine wl rfl (oAl [.bool false,.slice none 0 0] hS rfl rfl Tryz.zeroValue28 rfl ?_)
   clear hS; intro g7 w8 hS
   refine wav rfl rfl ?_
   refine wl rfl (oSt _ _ Tryz.sizeOf28 hS 0 rfl rfl (ev rfl rfl) (ev rfl rfl) rfl rfl rfl rfl rfl rfl ?_)
   clear hS; intro w9 hS
   refine wn1 (wreg (wmv rfl rfl ?_))
   refine wmv rfl rfl ?_
   refine wl rfl (oLd aggZ hS 0 rfl rfl (ev rfl rfl) rfl rfl rfl ?_)
   refine wl rfl (oFA (g:=g1) (off:=0) 0 rfl rfl (ev rfl rfl) Tryz.runUnderlying31 rfl Tryz.sizeOf28 rfl ?_)
   refine wl rfl (oLd aggZ hS 3 rfl rfl (ev rfl rfl) rfl rfl rfl ?_)
   obtain ⟨z1,hz1⟩:∃ z:Int,Hid (ze = z):=⟨_,rfl⟩
   have hk1:Wd z1 2097408:=by rw [← hz1.out]; exact hze.wd
   have hk2:Wd 1 2:=wd1
   refine wcl Tryz.call54 ((show Calls _ _ _ _ (Ret (Rrt z1 1) _) from by rw [← hz1.out]; exact wimake ((hze.at hS).mono (by omega)) ((hd.at hS).mono (by omega)))) (ar2 (ev rfl rfl) (ev rfl rfl)) hS ?_
   clear hS; rintro _ _ w10 ⟨p1,n1,c1,p2,n2,c2,rfl,rfl⟩ hS
   refine wl rfl (oIx (p:=(some ⟨g4,0,none⟩)) (g:=g4) (off:=0) (m:=xr.length) (k:=k) (j:=(0 + k * 4)) rfl rfl Tryz.runUnderlying39 Tryz.sizeOf43 (ev rfl rfl) (rfl) (ev rfl rfl) (by omega) rfl ?_)
   obtain hS:=(show Sep w [.rowm p1 n1 c1 (lim z1.natAbs),.rowm p2 n2 c2 (lim (1:Int).natAbs),.lst 43 4 (some ⟨g4,0,none⟩) xr.length xr.length (iqs L ++ List.replicate (xr.length - k) nilQ),.blk g7 [.bool be,.slice pe ne ce] 28,.lst 39 1 pX i cX (itE V),.blk g1 [.bool bd,.slice pd nd' cd,.slice pt nt ct] 31] w10 from hS.pick [0,1,3,2,4,5] (by decide) rfl)
   refine wl rfl (ostoreL (i:=k) (g:=g4) [.bool (ng z1),.slice p1 n1 c1,.bool (ng 1),.slice p2 n2 c2] [.rowm p1 n1 c1 (lim z1.natAbs),.rowm p2 n2 c2 (lim (1:Int).natAbs)] Tryz.sizeOf43 hS rfl rfl (ev rfl rfl) (ev rfl rfl) (rfl) rfl rfl rfl rfl (by omega) rfl ?_)
   clear hS; intro w11 hS
   refine wnil (blkN (tNo (wreg (wbc (z:=.int .i64 ((k + 1:Nat):Int)) rfl rfl (bAd (wI6 (by omega) (by omega))) ?_))))
   refine wmv rfl rfl ?_
   refine wn1 ?_
   have hLk:L.length = k:=by rw [← izs_len,hL,List.length_take]; omega
   have hfq:=fillQ (m:=xr.length - (k + 1)) (e:=⟨p1,n1,c1,p2,n2,c2,z1⟩) hLk
   rw [show xr.length - (k + 1) + 1 = xr.length - k by omega] at hfq
   rw [show (⟨[.bool (ng z1),.slice p1 n1 c1,.bool (ng 1),.slice p2 n2 c2],[.rowm p1 n1 c1 (lim z1.natAbs),.rowm p2 n2 c2 (lim (1:Int).natAbs)]⟩:El) = iqE ⟨p1,n1,c1,p2,n2,c2,z1⟩ from rfl,hfq] at hS
   have hz0:z1 = ze:=hz1.out.symm
   exact ⟨(k + 1),⟨_,_,aSs ⟨rfl,rfl,rfl,rfl,rfl,rfl,rfl,rfl,rfl,rfl,trivial⟩,hS.pick [0,2,3] (by decide) rfl,by omega,by rw [izs_snoc,hL,hz0,take_next hle]⟩,by omega⟩
  refine wbt rfl rfl rfl rfl (bLs (decide_eq_false (by omega))) ?_
  refine wn1 (wSq ?_)
  refine wF (ev rfl rfl) ?_
  refine wEx ?_
  refine tEx ?_
  refine tEx ?_
  refine blkE ?_
  refine tNo (wreg (wmv rfl rfl ?_))
  refine wmv rfl rfl ?_
  refine wl rfl (obslice (ps:=#[(0,.slice (some ⟨g4,0,none⟩) xr.length xr.length)]) (z:=.slice none 0 0) [.slice (some ⟨g4,0,none⟩) xr.length xr.length] hS rfl rfl Tryz.runUnderlying47 Tryz.sizeOf39 Tryz.zeroValue39 (parts1 (ev (v:=.slice (some ⟨g4,0,none⟩) xr.length xr.length) rfl rfl)) rfl (by decide) (fill1_1s rfl rfl) ?_)
  clear hS; intro g7 w8 hS
  have hkc:k = xr.length:=by omega
  have hLc:L.length = xr.length:=by rw [← izs_len,hL,List.length_take]; omega
  rw [show xr.length - k = 0 by omega,List.replicate_zero,List.append_nil] at hS
  obtain hS:=(show Sep w [.lst 43 4 (some ⟨g4,0,none⟩) xr.length xr.length (iqs L),.lst 39 1 pX i cX (itE V),.blk g7 [.slice (some ⟨g4,0,none⟩) xr.length xr.length] 39,.blk g1 [.bool bd,.slice pd nd' cd,.slice pt nt ct] 31] w8 from hS.pick [1,2,0,3] (by decide) rfl)
  refine wl rfl (oappendL (p:=pX) (m:=i) (c:=cX) (g2:=g7) (c2:=1) (off:=0) [.slice (some ⟨g4,0,none⟩) xr.length xr.length] [.lst 43 4 (some ⟨g4,0,none⟩) xr.length xr.length (iqs L)] hS rfl rfl Tryz.underlying47 infoRRow rfl (by decide) (ev rfl rfl) (ev rfl rfl) (fun j v hj => by rw [Nat.zero_add]; exact (blk_cell (hS.blkAt 2 rfl) j).trans hj) rfl rfl rfl (by omega) (by omega) ?_)
  clear hS; intro p10 c11 w9 hS
  refine wav rfl rfl ?_
  refine wnil (blkN (tNo (wreg (wbc (z:=.int .i64 ((i + 1:Nat):Int)) rfl rfl (bAd (wI6 (by omega) (by omega))) ?_))))
  refine wmv rfl rfl ?_
  refine wn1 ?_
  rw [it_snoc hLc] at hS
  exact ⟨(i + 1),⟨_,_,_,_,aSs ⟨rfl,rfl,rfl,rfl,rfl,rfl,trivial⟩,hS.pick [0,2] (by decide) rfl,by omega,by rw [itv_snoc,hV,hL,hkc,List.take_length,take_next hxr]⟩,by omega⟩
 refine wbt rfl rfl rfl rfl (bLs (decide_eq_false (by omega))) ?_
 refine wn1 (wSq ?_)
 refine wF (ev rfl rfl) ?_
 refine wEx ?_
 refine tEx ?_
 refine tEx ?_
 refine blkE ?_
 refine tNo (wsr (wmv rfl rfl ?_))
 refine wav rfl rfl ?_
 refine wn1 ?_
 refine wLv ?_
 refine wr1 Tryz.results16 (tlT (v:=.slice pX i cX) rfl rfl) ?_
 exact ⟨_,_,rfl,⟨pX,cX,V,by rw [hV,List.take_of_length_le (by omega)],by rw [show i = nt by omega],by rw [show i = nt by omega]⟩,hS.newR 0 rfl rfl⟩
theorem wtSize {bd:Bool} {pd pt:Option Addr} {nd' cd nt ct c:Nat} {T:List (List Int)} {w:World} (hT:TB w pt nt T 2097408) (h0:nt ≠ 0) (hb:∀ L ∈ T,L.length = c) :
  Calls Tryz.prog 60 #[.agg #[.bool bd,.slice pd nd' cd,.slice pt nt ct]] w (Ret (Is (.tuple #[.int .i64 ((nt:Nat):Int),.int .i64 ((c:Nat):Int)])) w):=by
 have hTl:=hT.1
 have hS:=Sep.init w
 refine went Tryz.func60 rfl (n:=16) rfl rfl ?_
 refine wsr (wl rfl (obox [.bool bd,.slice pd nd' cd,.slice pt nt ct] hS rfl rfl (ev rfl rfl) rfl ?_))
 clear hS; intro g1 w2 hS
 refine wavc ?_
 refine wavc ?_
 refine wn1 (wSq (wsr (wl rfl (oFA (g:=g1) (off:=0) 2 rfl rfl (ev rfl rfl) Tryz.runUnderlying31 rfl Tryz.sizeOf22 rfl ?_))))
 refine wl rfl (oL1 ⟨Tryz.isAgg22,Tryz.sizeOf22⟩ hS 0 rfl rfl (ev rfl rfl) rfl rfl ?_)
 refine wl rfl (olen rfl rfl rfl Tryz.runUnderlying22 (p:=pt) (k:=nt) (m:=ct) (ev rfl rfl) ?_)
 refine wbc rfl rfl (bEq (eqF (by omega))) ?_
 refine wn1 ?_
 refine wF (ev rfl rfl) ?_
 refine wSk (tNo (wSq ?_))
 obtain ⟨xr,hxr⟩:∃ r,(T)[0]? = some r:=⟨_,List.getElem?_eq_getElem (by have:=hT.1; omega)⟩
 obtain ⟨br,ofr,pr,cr,hpr,hcr,hsr⟩:=hT.2.2 0 _ hxr
 refine wSg 10 [8,9,10,11,12,13,14,15,2,3] [[],[0],[1,0],[],[3],[4,3],[5,3,4],[6,3,4,5],[2,0,1],[7,0,1,2,3,4,5,6,8]] [] [] [] (fun i9 => ([iSv (.pointer (some ⟨g1,2,none⟩)),iSv (.slice pt nt ct),iSv (.int .i64 (nt:Int)),iSv (.pointer (some ⟨g1,2,none⟩)),iSv (.slice pt nt ct),iSv (.pointer (some ⟨br,(ofr + 0 * 1),none⟩)),iSv (.slice pr xr.length cr),iSv (.int .i64 (xr.length:Int)),iSv (.int .i64 (nt:Int)),iSv (.int .i64 (xr.length:Int))]:List (List Value → Tell)).getD i9 (fun _ _ _ => False)) hNi (fun d _ _ _ _ h => (by cases d <;> exact h)) (by kernel_rfl) (by kernel_rfl) (by kernel_rfl) hS ?_ ?_
 ·
  refine stH rfl (fun ho _=>?_) ?_
  ·exact inNo rfl (oFA (g:=g1) (off:=0) 2 rfl rfl (ev rfl (ho 1 rfl)) Tryz.runUnderlying31 rfl Tryz.sizeOf22 rfl (nSm rfl isI))
  refine stT rfl (fun hT hS=>?_) ?_
  ·obtain ⟨hv0,hr0⟩:=hT 0 8 rfl rfl
   obtain hS:=hS.flat1 hr0
   exact inNo rfl (oL1 ⟨Tryz.isAgg22,Tryz.sizeOf22⟩ hS 0 rfl rfl (ev rfl hv0) rfl rfl (nSm rfl isI))
  refine stT rfl (fun hT hS=>?_) ?_
  ·obtain ⟨hv1,hr1⟩:=hT 1 9 rfl rfl
   obtain hS:=hS.flat1 hr1
   exact inNo rfl (olen rfl rfl rfl Tryz.runUnderlying22 (p:=pt) (k:=nt) (m:=ct) (ev rfl hv1) (nSm rfl isI))
  refine stH rfl (fun ho _=>?_) ?_
  ·exact inNo rfl (oFA (g:=g1) (off:=0) 2 rfl rfl (ev rfl (ho 1 rfl)) Tryz.runUnderlying31 rfl Tryz.sizeOf22 rfl (nSm rfl isI))
  refine stT rfl (fun hT hS=>?_) ?_
  ·obtain ⟨hv3,hr3⟩:=hT 3 11 rfl rfl
   obtain hS:=hS.flat1 hr3
   exact inNo rfl (oL1 ⟨Tryz.isAgg22,Tryz.sizeOf22⟩ hS 0 rfl rfl (ev rfl hv3) rfl rfl (nSm rfl isI))
  refine stT rfl (fun hT hS=>?_) ?_
  ·obtain ⟨hv4,hr4⟩:=hT 4 12 rfl rfl
   obtain hS:=hS.flat1 hr4
   exact inNo rfl (oIx (p:=pt) (g:=br) (off:=ofr) (m:=nt) (k:=0) (j:=(ofr + 0 * 1)) rfl rfl Tryz.runUnderlying22 Tryz.sizeOf32 (ev rfl hv4) hpr evc (by omega) rfl (nSm rfl isI))
  refine stT rfl (fun hT hS=>?_) ?_
  ·obtain ⟨hv5,hr5⟩:=hT 5 13 rfl rfl
   obtain hS:=hS.flat1 hr5
   exact inNo rfl (oLc ⟨Tryz.isAgg32,Tryz.sizeOf32⟩ rfl rfl (ev rfl hv5) (hS.cellAt (hcr 0 _ rfl)) (nSm rfl isI))
  refine stT rfl (fun hT hS=>?_) ?_
  ·obtain ⟨hv6,hr6⟩:=hT 6 14 rfl rfl
   obtain hS:=hS.flat1 hr6
   exact inNo rfl (olen rfl rfl rfl Tryz.runUnderlying32 (p:=pr) (k:=xr.length) (m:=cr) (ev rfl hv6) (nSm rfl isI))
  refine stT rfl (fun hT hS=>?_) ?_
  ·obtain ⟨hv2,hr2⟩:=hT 2 10 rfl rfl
   obtain hS:=hS.flat1 hr2
   exact inNo rfl (oassign rfl rfl (ev rfl hv2) (nSm rfl isI))
  refine stT rfl (fun hT hS=>?_) ?_
  ·obtain ⟨hv7,hr7⟩:=hT 7 15 rfl rfl
   obtain hS:=hS.flat1 hr7
   exact inNo rfl (oassign rfl rfl (ev rfl hv7) (nSm rfl isI))
  exact sNi
 intro vs ρ w3 f' hf hT hS
 obtain ⟨hv0,hr0⟩:=hT 0 (by decide)
 obtain ⟨hv1,hr1⟩:=hT 1 (by decide)
 obtain ⟨hv2,hr2⟩:=hT 2 (by decide)
 obtain ⟨hv3,hr3⟩:=hT 3 (by decide)
 obtain ⟨hv4,hr4⟩:=hT 4 (by decide)
 obtain ⟨hv5,hr5⟩:=hT 5 (by decide)
 obtain ⟨hv6,hr6⟩:=hT 6 (by decide)
 obtain ⟨hv7,hr7⟩:=hT 7 (by decide)
 obtain ⟨hv8,hr8⟩:=hT 8 (by decide)
 obtain ⟨hv9,hr9⟩:=hT 9 (by decide)
 simp only [pool,if_true,hr0,hr1,hr2,hr3,hr4,hr5,hr6,hr7,hr8,hr9,List.nil_append,List.cons_append,List.append_nil] at hS
 simp only [layf,hv0,hv1,hv2,hv3,hv4,hv5,hv6,hv7,hv8,hv9] at hf
 subst hf; clear hT hv0 hv1 hv2 hv3 hv4 hv5 hv6 hv7 hv8 hv9 hr0 hr1 hr2 hr3 hr4 hr5 hr6 hr7 hr8 hr9
 refine wdone rfl ?_
 refine tNo ?_
 refine wLv ?_
 refine wret2 Tryz.results60 (tlT (v:=.int .i64 (nt:Int)) rfl rfl) (tlT (v:=.int .i64 (xr.length:Int)) rfl rfl) ?_
 have hrc:=hb xr (List.mem_of_getElem? hxr)
 exact ⟨_,_,rfl,⟨by rw [hrc],rfl⟩,hS.new0⟩
open Go.RowKit
theorem wtFrom {px:Option Addr} {n cx:Nat} {T:List (List Int)} {w:World} (hX:RTb w px n T 2097408) (h0:n ≠ 0) (hn:n ≤ 1000) (hb:∀ L ∈ T,0 < L.length ∧ L.length ≤ 1000) (hW:TW T 2097408) :
  Calls Tryz.prog 105 #[.slice px n cx] w (Ret (MTt n T 2097408) w):=by
 have hTl:=hX.1
 have hoff:∀ i,i ≤ n → offT T i ≤ 1000000:=fun i hi => by
  have h1:=offT_le (fun L hL => (hb L hL).2) i
  have h2:i * 1000 ≤ n * 1000:=Nat.mul_le_mul_right _ hi
  omega
 have hfl:offT T n = T.flatten.length:=offT_all hTl
 have hfp:0 < offT T n:=by
  obtain ⟨L,hL⟩:∃ L,T[0]? = some L:=⟨_,List.getElem?_eq_getElem (by omega)⟩
  have h1:=offT_S hL
  have h2:=(hb L (List.mem_of_getElem? hL)).1
  have h3:=offT_mono (T:=T) (show 0 + 1 ≤ n by omega)
  omega
 have hS:=Sep.init w
 refine went Tryz.func105 rfl (n:=57) rfl rfl ?_
 refine wsr (wl rfl (oAl [.bool false,.slice none 0 0,.slice none 0 0] hS rfl rfl Tryz.zeroValue31 rfl ?_))
 clear hS; intro g1 w2 hS
 refine wn2 (wavc ?_)
 refine wn1 (wSq (wsr (wmv rfl rfl ?_)))
 refine wl rfl (olen rfl rfl rfl Tryz.runUnderlying47 (p:=px) (k:=n) (m:=cx) (ev rfl rfl) ?_)
 refine wmvc ?_
 refine wn1 (wBk ?_)
 replace hS:=hS.nilLst 43 4
 refine wLp (σ := Nat) (fun i a9 w' => ∃ (fb:Nat → Value) (es:List El) (pA:Option Addr) (mA:Nat) (cA:Nat),a9 = act 57 (sets fb [(0,.slice px n cx),(2,.pointer (some ⟨g1,0,none⟩)),(3,.slice pA mA cA),(12,.slice px n cx),(13,.int .i64 (n:Int)),(14,.int .i64 (i:Int))]) ∧ Sep w [.lst 43 4 pA mA cA es,.blk g1 [.bool false,.slice none 0 0,.slice none 0 0] 31] w' ∧ (i ≤ n) ∧ (AllQ w es ((T.take i).flatten) 2097408) ∧ (mA = offT T i)) (fun i => n - i) (0) ⟨_,[],none,0,0,aSs ⟨rfl,rfl,rfl,rfl,rfl,rfl,trivial⟩,hS,Nat.zero_le _,AllQ.nil _ _,rfl⟩ ?_
 clear hS; rintro i _ w3 ⟨fb,es,pA,mA,cA,rfl,hS,hi,hA,hm⟩
 refine wsr ?_
 by_cases hli:i < n
 ·
  obtain ⟨xr,hxr⟩:∃ r,(T)[i]? = some r:=⟨_,List.getElem?_eq_getElem (by have:=hX.1; omega)⟩
  obtain ⟨br,ofr,pr,cr,hpr,hcr,hsr⟩:=hX.2.2 i _ hxr
  have hrb:=hb xr (List.mem_of_getElem? hxr)
  obtain ⟨_,gq,oq,_,_,_,_,_,_,_,_,_,hpq,_⟩:=hsr.el (show 0 < xr.length by omega)
  subst hpq
  obtain ⟨es2,hq2,hc2⟩:=rs_els hsr
  have hoi:=hoff i (by omega)
  refine wbt rfl rfl rfl rfl (bLs (decide_eq_true (by omega))) ?_
  refine wn1 (wSq ?_)
  refine wT (ev rfl rfl) ?_
  refine wk2 (wl rfl (oIx (p:=px) (g:=br) (off:=ofr) (m:=n) (k:=i) (j:=(ofr + i * 1)) rfl rfl Tryz.runUnderlying47 Tryz.sizeOf39 (ev rfl rfl) hpr (ev rfl rfl) (by omega) rfl ?_))
  refine wl rfl (oLc ⟨Tryz.isAgg39,Tryz.sizeOf39⟩ rfl rfl (ev rfl rfl) (hS.cellAt (hcr 0 _ rfl)) ?_)
  refine wav rfl rfl ?_
  refine wn1 (wreg (wmv rfl rfl ?_))
  refine wmv rfl rfl ?_
  refine wl rfl (oappendC (p:=pA) (m:=mA) (c:=cA) (a:=⟨gq,oq,none⟩) (k:=xr.length) (c2:=cr) es2 hS rfl rfl Tryz.underlying39 infoRat rfl (by decide) (ev rfl rfl) (ev rfl rfl) (hq2.2.1) (hq2.2.2.1) (hq2.1) (fun j u hu => by rw [Addr.add_mid]; exact hS.cellAt (by rw [← Addr.add_mid]; exact hc2 j u hu)) (hrb.1) (by omega) (by omega) ?_)
  clear hS; intro p5 c6 w4 hS
  refine wav rfl rfl ?_
  refine wnil (blkN (tNo (wreg (wbc (z:=.int .i64 ((i + 1:Nat):Int)) rfl rfl (bAd (wI6 (by omega) (by omega))) ?_))))
  refine wmv rfl rfl ?_
  refine wn1 ?_
  exact ⟨(i + 1),⟨_,_,_,_,_,aSs ⟨rfl,rfl,rfl,rfl,rfl,rfl,trivial⟩,hS.pick [0,1] (by decide) rfl,by omega,by rw [flat_S hxr]; exact hA.app hq2,by rw [offT_S hxr,hm]⟩,by omega⟩
 refine wbt rfl rfl rfl rfl (bLs (decide_eq_false (by omega))) ?_
 refine wn1 (wSq ?_)
 refine wF (ev rfl rfl) ?_
 refine wEx ?_
 refine tEx ?_
 refine tEx ?_
 refine blkE ?_
 refine tNo (wsr (wmv rfl rfl ?_))
 have hin:i = n:=by omega
 rw [hin,List.take_of_length_le (by omega)] at hA
 rw [hin] at hm
 have hmA:=hoff n (Nat.le_refl _)
 refine wcl Tryz.call131 ((wicommon ((AllQ.rs hS 0 rfl hA (by omega)).mono (by decide)))) (ar1 (ev rfl rfl)) hS ?_
 clear hS; rintro _ _ w4 ⟨pDd,nDd,cDd,qN,dN,esN,hNEN,rfl,rfl⟩ hS
 refine wmv rfl rfl ?_
 refine wl rfl (oEx rfl rfl (ev rfl rfl) rfl ?_)
 refine wl rfl (oEx rfl rfl (ev rfl rfl) rfl ?_)
 refine wl rfl (oAl [.bool false,.slice none 0 0] hS rfl rfl Tryz.zeroValue28 rfl ?_)
 clear hS; intro g5 w6 hS
 refine wl rfl (oSt _ _ Tryz.sizeOf28 hS 0 rfl rfl (ev rfl rfl) (ev rfl rfl) rfl rfl rfl rfl rfl rfl ?_)
 clear hS; intro w7 hS
 refine wav rfl rfl ?_
 refine wn2 (wl rfl (oLd aggZ hS 0 rfl rfl (ev rfl rfl) rfl rfl rfl ?_))
 refine wl rfl (obuild (ps:=#[(0,.agg #[.bool (ng 1),.slice pDd nDd cDd])]) (v:=.agg #[.bool (ng 1),.slice pDd nDd cDd,.slice none 0 0]) rfl rfl (parts1 (ev rfl rfl)) (fun w => by simp [go_sem,Instr.build,Instr.fill]) ?_)
 refine wl rfl (oAl [.bool false,.slice none 0 0,.slice none 0 0] hS rfl rfl Tryz.zeroValue31 rfl ?_)
 clear hS; intro g8 w9 hS
 refine wl rfl (oSt _ _ Tryz.sizeOf31 hS 0 rfl rfl (ev rfl rfl) (ev rfl rfl) rfl rfl rfl rfl rfl rfl ?_)
 clear hS; intro w10 hS
 refine wn2 (wavc ?_)
 refine wn1 (wSq (wsr (wmv rfl rfl ?_)))
 refine wl rfl (olen rfl rfl rfl Tryz.runUnderlying47 (p:=px) (k:=n) (m:=cx) (ev rfl rfl) ?_)
 refine wmvc ?_
 refine wn1 (wBk ?_)
 obtain ⟨gN,hgN⟩:=hS.lstPtr 3 rfl (by omega)
 have hcN:=hS.lstCap 3 rfl
 replace hS:=hS.nilLst 32 1
 refine wLp (σ := Nat) (fun j a9 w' => ∃ (fb:Nat → Value) (pS:Option Addr) (cS:Nat),a9 = act 57 (sets fb [(2,.pointer (some ⟨g1,0,none⟩)),(7,.slice qN mA dN),(8,.pointer (some ⟨g8,0,none⟩)),(9,.int .i64 ((((offT T j):Nat):Int))),(29,.slice px n cx),(30,.int .i64 (n:Int)),(31,.int .i64 (j:Int))]) ∧ Sep w [.lst 32 1 pS j cS (slsE gN T j),.blk g8 [.bool (ng 1),.slice pDd nDd cDd,.slice pS j cS] 31,.blk g5 [.bool (ng 1),.slice pDd nDd cDd] 28,.row pDd nDd cDd (lim (1:Int).natAbs),.lst 28 2 qN mA dN esN,.lst 43 4 pA mA cA es,.blk g1 [.bool false,.slice none 0 0,.slice none 0 0] 31] w' ∧ (j ≤ n)) (fun j => n - j) (0) ⟨_,none,0,aSs ⟨rfl,rfl,rfl,rfl,rfl,rfl,rfl,trivial⟩,hS,Nat.zero_le _⟩ ?_
 clear hS; rintro j _ w11 ⟨fb,pS,cS,rfl,hS,hj⟩
 refine wsr ?_
 by_cases hlj:j < n
 ·
  obtain ⟨xu,hxu⟩:∃ r,(T)[j]? = some r:=⟨_,List.getElem?_eq_getElem (by have:=hX.1; omega)⟩
  obtain ⟨bu,ofu,pu,cu,hpu,hcu,hsu⟩:=hX.2.2 j _ hxu
  have hub:=hb xu (List.mem_of_getElem? hxu)
  have hoj:=hoff (j + 1) (by omega)
  have hou:=offT_S hxu
  have hom:=offT_mono (T:=T) (show j + 1 ≤ n by omega)
  refine wbt rfl rfl rfl rfl (bLs (decide_eq_true (by omega))) ?_
  refine wn1 (wSq ?_)
  refine wT (ev rfl rfl) ?_
  refine wk2 (wl rfl (oIx (p:=px) (g:=bu) (off:=ofu) (m:=n) (k:=j) (j:=(ofu + j * 1)) rfl rfl Tryz.runUnderlying47 Tryz.sizeOf39 (ev rfl rfl) hpu (ev rfl rfl) (by omega) rfl ?_))
  refine wl rfl (oLc ⟨Tryz.isAgg39,Tryz.sizeOf39⟩ rfl rfl (ev rfl rfl) (hS.cellAt (hcu 0 _ rfl)) ?_)
  refine wav rfl rfl ?_
  refine wn1 (wSq ?_)
  refine wSg 14 [35,36,37,38,39,40,41,42,43,44,45,46,47,48] [[],[0],[],[],[],[],[5],[4,6,5],[],[],[9],[8,10,9],[2,3,7,11,4,5,6,8,9,10],[12,2,3,4,5,6,7,8,9,10,11]] [] [] [] (fun i9 => ([iSv (.pointer (some ⟨g8,2,none⟩)),iSv (.slice pS j cS),iSv (.slice qN mA dN),iSv (.int .i64 ((((offT T j):Nat):Int))),iSv (.int .i64 ((((offT T j):Nat):Int))),iSv (.slice pu xu.length cu),iSv (.int .i64 (xu.length:Int)),iSv (.int .i64 (((offT T (j + 1):Nat):Int))),iSv (.int .i64 ((((offT T j):Nat):Int))),iSv (.slice pu xu.length cu),iSv (.int .i64 (xu.length:Int)),iSv (.int .i64 (((offT T (j + 1):Nat):Int))),iSv (.slice (some ⟨gN,0 + ((offT T j)) * 2,none⟩) ((offT T (j + 1) - (offT T j))) ((offT T (j + 1) - (offT T j)))),fun _ => Slb [.slice (some ⟨gN,0 + ((offT T j)) * 2,none⟩) ((offT T (j + 1) - (offT T j))) ((offT T (j + 1) - (offT T j)))] 32 1]:List (List Value → Tell)).getD i9 (fun _ _ _ => False)) hNi (fun d _ _ _ _ h => (by cases d <;> exact h)) (by kernel_rfl) (by kernel_rfl) (by kernel_rfl) hS ?_ ?_
  ·
   refine stH rfl (fun ho _=>?_) ?_
   ·exact inNo rfl (oFA (g:=g8) (off:=0) 2 rfl rfl (ev rfl (ho 8 rfl)) Tryz.runUnderlying31 rfl Tryz.sizeOf22 rfl (nSm rfl isI))
   refine stT rfl (fun hT hS=>?_) ?_
   ·obtain ⟨hv0,hr0⟩:=hT 0 35 rfl rfl
    obtain hS:=hS.flat1 hr0
    exact inNo rfl (oL1 ⟨Tryz.isAgg22,Tryz.sizeOf22⟩ hS 1 rfl rfl (ev rfl hv0) rfl rfl (nSm rfl isI))
   refine stM rfl rfl rfl rfl rfl (fun _=>isI) ?_
   refine stM rfl rfl rfl rfl rfl (fun _=>isI) ?_
   refine stM rfl rfl rfl rfl rfl (fun _=>isI) ?_
   refine stM rfl rfl rfl rfl rfl (fun _=>isI) ?_
   refine stT rfl (fun hT hS=>?_) ?_
   ·obtain ⟨hv5,hr5⟩:=hT 5 40 rfl rfl
    obtain hS:=hS.flat1 hr5
    exact inNo rfl (olen rfl rfl rfl Tryz.runUnderlying39 (p:=pu) (k:=xu.length) (m:=cu) (ev rfl hv5) (nSm rfl isI))
   refine stT rfl (fun hT hS=>?_) ?_
   ·obtain ⟨hv4,hr4⟩:=hT 4 39 rfl rfl
    obtain ⟨hv6,hr6⟩:=hT 6 41 rfl rfl
    obtain hS:=hS.flat2 hr4 hr6
    exact inNo rfl (obin (z:=.int .i64 (((offT T (j + 1):Nat):Int))) rfl rfl (ev rfl hv4) (ev rfl hv6) (bAd (by rw [offT_S hxu]; exact wI6 (by omega) (by omega))) (nSm rfl isI))
   refine stM rfl rfl rfl rfl rfl (fun _=>isI) ?_
   refine stM rfl rfl rfl rfl rfl (fun _=>isI) ?_
   refine stT rfl (fun hT hS=>?_) ?_
   ·obtain ⟨hv9,hr9⟩:=hT 9 44 rfl rfl
    obtain hS:=hS.flat1 hr9
    exact inNo rfl (olen rfl rfl rfl Tryz.runUnderlying39 (p:=pu) (k:=xu.length) (m:=cu) (ev rfl hv9) (nSm rfl isI))
   refine stT rfl (fun hT hS=>?_) ?_
   ·obtain ⟨hv8,hr8⟩:=hT 8 43 rfl rfl
    obtain ⟨hv10,hr10⟩:=hT 10 45 rfl rfl
    obtain hS:=hS.flat2 hr8 hr10
    exact inNo rfl (obin (z:=.int .i64 (((offT T (j + 1):Nat):Int))) rfl rfl (ev rfl hv8) (ev rfl hv10) (bAd (by rw [offT_S hxu]; exact wI6 (by omega) (by omega))) (nSm rfl isI))
   refine stT rfl (fun hT hS=>?_) ?_
   ·obtain ⟨hv2,hr2⟩:=hT 2 37 rfl rfl
    obtain ⟨hv3,hr3⟩:=hT 3 38 rfl rfl
    obtain ⟨hv7,hr7⟩:=hT 7 42 rfl rfl
    obtain ⟨hv11,hr11⟩:=hT 11 46 rfl rfl
    obtain hS:=hS.flat4 hr2 hr3 hr7 hr11
    exact inNo rfl (osliceB (g:=gN) (m:=mA) (c:=dN) (l:=((offT T j))) (h:=(offT T (j + 1))) rfl rfl Tryz.underlying32 Tryz.sizeOf28 (ev rfl hv2) hgN (ev rfl hv3) (ev rfl hv7) (ev rfl hv11) (by omega) (by omega) (nSm rfl isI))
   refine stT rfl (fun hT hS=>?_) ?_
   ·obtain ⟨hv12,hr12⟩:=hT 12 47 rfl rfl
    obtain hS:=hS.flat1 hr12
    exact .inl ⟨wNo rfl,obsliceN (ps:=#[(0,.slice (some ⟨gN,0 + ((offT T j)) * 2,none⟩) ((offT T (j + 1) - (offT T j))) ((offT T (j + 1) - (offT T j))))]) (z:=.slice none 0 0) [.slice (some ⟨gN,0 + ((offT T j)) * 2,none⟩) ((offT T (j + 1) - (offT T j))) ((offT T (j + 1) - (offT T j)))] rfl rfl Tryz.runUnderlying22 Tryz.sizeOf32 Tryz.zeroValue32 (parts1 (ev (v:=.slice (some ⟨gN,0 + ((offT T j)) * 2,none⟩) ((offT T (j + 1) - (offT T j))) ((offT T (j + 1) - (offT T j)))) rfl hv12)) rfl (by decide) (fill1_1s rfl rfl) ⟨_,_,rfl,⟨_,rfl,rfl⟩,New.blk _ _ _⟩⟩
   exact sNi
  intro vs ρ w13 f' hf hT hS
  obtain ⟨hv0,hr0⟩:=hT 0 (by decide)
  obtain ⟨hv1,hr1⟩:=hT 1 (by decide)
  obtain ⟨hv2,hr2⟩:=hT 2 (by decide)
  obtain ⟨hv3,hr3⟩:=hT 3 (by decide)
  obtain ⟨hv4,hr4⟩:=hT 4 (by decide)
  obtain ⟨hv5,hr5⟩:=hT 5 (by decide)
  obtain ⟨hv6,hr6⟩:=hT 6 (by decide)
  obtain ⟨hv7,hr7⟩:=hT 7 (by decide)
  obtain ⟨hv8,hr8⟩:=hT 8 (by decide)
  obtain ⟨hv9,hr9⟩:=hT 9 (by decide)
  obtain ⟨hv10,hr10⟩:=hT 10 (by decide)
  obtain ⟨hv11,hr11⟩:=hT 11 (by decide)
  obtain ⟨hv12,hr12⟩:=hT 12 (by decide)
  obtain ⟨g12,hv13,hr13⟩:=(hT 13 (by decide):(Slb [.slice (some ⟨gN,0 + ((offT T j)) * 2,none⟩) ((offT T (j + 1) - (offT T j))) ((offT T (j + 1) - (offT T j)))] 32 1) _ _)
  simp only [pool,if_true,hr0,hr1,hr2,hr3,hr4,hr5,hr6,hr7,hr8,hr9,hr10,hr11,hr12,hr13,List.nil_append,List.cons_append,List.append_nil] at hS
  simp only [layf,hv0,hv1,hv2,hv3,hv4,hv5,hv6,hv7,hv8,hv9,hv10,hv11,hv12,hv13] at hf
  subst hf; clear hT hv0 hv1 hv2 hv3 hv4 hv5 hv6 hv7 hv8 hv9 hv10 hv11 hv12 hv13 hr0 hr1 hr2 hr3 hr4 hr5 hr6 hr7 hr8 hr9 hr10 hr11 hr12 hr13
  obtain hS:=(show Sep w [.lst 32 1 pS j cS (slsE gN T j),.blk g12 [.slice (some ⟨gN,0 + ((offT T j)) * 2,none⟩) ((offT T (j + 1) - (offT T j))) ((offT T (j + 1) - (offT T j)))] 32,.blk g8 [.bool (ng 1),.slice pDd nDd cDd,.slice pS j cS] 31,.blk g5 [.bool (ng 1),.slice pDd nDd cDd] 28,.row pDd nDd cDd (lim (1:Int).natAbs),.lst 28 2 qN mA dN esN,.lst 43 4 pA mA cA es,.blk g1 [.bool false,.slice none 0 0,.slice none 0 0] 31] w13 from hS.pick [1,0,2,3,4,5,6,7] (by decide) rfl)
  refine wLt 14 rfl (by kernel_rfl) (oappendL (p:=pS) (m:=j) (c:=cS) (g2:=g12) (c2:=1) (off:=0) [.slice (some ⟨gN,0 + ((offT T j)) * 2,none⟩) ((offT T (j + 1) - (offT T j))) ((offT T (j + 1) - (offT T j)))] [] hS rfl rfl Tryz.underlying22 infoIRow rfl (by decide) (ev rfl rfl) (ev rfl rfl) (fun j v hj => by rw [Nat.zero_add]; exact (blk_cell (hS.blkAt 1 rfl) j).trans hj) rfl rfl rfl (by omega) (by omega) ?_)
  clear hS; intro p15 c16 w14 hS
  refine ⟨hNi,?_⟩
  refine wLt 15 rfl (by kernel_rfl) (oFA (g:=g8) (off:=0) 2 rfl rfl (ev rfl rfl) Tryz.runUnderlying31 rfl Tryz.sizeOf22 rfl ?_)
  refine ⟨hNi,?_⟩
  refine wLt 16 rfl (by kernel_rfl) (oSt _ _ Tryz.sizeOf22 hS 2 rfl rfl (ev rfl rfl) (ev rfl rfl) rfl rfl rfl rfl rfl rfl ?_)
  clear hS; intro w17 hS
  refine ⟨hNi,?_⟩
  refine wdone rfl ?_
  refine tNo (wreg (wmv rfl rfl ?_))
  refine wmv rfl rfl ?_
  refine wl rfl (olen rfl rfl rfl Tryz.runUnderlying39 (p:=pu) (k:=xu.length) (m:=cu) (ev rfl rfl) ?_)
  have hgd:T.getD j [] = xu:=by simp [List.getD,hxu]
  have hsl9:(⟨[.slice (some ⟨gN,0 + offT T j * 2,none⟩) (offT T (j + 1) - offT T j) (offT T (j + 1) - offT T j)],[]⟩:El) = slE gN T j:=by unfold slE; rw [hgd,offT_S hxu,Nat.add_sub_cancel_left]
  rw [hsl9, ← slsE_S] at hS
  refine wbt (z:=.int .i64 (((offT T (j + 1):Nat):Int))) rfl rfl rfl rfl (bAd (by rw [offT_S hxu]; exact wI6 (by omega) (by omega))) ?_
  refine wav rfl rfl ?_
  refine wnil (blkN (tNo (wreg (wbc (z:=.int .i64 ((j + 1:Nat):Int)) rfl rfl (bAd (wI6 (by omega) (by omega))) ?_))))
  refine wmv rfl rfl ?_
  refine wn1 ?_
  exact ⟨(j + 1),⟨_,_,_,aSs ⟨rfl,rfl,rfl,rfl,rfl,rfl,rfl,trivial⟩,hS.pick [0,2,3,4,5,6,7] (by decide) rfl,by omega⟩,by omega⟩
 refine wbt rfl rfl rfl rfl (bLs (decide_eq_false (by omega))) ?_
 refine wn1 (wSq ?_)
 refine wF (ev rfl rfl) ?_
 refine wEx ?_
 refine tEx ?_
 refine tEx ?_
 refine blkE ?_
 refine tNo (wsr (wl rfl (oLd ⟨Tryz.isAgg31,Tryz.sizeOf31⟩ hS 1 rfl rfl (ev rfl rfl) rfl rfl rfl ?_)))
 refine wl rfl (oSt _ _ Tryz.sizeOf31 hS 6 rfl rfl (ev rfl rfl) (ev rfl rfl) rfl rfl rfl rfl rfl rfl ?_)
 clear hS; intro w12 hS
 refine wn1 ?_
 refine wLv ?_
 refine wr1 Tryz.results105 (tellC (cs:=[.bool (ng 1),.slice pDd nDd cDd,.slice pS j cS]) ⟨Tryz.isAgg31,Tryz.sizeOf31⟩ hS 6 rfl rfl rfl rfl) ?_
 have hji:j = n:=by omega
 obtain hS:=(show Sep w [.row pDd nDd cDd (lim (1:Int).natAbs),.lst 28 2 qN mA dN esN,.lst 32 1 pS j cS (slsE gN T j)] w12 from hS.pick [3,4,0] (by decide) rfl)
 rw [hji,hgN] at hS
 have hP:Sep w [.pack [.lst 28 2 (some ⟨gN,0,none⟩) mA dN esN,.lst 32 1 pS n cS (slsE gN T n)],.row pDd nDd cDd (lim (1:Int).natAbs)] w12:=Sep.pack [.lst 28 2 (some ⟨gN,0,none⟩) mA dN esN,.lst 32 1 pS n cS (slsE gN T n)] rfl (hS.pick [1,2,0] (by decide) rfl)
 exact ⟨_,_,by rw [hji],⟨_,_,_,_,_,_,rfl,rfl,fun w' hh => tb_of (hh.1 _ List.mem_cons_self) hNEN (by rw [hm,hfl]) (hh.1 _ (List.mem_cons_of_mem _ List.mem_cons_self)) hTl (by omega) hW fun L hL => by have:=(hb L hL).2; omega⟩,(hP.pick [1,0] (by decide) rfl).newH rfl⟩
open Go.RowKit
def oneT (n:Nat):List (List Int):=(List.range n).map fun i => (List.range n).map fun k => dl i k
def oneTo (n:Nat):Nat → List (List Int)
  | 0 => zeroT n n
  | i + 1 => (oneTo n i).set i (((oneTo n i).getD i []).set i 1)
theorem oneTo_len (n:Nat):∀ i,(oneTo n i).length = n
  | 0 => List.length_replicate ..
  | i + 1 => by rw [oneTo,List.length_set]; exact oneTo_len n i
theorem getT_set_self {T:List (List Int)} {i:Nat} (h:i < T.length) (r:List Int):(T.set i r).getD i [] = r:=by simp [List.getD,h]
theorem getT_set_ne {T:List (List Int)} {i j:Nat} (h:i ≠ j) (r:List Int):(T.set i r).getD j [] = T.getD j []:=by simp [List.getD,List.getElem?_set_ne h]
theorem getT_get {T:List (List Int)} {i:Nat} {r:List Int} (h:T[i]? = some r):T.getD i [] = r:=by simp [List.getD,h]
theorem get_getT {T:List (List Int)} {i:Nat} (h:i < T.length):T[i]? = some (T.getD i []):=by simp [List.getD,h]
theorem oneTo_row {n l:Nat} (hl:l < n):∀ i,(oneTo n i).getD l [] = if l < i then (List.replicate n 0).set l 1 else List.replicate n 0
 | 0 => by rw [if_neg (by omega)]; simp [oneTo,zeroT,List.getD,hl]
 | i + 1 => by
  rw [oneTo]
  by_cases e:i = l
  ·subst e; rw [getT_set_self (by rw [oneTo_len]; exact hl),if_pos (by omega),oneTo_row hl i,if_neg (by omega)]
  rw [getT_set_ne e,oneTo_row hl i]
  by_cases e2:l < i
  ·rw [if_pos e2,if_pos (by omega)]
  rw [if_neg e2,if_neg (by omega)]
theorem oneTo_all (n:Nat):oneTo n n = oneT n:=by
 apply List.ext_getElem?
 intro l
 by_cases hl:l < n
 ·rw [get_getT (by rw [oneTo_len]; exact hl),oneTo_row hl,if_pos hl]
  unfold oneT
  rw [List.getElem?_map,List.getElem?_range hl]
  show some _ = some _
  congr 1
  apply List.ext_getElem?
  intro k
  by_cases hk:k < n
  ·rw [List.getElem?_set,List.getElem?_map,List.getElem?_range hk]
   unfold dl
   by_cases e:l = k
   ·subst e; simp [hk]
   simp [e,hk]
  rw [List.getElem?_eq_none (by simp; omega),List.getElem?_eq_none (by simp; omega)]
 rw [List.getElem?_eq_none (by rw [oneTo_len]; omega),List.getElem?_eq_none (by simp [oneT]; omega)]
theorem itv_row {T:List Ir} {TT:List (List Int)} {i:Nat} {p:Option Addr} {c:Nat} {L:List Iq} (h:itv T = TT) (hi:T[i]? = some ⟨p,c,L⟩):TT.getD i [] = izs L:=by rw [← h]; exact getT_get (itv_get hi)
theorem itv_lenQ {T:List Ir} {TT:List (List Int)} (h:itv T = TT):T.length = TT.length:=by rw [← h,itv_len]
theorem wd_smallV {z:Int} (h1 : -9223372036854775808 ≤ z) (h2:z ≤ 9223372036854775807):Wd z 2097408:=(Wd.i64 h1 h2).mono (by decide)
theorem oneT_wd (n:Nat):TW (oneT n) 2097408:=fun L hL z hz => by
  obtain ⟨i,_,rfl⟩:=List.mem_map.1 hL
  obtain ⟨k,_,rfl⟩:=List.mem_map.1 hz
  unfold dl; split <;> exact wd_smallV (by omega) (by omega)
theorem oneT_row (n:Nat):∀ L ∈ oneT n,L.length = n:=fun L hL => by
  obtain ⟨i,_,rfl⟩:=List.mem_map.1 hL; simp
theorem wtIdentity {n:Nat} {w:World} (h0:n ≠ 0) (hn:n ≤ 1000) :
  Calls Tryz.prog 86 #[.int .i64 ((n:Nat):Int)] w (Ret (MTt n (oneT n) 2097408) w):=by
 have hS:=Sep.init w
 refine went Tryz.func86 rfl (n:=23) rfl rfl ?_
 refine wsr (wl rfl (oAl [.bool false,.slice none 0 0,.slice none 0 0] hS rfl rfl Tryz.zeroValue31 rfl ?_))
 clear hS; intro g1 w2 hS
 refine wn2 (wmv rfl rfl ?_)
 refine wmv rfl rfl ?_
 refine wcl Tryz.call114 (wtfill (by omega) (by omega)) (ar2 (ev rfl rfl) (ev rfl rfl)) hS ?_
 clear hS; rintro _ _ w3 ⟨pF,cF,TF,hTF,rfl,rfl⟩ hS
 refine wav rfl rfl ?_
 refine wn1 (wSq (wsr (wmv rfl rfl ?_)))
 refine wl rfl (olen rfl rfl rfl Tryz.runUnderlying47 (p:=pF) (k:=n) (m:=cF) (ev rfl rfl) ?_)
 refine wmvc ?_
 refine wn1 (wBk ?_)
 refine wLp (σ := Nat) (fun i a9 w' => ∃ (fb:Nat → Value) (U:List Ir),a9 = act 23 (sets fb [(2,.pointer (some ⟨g1,0,none⟩)),(3,.slice pF n cF),(9,.int .i64 (n:Int)),(10,.int .i64 (i:Int))]) ∧ Sep w [.lst 39 1 pF n cF (itE U),.blk g1 [.bool false,.slice none 0 0,.slice none 0 0] 31] w' ∧ (i ≤ n) ∧ (itv U = oneTo n i)) (fun i => n - i) (0) ⟨_,TF,aSs ⟨rfl,rfl,rfl,rfl,trivial⟩,hS,Nat.zero_le _,hTF⟩ ?_
 clear hS; rintro i _ w4 ⟨fb,U,rfl,hS,hi,hU⟩
 refine wsr ?_
 by_cases hli:i < n
 ·
  refine wbt rfl rfl rfl rfl (bLs (decide_eq_true (by omega))) ?_
  refine wn1 (wSq ?_)
  refine wT (ev rfl rfl) ?_
  refine wk2 (wmv rfl rfl ?_)
  refine wav rfl rfl ?_
  refine wn1 ?_
  have hUl:U.length = n:=by rw [itv_lenQ hU]; exact oneTo_len n i
  obtain ⟨gt5,hgt5⟩:=hS.lstPtr 0 rfl (by omega)
  obtain ⟨⟨pr,cr,Lr⟩,hTr⟩:∃ r,(U)[i]? = some r:=⟨_,List.getElem?_eq_getElem (by omega)⟩
  have hlr:Lr.length = n:=by have h9:=itv_row hU hTr; rw [oneTo_row (by omega),if_neg (Nat.lt_irrefl _)] at h9; rw [← izs_len, ← h9,List.length_replicate]
  obtain ⟨gr,hgr⟩:=hS.irp 0 rfl hTr (by omega)
  obtain ⟨z1,hz1⟩:∃ z:Int,Hid (1 = z):=⟨_,rfl⟩
  have hk1:Wd z1 2:=by rw [← hz1.out]; exact Wd.i64 (by omega) (by omega)
  have hk2:Wd 1 2:=wd1
  refine wSg 7 [13,14,15,16,17,18,19] [[],[],[0,1],[2,0,1],[],[],[3,4,0,1,2,5]] [] [] [] (fun i9 => ([iSv (.slice pF n cF),iSv (.int .i64 (i:Int)),iSv (.pointer (some ⟨gt5,(0 + i * 1),none⟩)),iSv (.slice pr Lr.length cr),iSv (.int .i64 (i:Int)),fun _ => Rrt z1 1,iSv (.pointer (some ⟨gr,(0 + i * 4),none⟩))]:List (List Value → Tell)).getD i9 (fun _ _ _ => False)) hNi (fun d _ _ _ _ h => (by cases d <;> exact h)) (by kernel_rfl) (by kernel_rfl) (by kernel_rfl) hS ?_ ?_
  ·
   refine stM rfl rfl rfl rfl rfl (fun _=>isI) ?_
   refine stM rfl rfl rfl rfl rfl (fun _=>isI) ?_
   refine stT rfl (fun hT hS=>?_) ?_
   ·obtain ⟨hv0,hr0⟩:=hT 0 13 rfl rfl
    obtain ⟨hv1,hr1⟩:=hT 1 14 rfl rfl
    obtain hS:=hS.flat2 hr0 hr1
    exact inNo rfl (oIx (p:=pF) (g:=gt5) (off:=0) (m:=n) (k:=i) (j:=(0 + i * 1)) rfl rfl Tryz.runUnderlying47 Tryz.sizeOf39 (ev rfl hv0) hgt5 (ev rfl hv1) (by omega) rfl (nSm rfl isI))
   refine stT rfl (fun hT hS=>?_) ?_
   ·obtain ⟨hv2,hr2⟩:=hT 2 15 rfl rfl
    obtain hS:=hS.flat1 hr2
    exact inNo rfl (oLc ⟨Tryz.isAgg39,Tryz.sizeOf39⟩ rfl rfl (ev rfl hv2) (hS.irc 0 rfl hTr hgt5) (nSm rfl isI))
   refine stM rfl rfl rfl rfl rfl (fun _=>isI) ?_
   refine stT rfl (fun _ _=>?_) ?_
   ·exact .inl ⟨wNo rfl,oCl rfl rfl Tryz.call48 rfl ((show Calls _ _ _ _ (Ret (Rrt z1 1) _) from by rw [← hz1.out]; exact wsof (by omega) (by omega))) (ar1 evc) cNw⟩
   refine stT rfl (fun hT hS=>?_) ?_
   ·obtain ⟨hv3,hr3⟩:=hT 3 16 rfl rfl
    obtain ⟨hv4,hr4⟩:=hT 4 17 rfl rfl
    obtain hS:=hS.flat2 hr3 hr4
    exact inNo rfl (oIx (p:=pr) (g:=gr) (off:=0) (m:=Lr.length) (k:=i) (j:=(0 + i * 4)) rfl rfl Tryz.runUnderlying39 Tryz.sizeOf43 (ev rfl hv3) hgr (ev rfl hv4) (by omega) rfl (nSm rfl isI))
   exact sNi
  intro vs ρ w6 f' hf hT hS
  obtain ⟨hv0,hr0⟩:=hT 0 (by decide)
  obtain ⟨hv1,hr1⟩:=hT 1 (by decide)
  obtain ⟨hv2,hr2⟩:=hT 2 (by decide)
  obtain ⟨hv3,hr3⟩:=hT 3 (by decide)
  obtain ⟨hv4,hr4⟩:=hT 4 (by decide)
  obtain ⟨p1,n1,c1,p2,n2,c2,hv5,hr5⟩:=(hT 5 (by decide):(Rrt z1 1) _ _)
  obtain ⟨hv6,hr6⟩:=hT 6 (by decide)
  simp only [pool,if_true,hr0,hr1,hr2,hr3,hr4,hr5,hr6,List.nil_append,List.cons_append,List.append_nil] at hS
  simp only [layf,hv0,hv1,hv2,hv3,hv4,hv5,hv6] at hf
  subst hf; clear hT hv0 hv1 hv2 hv3 hv4 hv5 hv6 hr0 hr1 hr2 hr3 hr4 hr5 hr6
  obtain hS:=(show Sep w [.lst 39 1 pF n cF (itE U),.rowm p1 n1 c1 (lim z1.natAbs),.rowm p2 n2 c2 (lim (1:Int).natAbs),.blk g1 [.bool false,.slice none 0 0,.slice none 0 0] 31] w6 from hS.pick [2,0,1,3] (by decide) rfl)
  obtain hS:=hS.itake hTr hlr
  obtain hS:=(show Sep w [.rowm p1 n1 c1 (lim z1.natAbs),.rowm p2 n2 c2 (lim (1:Int).natAbs),.lst 43 4 pr n cr (iqs Lr),.lst 39 1 pF n cF ((itE U).set i ⟨[.slice pr n cr],[]⟩),.blk g1 [.bool false,.slice none 0 0,.slice none 0 0] 31] w6 from hS.pick [2,3,0,1,4] (by decide) rfl)
  refine wLt 7 rfl (by kernel_rfl) (ostoreL (i:=i) (g:=gr) [.bool (ng z1),.slice p1 n1 c1,.bool (ng 1),.slice p2 n2 c2] [.rowm p1 n1 c1 (lim z1.natAbs),.rowm p2 n2 c2 (lim (1:Int).natAbs)] Tryz.sizeOf43 hS rfl rfl (ev rfl rfl) (ev rfl rfl) (rfl) rfl rfl rfl hgr (by omega) rfl ?_)
  clear hS; intro w7 hS
  rw [show (⟨[.bool (ng z1),.slice p1 n1 c1,.bool (ng 1),.slice p2 n2 c2],[.rowm p1 n1 c1 (lim z1.natAbs),.rowm p2 n2 c2 (lim (1:Int).natAbs)]⟩:El) = iqE ⟨p1,n1,c1,p2,n2,c2,z1⟩ from rfl,iqs_set] at hS
  obtain hS:=hS.iput (by omega) (List.length_set.trans hlr)
  refine ⟨hNi,?_⟩
  refine wdone rfl ?_
  refine blkN (tNo (wreg (wbc (z:=.int .i64 ((i + 1:Nat):Int)) rfl rfl (bAd (wI6 (by omega) (by omega))) ?_)))
  refine wmv rfl rfl ?_
  refine wn1 ?_
  exact ⟨(i + 1),⟨_,_,aSs ⟨rfl,rfl,rfl,rfl,trivial⟩,hS.pick [0,1] (by decide) rfl,by omega,by rw [itv_set,izs_set,oneTo,hU,itv_row hU hTr, ← hz1.out]⟩,by omega⟩
 refine wbt rfl rfl rfl rfl (bLs (decide_eq_false (by omega))) ?_
 refine wn1 (wSq ?_)
 refine wF (ev rfl rfl) ?_
 refine wEx ?_
 refine tEx ?_
 refine tEx ?_
 refine blkE ?_
 refine tNo (wsr (wmv rfl rfl ?_))
 have hin:i = n:=by omega
 have hUU:itv U = oneT n:=by rw [hU,hin,oneTo_all]
 refine wcl Tryz.call105 (wtFrom (show RTb _ _ _ (oneT n) 2097408 from hUU ▸ hS.itb 0 rfl (by rw [hUU]; exact fun L hL => by have h8:=(oneT_wd n) L hL; omega) (by decide) (by omega) (by rw [hUU]; exact fun L hL => by have h8:=oneT_row n L hL; omega)) (by omega) (by omega) (fun L hL => by have h8:=oneT_row n L hL; omega) (oneT_wd n)) (ar1 (ev rfl rfl)) hS ?_
 clear hS; rintro _ _ w5 ⟨pDM,nDM,cDM,pSM,cSM,rsM,rfl,rfl,hMM⟩ hS
 refine wl rfl (oSt _ _ Tryz.sizeOf31 hS 3 rfl rfl (ev rfl rfl) (ev rfl rfl) rfl rfl rfl rfl rfl rfl ?_)
 clear hS; intro w6 hS
 refine wn1 ?_
 refine wLv ?_
 refine wr1 Tryz.results86 (tellC (cs:=[.bool (ng 1),.slice pDM nDM cDM,.slice pSM n cSM]) ⟨Tryz.isAgg31,Tryz.sizeOf31⟩ hS 3 rfl rfl rfl rfl) ?_
 exact ⟨_,_,rfl,⟨_,_,_,_,_,_,rfl,rfl,hMM⟩,(show Sep w [.row pDM nDM cDM (lim (1:Int).natAbs),.pack rsM] _ from hS.pick [0,1] (by decide) rfl).newH rfl⟩
open Go Lib
def tbl (n c:Nat) (f:Nat → Nat → Int):List (List Int):=(List.range n).map fun i => (List.range c).map fun k => f i k
def eT (V:List (List Int)) (i k:Nat):Int:=(V.getD i []).getD k 0
theorem tbl_len (n c:Nat) (f:Nat → Nat → Int):(tbl n c f).length = n:=by simp [tbl]
theorem tbl_row (n c:Nat) (f:Nat → Nat → Int):∀ L ∈ tbl n c f,L.length = c:=fun L hL => by
  obtain ⟨i,_,rfl⟩:=List.mem_map.1 hL; simp
theorem tbl_at {n c:Nat} {f:Nat → Nat → Int} {i:Nat} (hi:i < n):(tbl n c f)[i]? = some ((List.range c).map fun k => f i k):=by
  unfold tbl; rw [List.getElem?_map,List.getElem?_range hi]; rfl
theorem tbl_el {n c:Nat} {f:Nat → Nat → Int} {i k:Nat} (hi:i < n) (hk:k < c):eT (tbl n c f) i k = f i k:=by
  unfold eT; simp [List.getD,tbl_at hi,List.getElem?_range hk]
theorem tbl_wd {n c K:Nat} {f:Nat → Nat → Int} (h:∀ i k,i < n → k < c → Wd (f i k) K):TW (tbl n c f) K:=fun L hL z hz => by
  obtain ⟨i,hi,rfl⟩:=List.mem_map.1 hL
  obtain ⟨k,hk,rfl⟩:=List.mem_map.1 hz
  exact h i k (List.mem_range.1 hi) (List.mem_range.1 hk)
theorem getT_of {V:List (List Int)} {i:Nat} {r:List Int} (h:V[i]? = some r):V.getD i [] = r:=by simp [List.getD,h]
theorem get_ofT {V:List (List Int)} {i:Nat} (h:i < V.length):V[i]? = some (V.getD i []):=by simp [List.getD,h]
theorem get_ofL {L:List Int} {i:Nat} (h:i < L.length):L[i]? = some (L.getD i 0):=by simp [List.getD,h]
theorem tbl_ext {n c:Nat} {f:Nat → Nat → Int} {V:List (List Int)} (h1:V.length = n) (h2:∀ L ∈ V,L.length = c) (h3:∀ i k,i < n → k < c → eT V i k = f i k):V = tbl n c f:=by
 apply List.ext_getElem?
 intro i
 by_cases hi:i < n
 ·rw [get_ofT (by omega),tbl_at hi]
  congr 1
  have hl:=h2 _ (List.mem_of_getElem? (get_ofT (V:=V) (i:=i) (by omega)))
  apply List.ext_getElem?
  intro k
  by_cases hk:k < c
  ·rw [get_ofL (by omega),List.getElem?_map,List.getElem?_range hk]
   exact congrArg some (h3 i k hi hk)
  rw [List.getElem?_eq_none (by omega),List.getElem?_eq_none (by simp; omega)]
 rw [List.getElem?_eq_none (by omega),List.getElem?_eq_none (by rw [tbl_len]; omega)]
structure Fil (V:List (List Int)) (n c i k:Nat) (f g:Nat → Nat → Int):Prop where
  len:V.length = n
  row:∀ L ∈ V,L.length = c
  ent:∀ l m,l < n → m < c → eT V l m = if l < i ∨ (l = i ∧ m < k) then f l m else g l m
theorem Fil.start {V:List (List Int)} {n c:Nat} {f g:Nat → Nat → Int} (h:V = tbl n c g):Fil V n c 0 0 f g:=by
  subst h
  exact ⟨tbl_len n c g,tbl_row n c g,fun l m hl hm => by rw [tbl_el hl hm,if_neg (by omega)]⟩
theorem Fil.el {V:List (List Int)} {n c i k l:Nat} {f g:Nat → Nat → Int} (h:Fil V n c i k f g) (hi:i < n) (hl:l < c) (hk:k ≤ l):eT V i l = g i l:=by
  rw [h.ent i l hi hl,if_neg (by omega)]
theorem Fil.rlen {V:List (List Int)} {n c i k l:Nat} {f g:Nat → Nat → Int} (h:Fil V n c i k f g) (hl:l < n):(V.getD l []).length = c :=
  h.row _ (List.mem_of_getElem? (get_ofT (by rw [h.len]; exact hl)))
theorem eT_set {V:List (List Int)} {n c i k l m:Nat} {z:Int} (h1:V.length = n) (h2:∀ L ∈ V,L.length = c) (hi:i < n) (hk:k < c):eT (V.set i ((V.getD i []).set k z)) l m = if l = i ∧ m = k then z else eT V l m:=by
 have hl:=h2 _ (List.mem_of_getElem? (get_ofT (V:=V) (i:=i) (by omega)))
 unfold eT
 by_cases e:l = i
 ·subst e
  rw [show (V.set l ((V.getD l []).set k z)).getD l [] = (V.getD l []).set k z by simp [List.getD,show l < V.length by omega]]
  by_cases e2:m = k
  ·subst e2; rw [if_pos ⟨rfl,rfl⟩]; simp only [List.getD_eq_getElem?_getD] at *; simp [hl,hk]
  rw [if_neg (by omega)]; simp only [List.getD_eq_getElem?_getD]; rw [List.getElem?_set_ne (Ne.symm e2)]
 rw [if_neg (by omega),show (V.set i ((V.getD i []).set k z)).getD l [] = V.getD l [] by simp only [List.getD_eq_getElem?_getD]; rw [List.getElem?_set_ne (Ne.symm e)]]
theorem Fil.put {V:List (List Int)} {n c i k:Nat} {f g g':Nat → Nat → Int} {z:Int} (h:Fil V n c i k f g) (hi:i < n) (hk:k < c) (hz:z = g' i k) (hg:∀ l m, ¬(l = i ∧ m = k) → g' l m = g l m):Fil (V.set i ((V.getD i []).set k z)) n c i k f g':=by
 refine ⟨by rw [List.length_set]; exact h.len,fun L hL => ?_,fun l m hl hm => ?_⟩
 ·rcases List.mem_or_eq_of_mem_set hL with h1 | h1
  ·exact h.row L h1
  rw [h1,List.length_set]; exact h.rlen hi
 rw [eT_set h.len h.row hi hk]
 by_cases e:l = i ∧ m = k
 ·rw [if_pos e,if_neg (by omega),e.1,e.2]; exact hz
 rw [if_neg e,h.ent l m hl hm]; split
 ·rfl
 exact (hg l m e).symm
theorem Fil.adv {V:List (List Int)} {n c i k:Nat} {f g:Nat → Nat → Int} (h:Fil V n c i k f g) (he:f i k = g i k):Fil V n c i (k + 1) f g:=by
 refine ⟨h.len,h.row,fun l m hl hm => ?_⟩
 rw [h.ent l m hl hm]
 by_cases e:l = i ∧ m = k
 ·rw [if_neg (by omega),if_pos (by omega),e.1,e.2]; exact he.symm
 by_cases e2:l < i ∨ l = i ∧ m < k
 ·rw [if_pos e2,if_pos (by omega)]
 rw [if_neg e2,if_neg (by omega)]
theorem Fil.same {V:List (List Int)} {n c i k:Nat} {f g g':Nat → Nat → Int} (h:Fil V n c i k f g) (hg:∀ l m,l < n → m < c → (i < l ∨ (l = i ∧ k ≤ m)) → g' l m = g l m):Fil V n c i k f g':=by
  refine ⟨h.len,h.row,fun l m hl hm => ?_⟩
  rw [h.ent l m hl hm]
  by_cases e2:l < i ∨ l = i ∧ m < k
  · rw [if_pos e2,if_pos e2]
  rw [if_neg e2,if_neg e2]; exact (hg l m hl hm (by omega)).symm
theorem Fil.fill {V:List (List Int)} {n c i k:Nat} {f g:Nat → Nat → Int} {z:Int} (h:Fil V n c i k f g) (hi:i < n) (hk:k < c) (hz:z = f i k):Fil (V.set i ((V.getD i []).set k z)) n c i (k + 1) f g:=by
  have h0:Fil (V.set i ((V.getD i []).set k z)) n c i k f (fun l m => if l = i ∧ m = k then f i k else g l m):=h.put hi hk (by rw [if_pos ⟨rfl,rfl⟩]; exact hz) fun l m e => by rw [if_neg e]
  have h1:Fil (V.set i ((V.getD i []).set k z)) n c i (k + 1) f (fun l m => if l = i ∧ m = k then f i k else g l m):=h0.adv (by rw [if_pos ⟨rfl,rfl⟩])
  exact h1.same fun l m _ _ e => by rw [if_neg (by omega)]
theorem Fil.nxt {V:List (List Int)} {n c i k:Nat} {f g:Nat → Nat → Int} (h:Fil V n c i k f g) (hk:k = c):Fil V n c (i + 1) 0 f g:=by
  subst hk
  refine ⟨h.len,h.row,fun l m hl hm => ?_⟩
  rw [h.ent l m hl hm]
  by_cases e2:l < i ∨ l = i ∧ m < k
  · rw [if_pos e2,if_pos (by omega)]
  rw [if_neg e2,if_neg (by omega)]
theorem Fil.done {V:List (List Int)} {n c i:Nat} {f g:Nat → Nat → Int} (h:Fil V n c i 0 f g) (hi:i = n):V = tbl n c f:=by
  subst hi
  exact tbl_ext h.len h.row fun l m hl hm => by rw [h.ent l m hl hm,if_pos (Or.inl hl)]
theorem iq_row {T:List Ir} {TT:List (List Int)} {i:Nat} {p:Option Addr} {c:Nat} {L:List Iq} (h:itv T = TT) (hi:T[i]? = some ⟨p,c,L⟩):TT.getD i [] = izs L:=by rw [← h]; exact getT_of (itv_get hi)
theorem iq_len {T:List Ir} {TT:List (List Int)} {i d:Nat} {p:Option Addr} {c:Nat} {L:List Iq} (h:itv T = TT) (hr:∀ L ∈ TT,L.length = d) (hi:T[i]? = some ⟨p,c,L⟩):L.length = d:=by
  rw [← izs_len]; exact hr _ (by rw [← h]; exact List.mem_of_getElem? (itv_get hi))
theorem iq_el {T:List Ir} {TT:List (List Int)} {i k:Nat} {p:Option Addr} {c:Nat} {L:List Iq} {e:Iq} (h:itv T = TT) (hi:T[i]? = some ⟨p,c,L⟩) (hk:L[k]? = some e):e.z = eT TT i k:=by
  unfold eT; rw [iq_row h hi]; simp [List.getD,izs_get hk]
theorem iq_put {T:List Ir} {TT:List (List Int)} {i k:Nat} {p p':Option Addr} {c c':Nat} {L:List Iq} {e:Iq} (h:itv T = TT) (hi:T[i]? = some ⟨p,c,L⟩):itv (T.set i ⟨p',c',L.set k e⟩) = TT.set i ((TT.getD i []).set k e.z):=by
  rw [itv_set,izs_set,h,iq_row h hi]
theorem iq_tl {T:List Ir} {TT:List (List Int)} (h:itv T = TT):T.length = TT.length:=by rw [← h,itv_len]
theorem zeroT_tbl (r c:Nat):zeroT r c = tbl r c fun _ _ => 0:=by
  refine tbl_ext (by simp [zeroT]) (fun L hL => ?_) (fun i k hi hk => ?_)
  · obtain ⟨_,rfl⟩:=List.mem_replicate.1 hL; simp
  unfold eT zeroT; simp [List.getD,hi,hk]
end Go.Proofs.YtnlnibngpeempaaGreatDoor
