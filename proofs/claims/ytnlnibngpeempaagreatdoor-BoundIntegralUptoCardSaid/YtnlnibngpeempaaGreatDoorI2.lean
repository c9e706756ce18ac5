/-
  Contracts and lemmas, joined in one text.
-/
import Derived.Test.YtnlnibngpeempaaGreatDoorI1
import Derived.Test.YtnlnibngpeempaaGreatDoorB2
import Derived.Test.YtnlnibngpeempaaGreatDoorB4
set_option linter.unusedVariables false
set_option linter.unusedSimpArgs false
/-
  qmat.Rows,Height.
-/
set_option maxRecDepth 100000
set_option maxHeartbeats 16000000
namespace Go.Proofs.YtnlnibngpeempaaGreatDoor
open Go.RowKit
def rtT (D:Int) (T:List (List Int)):List (List (Int × Int)):=T.map fun L => L.map fun x => (RN x D,RD x D)
theorem rtT_len (D:Int) (T:List (List Int)):(rtT D T).length = T.length:=List.length_map _
theorem rtT_get {D:Int} {T:List (List Int)} {i:Nat} {L:List Int} (h:T[i]? = some L):(rtT D T)[i]? = some (L.map fun x => (RN x D,RD x D)):=by unfold rtT; rw [List.getElem?_map,h]; rfl
theorem rtT_flat (D:Int) (T:List (List Int)):(rtT D T).flatten = T.flatten.map fun x => (RN x D,RD x D):=by unfold rtT; rw [List.map_flatten]
theorem rtT_md {D:Int} {T:List (List Int)} (hD:D ≠ 0):rtT (mdD D T.flatten) (mdT D T) = rtT D T:=by
  unfold rtT mdT
  rw [List.map_map]
  refine List.map_congr_left fun L hL => ?_
  show (L.map _).map _ = _
  rw [List.map_map]
  refine List.map_congr_left fun x hx => ?_
  obtain ⟨h1,h2⟩:=n_low hD (List.mem_flatten.2 ⟨L,hL,hx⟩)
  show (RN (mdX D T.flatten x) _,RD (mdX D T.flatten x) _) = _
  rw [h1,h2]
theorem rtT_wd {w:World} {p:Option Addr} {n K:Nat} {D:Int} {T:List (List Int)} (hT:TB w p n T K) (hD:Wd D K):∀ L ∈ rtT D T,FW L K:=fun L hL e he => by
  obtain ⟨L0,h0,rfl⟩:=List.mem_map.1 hL
  obtain ⟨x,hx,rfl⟩:=List.mem_map.1 he
  obtain ⟨i,hi⟩:=List.mem_iff_getElem?.1 h0
  obtain ⟨_,_,_,_,_,_,hs⟩:=hT.2.2 i L0 hi
  obtain ⟨j,hj⟩:=List.mem_iff_getElem?.1 hx
  exact ⟨Wd.rn (hs.elWd hj) rfl,Wd.rd hD rfl⟩
theorem rtT_row {D:Int} {T:List (List Int)} {b:Nat} (h:∀ L ∈ T,L.length ≤ b):∀ L ∈ rtT D T,L.length ≤ b:=fun L hL => by
  obtain ⟨L0,h0,rfl⟩:=List.mem_map.1 hL
  rw [List.length_map]; exact h L0 h0
theorem rtT_ne {D:Int} {T:List (List Int)} (hD:D ≠ 0):∀ e ∈ (rtT D T).flatten,e.2 ≠ 0:=fun e he => by
  rw [rtT_flat] at he
  obtain ⟨x,_,rfl⟩:=List.mem_map.1 he
  have:=RD_pos (x:=x) hD
  show RD x D ≠ 0; omega
theorem rtT_low {D:Int} {T:List (List Int)} (hD:D ≠ 0):lows (rtT D T).flatten = (rtT D T).flatten:=by
  rw [rtT_flat]; unfold lows; rw [List.map_map]
  refine List.map_congr_left fun x _ => ?_
  show (RN (RN x D) (RD x D),RD (RN x D) (RD x D)) = _
  rw [RN_idem hD,RD_idem hD]
theorem wqRows {bd:Bool} {pd pt:Option Addr} {nd' cd nt ct:Nat} {D:Int} {T:List (List Int)} {w:World} (hd:Zr w bd pd nd' cd D 1048576) (hT:TB w pt nt T 1048576) (hD:D ≠ 0) (hev:evenB T = true) (hb:∀ L ∈ T,L.length ≤ 1048576) :
  Calls Tryz.prog 123 #[.agg #[.bool bd,.slice pd nd' cd,.slice pt nt ct]] w (Ret (FQe nt (rtT D T)) w):=by
 have hTl:=hT.1
 have hTb:=hT.2.1
 have hS:=Sep.init w
 refine went Tryz.func123 rfl (n:=52) rfl rfl ?_
 refine wsr (wl rfl (obox [.bool bd,.slice pd nd' cd,.slice pt nt ct] hS rfl rfl (ev rfl rfl) rfl ?_))
 clear hS; intro g1 w2 hS
 refine wavc ?_
 refine wavc ?_
 refine wn1 (wSq (wsr (wl rfl (oLd ⟨Tryz.isAgg31,Tryz.sizeOf31⟩ hS 0 rfl rfl (ev rfl rfl) rfl rfl rfl ?_))))
 refine wcl Tryz.call121 (wqcheck (hd.at hS) (hT.at hS)) (ar1 (ev rfl rfl)) hS ?_
 clear hS; rintro _ _ w3 ⟨rfl,rfl⟩ hS
 refine wav rfl rfl ?_
 refine wn2 (wmv rfl rfl ?_)
 refine wbc rfl rfl (bNe (neF (chkM_ok hD hev))) ?_
 refine wn1 ?_
 refine wF (ev rfl rfl) ?_
 refine wSk (tNo (wsr (wavc ?_)))
 refine wn1 (wSq (wsr (wl rfl (oFA (g:=g1) (off:=0) 2 rfl rfl (ev rfl rfl) Tryz.runUnderlying31 rfl Tryz.sizeOf22 rfl ?_))))
 refine wl rfl (oL1 ⟨Tryz.isAgg22,Tryz.sizeOf22⟩ hS 0 rfl rfl (ev rfl rfl) rfl rfl ?_)
 refine wl rfl (olen rfl rfl rfl Tryz.runUnderlying22 (p:=pt) (k:=nt) (m:=ct) (ev rfl rfl) ?_)
 refine wmvc ?_
 refine wn1 (wBk ?_)
 replace hS:=hS.nilLst 39 1
 refine wLp (σ := Nat) (fun i a9 w' => ∃ (fb:Nat → Value) (V:List Fw) (pX:Option Addr) (cX:Nat),a9 = act 52 (sets fb [(1,.pointer (some ⟨g1,0,none⟩)),(2,.slice none 0 0),(3,.int .i64 0),(5,.slice pX i cX),(19,.slice pt nt ct),(20,.int .i64 (nt:Int)),(21,.int .i64 (i:Int))]) ∧ Sep w [.lst 39 1 pX i cX (ftE V),.blk g1 [.bool bd,.slice pd nd' cd,.slice pt nt ct] 31] w' ∧ (i ≤ nt) ∧ (ftv V = (rtT D T).take i)) (fun i => nt - i) (0) ⟨_,[],none,0,aSs ⟨rfl,rfl,rfl,rfl,rfl,rfl,rfl,trivial⟩,hS,Nat.zero_le _,rfl⟩ ?_
 clear hS; rintro i _ w4 ⟨fb,V,pX,cX,rfl,hS,hi,hV⟩
 refine wsr ?_
 by_cases hli:i < nt
 ·
  obtain ⟨xr,hxr⟩:∃ r,(T)[i]? = some r:=⟨_,List.getElem?_eq_getElem (by have:=hT.1; omega)⟩
  obtain ⟨br,ofr,pr,cr,hpr,hcr,hsr⟩:=hT.2.2 i _ hxr
  have hbr:=hb xr (List.mem_of_getElem? hxr)
  refine wbt rfl rfl rfl rfl (bLs (decide_eq_true (by omega))) ?_
  refine wn1 (wSq ?_)
  refine wT (ev rfl rfl) ?_
  refine wk2 (wl rfl (oIx (p:=pt) (g:=br) (off:=ofr) (m:=nt) (k:=i) (j:=(ofr + i * 1)) rfl rfl Tryz.runUnderlying22 Tryz.sizeOf32 (ev rfl rfl) hpr (ev rfl rfl) (by omega) rfl ?_))
  refine wl rfl (oLc ⟨Tryz.isAgg32,Tryz.sizeOf32⟩ rfl rfl (ev rfl rfl) (hS.cellAt (hcr 0 _ rfl)) ?_)
  refine wav rfl rfl ?_
  refine wn2 (wmv rfl rfl ?_)
  refine wl rfl (olen rfl rfl rfl Tryz.runUnderlying32 (p:=pr) (k:=xr.length) (m:=cr) (ev rfl rfl) ?_)
  refine wl rfl (omakeL (zs:=[.bool false,.slice none 0 0,.bool false,.slice none 0 0]) (k:=0) (m:=xr.length) hS rfl rfl Tryz.underlying39 infoRat rfl rfl (by decide) rfl (evc (v:=.int .i64 ((0:Nat):Int))) (ev rfl rfl) (by omega) (by omega) (by omega) ?_)
  clear hS; intro g5 w6 hS
  refine wav rfl rfl ?_
  refine wn1 (wSq (wsr (wmv rfl rfl ?_)))
  refine wl rfl (olen rfl rfl rfl Tryz.runUnderlying32 (p:=pr) (k:=xr.length) (m:=cr) (ev rfl rfl) ?_)
  refine wmvc ?_
  refine wn1 (wBk ?_)
  rw [show List.replicate 0 (⟨[.bool false,.slice none 0 0,.bool false,.slice none 0 0],[]⟩:El) = fqs [] from rfl] at hS
  refine wLp (σ := Nat) (fun j a9 w' => ∃ (fb:Nat → Value) (L:List Fq) (pY:Option Addr) (cY:Nat),a9 = act 52 (sets fb [(1,.pointer (some ⟨g1,0,none⟩)),(2,.slice none 0 0),(3,.int .i64 0),(5,.slice pX i cX),(8,.slice pY j cY),(19,.slice pt nt ct),(20,.int .i64 (nt:Int)),(21,.int .i64 (i:Int)),(28,.slice pr xr.length cr),(29,.int .i64 (xr.length:Int)),(30,.int .i64 (j:Int))]) ∧ Sep w [.lst 43 4 pY j cY (fqs L),.lst 39 1 pX i cX (ftE V),.blk g1 [.bool bd,.slice pd nd' cd,.slice pt nt ct] 31] w' ∧ (j ≤ xr.length) ∧ (fqv L = (xr.map (fun x => (RN x D,RD x D))).take j)) (fun j => xr.length - j) (0) ⟨_,[],_,_,aSs ⟨rfl,rfl,rfl,rfl,rfl,rfl,rfl,rfl,rfl,rfl,rfl,trivial⟩,hS,Nat.zero_le _,rfl⟩ ?_
  clear hS; rintro j _ w7 ⟨fb,L,pY,cY,rfl,hS,hj,hL⟩
  refine wsr ?_
  by_cases hlj:j < xr.length
  ·
   refine wbt rfl rfl rfl rfl (bLs (decide_eq_true (by omega))) ?_
   refine wn1 (wSq ?_)
   refine wT (ev rfl rfl) ?_
   refine wk2 ?_
   obtain ⟨ze,ge,oe,be,pe,ne,ce,hle,hpe,hce,hze⟩:=hsr.el hlj
   refine wl rfl (oIx (p:=pr) (g:=ge) (off:=oe) (m:=xr.length) (k:=j) (j:=(oe + j * 2)) rfl rfl Tryz.runUnderlying32 Tryz.sizeOf28 (ev rfl rfl) hpe (ev rfl rfl) hlj rfl ?_)
   refine wl rfl (oloadA aggZ rfl rfl (ev rfl rfl) (fun j v hj => hS.cellAt (hce j v hj)) rfl ?_)
   refine wl rfl (oAl [.bool false,.slice none 0 0] hS rfl rfl Tryz.zeroValue28 rfl ?_)
   clear hS; intro g8 w9 hS
   refine wl rfl (oSt _ _ Tryz.sizeOf28 hS 0 rfl rfl (ev rfl rfl) (ev rfl rfl) rfl rfl rfl rfl rfl rfl ?_)
   clear hS; intro w10 hS
   refine wn2 (wl rfl (oLd aggZ hS 0 rfl rfl (ev rfl rfl) rfl rfl rfl ?_))
   refine wl rfl (oFA (g:=g1) (off:=0) 0 rfl rfl (ev rfl rfl) Tryz.runUnderlying31 rfl Tryz.sizeOf28 rfl ?_)
   refine wl rfl (oLd aggZ hS 3 rfl rfl (ev rfl rfl) rfl rfl rfl ?_)
   obtain ⟨z1,hz1⟩:∃ z:Int,Hid (RN ze D = z):=⟨_,rfl⟩
   have hk1:Wd z1 1048576:=Wd.rn hze.wd hz1
   obtain ⟨z2,hz2⟩:∃ z:Int,Hid (RD ze D = z):=⟨_,rfl⟩
   have hk2:Wd z2 1048576:=Wd.rd hd.wd hz2
   refine wcl Tryz.call58 (wrmake ((hze.at hS).mono (by omega)) ((hd.at hS).mono (by omega)) hD hz1 hz2) (ar2 (ev rfl rfl) (ev rfl rfl)) hS ?_
   clear hS; rintro _ _ w11 ⟨p1,n1,c1,p2,n2,c2,rfl,rfl⟩ hS
   refine wmv rfl rfl ?_
   refine wl rfl (oEx rfl rfl (ev rfl rfl) rfl ?_)
   refine wl rfl (oEx rfl rfl (ev rfl rfl) rfl ?_)
   refine wl rfl (oAl [.bool false,.slice none 0 0,.bool false,.slice none 0 0] hS rfl rfl Tryz.zeroValue43 rfl ?_)
   clear hS; intro g12 w13 hS
   refine wl rfl (oSt _ _ Tryz.sizeOf43 hS 0 rfl rfl (ev rfl rfl) (ev rfl rfl) rfl rfl rfl rfl rfl rfl ?_)
   clear hS; intro w14 hS
   refine wav rfl rfl ?_
   refine wn1 (wreg (wmv rfl rfl ?_))
   refine wl rfl (oLd aggR hS 0 rfl rfl (ev rfl rfl) rfl rfl rfl ?_)
   refine wl rfl (obslice (ps:=#[(0,.agg #[.bool (ng z1),.slice p1 n1 c1,.bool (ng z2),.slice p2 n2 c2])]) (z:=.agg #[.bool false,.slice none 0 0,.bool false,.slice none 0 0]) [.bool (ng z1),.slice p1 n1 c1,.bool (ng z2),.slice p2 n2 c2] hS rfl rfl Tryz.runUnderlying39 Tryz.sizeOf43 Tryz.zeroValue43 (parts1 (ev (v:=.agg #[.bool (ng z1),.slice p1 n1 c1,.bool (ng z2),.slice p2 n2 c2]) rfl rfl)) rfl (by decide) fill4_1 ?_)
   clear hS; intro g15 w16 hS
   obtain hS:=(show Sep w [.rowm p1 n1 c1 (lim z1.natAbs),.rowm p2 n2 c2 (lim z2.natAbs),.lst 43 4 pY j cY (fqs L),.blk g15 [.bool (ng z1),.slice p1 n1 c1,.bool (ng z2),.slice p2 n2 c2] 43,.blk g12 [.bool (ng z1),.slice p1 n1 c1,.bool (ng z2),.slice p2 n2 c2] 43,.blk g8 [.bool be,.slice pe ne ce] 28,.lst 39 1 pX i cX (ftE V),.blk g1 [.bool bd,.slice pd nd' cd,.slice pt nt ct] 31] w16 from hS.pick [2,3,5,0,1,4,6,7] (by decide) rfl)
   refine wl rfl (oappendL (p:=pY) (m:=j) (c:=cY) (g2:=g15) (c2:=1) (off:=0) [.bool (ng z1),.slice p1 n1 c1,.bool (ng z2),.slice p2 n2 c2] [.rowm p1 n1 c1 (lim z1.natAbs),.rowm p2 n2 c2 (lim z2.natAbs)] hS rfl rfl Tryz.underlying39 infoRat rfl (by decide) (ev rfl rfl) (ev rfl rfl) (fun j v hj => by rw [Nat.zero_add]; exact (blk_cell (hS.blkAt 3 rfl) j).trans hj) rfl rfl rfl (by omega) (by omega) ?_)
   clear hS; intro p18 c19 w17 hS
   refine wav rfl rfl ?_
   refine wnil (blkN (tNo (wreg (wbc (z:=.int .i64 ((j + 1:Nat):Int)) rfl rfl (bAd (wI6 (by omega) (by omega))) ?_))))
   refine wmv rfl rfl ?_
   refine wn1 ?_
   rw [fq_snoc] at hS
   exact ⟨(j + 1),⟨_,_,_,_,aSs ⟨rfl,rfl,rfl,rfl,rfl,rfl,rfl,rfl,rfl,rfl,rfl,trivial⟩,hS.pick [0,4,5] (by decide) rfl,by omega,by rw [fqv_snoc,hL,take_nx (show (xr.map (fun x => (RN x D,RD x D)))[j]? = some (RN ze D,RD ze D) by rw [List.getElem?_map,hle]; rfl), ← hz1.out, ← hz2.out]⟩,by omega⟩
  refine wbt rfl rfl rfl rfl (bLs (decide_eq_false (by omega))) ?_
  refine wn1 (wSq ?_)
  refine wF (ev rfl rfl) ?_
  refine wEx ?_
  refine tEx ?_
  refine tEx ?_
  refine blkE ?_
  refine tNo (wreg (wmv rfl rfl ?_))
  refine wmv rfl rfl ?_
  refine wl rfl (obslice (ps:=#[(0,.slice pY j cY)]) (z:=.slice none 0 0) [.slice pY j cY] hS rfl rfl Tryz.runUnderlying47 Tryz.sizeOf39 Tryz.zeroValue39 (parts1 (ev (v:=.slice pY j cY) rfl rfl)) rfl (by decide) (fill1_1s rfl rfl) ?_)
  clear hS; intro g8 w9 hS
  have hjl:j = xr.length:=by omega
  have hQl:L.length = j:=by rw [← fqv_len,hL,List.length_take,List.length_map]; omega
  obtain hS:=(show Sep w [.lst 43 4 pY j cY (fqs L),.lst 39 1 pX i cX (ftE V),.blk g8 [.slice pY j cY] 39,.blk g1 [.bool bd,.slice pd nd' cd,.slice pt nt ct] 31] w9 from hS.pick [1,2,0,3] (by decide) rfl)
  refine wl rfl (oappendL (p:=pX) (m:=i) (c:=cX) (g2:=g8) (c2:=1) (off:=0) [.slice pY j cY] [.lst 43 4 pY j cY (fqs L)] hS rfl rfl Tryz.underlying47 infoRRo rfl (by decide) (ev rfl rfl) (ev rfl rfl) (fun j v hj => by rw [Nat.zero_add]; exact (blk_cell (hS.blkAt 2 rfl) j).trans hj) rfl rfl rfl (by omega) (by omega) ?_)
  clear hS; intro p11 c12 w10 hS
  refine wav rfl rfl ?_
  refine wnil (blkN (tNo (wreg (wbc (z:=.int .i64 ((i + 1:Nat):Int)) rfl rfl (bAd (wI6 (by omega) (by omega))) ?_))))
  refine wmv rfl rfl ?_
  refine wn1 ?_
  rw [ft_snoc hQl] at hS
  exact ⟨(i + 1),⟨_,_,_,_,aSs ⟨rfl,rfl,rfl,rfl,rfl,rfl,rfl,trivial⟩,hS.pick [0,2] (by decide) rfl,by omega,by rw [ftv_snoc,hV,hL,hjl,show (xr.map (fun x => (RN x D,RD x D))).take xr.length = xr.map (fun x => (RN x D,RD x D)) from List.take_of_length_le (by rw [List.length_map]; omega),take_nx (rtT_get hxr)]⟩,by omega⟩
 refine wbt rfl rfl rfl rfl (bLs (decide_eq_false (by omega))) ?_
 refine wn1 (wSq ?_)
 refine wF (ev rfl rfl) ?_
 refine wEx ?_
 refine tEx ?_
 refine tEx ?_
 refine blkE ?_
 refine tNo (wsr (wmv rfl rfl ?_))
 refine wav rfl rfl ?_
 refine wavc ?_
 refine wn1 ?_
 refine wLv ?_
 refine wret2 Tryz.results123 (tlT (v:=.slice pX i cX) rfl rfl) (tlT (v:=.int .i64 0) rfl rfl) ?_
 have hin:i = nt:=by omega
 rw [hin] at hS
 exact ⟨_,_,by rw [hin],⟨_,_,V,by rw [hV,List.take_of_length_le (show (rtT D T).length ≤ i by rw [rtT_len]; omega)],rfl,rfl⟩,hS.newR 0 rfl rfl⟩
def HV (gA:Nat) (p:Option Addr) (n c:Nat) (es:List El):List Res:=[.blk gA [.slice p n c] 39,.lst 43 4 p n c es]
def HJ (w0:World) (gA:Nat) (pre:List (Int × Int)) (Rc:List Res):Prop := ∃ p c es,Rc = HV gA p pre.length c es ∧ AllF w0 es pre 1048576
def HA (w0:World) (gA:Nat) (pre:List (Int × Int)) (x:Int × Int) (f':Nat → Value) (R':List Res):Prop :=
  ∃ fa gX b p n c b2 q m d Rc,f' = upd (upd fa 18 (.agg #[.bool b,.slice p n c,.bool b2,.slice q m d])) 7 (.pointer (some ⟨gX,0,none⟩)) ∧ fa 6 = .pointer (some ⟨gA,0,none⟩) ∧ Zr w0 b p n c x.1 1048576 ∧ Zr w0 b2 q m d x.2 1048576 ∧ R' = .blk gX [.bool b,.slice p n c,.bool b2,.slice q m d] 43 :: Rc ∧ HJ w0 gA pre Rc
theorem HV.mid {w0 w:World} {gA n c:Nat} {p:Option Addr} {es:List El} {Rf:List Res} {x:Res} (h:Sep w0 (Rf ++ x :: HV gA p n c es) w):Sep w0 (x :: .blk gA [.slice p n c] 39 :: .lst 43 4 p n c es :: Rf) w:=h.perm (List.perm_append_comm (l₁ := Rf) (l₂ := x :: HV gA p n c es))
theorem HV.back {w0 w:World} {gA n c:Nat} {p:Option Addr} {es:List El} {Rf:List Res} (h:Sep w0 (.blk gA [.slice p n c] 39 :: .lst 43 4 p n c es :: Rf) w):Sep w0 (Rf ++ HV gA p n c es) w:=h.perm (List.perm_append_comm (l₁ := HV gA p n c es) (l₂ := Rf))
theorem high_r {k0_ k1_ k2_ k3_ k4_ k5_ cB:Code} {g_:Operand} {ps_:Array Nat} {as_:Code} (hc:(Tryz.f100).body = some (.seq k5_ (.seq k4_ (.seq k3_ (.seq k2_ (.seq (.seq k0_ (.block 0 (.rangeFunc g_ ps_ as_ cB))) k1_)))))) {l mm gA gX n c m d k cA:Nat} {b b2:Bool} {p q pA:Option Addr} {e:Int × Int} {es:List El} {f:Nat → Value} {Rf:List Res} {w0 w:World} {pre:List (Int × Int)} {Ix:Code → List (Int × Int) → List Res → Prop} (hf:AllAt f [(6,.pointer (some ⟨gA,0,none⟩)),(7,.pointer (some ⟨gX,0,none⟩))]) (hx:Zr w0 b p n c e.1 1048576) (hy:Zr w0 b2 q m d e.2 1048576) (hA:AllF w0 es pre 1048576) (hkl:k = pre.length) (hkb:k < 1048576) (hS:Sep w0 (.blk gX [.bool b,.slice p n c,.bool b2,.slice q m d] 43 :: .blk gA [.slice pA k cA] 39 :: .lst 43 4 pA k cA es :: Rf) w) :
  CR (some l) mm Tryz.prog cB (roundEnd w0 (HJ w0 gA) Ix Rf (pre ++ [e])) (act 27 f) w:=by
 obtain rfl:=(Code.rangeFunc.inj (Code.block.inj (Code.seq.inj (Code.seq.inj (Code.seq.inj (Code.seq.inj (Code.seq.inj (Code.seq.inj (Option.some.inj hc)).2).2).2).2).1).2).2).2.2.2
 clear hc
 rw [aSs hf]
 refine rblock (rreg ?_)
 refine rl rfl rfl (oL1 ⟨Tryz.isAgg39,Tryz.sizeOf39⟩ hS 1 rfl rfl (ev rfl rfl) rfl rfl ?_)
 refine rl rfl rfl (oLd aggR hS 0 rfl rfl (ev rfl rfl) rfl rfl rfl ?_)
 refine rl rfl rfl (obslice (ps:=#[(0,.agg #[.bool b,.slice p n c,.bool b2,.slice q m d])]) (z:=.agg #[.bool false,.slice none 0 0,.bool false,.slice none 0 0]) [.bool b,.slice p n c,.bool b2,.slice q m d] hS rfl rfl Tryz.runUnderlying39 Tryz.sizeOf43 Tryz.zeroValue43 (parts1 (ev (v:=.agg #[.bool b,.slice p n c,.bool b2,.slice q m d]) rfl rfl)) rfl (by decide) fill4_1 ?_)
 clear hS; intro g1 w2 hS
 obtain hS:=(show Sep w0 (.lst 43 4 pA k cA es :: .blk g1 [.bool b,.slice p n c,.bool b2,.slice q m d] 43 :: .blk gX [.bool b,.slice p n c,.bool b2,.slice q m d] 43 :: .blk gA [.slice pA k cA] 39 :: Rf) w2 from Sep.pickT [.blk g1 [.bool b,.slice p n c,.bool b2,.slice q m d] 43,.blk gX [.bool b,.slice p n c,.bool b2,.slice q m d] 43,.blk gA [.slice pA k cA] 39,.lst 43 4 pA k cA es] [.lst 43 4 pA k cA es,.blk g1 [.bool b,.slice p n c,.bool b2,.slice q m d] 43,.blk gX [.bool b,.slice p n c,.bool b2,.slice q m d] 43,.blk gA [.slice pA k cA] 39] hS [3,0,1,2] (by decide) rfl)
 refine rl rfl rfl (oappendL (p:=pA) (m:=k) (c:=cA) (g2:=g1) (c2:=1) (off:=0) [.bool b,.slice p n c,.bool b2,.slice q m d] [] hS rfl rfl Tryz.underlying39 infoRat rfl (by decide) (ev rfl rfl) (ev rfl rfl) (fun j v hj => by rw [Nat.zero_add]; exact (blk_cell (hS.blkAt 1 rfl) j).trans hj) rfl rfl rfl (by omega) (by omega) ?_)
 clear hS; intro p4 c5 w3 hS
 refine rl rfl rfl (oSt _ _ Tryz.sizeOf39 hS 3 rfl rfl (ev rfl rfl) (ev rfl rfl) rfl rfl rfl rfl rfl rfl ?_)
 clear hS; intro w6 hS
 refine rnil (blkN ?_)
 obtain hS:=(show Sep w0 (.blk gA [.slice p4 ((k + 1)) c5] 39 :: .lst 43 4 p4 ((k + 1)) c5 ((es) ++ [⟨[.bool b,.slice p n c,.bool b2,.slice q m d],[]⟩]) :: .blk g1 [.bool b,.slice p n c,.bool b2,.slice q m d] 43 :: .blk gX [.bool b,.slice p n c,.bool b2,.slice q m d] 43 :: Rf) w6 from Sep.pickT [.lst 43 4 p4 ((k + 1)) c5 ((es) ++ [⟨[.bool b,.slice p n c,.bool b2,.slice q m d],[]⟩]),.blk g1 [.bool b,.slice p n c,.bool b2,.slice q m d] 43,.blk gX [.bool b,.slice p n c,.bool b2,.slice q m d] 43,.blk gA [.slice p4 ((k + 1)) c5] 39] [.blk gA [.slice p4 ((k + 1)) c5] 39,.lst 43 4 p4 ((k + 1)) c5 ((es) ++ [⟨[.bool b,.slice p n c,.bool b2,.slice q m d],[]⟩]),.blk g1 [.bool b,.slice p n c,.bool b2,.slice q m d] 43,.blk gX [.bool b,.slice p n c,.bool b2,.slice q m d] 43] hS [3,0,1,2] (by decide) rfl)
 obtain hS:=(show Sep w0 (.blk gA [.slice p4 ((k + 1)) c5] 39 :: .lst 43 4 p4 ((k + 1)) c5 ((es) ++ [⟨[.bool b,.slice p n c,.bool b2,.slice q m d],[]⟩]) :: Rf) w6 from Sep.pickT [.blk gA [.slice p4 ((k + 1)) c5] 39,.lst 43 4 p4 ((k + 1)) c5 ((es) ++ [⟨[.bool b,.slice p n c,.bool b2,.slice q m d],[]⟩]),.blk g1 [.bool b,.slice p n c,.bool b2,.slice q m d] 43,.blk gX [.bool b,.slice p n c,.bool b2,.slice q m d] 43] [.blk gA [.slice p4 ((k + 1)) c5] 39,.lst 43 4 p4 ((k + 1)) c5 ((es) ++ [⟨[.bool b,.slice p n c,.bool b2,.slice q m d],[]⟩])] hS [0,1] (by decide) rfl)
 subst hkl
 exact ⟨_,⟨_,_,_,by rw [List.length_append]; rfl,hA.app (AllF.one hx hy)⟩,HV.back hS⟩
theorem high_rest {k0_ k1_ k2_ k3_ k4_ cB:Code} (hc:(Tryz.f100).body = some (.seq k4_ (.seq k3_ (.seq k2_ (.seq k1_ (.seq k0_ cB)))))) {fb:Nat → Value} {gA E m cA:Nat} {pA:Option Addr} {es:List El} {F:List (Int × Int)} {w w0 w1:World} (hf:AllAt fb [(6,.pointer (some ⟨gA,0,none⟩))]) (hA:AllF w0 es F 1048576) (hF:∀ e ∈ F,e.2 ≠ 0) (hm:m = F.length) (hmb:m ≤ 1048576) (hB:Below w.heap.size w w0) (hS:Sep w0 [.obj E (.deferred (some [])),.blk gA [.slice pA m cA] 39,.lst 43 4 pA m cA es] w1) :
  CW Tryz.prog cB (postM Tryz.prog Tryz.f100 (Ret (Is (.tuple #[.int .i64 ((hgt (lows F) m:Nat):Int),.int .i64 0])) w)) (marked E (act 27 fb)) w1:=by
 obtain rfl:=(Code.seq.inj (Code.seq.inj (Code.seq.inj (Code.seq.inj (Code.seq.inj (Option.some.inj hc)).2).2).2).2).2
 clear hc
 rw [mact_sets hf]
 refine wSq ?_
 refine mreg ?_
 refine ml rfl (oL1 ⟨Tryz.isAgg39,Tryz.sizeOf39⟩ hS 1 rfl rfl (ev rfl rfl) rfl rfl ?_)
 refine ml rfl (oCl rfl rfl Tryz.call125 rfl (wrheight ((AllF.rs hS 2 rfl hA hmb).mono (by decide)) hF) (ar1 (ev rfl rfl)) ?_)
 rintro _ w1 ⟨_,_,rfl,⟨rfl,rfl⟩,hN⟩
 refine ⟨_,rfl,?_⟩
 replace hS:=hS.news hN; clear hN
 refine ml rfl (oEx rfl rfl (ev rfl rfl) rfl ?_)
 refine ml rfl (oEx rfl rfl (ev rfl rfl) rfl ?_)
 refine ml rfl (oassign rfl rfl (ev rfl rfl) ?_)
 refine ml rfl (oassign rfl rfl (ev rfl rfl) ?_)
 refine mnil ?_
 refine tNo ?_
 refine wLv ?_
 refine mret2 Tryz.results100 hS (fun w9 hS => ⟨(tlT (v:=.int .i64 ((((hgt (lows F) m):Nat):Int))) rfl rfl),(tlT (v:=.int .i64 0) rfl rfl)⟩) (fun w9 hS => ?_)
 exact ⟨_,_,rfl,isI,New.nil (hB.trans (hS.below.mono hB.size))⟩
theorem wqHeight {bd:Bool} {pd pt:Option Addr} {nd' cd nt ct:Nat} {D:Int} {T:List (List Int)} {w:World} (hd:Zr w bd pd nd' cd D 1048576) (hT:TB w pt nt T 1048576) (hD:D ≠ 0) (hev:evenB T = true) (hb:∀ L ∈ T,L.length ≤ 1048576) (hfl:T.flatten.length ≤ 1048576) :
  Calls Tryz.prog 100 #[.agg #[.bool bd,.slice pd nd' cd,.slice pt nt ct]] w (Ret (Is (.tuple #[.int .i64 ((hgt (lows (rtT D T).flatten) T.flatten.length:Nat):Int),.int .i64 0])) w):=by
 have hTl:=hT.1
 have hTb:=hT.2.1
 have hS:=Sep.init w
 refine wentM Tryz.func100 rfl (n:=27) rfl rfl ?_
 refine wsr (wl rfl (obox [.bool bd,.slice pd nd' cd,.slice pt nt ct] hS rfl rfl (ev rfl rfl) rfl ?_))
 clear hS; intro g1 w2 hS
 refine wavc ?_
 refine wavc ?_
 refine wn2 (wl rfl (oLd ⟨Tryz.isAgg31,Tryz.sizeOf31⟩ hS 0 rfl rfl (ev rfl rfl) rfl rfl rfl ?_))
 refine wcl Tryz.call123 (wqRows (hd.at hS) (hT.at hS) hD hev hb) (ar1 (ev rfl rfl)) hS ?_
 clear hS; rintro _ _ w3 ⟨pr,cr,Vr,hVr,rfl,rfl⟩ hS
 refine wmv rfl rfl ?_
 refine wl rfl (oEx rfl rfl (ev rfl rfl) rfl ?_)
 refine wl rfl (oEx rfl rfl (ev rfl rfl) rfl ?_)
 refine wav rfl rfl ?_
 refine wav rfl rfl ?_
 refine wn1 (wSq (wsr (wmv rfl rfl ?_)))
 have hRQ:=hS.ftb (K:=1048576) 0 rfl hVr (rtT_wd hT hd.wd) hTb (rtT_row hb)
 have hBl:=hS.below
 clear hS; have hS:=Sep.init w3
 refine wbc (u:=.int .i64 0) (v:=.int .i64 0) (z:=.bool false) rfl rfl (bNe (by decide)) ?_
 refine wn1 ?_
 refine wF (ev rfl rfl) ?_
 refine wSk (tNo (wsr (wl rfl (oAl [.slice none 0 0] hS rfl rfl Tryz.zeroValue39 rfl ?_))))
 clear hS; intro g4 w5 hS
 refine wn1 (wSq (wsr (wmv rfl rfl ?_)))
 refine wcl Tryz.call124 (weachR) (ar1 (ev rfl rfl)) hS ?_
 clear hS; rintro _ _ w6 ⟨git,rfl,rfl⟩ hS
 refine wn1 (wBk ?_)
 replace hS:=hS.nilLst 43 4
 obtain hS:=(show Sep w3 [.blk git [.slice pr nt cr] 154,.blk g4 [.slice none 0 0] 39,.lst 43 4 none 0 0 ([])] w6 from hS.pick [1,2,0] (by decide) rfl)
 obtain hS:=hS.sub (List.take_sublist 3 _)
 obtain hS:=(show Sep w3 ([.blk git [.slice pr nt cr] 154] ++ HV g4 none 0 0 []) w6 from hS)
 have hff:(rtT D T).flatten.length = T.flatten.length:=by rw [rtT_flat,List.length_map]
 refine wrange (T:=FA w3 1048576) (xs:=(rtT D T).flatten) (R:=[.blk git [.slice pr nt cr] 154]) (ev rfl rfl) Tryz.call144 (each_iterR hRQ) hS (HJ w3 g4) (fun _ _ _ => False) ⟨none,0,[],rfl,AllF.nil _ _⟩ (HA w3 g4) ?_ ?_ ?_ (fun _ _ _ _ _ _ h _ => h.elim)
 ·intro l m pre q v9 r9 Rf Rc W hpx hI hT9 hS
  obtain ⟨b,p,n,c,b2,q2,m2,d2,rfl,hx,hy,rfl⟩:=hT9
  refine rreg ?_
  refine rl rfl rfl (oAl [.bool false,.slice none 0 0,.bool false,.slice none 0 0] hS rfl rfl Tryz.zeroValue43 rfl ?_)
  clear hS; intro gX W2 hS
  refine rl rfl rfl (oSt _ _ Tryz.sizeOf43 hS 0 rfl rfl (ev rfl rfl) (ev rfl rfl) rfl rfl rfl rfl rfl rfl ?_)
  clear hS; intro W3 hS
  refine rnil (tNo ?_)
  exact ⟨_,_,rfl,⟨_,gX,b,p,n,c,b2,q2,m2,d2,Rc,rfl,rfl,hx,hy,rfl,hI⟩,Sep.front1 (R:=[_]) hS⟩
 ·intro l m pre q f9 Rf R9 W hpx hA hS
  obtain ⟨fa,gX,b,p,n,c,b2,q2,m2,d2,_,rfl,hfa,hx,hy,rfl,p3,c3,es,rfl,hAl⟩:=hA
  have hlen:pre.length + 1 ≤ (rtT D T).flatten.length:=by have:=hpx.length_le; simpa using this
  exact high_r rfl ⟨hfa,rfl,trivial⟩ hx hy hAl rfl (by omega) (HV.mid hS)
 rintro D9 Rc W ⟨p2,c2,es,rfl,hAl⟩ hS
 refine blkN (tNo ?_)
 rw [← hff]
 exact high_rest rfl ⟨rfl,trivial⟩ hAl (rtT_ne hD) rfl (by omega) hBl hS
open Go.RowKit
def htM (D:Int) (T:List (List Int)):Nat:=hgt (lows (rtT D T).flatten) T.flatten.length
theorem mdT_len (D:Int) (T:List (List Int)):(mdT D T).length = T.length:=List.length_map _
theorem mdT_flat {D:Int} {T:List (List Int)}:(mdT D T).flatten = T.flatten.map (mdX D T.flatten):=by unfold mdT; rw [List.map_flatten]
theorem mdT_fl (D:Int) (T:List (List Int)):(mdT D T).flatten.length = T.flatten.length:=by rw [mdT_flat,List.length_map]
theorem mdT_get {D:Int} {T:List (List Int)} {i:Nat} {L:List Int} (h:T[i]? = some L):(mdT D T)[i]? = some (L.map (mdX D T.flatten)):=by unfold mdT; rw [List.getElem?_map,h]; rfl
theorem mdT_rl (D:Int) (T:List (List Int)) (i:Nat):((mdT D T).getD i []).length = (T.getD i []).length:=by
  cases h:T[i]? with
  | none => simp [mdT,List.getD,h]
  | some L => simp [List.getD,h,mdT_get h]
theorem mdT_row {D:Int} {T:List (List Int)} {P:Nat → Prop} (h:∀ L ∈ T,P L.length):∀ L ∈ mdT D T,P L.length:=fun L hL => by
  obtain ⟨L0,h0,rfl⟩:=List.mem_map.1 hL
  rw [List.length_map]; exact h L0 h0
theorem mdT_rb {D:Int} {T:List (List Int)} {b:Nat} (h:∀ L ∈ T,L.length ≤ b):∀ L ∈ mdT D T,L.length ≤ b:=mdT_row (P:=(· ≤ b)) h
theorem mdT_rn {D:Int} {T:List (List Int)} {b:Nat} (h:∀ L ∈ T,L.length = b):∀ L ∈ mdT D T,L.length = b:=mdT_row (P:=(· = b)) h
theorem mdT_even {D:Int} {T:List (List Int)} (h:evenB T = true):evenB (mdT D T) = true:=evenB_of fun i L hL => by
  rw [mdT_rl]
  exact mdT_row (P:=fun k => k = (T.getD 0 []).length) (evenB_row h) L (List.mem_of_getElem? hL)
theorem mdT_wd {w:World} {p:Option Addr} {n K:Nat} {D:Int} {T:List (List Int)} (hT:TB w p n T K):TW' (mdT D T) K:=fun L hL z hz => by
  obtain ⟨L0,h0,rfl⟩:=List.mem_map.1 hL
  obtain ⟨x,hx,rfl⟩:=List.mem_map.1 hz
  obtain ⟨i,hi⟩:=List.mem_iff_getElem?.1 h0
  obtain ⟨_,_,_,_,_,_,hs⟩:=hT.2.2 i L0 hi
  obtain ⟨j,hj⟩:=List.mem_iff_getElem?.1 hx
  exact Wd.tdiv (hs.elWd hj) rfl
theorem mdD_wd {D:Int} {l:List Int} {K:Nat} (h:Wd D K):Wd (mdD D l) K:=Wd.tdiv h rfl
theorem mdD_ne {D:Int} {l:List Int} (h:D ≠ 0):mdD D l ≠ 0:=by have:=nD_pos (l:=l) h; omega
theorem htM_md {D:Int} {T:List (List Int)} (hD:D ≠ 0):htM (mdD D T.flatten) (mdT D T) = htM D T:=by unfold htM; rw [rtT_md hD,mdT_fl]
def fitM (D:Int) (T:List (List Int)):Int :=
  if chkM D T ≠ 0 then chkM D T else if T.length = 0 ∨ T.length ≠ (T.getD 0 []).length then 3 else if 4096 < htM D T ∨ 24 < T.length then 4 else 0
theorem Sep.zuc {w0 w:World} {R:List Res} {t:TypeId} {p pr:Option Addr} {n c cr i g:Nat} {T:List Zu} {Q:List Zw} (hS:Sep w0 R w) (k:Nat) (hk:R[k]? = some (.lst t 1 p n c (zuT T))) (hi:T[i]? = some ⟨pr,cr,Q⟩) (hp:p = some ⟨g,0,none⟩):w.cell? ⟨g,0 + i * 1,none⟩ = some (.slice pr Q.length cr):=by
  obtain ⟨g',h1,h2,_⟩:=lst_cell (show (Res.lst t 1 p n c (zuT T)).holds w from hS.get k hk) (show (zuT T)[i]? = some (zuE ⟨pr,cr,Q⟩) by simp [zuT,hi]) (by decide)
  rw [hp] at h1
  simp only [Option.some.injEq,Addr.mk.injEq,and_true] at h1
  subst h1
  have:=h2 0 _ rfl
  rwa [Nat.add_zero] at this
theorem zuv_get {T:List Zu} {i:Nat} {p:Option Addr} {c:Nat} {Q:List Zw} {TT:List (List Int)} (h:zuv T = TT) (hi:T[i]? = some ⟨p,c,Q⟩):TT[i]? = some (zsq Q):=by
  rw [← h]; unfold zuv; rw [List.getElem?_map,hi]; rfl
def ITt (D:Int) (n:Nat) (TT:List (List Int)) (e:Int):Tell:=fun v r => ∃ (pd:Option Addr) (nd' cd:Nat) (pp:Option Addr) (c:Nat) (T:List Zu),zuv T = TT ∧ v = .tuple #[.agg #[.bool (ng D),.slice pd nd' cd],.slice pp n c,.int .i64 e] ∧ r = [.row pd nd' cd (lim D.natAbs),.lst 32 1 pp n c (zuT T)]
theorem wbfitO {bd:Bool} {pd pt:Option Addr} {nd' cd nt ct:Nat} {D:Int} {T:List (List Int)} {w:World} (hd:Zr w bd pd nd' cd D 1048576) (hT:TB w pt nt T 1048576) (hD:D ≠ 0) (hev:evenB T = true) (hb:∀ L ∈ T,L.length ≤ 1048576) (hfl:T.flatten.length ≤ 1048576) (h0:nt ≠ 0) (hsq:nt = (T.getD 0 []).length) (hh:htM D T ≤ 4096) (h24:nt ≤ 24) :
  Calls Tryz.prog 57 #[.agg #[.bool bd,.slice pd nd' cd,.slice pt nt ct]] w (Ret (MAe (mdD D T.flatten) nt (mdT D T) 0) w):=by
 have hTl:=hT.1
 have hTb:=hT.2.1
 have hS:=Sep.init w
 refine went Tryz.func57 rfl (n:=47) rfl rfl ?_
 refine wsr (wl rfl (obox [.bool bd,.slice pd nd' cd,.slice pt nt ct] hS rfl rfl (ev rfl rfl) rfl ?_))
 clear hS; intro g1 w2 hS
 refine wl rfl (oAl [.bool false,.slice none 0 0,.slice none 0 0] hS rfl rfl Tryz.zeroValue31 rfl ?_)
 clear hS; intro g3 w4 hS
 refine wavc ?_
 refine wn2 (wl rfl (oLd ⟨Tryz.isAgg31,Tryz.sizeOf31⟩ hS 1 rfl rfl (ev rfl rfl) rfl rfl rfl ?_))
 refine wcl Tryz.call99 (wqnormM (hd.at hS) (hT.at hS) hD hev hb) (ar1 (ev rfl rfl)) hS ?_
 clear hS; rintro _ _ w5 ⟨pDm,nDm,cDm,pm,cm,Vm,hVm,rfl,rfl⟩ hS
 refine wmv rfl rfl ?_
 refine wl rfl (oEx rfl rfl (ev rfl rfl) rfl ?_)
 refine wl rfl (oEx rfl rfl (ev rfl rfl) rfl ?_)
 refine wl rfl (oSt _ _ Tryz.sizeOf31 hS 3 rfl rfl (ev rfl rfl) (ev rfl rfl) rfl rfl rfl rfl rfl rfl ?_)
 clear hS; intro w6 hS
 refine wav rfl rfl ?_
 refine wn1 (wSq (wsr (wmv rfl rfl ?_)))
 have hkDm:Wd ((mdD D T.flatten)) 1048576:=mdD_wd hd.wd
 obtain ⟨gm,hgm⟩:=hS.lstPtr 1 rfl (by omega)
 have hml:=hS.lstLen 1 rfl
 obtain ⟨⟨pr0,cr0,Q0⟩,hV0⟩:∃ r,Vm[0]? = some r:=⟨_,List.getElem?_eq_getElem (by rw [show (zuT Vm).length = Vm.length from List.length_map _] at hml; omega)⟩
 have hQ0:Q0.length = (T.getD 0 []).length:=by rw [← mdT_rl D, ← zsq_len,show (mdT D T).getD 0 [] = zsq Q0 by simp [List.getD,zuv_get hVm hV0]]
 refine wbc (u:=.int .i64 0) (v:=.int .i64 0) (z:=.bool false) rfl rfl (bNe (by decide)) ?_
 refine wn1 ?_
 refine wF (ev rfl rfl) ?_
 refine wSk (tNo (wSq (wSq ?_)))
 refine wSg 15 [16,17,18,19,20,21,22,23,24,25,26,27,28,29,30] [[],[0],[1,0],[2,0,1],[3,0,1,2],[4,0,1,2,3],[4,5,0,1,2,3],[4,6,0,1,2,3,5],[4,0,1,2,3],[4,8,0,1,2,3],[4,9,0,1,2,3,8],[4,10,0,1,2,3,8,9],[4,11,0,1,2,3,8,9,10],[4,7,12,0,1,2,3,5,6,8,9,10,11],[4,13,0,1,2,3,5,6,7,8,9,10,11,12]] [] [] [] (fun i9 => ([iSv (.pointer (some ⟨g1,2,none⟩)),iSv (.slice pm nt cm),iSv (.int .i64 (nt:Int)),iSv (.bool false),iSv (.bool false),iSv (.pointer (some ⟨g1,2,none⟩)),iSv (.slice pm nt cm),iSv (.int .i64 (nt:Int)),iSv (.pointer (some ⟨g1,2,none⟩)),iSv (.slice pm nt cm),iSv (.pointer (some ⟨gm,(0 + 0 * 1),none⟩)),iSv (.slice pr0 Q0.length cr0),iSv (.int .i64 (Q0.length:Int)),iSv (.bool false),iSv (.bool false)]:List (List Value → Tell)).getD i9 (fun _ _ _ => False)) hNi (fun d _ _ _ _ h => (by cases d <;> exact h)) (by kernel_rfl) (by kernel_rfl) (by kernel_rfl) hS ?_ ?_
 ·
  refine stH rfl (fun ho _=>?_) ?_
  ·exact inNo rfl (oFA (g:=g1) (off:=0) 2 rfl rfl (ev rfl (ho 1 rfl)) Tryz.runUnderlying31 rfl Tryz.sizeOf22 rfl (nSm rfl isI))
  refine stT rfl (fun hT hS=>?_) ?_
  ·obtain ⟨hv0,hr0⟩:=hT 0 16 rfl rfl
   obtain hS:=hS.flat1 hr0
   exact inNo rfl (oL1 ⟨Tryz.isAgg22,Tryz.sizeOf22⟩ hS 3 rfl rfl (ev rfl hv0) rfl rfl (nSm rfl isI))
  refine stT rfl (fun hT hS=>?_) ?_
  ·obtain ⟨hv1,hr1⟩:=hT 1 17 rfl rfl
   obtain hS:=hS.flat1 hr1
   exact inNo rfl (olen rfl rfl rfl Tryz.runUnderlying22 (p:=pm) (k:=nt) (m:=cm) (ev rfl hv1) (nSm rfl isI))
  refine stT rfl (fun hT hS=>?_) ?_
  ·obtain ⟨hv2,hr2⟩:=hT 2 18 rfl rfl
   obtain hS:=hS.flat1 hr2
   exact inNo rfl (obin rfl rfl (ev rfl hv2) evc (bEq (eqF (by omega))) (nSm rfl isI))
  refine stT rfl (fun hT hS=>?_) ?_
  ·obtain ⟨hv3,hr3⟩:=hT 3 19 rfl rfl
   obtain hS:=hS.flat1 hr3
   exact inNo rfl (omove rfl rfl (ev rfl hv3) (nSm rfl isI))
  refine stC rfl (fun _ _ _ _ _ ho hT hS _=>?_) ?_
  ·obtain ⟨hv4,hr4⟩:=hT 4 20 rfl rfl
   obtain hS:=hS.flat1 hr4
   exact .inl ⟨want_on (e:=20) rfl rfl rfl hv4,oFA (g:=g1) (off:=0) 2 rfl rfl (ev rfl (ho 1 rfl)) Tryz.runUnderlying31 rfl Tryz.sizeOf22 rfl ⟨_,_,rfl,isI,New.same _⟩⟩
  refine stT rfl (fun hT hS=>?_) ?_
  ·obtain ⟨hv4,hr4⟩:=hT 4 20 rfl rfl
   obtain ⟨hv5,hr5⟩:=hT 5 21 rfl rfl
   obtain hS:=hS.flat2 hr4 hr5
   exact .inl ⟨want_on (e:=20) rfl rfl rfl hv4,oL1 ⟨Tryz.isAgg22,Tryz.sizeOf22⟩ hS 3 rfl rfl (ev rfl hv5) rfl rfl ⟨_,_,rfl,isI,New.same _⟩⟩
  refine stT rfl (fun hT hS=>?_) ?_
  ·obtain ⟨hv4,hr4⟩:=hT 4 20 rfl rfl
   obtain ⟨hv6,hr6⟩:=hT 6 22 rfl rfl
   obtain hS:=hS.flat2 hr4 hr6
   exact .inl ⟨want_on (e:=20) rfl rfl rfl hv4,olen rfl rfl rfl Tryz.runUnderlying22 (p:=pm) (k:=nt) (m:=cm) (ev rfl hv6) ⟨_,_,rfl,isI,New.same _⟩⟩
  refine stC rfl (fun _ _ _ _ _ ho hT hS _=>?_) ?_
  ·obtain ⟨hv4,hr4⟩:=hT 4 20 rfl rfl
   obtain hS:=hS.flat1 hr4
   exact .inl ⟨want_on (e:=20) rfl rfl rfl hv4,oFA (g:=g1) (off:=0) 2 rfl rfl (ev rfl (ho 1 rfl)) Tryz.runUnderlying31 rfl Tryz.sizeOf22 rfl ⟨_,_,rfl,isI,New.same _⟩⟩
  refine stT rfl (fun hT hS=>?_) ?_
  ·obtain ⟨hv4,hr4⟩:=hT 4 20 rfl rfl
   obtain ⟨hv8,hr8⟩:=hT 8 24 rfl rfl
   obtain hS:=hS.flat2 hr4 hr8
   exact .inl ⟨want_on (e:=20) rfl rfl rfl hv4,oL1 ⟨Tryz.isAgg22,Tryz.sizeOf22⟩ hS 3 rfl rfl (ev rfl hv8) rfl rfl ⟨_,_,rfl,isI,New.same _⟩⟩
  refine stT rfl (fun hT hS=>?_) ?_
  ·obtain ⟨hv4,hr4⟩:=hT 4 20 rfl rfl
   obtain ⟨hv9,hr9⟩:=hT 9 25 rfl rfl
   obtain hS:=hS.flat2 hr4 hr9
   exact .inl ⟨want_on (e:=20) rfl rfl rfl hv4,oIx (p:=pm) (g:=gm) (off:=0) (m:=nt) (k:=0) (j:=(0 + 0 * 1)) rfl rfl Tryz.runUnderlying22 Tryz.sizeOf32 (ev rfl hv9) hgm evc (by omega) rfl ⟨_,_,rfl,isI,New.same _⟩⟩
  refine stT rfl (fun hT hS=>?_) ?_
  ·obtain ⟨hv4,hr4⟩:=hT 4 20 rfl rfl
   obtain ⟨hv10,hr10⟩:=hT 10 26 rfl rfl
   obtain hS:=hS.flat2 hr4 hr10
   exact .inl ⟨want_on (e:=20) rfl rfl rfl hv4,oLc ⟨Tryz.isAgg32,Tryz.sizeOf32⟩ rfl rfl (ev rfl hv10) (hS.zuc 1 rfl hV0 hgm) ⟨_,_,rfl,isI,New.same _⟩⟩
  refine stT rfl (fun hT hS=>?_) ?_
  ·obtain ⟨hv4,hr4⟩:=hT 4 20 rfl rfl
   obtain ⟨hv11,hr11⟩:=hT 11 27 rfl rfl
   obtain hS:=hS.flat2 hr4 hr11
   exact .inl ⟨want_on (e:=20) rfl rfl rfl hv4,olen rfl rfl rfl Tryz.runUnderlying32 (p:=pr0) (k:=Q0.length) (m:=cr0) (ev rfl hv11) ⟨_,_,rfl,isI,New.same _⟩⟩
  refine stT rfl (fun hT hS=>?_) ?_
  ·obtain ⟨hv4,hr4⟩:=hT 4 20 rfl rfl
   obtain ⟨hv7,hr7⟩:=hT 7 23 rfl rfl
   obtain ⟨hv12,hr12⟩:=hT 12 28 rfl rfl
   obtain hS:=hS.flat3 hr4 hr7 hr12
   exact .inl ⟨want_on (e:=20) rfl rfl rfl hv4,obin rfl rfl (ev rfl hv7) (ev rfl hv12) (bNe (neF (by omega))) ⟨_,_,rfl,isI,New.same _⟩⟩
  refine stT rfl (fun hT hS=>?_) ?_
  ·obtain ⟨hv4,hr4⟩:=hT 4 20 rfl rfl
   obtain ⟨hv13,hr13⟩:=hT 13 29 rfl rfl
   obtain hS:=hS.flat2 hr4 hr13
   exact inNo rfl (opick rfl rfl (ev rfl hv4) (ev rfl hv13) (nSm rfl isI))
  exact sNi
 intro vs ρ w7 f' hf hT hS
 obtain ⟨hv0,hr0⟩:=hT 0 (by decide)
 obtain ⟨hv1,hr1⟩:=hT 1 (by decide)
 obtain ⟨hv2,hr2⟩:=hT 2 (by decide)
 obtain ⟨hv3,hr3⟩:=hT 3 (by decide)
 obtain ⟨hv4,hr4⟩:=hT 4 (by decide)
 obtain ⟨hv5,hr5⟩:=hT 5 (by decide)
 obtain ⟨hv6,hr6⟩:=hT 6 (by decide)
 obtain ⟨hv7,hr7⟩:=hT 7 (by decide)
 obtain ⟨hv8,hr8⟩:=hT 8 (by decide)
 obtain ⟨hv9,hr9⟩:=hT 9 (by decide)
 obtain ⟨hv10,hr10⟩:=hT 10 (by decide)
 obtain ⟨hv11,hr11⟩:=hT 11 (by decide)
 obtain ⟨hv12,hr12⟩:=hT 12 (by decide)
 obtain ⟨hv13,hr13⟩:=hT 13 (by decide)
 obtain ⟨hv14,hr14⟩:=hT 14 (by decide)
 simp only [pool,if_true,hr0,hr1,hr2,hr3,hr4,hr5,hr6,hr7,hr8,hr9,hr10,hr11,hr12,hr13,hr14,List.nil_append,List.cons_append,List.append_nil] at hS
 simp only [layf,hv0,hv1,hv2,hv3,hv4,hv5,hv6,hv7,hv8,hv9,hv10,hv11,hv12,hv13,hv14] at hf
 subst hf; clear hT hv0 hv1 hv2 hv3 hv4 hv5 hv6 hv7 hv8 hv9 hv10 hv11 hv12 hv13 hv14 hr0 hr1 hr2 hr3 hr4 hr5 hr6 hr7 hr8 hr9 hr10 hr11 hr12 hr13 hr14
 refine wdone rfl ?_
 refine tNo ?_
 refine wF (ev rfl rfl) ?_
 refine wSk (tNo (wSq (wsr (wl rfl (oLd ⟨Tryz.isAgg31,Tryz.sizeOf31⟩ hS 3 rfl rfl (ev rfl rfl) rfl rfl rfl ?_)))))
 refine wcl Tryz.call100 ((show Calls _ _ _ _ (Ret (Is (.tuple #[.int .i64 ((htM D T:Nat):Int),.int .i64 0])) _) from by rw [← htM_md hD]; exact wqHeight ((hS.sl 0 rfl).zr hkDm) (hS.zutb 1 rfl hVm (mdT_wd hT) hTb (mdT_rb hb)).nb (mdD_ne hD) (mdT_even hev) (mdT_rb hb) (by rw [mdT_fl]; exact hfl))) (ar1 (ev rfl rfl)) hS ?_
 clear hS; rintro _ _ w8 ⟨rfl,rfl⟩ hS
 refine wmv rfl rfl ?_
 refine wl rfl (oEx rfl rfl (ev rfl rfl) rfl ?_)
 refine wl rfl (oEx rfl rfl (ev rfl rfl) rfl ?_)
 refine wav rfl rfl ?_
 refine wav rfl rfl ?_
 refine wn2 (wmv rfl rfl ?_)
 refine wbc rfl rfl (bin_gtr (decide_eq_false (by omega))) ?_
 refine wmv rfl rfl ?_
 refine wlOn (e:=39) rfl rfl rfl rfl (oFA (g:=g1) (off:=0) 2 rfl rfl (ev rfl rfl) Tryz.runUnderlying31 rfl Tryz.sizeOf22 rfl ?_)
 refine wlOn (e:=39) rfl rfl rfl rfl (oL1 ⟨Tryz.isAgg22,Tryz.sizeOf22⟩ hS 3 rfl rfl (ev rfl rfl) rfl rfl ?_)
 refine wlOn (e:=39) rfl rfl rfl rfl (olen rfl rfl rfl Tryz.runUnderlying22 (p:=pm) (k:=nt) (m:=cm) (ev rfl rfl) ?_)
 refine wlOn (e:=39) rfl rfl rfl rfl (obin rfl rfl (ev rfl rfl) evc (bin_gtr (decide_eq_false (by omega))) ?_)
 refine wl rfl (opick rfl rfl (ev rfl rfl) (ev rfl rfl) ?_)
 refine wn1 ?_
 refine wF (ev rfl rfl) ?_
 refine wSk (tNo (wsr (wl rfl (oLd ⟨Tryz.isAgg31,Tryz.sizeOf31⟩ hS 3 rfl rfl (ev rfl rfl) rfl rfl rfl ?_))))
 refine wl rfl (oSt _ _ Tryz.sizeOf31 hS 2 rfl rfl (ev rfl rfl) (ev rfl rfl) rfl rfl rfl rfl rfl rfl ?_)
 clear hS; intro w9 hS
 refine wavc ?_
 refine wn1 ?_
 refine wLv ?_
 refine wret2 Tryz.results57 (tellC (cs:=[.bool (ng ((mdD D T.flatten))),.slice pDm nDm cDm,.slice pm nt cm]) ⟨Tryz.isAgg31,Tryz.sizeOf31⟩ hS 2 rfl rfl rfl rfl) (tlT (v:=.int .i64 0) rfl rfl) ?_
 exact ⟨_,_,rfl,⟨_,_,_,_,_,Vm,hVm,rfl,rfl⟩,(hS.pick [0,1] (by decide) rfl).newA rfl⟩
theorem wbfit3 {bd:Bool} {pd pt:Option Addr} {nd' cd nt ct:Nat} {D:Int} {T:List (List Int)} {w:World} (hd:Zr w bd pd nd' cd D 1048576) (hT:TB w pt nt T 1048576) (hD:D ≠ 0) (hev:evenB T = true) (hb:∀ L ∈ T,L.length ≤ 1048576) (hfl:T.flatten.length ≤ 1048576) (h3:nt = 0 ∨ nt ≠ (T.getD 0 []).length) :
  Calls Tryz.prog 57 #[.agg #[.bool bd,.slice pd nd' cd,.slice pt nt ct]] w (Ret (Is (.tuple #[.agg #[.bool false,.slice none 0 0,.slice none 0 0],.int .i64 3])) w):=by
 have hTl:=hT.1
 have hTb:=hT.2.1
 have hS:=Sep.init w
 refine went Tryz.func57 rfl (n:=47) rfl rfl ?_
 refine wsr (wl rfl (obox [.bool bd,.slice pd nd' cd,.slice pt nt ct] hS rfl rfl (ev rfl rfl) rfl ?_))
 clear hS; intro g1 w2 hS
 refine wl rfl (oAl [.bool false,.slice none 0 0,.slice none 0 0] hS rfl rfl Tryz.zeroValue31 rfl ?_)
 clear hS; intro g3 w4 hS
 refine wavc ?_
 refine wn2 (wl rfl (oLd ⟨Tryz.isAgg31,Tryz.sizeOf31⟩ hS 1 rfl rfl (ev rfl rfl) rfl rfl rfl ?_))
 refine wcl Tryz.call99 (wqnormM (hd.at hS) (hT.at hS) hD hev hb) (ar1 (ev rfl rfl)) hS ?_
 clear hS; rintro _ _ w5 ⟨pDm,nDm,cDm,pm,cm,Vm,hVm,rfl,rfl⟩ hS
 refine wmv rfl rfl ?_
 refine wl rfl (oEx rfl rfl (ev rfl rfl) rfl ?_)
 refine wl rfl (oEx rfl rfl (ev rfl rfl) rfl ?_)
 refine wl rfl (oSt _ _ Tryz.sizeOf31 hS 3 rfl rfl (ev rfl rfl) (ev rfl rfl) rfl rfl rfl rfl rfl rfl ?_)
 clear hS; intro w6 hS
 refine wav rfl rfl ?_
 refine wn1 (wSq (wsr (wmv rfl rfl ?_)))
 have hkDm:Wd ((mdD D T.flatten)) 1048576:=mdD_wd hd.wd
 by_cases h0:nt = 0
 ·
  refine wbc (u:=.int .i64 0) (v:=.int .i64 0) (z:=.bool false) rfl rfl (bNe (by decide)) ?_
  refine wn1 ?_
  refine wF (ev rfl rfl) ?_
  refine wSk (tNo (wSq (wSq ?_)))
  refine wSg 15 [16,17,18,19,20,21,22,23,24,25,26,27,28,29,30] [[],[0],[1,0],[2,0,1],[3,0,1,2],[4,0,1,2,3],[4,5,0,1,2,3],[4,6,0,1,2,3,5],[4,0,1,2,3],[4,8,0,1,2,3],[4,9,0,1,2,3,8],[4,10,0,1,2,3,8,9],[4,11,0,1,2,3,8,9,10],[4,7,12,0,1,2,3,5,6,8,9,10,11],[4,13,0,1,2,3,5,6,7,8,9,10,11,12]] [] [] [] (fun i9 => ([iSv (.pointer (some ⟨g1,2,none⟩)),iSv (.slice pm nt cm),iSv (.int .i64 (nt:Int)),iSv (.bool true),iSv (.bool true),fun _ => Is undef,fun _ => Is undef,fun _ => Is undef,fun _ => Is undef,fun _ => Is undef,fun _ => Is undef,fun _ => Is undef,fun _ => Is undef,fun _ => Is undef,iSv (.bool true)]:List (List Value → Tell)).getD i9 (fun _ _ _ => False)) hNi (fun d _ _ _ _ h => (by cases d <;> exact h)) (by kernel_rfl) (by kernel_rfl) (by kernel_rfl) hS ?_ ?_
  ·
   refine stH rfl (fun ho _=>?_) ?_
   ·exact inNo rfl (oFA (g:=g1) (off:=0) 2 rfl rfl (ev rfl (ho 1 rfl)) Tryz.runUnderlying31 rfl Tryz.sizeOf22 rfl (nSm rfl isI))
   refine stT rfl (fun hT hS=>?_) ?_
   ·obtain ⟨hv0,hr0⟩:=hT 0 16 rfl rfl
    obtain hS:=hS.flat1 hr0
    exact inNo rfl (oL1 ⟨Tryz.isAgg22,Tryz.sizeOf22⟩ hS 3 rfl rfl (ev rfl hv0) rfl rfl (nSm rfl isI))
   refine stT rfl (fun hT hS=>?_) ?_
   ·obtain ⟨hv1,hr1⟩:=hT 1 17 rfl rfl
    obtain hS:=hS.flat1 hr1
    exact inNo rfl (olen rfl rfl rfl Tryz.runUnderlying22 (p:=pm) (k:=nt) (m:=cm) (ev rfl hv1) (nSm rfl isI))
   refine stT rfl (fun hT hS=>?_) ?_
   ·obtain ⟨hv2,hr2⟩:=hT 2 18 rfl rfl
    obtain hS:=hS.flat1 hr2
    exact inNo rfl (obin rfl rfl (ev rfl hv2) evc (bEq (eqT (by omega))) (nSm rfl isI))
   refine stT rfl (fun hT hS=>?_) ?_
   ·obtain ⟨hv3,hr3⟩:=hT 3 19 rfl rfl
    obtain hS:=hS.flat1 hr3
    exact inNo rfl (omove rfl rfl (ev rfl hv3) (nSm rfl isI))
   refine stT rfl (fun hT hS=>?_) ?_
   ·obtain ⟨hv4,hr4⟩:=hT 4 20 rfl rfl
    obtain hS:=hS.flat1 hr4
    exact .inr ⟨want_off (e:=20) (b':=true) rfl rfl rfl hv4 rfl,isI⟩
   refine stT rfl (fun hT hS=>?_) ?_
   ·obtain ⟨hv4,hr4⟩:=hT 4 20 rfl rfl
    obtain ⟨hv5,hr5⟩:=hT 5 21 rfl rfl
    obtain hS:=hS.flat2 hr4 hr5
    exact .inr ⟨want_off (e:=20) (b':=true) rfl rfl rfl hv4 rfl,isI⟩
   refine stT rfl (fun hT hS=>?_) ?_
   ·obtain ⟨hv4,hr4⟩:=hT 4 20 rfl rfl
    obtain ⟨hv6,hr6⟩:=hT 6 22 rfl rfl
    obtain hS:=hS.flat2 hr4 hr6
    exact .inr ⟨want_off (e:=20) (b':=true) rfl rfl rfl hv4 rfl,isI⟩
   refine stT rfl (fun hT hS=>?_) ?_
   ·obtain ⟨hv4,hr4⟩:=hT 4 20 rfl rfl
    obtain hS:=hS.flat1 hr4
    exact .inr ⟨want_off (e:=20) (b':=true) rfl rfl rfl hv4 rfl,isI⟩
   refine stT rfl (fun hT hS=>?_) ?_
   ·obtain ⟨hv4,hr4⟩:=hT 4 20 rfl rfl
    obtain ⟨hv8,hr8⟩:=hT 8 24 rfl rfl
    obtain hS:=hS.flat2 hr4 hr8
    exact .inr ⟨want_off (e:=20) (b':=true) rfl rfl rfl hv4 rfl,isI⟩
   refine stT rfl (fun hT hS=>?_) ?_
   ·obtain ⟨hv4,hr4⟩:=hT 4 20 rfl rfl
    obtain ⟨hv9,hr9⟩:=hT 9 25 rfl rfl
    obtain hS:=hS.flat2 hr4 hr9
    exact .inr ⟨want_off (e:=20) (b':=true) rfl rfl rfl hv4 rfl,isI⟩
   refine stT rfl (fun hT hS=>?_) ?_
   ·obtain ⟨hv4,hr4⟩:=hT 4 20 rfl rfl
    obtain ⟨hv10,hr10⟩:=hT 10 26 rfl rfl
    obtain hS:=hS.flat2 hr4 hr10
    exact .inr ⟨want_off (e:=20) (b':=true) rfl rfl rfl hv4 rfl,isI⟩
   refine stT rfl (fun hT hS=>?_) ?_
   ·obtain ⟨hv4,hr4⟩:=hT 4 20 rfl rfl
    obtain ⟨hv11,hr11⟩:=hT 11 27 rfl rfl
    obtain hS:=hS.flat2 hr4 hr11
    exact .inr ⟨want_off (e:=20) (b':=true) rfl rfl rfl hv4 rfl,isI⟩
   refine stT rfl (fun hT hS=>?_) ?_
   ·obtain ⟨hv4,hr4⟩:=hT 4 20 rfl rfl
    obtain ⟨hv7,hr7⟩:=hT 7 23 rfl rfl
    obtain ⟨hv12,hr12⟩:=hT 12 28 rfl rfl
    obtain hS:=hS.flat3 hr4 hr7 hr12
    exact .inr ⟨want_off (e:=20) (b':=true) rfl rfl rfl hv4 rfl,isI⟩
   refine stT rfl (fun hT hS=>?_) ?_
   ·obtain ⟨hv4,hr4⟩:=hT 4 20 rfl rfl
    obtain ⟨hv13,hr13⟩:=hT 13 29 rfl rfl
    obtain hS:=hS.flat2 hr4 hr13
    exact inNo rfl (opick rfl rfl (ev rfl hv4) evc (nSm rfl isI))
   exact sNi
  intro vs ρ w7 f' hf hT hS
  obtain ⟨hv0,hr0⟩:=hT 0 (by decide)
  obtain ⟨hv1,hr1⟩:=hT 1 (by decide)
  obtain ⟨hv2,hr2⟩:=hT 2 (by decide)
  obtain ⟨hv3,hr3⟩:=hT 3 (by decide)
  obtain ⟨hv4,hr4⟩:=hT 4 (by decide)
  obtain ⟨hv5,hr5⟩:=hT 5 (by decide)
  obtain ⟨hv6,hr6⟩:=hT 6 (by decide)
  obtain ⟨hv7,hr7⟩:=hT 7 (by decide)
  obtain ⟨hv8,hr8⟩:=hT 8 (by decide)
  obtain ⟨hv9,hr9⟩:=hT 9 (by decide)
  obtain ⟨hv10,hr10⟩:=hT 10 (by decide)
  obtain ⟨hv11,hr11⟩:=hT 11 (by decide)
  obtain ⟨hv12,hr12⟩:=hT 12 (by decide)
  obtain ⟨hv13,hr13⟩:=hT 13 (by decide)
  obtain ⟨hv14,hr14⟩:=hT 14 (by decide)
  simp only [pool,if_true,hr0,hr1,hr2,hr3,hr4,hr5,hr6,hr7,hr8,hr9,hr10,hr11,hr12,hr13,hr14,List.nil_append,List.cons_append,List.append_nil] at hS
  simp only [layf,hv0,hv1,hv2,hv3,hv4,hv5,hv6,hv7,hv8,hv9,hv10,hv11,hv12,hv13,hv14] at hf
  subst hf; clear hT hv0 hv1 hv2 hv3 hv4 hv5 hv6 hv7 hv8 hv9 hv10 hv11 hv12 hv13 hv14 hr0 hr1 hr2 hr3 hr4 hr5 hr6 hr7 hr8 hr9 hr10 hr11 hr12 hr13 hr14
  refine wdone rfl ?_
  refine tNo ?_
  refine wT (ev rfl rfl) ?_
  refine wsr (wl rfl (obuild (ps:=#[]) (v:=.agg #[.bool false,.slice none 0 0,.slice none 0 0]) rfl rfl (parts0) (fun w => by simp [go_sem,Instr.build,Instr.fill]) ?_))
  refine wl rfl (oSt _ _ Tryz.sizeOf31 hS 2 rfl rfl (ev rfl rfl) (ev rfl rfl) rfl rfl rfl rfl rfl rfl ?_)
  clear hS; intro w8 hS
  refine wavc ?_
  refine wn1 ?_
  refine wLv ?_
  refine thenR ?_
  refine wret2 Tryz.results57 (tellC (cs:=[.bool false,.slice none 0 0,.slice none 0 0]) ⟨Tryz.isAgg31,Tryz.sizeOf31⟩ hS 2 rfl rfl rfl rfl) (tlT (v:=.int .i64 3) rfl rfl) ?_
  exact ⟨_,_,rfl,isI,hS.new0⟩
 obtain ⟨gm,hgm⟩:=hS.lstPtr 1 rfl (by omega)
 have hml:=hS.lstLen 1 rfl
 obtain ⟨⟨pr0,cr0,Q0⟩,hV0⟩:∃ r,Vm[0]? = some r:=⟨_,List.getElem?_eq_getElem (by rw [show (zuT Vm).length = Vm.length from List.length_map _] at hml; omega)⟩
 have hQ0:Q0.length = (T.getD 0 []).length:=by rw [← mdT_rl D, ← zsq_len,show (mdT D T).getD 0 [] = zsq Q0 by simp [List.getD,zuv_get hVm hV0]]
 refine wbc (u:=.int .i64 0) (v:=.int .i64 0) (z:=.bool false) rfl rfl (bNe (by decide)) ?_
 refine wn1 ?_
 refine wF (ev rfl rfl) ?_
 refine wSk (tNo (wSq (wSq ?_)))
 refine wSg 15 [16,17,18,19,20,21,22,23,24,25,26,27,28,29,30] [[],[0],[1,0],[2,0,1],[3,0,1,2],[4,0,1,2,3],[4,5,0,1,2,3],[4,6,0,1,2,3,5],[4,0,1,2,3],[4,8,0,1,2,3],[4,9,0,1,2,3,8],[4,10,0,1,2,3,8,9],[4,11,0,1,2,3,8,9,10],[4,7,12,0,1,2,3,5,6,8,9,10,11],[4,13,0,1,2,3,5,6,7,8,9,10,11,12]] [] [] [] (fun i9 => ([iSv (.pointer (some ⟨g1,2,none⟩)),iSv (.slice pm nt cm),iSv (.int .i64 (nt:Int)),iSv (.bool false),iSv (.bool false),iSv (.pointer (some ⟨g1,2,none⟩)),iSv (.slice pm nt cm),iSv (.int .i64 (nt:Int)),iSv (.pointer (some ⟨g1,2,none⟩)),iSv (.slice pm nt cm),iSv (.pointer (some ⟨gm,(0 + 0 * 1),none⟩)),iSv (.slice pr0 Q0.length cr0),iSv (.int .i64 (Q0.length:Int)),iSv (.bool true),iSv (.bool true)]:List (List Value → Tell)).getD i9 (fun _ _ _ => False)) hNi (fun d _ _ _ _ h => (by cases d <;> exact h)) (by kernel_rfl) (by kernel_rfl) (by kernel_rfl) hS ?_ ?_
 ·
  refine stH rfl (fun ho _=>?_) ?_
  ·exact inNo rfl (oFA (g:=g1) (off:=0) 2 rfl rfl (ev rfl (ho 1 rfl)) Tryz.runUnderlying31 rfl Tryz.sizeOf22 rfl (nSm rfl isI))
  refine stT rfl (fun hT hS=>?_) ?_
  ·obtain ⟨hv0,hr0⟩:=hT 0 16 rfl rfl
   obtain hS:=hS.flat1 hr0
   exact inNo rfl (oL1 ⟨Tryz.isAgg22,Tryz.sizeOf22⟩ hS 3 rfl rfl (ev rfl hv0) rfl rfl (nSm rfl isI))
  refine stT rfl (fun hT hS=>?_) ?_
  ·obtain ⟨hv1,hr1⟩:=hT 1 17 rfl rfl
   obtain hS:=hS.flat1 hr1
   exact inNo rfl (olen rfl rfl rfl Tryz.runUnderlying22 (p:=pm) (k:=nt) (m:=cm) (ev rfl hv1) (nSm rfl isI))
  refine stT rfl (fun hT hS=>?_) ?_
  ·obtain ⟨hv2,hr2⟩:=hT 2 18 rfl rfl
   obtain hS:=hS.flat1 hr2
   exact inNo rfl (obin rfl rfl (ev rfl hv2) evc (bEq (eqF (by omega))) (nSm rfl isI))
  refine stT rfl (fun hT hS=>?_) ?_
  ·obtain ⟨hv3,hr3⟩:=hT 3 19 rfl rfl
   obtain hS:=hS.flat1 hr3
   exact inNo rfl (omove rfl rfl (ev rfl hv3) (nSm rfl isI))
  refine stC rfl (fun _ _ _ _ _ ho hT hS _=>?_) ?_
  ·obtain ⟨hv4,hr4⟩:=hT 4 20 rfl rfl
   obtain hS:=hS.flat1 hr4
   exact .inl ⟨want_on (e:=20) rfl rfl rfl hv4,oFA (g:=g1) (off:=0) 2 rfl rfl (ev rfl (ho 1 rfl)) Tryz.runUnderlying31 rfl Tryz.sizeOf22 rfl ⟨_,_,rfl,isI,New.same _⟩⟩
  refine stT rfl (fun hT hS=>?_) ?_
  ·obtain ⟨hv4,hr4⟩:=hT 4 20 rfl rfl
   obtain ⟨hv5,hr5⟩:=hT 5 21 rfl rfl
   obtain hS:=hS.flat2 hr4 hr5
   exact .inl ⟨want_on (e:=20) rfl rfl rfl hv4,oL1 ⟨Tryz.isAgg22,Tryz.sizeOf22⟩ hS 3 rfl rfl (ev rfl hv5) rfl rfl ⟨_,_,rfl,isI,New.same _⟩⟩
  refine stT rfl (fun hT hS=>?_) ?_
  ·obtain ⟨hv4,hr4⟩:=hT 4 20 rfl rfl
   obtain ⟨hv6,hr6⟩:=hT 6 22 rfl rfl
   obtain hS:=hS.flat2 hr4 hr6
   exact .inl ⟨want_on (e:=20) rfl rfl rfl hv4,olen rfl rfl rfl Tryz.runUnderlying22 (p:=pm) (k:=nt) (m:=cm) (ev rfl hv6) ⟨_,_,rfl,isI,New.same _⟩⟩
  refine stC rfl (fun _ _ _ _ _ ho hT hS _=>?_) ?_
  ·obtain ⟨hv4,hr4⟩:=hT 4 20 rfl rfl
   obtain hS:=hS.flat1 hr4
   exact .inl ⟨want_on (e:=20) rfl rfl rfl hv4,oFA (g:=g1) (off:=0) 2 rfl rfl (ev rfl (ho 1 rfl)) Tryz.runUnderlying31 rfl Tryz.sizeOf22 rfl ⟨_,_,rfl,isI,New.same _⟩⟩
  refine stT rfl (fun hT hS=>?_) ?_
  ·obtain ⟨hv4,hr4⟩:=hT 4 20 rfl rfl
   obtain ⟨hv8,hr8⟩:=hT 8 24 rfl rfl
   obtain hS:=hS.flat2 hr4 hr8
   exact .inl ⟨want_on (e:=20) rfl rfl rfl hv4,oL1 ⟨Tryz.isAgg22,Tryz.sizeOf22⟩ hS 3 rfl rfl (ev rfl hv8) rfl rfl ⟨_,_,rfl,isI,New.same _⟩⟩
  refine stT rfl (fun hT hS=>?_) ?_
  ·obtain ⟨hv4,hr4⟩:=hT 4 20 rfl rfl
   obtain ⟨hv9,hr9⟩:=hT 9 25 rfl rfl
   obtain hS:=hS.flat2 hr4 hr9
   exact .inl ⟨want_on (e:=20) rfl rfl rfl hv4,oIx (p:=pm) (g:=gm) (off:=0) (m:=nt) (k:=0) (j:=(0 + 0 * 1)) rfl rfl Tryz.runUnderlying22 Tryz.sizeOf32 (ev rfl hv9) hgm evc (by omega) rfl ⟨_,_,rfl,isI,New.same _⟩⟩
  refine stT rfl (fun hT hS=>?_) ?_
  ·obtain ⟨hv4,hr4⟩:=hT 4 20 rfl rfl
   obtain ⟨hv10,hr10⟩:=hT 10 26 rfl rfl
   obtain hS:=hS.flat2 hr4 hr10
   exact .inl ⟨want_on (e:=20) rfl rfl rfl hv4,oLc ⟨Tryz.isAgg32,Tryz.sizeOf32⟩ rfl rfl (ev rfl hv10) (hS.zuc 1 rfl hV0 hgm) ⟨_,_,rfl,isI,New.same _⟩⟩
  refine stT rfl (fun hT hS=>?_) ?_
  ·obtain ⟨hv4,hr4⟩:=hT 4 20 rfl rfl
   obtain ⟨hv11,hr11⟩:=hT 11 27 rfl rfl
   obtain hS:=hS.flat2 hr4 hr11
   exact .inl ⟨want_on (e:=20) rfl rfl rfl hv4,olen rfl rfl rfl Tryz.runUnderlying32 (p:=pr0) (k:=Q0.length) (m:=cr0) (ev rfl hv11) ⟨_,_,rfl,isI,New.same _⟩⟩
  refine stT rfl (fun hT hS=>?_) ?_
  ·obtain ⟨hv4,hr4⟩:=hT 4 20 rfl rfl
   obtain ⟨hv7,hr7⟩:=hT 7 23 rfl rfl
   obtain ⟨hv12,hr12⟩:=hT 12 28 rfl rfl
   obtain hS:=hS.flat3 hr4 hr7 hr12
   exact .inl ⟨want_on (e:=20) rfl rfl rfl hv4,obin rfl rfl (ev rfl hv7) (ev rfl hv12) (bNe (neT (by omega))) ⟨_,_,rfl,isI,New.same _⟩⟩
  refine stT rfl (fun hT hS=>?_) ?_
  ·obtain ⟨hv4,hr4⟩:=hT 4 20 rfl rfl
   obtain ⟨hv13,hr13⟩:=hT 13 29 rfl rfl
   obtain hS:=hS.flat2 hr4 hr13
   exact inNo rfl (opick rfl rfl (ev rfl hv4) (ev rfl hv13) (nSm rfl isI))
  exact sNi
 intro vs ρ w7 f' hf hT hS
 obtain ⟨hv0,hr0⟩:=hT 0 (by decide)
 obtain ⟨hv1,hr1⟩:=hT 1 (by decide)
 obtain ⟨hv2,hr2⟩:=hT 2 (by decide)
 obtain ⟨hv3,hr3⟩:=hT 3 (by decide)
 obtain ⟨hv4,hr4⟩:=hT 4 (by decide)
 obtain ⟨hv5,hr5⟩:=hT 5 (by decide)
 obtain ⟨hv6,hr6⟩:=hT 6 (by decide)
 obtain ⟨hv7,hr7⟩:=hT 7 (by decide)
 obtain ⟨hv8,hr8⟩:=hT 8 (by decide)
 obtain ⟨hv9,hr9⟩:=hT 9 (by decide)
 obtain ⟨hv10,hr10⟩:=hT 10 (by decide)
 obtain ⟨hv11,hr11⟩:=hT 11 (by decide)
 obtain ⟨hv12,hr12⟩:=hT 12 (by decide)
 obtain ⟨hv13,hr13⟩:=hT 13 (by decide)
 obtain ⟨hv14,hr14⟩:=hT 14 (by decide)
 simp only [pool,if_true,hr0,hr1,hr2,hr3,hr4,hr5,hr6,hr7,hr8,hr9,hr10,hr11,hr12,hr13,hr14,List.nil_append,List.cons_append,List.append_nil] at hS
 simp only [layf,hv0,hv1,hv2,hv3,hv4,hv5,hv6,hv7,hv8,hv9,hv10,hv11,hv12,hv13,hv14] at hf
 subst hf; clear hT hv0 hv1 hv2 hv3 hv4 hv5 hv6 hv7 hv8 hv9 hv10 hv11 hv12 hv13 hv14 hr0 hr1 hr2 hr3 hr4 hr5 hr6 hr7 hr8 hr9 hr10 hr11 hr12 hr13 hr14
 refine wdone rfl ?_
 refine tNo ?_
 refine wT (ev rfl rfl) ?_
 refine wsr (wl rfl (obuild (ps:=#[]) (v:=.agg #[.bool false,.slice none 0 0,.slice none 0 0]) rfl rfl (parts0) (fun w => by simp [go_sem,Instr.build,Instr.fill]) ?_))
 refine wl rfl (oSt _ _ Tryz.sizeOf31 hS 2 rfl rfl (ev rfl rfl) (ev rfl rfl) rfl rfl rfl rfl rfl rfl ?_)
 clear hS; intro w8 hS
 refine wavc ?_
 refine wn1 ?_
 refine wLv ?_
 refine thenR ?_
 refine wret2 Tryz.results57 (tellC (cs:=[.bool false,.slice none 0 0,.slice none 0 0]) ⟨Tryz.isAgg31,Tryz.sizeOf31⟩ hS 2 rfl rfl rfl rfl) (tlT (v:=.int .i64 3) rfl rfl) ?_
 exact ⟨_,_,rfl,isI,hS.new0⟩
theorem wbfit4 {bd:Bool} {pd pt:Option Addr} {nd' cd nt ct:Nat} {D:Int} {T:List (List Int)} {w:World} (hd:Zr w bd pd nd' cd D 1048576) (hT:TB w pt nt T 1048576) (hD:D ≠ 0) (hev:evenB T = true) (hb:∀ L ∈ T,L.length ≤ 1048576) (hfl:T.flatten.length ≤ 1048576) (h0:nt ≠ 0) (hsq:nt = (T.getD 0 []).length) (h4:4096 < htM D T ∨ 24 < nt) :
  Calls Tryz.prog 57 #[.agg #[.bool bd,.slice pd nd' cd,.slice pt nt ct]] w (Ret (Is (.tuple #[.agg #[.bool false,.slice none 0 0,.slice none 0 0],.int .i64 4])) w):=by
 have hTl:=hT.1
 have hTb:=hT.2.1
 have hS:=Sep.init w
 refine went Tryz.func57 rfl (n:=47) rfl rfl ?_
 refine wsr (wl rfl (obox [.bool bd,.slice pd nd' cd,.slice pt nt ct] hS rfl rfl (ev rfl rfl) rfl ?_))
 clear hS; intro g1 w2 hS
 refine wl rfl (oAl [.bool false,.slice none 0 0,.slice none 0 0] hS rfl rfl Tryz.zeroValue31 rfl ?_)
 clear hS; intro g3 w4 hS
 refine wavc ?_
 refine wn2 (wl rfl (oLd ⟨Tryz.isAgg31,Tryz.sizeOf31⟩ hS 1 rfl rfl (ev rfl rfl) rfl rfl rfl ?_))
 refine wcl Tryz.call99 (wqnormM (hd.at hS) (hT.at hS) hD hev hb) (ar1 (ev rfl rfl)) hS ?_
 clear hS; rintro _ _ w5 ⟨pDm,nDm,cDm,pm,cm,Vm,hVm,rfl,rfl⟩ hS
 refine wmv rfl rfl ?_
 refine wl rfl (oEx rfl rfl (ev rfl rfl) rfl ?_)
 refine wl rfl (oEx rfl rfl (ev rfl rfl) rfl ?_)
 refine wl rfl (oSt _ _ Tryz.sizeOf31 hS 3 rfl rfl (ev rfl rfl) (ev rfl rfl) rfl rfl rfl rfl rfl rfl ?_)
 clear hS; intro w6 hS
 refine wav rfl rfl ?_
 refine wn1 (wSq (wsr (wmv rfl rfl ?_)))
 have hkDm:Wd ((mdD D T.flatten)) 1048576:=mdD_wd hd.wd
 obtain ⟨gm,hgm⟩:=hS.lstPtr 1 rfl (by omega)
 have hml:=hS.lstLen 1 rfl
 obtain ⟨⟨pr0,cr0,Q0⟩,hV0⟩:∃ r,Vm[0]? = some r:=⟨_,List.getElem?_eq_getElem (by rw [show (zuT Vm).length = Vm.length from List.length_map _] at hml; omega)⟩
 have hQ0:Q0.length = (T.getD 0 []).length:=by rw [← mdT_rl D, ← zsq_len,show (mdT D T).getD 0 [] = zsq Q0 by simp [List.getD,zuv_get hVm hV0]]
 refine wbc (u:=.int .i64 0) (v:=.int .i64 0) (z:=.bool false) rfl rfl (bNe (by decide)) ?_
 refine wn1 ?_
 refine wF (ev rfl rfl) ?_
 refine wSk (tNo (wSq (wSq ?_)))
 refine wSg 15 [16,17,18,19,20,21,22,23,24,25,26,27,28,29,30] [[],[0],[1,0],[2,0,1],[3,0,1,2],[4,0,1,2,3],[4,5,0,1,2,3],[4,6,0,1,2,3,5],[4,0,1,2,3],[4,8,0,1,2,3],[4,9,0,1,2,3,8],[4,10,0,1,2,3,8,9],[4,11,0,1,2,3,8,9,10],[4,7,12,0,1,2,3,5,6,8,9,10,11],[4,13,0,1,2,3,5,6,7,8,9,10,11,12]] [] [] [] (fun i9 => ([iSv (.pointer (some ⟨g1,2,none⟩)),iSv (.slice pm nt cm),iSv (.int .i64 (nt:Int)),iSv (.bool false),iSv (.bool false),iSv (.pointer (some ⟨g1,2,none⟩)),iSv (.slice pm nt cm),iSv (.int .i64 (nt:Int)),iSv (.pointer (some ⟨g1,2,none⟩)),iSv (.slice pm nt cm),iSv (.pointer (some ⟨gm,(0 + 0 * 1),none⟩)),iSv (.slice pr0 Q0.length cr0),iSv (.int .i64 (Q0.length:Int)),iSv (.bool false),iSv (.bool false)]:List (List Value → Tell)).getD i9 (fun _ _ _ => False)) hNi (fun d _ _ _ _ h => (by cases d <;> exact h)) (by kernel_rfl) (by kernel_rfl) (by kernel_rfl) hS ?_ ?_
 ·
  refine stH rfl (fun ho _=>?_) ?_
  ·exact inNo rfl (oFA (g:=g1) (off:=0) 2 rfl rfl (ev rfl (ho 1 rfl)) Tryz.runUnderlying31 rfl Tryz.sizeOf22 rfl (nSm rfl isI))
  refine stT rfl (fun hT hS=>?_) ?_
  ·obtain ⟨hv0,hr0⟩:=hT 0 16 rfl rfl
   obtain hS:=hS.flat1 hr0
   exact inNo rfl (oL1 ⟨Tryz.isAgg22,Tryz.sizeOf22⟩ hS 3 rfl rfl (ev rfl hv0) rfl rfl (nSm rfl isI))
  refine stT rfl (fun hT hS=>?_) ?_
  ·obtain ⟨hv1,hr1⟩:=hT 1 17 rfl rfl
   obtain hS:=hS.flat1 hr1
   exact inNo rfl (olen rfl rfl rfl Tryz.runUnderlying22 (p:=pm) (k:=nt) (m:=cm) (ev rfl hv1) (nSm rfl isI))
  refine stT rfl (fun hT hS=>?_) ?_
  ·obtain ⟨hv2,hr2⟩:=hT 2 18 rfl rfl
   obtain hS:=hS.flat1 hr2
   exact inNo rfl (obin rfl rfl (ev rfl hv2) evc (bEq (eqF (by omega))) (nSm rfl isI))
  refine stT rfl (fun hT hS=>?_) ?_
  ·obtain ⟨hv3,hr3⟩:=hT 3 19 rfl rfl
   obtain hS:=hS.flat1 hr3
   exact inNo rfl (omove rfl rfl (ev rfl hv3) (nSm rfl isI))
  refine stC rfl (fun _ _ _ _ _ ho hT hS _=>?_) ?_
  ·obtain ⟨hv4,hr4⟩:=hT 4 20 rfl rfl
   obtain hS:=hS.flat1 hr4
   exact .inl ⟨want_on (e:=20) rfl rfl rfl hv4,oFA (g:=g1) (off:=0) 2 rfl rfl (ev rfl (ho 1 rfl)) Tryz.runUnderlying31 rfl Tryz.sizeOf22 rfl ⟨_,_,rfl,isI,New.same _⟩⟩
  refine stT rfl (fun hT hS=>?_) ?_
  ·obtain ⟨hv4,hr4⟩:=hT 4 20 rfl rfl
   obtain ⟨hv5,hr5⟩:=hT 5 21 rfl rfl
   obtain hS:=hS.flat2 hr4 hr5
   exact .inl ⟨want_on (e:=20) rfl rfl rfl hv4,oL1 ⟨Tryz.isAgg22,Tryz.sizeOf22⟩ hS 3 rfl rfl (ev rfl hv5) rfl rfl ⟨_,_,rfl,isI,New.same _⟩⟩
  refine stT rfl (fun hT hS=>?_) ?_
  ·obtain ⟨hv4,hr4⟩:=hT 4 20 rfl rfl
   obtain ⟨hv6,hr6⟩:=hT 6 22 rfl rfl
   obtain hS:=hS.flat2 hr4 hr6
   exact .inl ⟨want_on (e:=20) rfl rfl rfl hv4,olen rfl rfl rfl Tryz.runUnderlying22 (p:=pm) (k:=nt) (m:=cm) (ev rfl hv6) ⟨_,_,rfl,isI,New.same _⟩⟩
  refine stC rfl (fun _ _ _ _ _ ho hT hS _=>?_) ?_
  ·obtain ⟨hv4,hr4⟩:=hT 4 20 rfl rfl
   obtain hS:=hS.flat1 hr4
   exact .inl ⟨want_on (e:=20) rfl rfl rfl hv4,oFA (g:=g1) (off:=0) 2 rfl rfl (ev rfl (ho 1 rfl)) Tryz.runUnderlying31 rfl Tryz.sizeOf22 rfl ⟨_,_,rfl,isI,New.same _⟩⟩
  refine stT rfl (fun hT hS=>?_) ?_
  ·obtain ⟨hv4,hr4⟩:=hT 4 20 rfl rfl
   obtain ⟨hv8,hr8⟩:=hT 8 24 rfl rfl
   obtain hS:=hS.flat2 hr4 hr8
   exact .inl ⟨want_on (e:=20) rfl rfl rfl hv4,oL1 ⟨Tryz.isAgg22,Tryz.sizeOf22⟩ hS 3 rfl rfl (ev rfl hv8) rfl rfl ⟨_,_,rfl,isI,New.same _⟩⟩
  refine stT rfl (fun hT hS=>?_) ?_
  ·obtain ⟨hv4,hr4⟩:=hT 4 20 rfl rfl
   obtain ⟨hv9,hr9⟩:=hT 9 25 rfl rfl
   obtain hS:=hS.flat2 hr4 hr9
   exact .inl ⟨want_on (e:=20) rfl rfl rfl hv4,oIx (p:=pm) (g:=gm) (off:=0) (m:=nt) (k:=0) (j:=(0 + 0 * 1)) rfl rfl Tryz.runUnderlying22 Tryz.sizeOf32 (ev rfl hv9) hgm evc (by omega) rfl ⟨_,_,rfl,isI,New.same _⟩⟩
  refine stT rfl (fun hT hS=>?_) ?_
  ·obtain ⟨hv4,hr4⟩:=hT 4 20 rfl rfl
   obtain ⟨hv10,hr10⟩:=hT 10 26 rfl rfl
   obtain hS:=hS.flat2 hr4 hr10
   exact .inl ⟨want_on (e:=20) rfl rfl rfl hv4,oLc ⟨Tryz.isAgg32,Tryz.sizeOf32⟩ rfl rfl (ev rfl hv10) (hS.zuc 1 rfl hV0 hgm) ⟨_,_,rfl,isI,New.same _⟩⟩
  refine stT rfl (fun hT hS=>?_) ?_
  ·obtain ⟨hv4,hr4⟩:=hT 4 20 rfl rfl
   obtain ⟨hv11,hr11⟩:=hT 11 27 rfl rfl
   obtain hS:=hS.flat2 hr4 hr11
   exact .inl ⟨want_on (e:=20) rfl rfl rfl hv4,olen rfl rfl rfl Tryz.runUnderlying32 (p:=pr0) (k:=Q0.length) (m:=cr0) (ev rfl hv11) ⟨_,_,rfl,isI,New.same _⟩⟩
  refine stT rfl (fun hT hS=>?_) ?_
  ·obtain ⟨hv4,hr4⟩:=hT 4 20 rfl rfl
   obtain ⟨hv7,hr7⟩:=hT 7 23 rfl rfl
   obtain ⟨hv12,hr12⟩:=hT 12 28 rfl rfl
   obtain hS:=hS.flat3 hr4 hr7 hr12
   exact .inl ⟨want_on (e:=20) rfl rfl rfl hv4,obin rfl rfl (ev rfl hv7) (ev rfl hv12) (bNe (neF (by omega))) ⟨_,_,rfl,isI,New.same _⟩⟩
  refine stT rfl (fun hT hS=>?_) ?_
  ·obtain ⟨hv4,hr4⟩:=hT 4 20 rfl rfl
   obtain ⟨hv13,hr13⟩:=hT 13 29 rfl rfl
   obtain hS:=hS.flat2 hr4 hr13
   exact inNo rfl (opick rfl rfl (ev rfl hv4) (ev rfl hv13) (nSm rfl isI))
  exact sNi
 intro vs ρ w7 f' hf hT hS
 obtain ⟨hv0,hr0⟩:=hT 0 (by decide)
 obtain ⟨hv1,hr1⟩:=hT 1 (by decide)
 obtain ⟨hv2,hr2⟩:=hT 2 (by decide)
 obtain ⟨hv3,hr3⟩:=hT 3 (by decide)
 obtain ⟨hv4,hr4⟩:=hT 4 (by decide)
 obtain ⟨hv5,hr5⟩:=hT 5 (by decide)
 obtain ⟨hv6,hr6⟩:=hT 6 (by decide)
 obtain ⟨hv7,hr7⟩:=hT 7 (by decide)
 obtain ⟨hv8,hr8⟩:=hT 8 (by decide)
 obtain ⟨hv9,hr9⟩:=hT 9 (by decide)
 obtain ⟨hv10,hr10⟩:=hT 10 (by decide)
 obtain ⟨hv11,hr11⟩:=hT 11 (by decide)
 obtain ⟨hv12,hr12⟩:=hT 12 (by decide)
 obtain ⟨hv13,hr13⟩:=hT 13 (by decide)
 obtain ⟨hv14,hr14⟩:=hT 14 (by decide)
 simp only [pool,if_true,hr0,hr1,hr2,hr3,hr4,hr5,hr6,hr7,hr8,hr9,hr10,hr11,hr12,hr13,hr14,List.nil_append,List.cons_append,List.append_nil] at hS
 simp only [layf,hv0,hv1,hv2,hv3,hv4,hv5,hv6,hv7,hv8,hv9,hv10,hv11,hv12,hv13,hv14] at hf
 subst hf; clear hT hv0 hv1 hv2 hv3 hv4 hv5 hv6 hv7 hv8 hv9 hv10 hv11 hv12 hv13 hv14 hr0 hr1 hr2 hr3 hr4 hr5 hr6 hr7 hr8 hr9 hr10 hr11 hr12 hr13 hr14
 refine wdone rfl ?_
 refine tNo ?_
 refine wF (ev rfl rfl) ?_
 refine wSk (tNo (wSq (wsr (wl rfl (oLd ⟨Tryz.isAgg31,Tryz.sizeOf31⟩ hS 3 rfl rfl (ev rfl rfl) rfl rfl rfl ?_)))))
 refine wcl Tryz.call100 ((show Calls _ _ _ _ (Ret (Is (.tuple #[.int .i64 ((htM D T:Nat):Int),.int .i64 0])) _) from by rw [← htM_md hD]; exact wqHeight ((hS.sl 0 rfl).zr hkDm) (hS.zutb 1 rfl hVm (mdT_wd hT) hTb (mdT_rb hb)).nb (mdD_ne hD) (mdT_even hev) (mdT_rb hb) (by rw [mdT_fl]; exact hfl))) (ar1 (ev rfl rfl)) hS ?_
 clear hS; rintro _ _ w8 ⟨rfl,rfl⟩ hS
 refine wmv rfl rfl ?_
 refine wl rfl (oEx rfl rfl (ev rfl rfl) rfl ?_)
 refine wl rfl (oEx rfl rfl (ev rfl rfl) rfl ?_)
 refine wav rfl rfl ?_
 refine wav rfl rfl ?_
 refine wn2 (wmv rfl rfl ?_)
 by_cases hh:4096 < htM D T
 ·
  refine wbc rfl rfl (bin_gtr (decide_eq_true (by omega))) ?_
  refine wmv rfl rfl ?_
  refine wlOff (e:=39) (d:=40) (b':=true) rfl rfl rfl rfl rfl rfl ?_
  refine wlOff (e:=39) (d:=41) (b':=true) rfl rfl rfl rfl rfl rfl ?_
  refine wlOff (e:=39) (d:=42) (b':=true) rfl rfl rfl rfl rfl rfl ?_
  refine wlOff (e:=39) (d:=43) (b':=true) rfl rfl rfl rfl rfl rfl ?_
  refine wl rfl (opick rfl rfl (ev rfl rfl) evc ?_)
  refine wn1 ?_
  refine wT (ev rfl rfl) ?_
  refine wsr (wl rfl (obuild (ps:=#[]) (v:=.agg #[.bool false,.slice none 0 0,.slice none 0 0]) rfl rfl (parts0) (fun w => by simp [go_sem,Instr.build,Instr.fill]) ?_))
  refine wl rfl (oSt _ _ Tryz.sizeOf31 hS 2 rfl rfl (ev rfl rfl) (ev rfl rfl) rfl rfl rfl rfl rfl rfl ?_)
  clear hS; intro w9 hS
  refine wavc ?_
  refine wn1 ?_
  refine wLv ?_
  refine thenR ?_
  refine wret2 Tryz.results57 (tellC (cs:=[.bool false,.slice none 0 0,.slice none 0 0]) ⟨Tryz.isAgg31,Tryz.sizeOf31⟩ hS 2 rfl rfl rfl rfl) (tlT (v:=.int .i64 4) rfl rfl) ?_
  exact ⟨_,_,rfl,isI,hS.new0⟩
 refine wbc rfl rfl (bin_gtr (decide_eq_false (by omega))) ?_
 refine wmv rfl rfl ?_
 refine wlOn (e:=39) rfl rfl rfl rfl (oFA (g:=g1) (off:=0) 2 rfl rfl (ev rfl rfl) Tryz.runUnderlying31 rfl Tryz.sizeOf22 rfl ?_)
 refine wlOn (e:=39) rfl rfl rfl rfl (oL1 ⟨Tryz.isAgg22,Tryz.sizeOf22⟩ hS 3 rfl rfl (ev rfl rfl) rfl rfl ?_)
 refine wlOn (e:=39) rfl rfl rfl rfl (olen rfl rfl rfl Tryz.runUnderlying22 (p:=pm) (k:=nt) (m:=cm) (ev rfl rfl) ?_)
 refine wlOn (e:=39) rfl rfl rfl rfl (obin rfl rfl (ev rfl rfl) evc (bin_gtr (decide_eq_true (by omega))) ?_)
 refine wl rfl (opick rfl rfl (ev rfl rfl) (ev rfl rfl) ?_)
 refine wn1 ?_
 refine wT (ev rfl rfl) ?_
 refine wsr (wl rfl (obuild (ps:=#[]) (v:=.agg #[.bool false,.slice none 0 0,.slice none 0 0]) rfl rfl (parts0) (fun w => by simp [go_sem,Instr.build,Instr.fill]) ?_))
 refine wl rfl (oSt _ _ Tryz.sizeOf31 hS 2 rfl rfl (ev rfl rfl) (ev rfl rfl) rfl rfl rfl rfl rfl rfl ?_)
 clear hS; intro w9 hS
 refine wavc ?_
 refine wn1 ?_
 refine wLv ?_
 refine thenR ?_
 refine wret2 Tryz.results57 (tellC (cs:=[.bool false,.slice none 0 0,.slice none 0 0]) ⟨Tryz.isAgg31,Tryz.sizeOf31⟩ hS 2 rfl rfl rfl rfl) (tlT (v:=.int .i64 4) rfl rfl) ?_
 exact ⟨_,_,rfl,isI,hS.new0⟩
theorem wbfitN {bd:Bool} {pd pt:Option Addr} {nd' cd nt ct:Nat} {D:Int} {T:List (List Int)} {w:World} (hd:Zr w bd pd nd' cd D 1048576) (hT:TB w pt nt T 1048576) (he:chkM D T ≠ 0) :
  Calls Tryz.prog 57 #[.agg #[.bool bd,.slice pd nd' cd,.slice pt nt ct]] w (Ret (Is (.tuple #[.agg #[.bool false,.slice none 0 0,.slice none 0 0],.int .i64 (chkM D T)])) w):=by
 have hS:=Sep.init w
 refine went Tryz.func57 rfl (n:=47) rfl rfl ?_
 refine wsr (wl rfl (obox [.bool bd,.slice pd nd' cd,.slice pt nt ct] hS rfl rfl (ev rfl rfl) rfl ?_))
 clear hS; intro g1 w2 hS
 refine wl rfl (oAl [.bool false,.slice none 0 0,.slice none 0 0] hS rfl rfl Tryz.zeroValue31 rfl ?_)
 clear hS; intro g3 w4 hS
 refine wavc ?_
 refine wn2 (wl rfl (oLd ⟨Tryz.isAgg31,Tryz.sizeOf31⟩ hS 1 rfl rfl (ev rfl rfl) rfl rfl rfl ?_))
 refine wcl Tryz.call99 (wqnormE (hd.at hS) (hT.at hS) he) (ar1 (ev rfl rfl)) hS ?_
 clear hS; rintro _ _ w5 ⟨rfl,rfl⟩ hS
 refine wmv rfl rfl ?_
 refine wl rfl (oEx rfl rfl (ev rfl rfl) rfl ?_)
 refine wl rfl (oEx rfl rfl (ev rfl rfl) rfl ?_)
 refine wl rfl (oSt _ _ Tryz.sizeOf31 hS 1 rfl rfl (ev rfl rfl) (ev rfl rfl) rfl rfl rfl rfl rfl rfl ?_)
 clear hS; intro w6 hS
 refine wav rfl rfl ?_
 refine wn1 (wSq (wsr (wmv rfl rfl ?_)))
 refine wbc rfl rfl (bNe (neT he)) ?_
 refine wn1 ?_
 refine wT (ev rfl rfl) ?_
 refine wsr (wl rfl (obuild (ps:=#[]) (v:=.agg #[.bool false,.slice none 0 0,.slice none 0 0]) rfl rfl (parts0) (fun w => by simp [go_sem,Instr.build,Instr.fill]) ?_))
 refine wmv rfl rfl ?_
 refine wl rfl (oSt _ _ Tryz.sizeOf31 hS 0 rfl rfl (ev rfl rfl) (ev rfl rfl) rfl rfl rfl rfl rfl rfl ?_)
 clear hS; intro w7 hS
 refine wav rfl rfl ?_
 refine wn1 ?_
 refine wLv ?_
 refine thenR ?_
 refine wret2 Tryz.results57 (tellC (cs:=[.bool false,.slice none 0 0,.slice none 0 0]) ⟨Tryz.isAgg31,Tryz.sizeOf31⟩ hS 0 rfl rfl rfl rfl) (tlT (v:=.int .i64 ((chkM D T))) rfl rfl) ?_
 exact ⟨_,_,rfl,isI,hS.new0⟩
theorem wbfitE {bd:Bool} {pd pt:Option Addr} {nd' cd nt ct:Nat} {D:Int} {T:List (List Int)} {w:World} (hd:Zr w bd pd nd' cd D 1048576) (hT:TB w pt nt T 1048576) (hb:∀ L ∈ T,L.length ≤ 1048576) (hfl:T.flatten.length ≤ 1048576) (he:fitM D T ≠ 0) :
  Calls Tryz.prog 57 #[.agg #[.bool bd,.slice pd nd' cd,.slice pt nt ct]] w (Ret (Is (.tuple #[.agg #[.bool false,.slice none 0 0,.slice none 0 0],.int .i64 (fitM D T)])) w):=by
 have hTl:=hT.1
 by_cases h1:chkM D T = 0
 ·have hD:D ≠ 0:=fun h => by unfold chkM at h1; rw [if_pos h] at h1; omega
  have hev:evenB T = true:=by
   unfold chkM at h1; rw [if_neg hD] at h1
   cases h:evenB T with
   | true => rfl
   | false => rw [h] at h1; simp at h1
  by_cases h2:nt = 0 ∨ nt ≠ (T.getD 0 []).length
  ·have e:fitM D T = 3:=by unfold fitM; rw [if_neg (by omega),if_pos (by omega)]
   rw [e]; exact wbfit3 hd hT hD hev hb hfl h2
  by_cases h3:4096 < htM D T ∨ 24 < nt
  ·have e:fitM D T = 4:=by unfold fitM; rw [if_neg (by omega),if_neg (by omega),if_pos (by omega)]
   rw [e]; exact wbfit4 hd hT hD hev hb hfl (by omega) (by omega) h3
  exact absurd (by unfold fitM; rw [if_neg (by omega),if_neg (by omega),if_neg (by omega)]) he
 have e:fitM D T = chkM D T:=by unfold fitM; rw [if_pos h1]
 rw [e]; exact wbfitN hd hT h1
theorem wbintO {bd:Bool} {pd pt:Option Addr} {nd' cd nt ct:Nat} {D:Int} {T:List (List Int)} {w:World} (hd:Zr w bd pd nd' cd D 1048576) (hT:TB w pt nt T 1048576) (hD:D ≠ 0) (hev:evenB T = true) (hb:∀ L ∈ T,L.length ≤ 1048576) (hfl:T.flatten.length ≤ 1048576) (h0:nt ≠ 0) (hsq:nt = (T.getD 0 []).length) (hh:htM D T ≤ 4096) (h24:nt ≤ 24) :
  Calls Tryz.prog 18 #[.agg #[.bool bd,.slice pd nd' cd,.slice pt nt ct]] w (Ret (ITt (mdD D T.flatten) nt (mdT D T) 0) w):=by
 have hS:=Sep.init w
 refine went Tryz.func18 rfl (n:=19) rfl rfl ?_
 refine wsr (wl rfl (obox [.bool bd,.slice pd nd' cd,.slice pt nt ct] hS rfl rfl (ev rfl rfl) rfl ?_))
 clear hS; intro g1 w2 hS
 refine wl rfl (oAl [.bool false,.slice none 0 0] hS rfl rfl Tryz.zeroValue28 rfl ?_)
 clear hS; intro g3 w4 hS
 refine wavc ?_
 refine wavc ?_
 refine wn2 (wl rfl (oLd ⟨Tryz.isAgg31,Tryz.sizeOf31⟩ hS 1 rfl rfl (ev rfl rfl) rfl rfl rfl ?_))
 refine wcl Tryz.call57 (wbfitO (hd.at hS) (hT.at hS) hD hev hb hfl h0 hsq hh h24) (ar1 (ev rfl rfl)) hS ?_
 clear hS; rintro _ _ w5 ⟨pDm,nDm,cDm,pm,cm,Vm,hVm,rfl,rfl⟩ hS
 refine wmv rfl rfl ?_
 refine wl rfl (oEx rfl rfl (ev rfl rfl) rfl ?_)
 refine wl rfl (oEx rfl rfl (ev rfl rfl) rfl ?_)
 refine wl rfl (oSt _ _ Tryz.sizeOf31 hS 3 rfl rfl (ev rfl rfl) (ev rfl rfl) rfl rfl rfl rfl rfl rfl ?_)
 clear hS; intro w6 hS
 refine wav rfl rfl ?_
 refine wn1 (wSq (wsr (wmv rfl rfl ?_)))
 have hkDm:Wd ((mdD D T.flatten)) 1048576:=mdD_wd hd.wd
 refine wbc (u:=.int .i64 0) (v:=.int .i64 0) (z:=.bool false) rfl rfl (bNe (by decide)) ?_
 refine wn1 ?_
 refine wF (ev rfl rfl) ?_
 refine wSk (tNo (wSq ?_))
 refine wstageP 4 [15,16,17,18] [[],[0],[],[2]] [] [2,3] [(g1,[.bool (ng ((mdD D T.flatten))),.slice pDm nDm cDm,.slice pm nt cm],31)] (fun i9 => ([iSv (.pointer (some ⟨g1,0,none⟩)),iSv (.agg #[.bool (ng ((mdD D T.flatten))),.slice pDm nDm cDm]),iSv (.pointer (some ⟨g1,2,none⟩)),iSv (.slice pm nt cm)]:List (List Value → Tell)).getD i9 (fun _ _ _ => False)) ((heldCons (hS.blkAt 3 rfl) hNi)) (fun d _ _ _ _ h => (by cases d <;> exact h)) (by kernel_rfl) (by kernel_rfl) (by kernel_rfl) hS ?_ ?_
 ·
  refine stH rfl (fun ho _=>?_) ?_
  ·exact inNo rfl (oFA (g:=g1) (off:=0) 0 rfl rfl (ev rfl (ho 1 rfl)) Tryz.runUnderlying31 rfl Tryz.sizeOf28 rfl (nSm rfl isI))
  refine stT rfl (fun hT hS=>?_) ?_
  ·obtain ⟨hv0,hr0⟩:=hT 0 15 rfl rfl
   obtain hS:=hS.flat1 hr0
   exact inNo rfl (oLd aggZ hS 3 rfl rfl (ev rfl hv0) rfl rfl rfl (nSm rfl isI))
  refine stepsPure rfl ?_ ?_
  ·intro f' ρ ho hT
   exact ⟨_,.inl ⟨wNo rfl,fun w hw => yfieldAddr (i:=1) (g:=g1) (off:=0) 2 rfl (ev rfl (ho 1 rfl)) Tryz.runUnderlying31 rfl Tryz.sizeOf22 rfl w⟩,isI⟩
  refine stepsPure rfl ?_ ?_
  ·intro f' ρ ho hT
   obtain ⟨hv2,hr2⟩:=hT 2 17 rfl rfl
   exact ⟨_,.inl ⟨wNo rfl,fun w hw => yload1 (v:=.slice pm nt cm) ⟨Tryz.isAgg22,Tryz.sizeOf22⟩ rfl (ev rfl hv2) (hw.at 0 rfl) rfl⟩,isI⟩
  exact sNi
 intro vs ρ w7 f' hf hT hS
 obtain ⟨hv0,hr0⟩:=hT 0 (by decide)
 obtain ⟨hv1,hr1⟩:=hT 1 (by decide)
 obtain ⟨hv2,hr2⟩:=hT 2 (by decide)
 obtain ⟨hv3,hr3⟩:=hT 3 (by decide)
 simp only [pool,if_true,hr0,hr1,hr2,hr3,List.nil_append,List.cons_append,List.append_nil] at hS
 simp only [layf,hv0,hv1,hv2,hv3] at hf
 subst hf; clear hT hv0 hv1 hv2 hv3 hr0 hr1 hr2 hr3
 refine wLt 4 rfl (by kernel_rfl) (oSt _ _ Tryz.sizeOf28 hS 2 rfl rfl (ev rfl rfl) (ev rfl rfl) rfl rfl rfl rfl rfl rfl ?_)
 clear hS; intro w8 hS
 refine ⟨(heldCons (hS.blkAt 3 rfl) hNi),?_⟩
 refine wLt 5 rfl (by kernel_rfl) (oassign rfl rfl (ev rfl rfl) ?_)
 refine ⟨(heldCons (hS.blkAt 3 rfl) hNi),?_⟩
 refine wLt 6 rfl (by kernel_rfl) (oassign rfl rfl evc ?_)
 refine ⟨(heldCons (hS.blkAt 3 rfl) hNi),?_⟩
 refine wdone rfl ?_
 refine tNo ?_
 refine wLv ?_
 refine wret3 Tryz.results18 (tellC (cs:=[.bool (ng ((mdD D T.flatten))),.slice pDm nDm cDm]) aggZ hS 2 rfl rfl rfl rfl) (tlT (v:=.slice pm nt cm) rfl rfl) (tlT (v:=.int .i64 0) rfl rfl) ?_
 exact ⟨_,_,rfl,⟨_,_,_,_,_,Vm,hVm,rfl,rfl⟩,(hS.pick [0,1] (by decide) rfl).newA rfl⟩
theorem wbintE {bd:Bool} {pd pt:Option Addr} {nd' cd nt ct:Nat} {D:Int} {T:List (List Int)} {w:World} (hd:Zr w bd pd nd' cd D 1048576) (hT:TB w pt nt T 1048576) (hb:∀ L ∈ T,L.length ≤ 1048576) (hfl:T.flatten.length ≤ 1048576) (he:fitM D T ≠ 0) :
  Calls Tryz.prog 18 #[.agg #[.bool bd,.slice pd nd' cd,.slice pt nt ct]] w (Ret (Is (.tuple #[.agg #[.bool false,.slice none 0 0],.slice none 0 0,.int .i64 (fitM D T)])) w):=by
 have hS:=Sep.init w
 refine went Tryz.func18 rfl (n:=19) rfl rfl ?_
 refine wsr (wl rfl (obox [.bool bd,.slice pd nd' cd,.slice pt nt ct] hS rfl rfl (ev rfl rfl) rfl ?_))
 clear hS; intro g1 w2 hS
 refine wl rfl (oAl [.bool false,.slice none 0 0] hS rfl rfl Tryz.zeroValue28 rfl ?_)
 clear hS; intro g3 w4 hS
 refine wavc ?_
 refine wavc ?_
 refine wn2 (wl rfl (oLd ⟨Tryz.isAgg31,Tryz.sizeOf31⟩ hS 1 rfl rfl (ev rfl rfl) rfl rfl rfl ?_))
 refine wcl Tryz.call57 (wbfitE (hd.at hS) (hT.at hS) hb hfl he) (ar1 (ev rfl rfl)) hS ?_
 clear hS; rintro _ _ w5 ⟨rfl,rfl⟩ hS
 refine wmv rfl rfl ?_
 refine wl rfl (oEx rfl rfl (ev rfl rfl) rfl ?_)
 refine wl rfl (oEx rfl rfl (ev rfl rfl) rfl ?_)
 refine wl rfl (oSt _ _ Tryz.sizeOf31 hS 1 rfl rfl (ev rfl rfl) (ev rfl rfl) rfl rfl rfl rfl rfl rfl ?_)
 clear hS; intro w6 hS
 refine wav rfl rfl ?_
 refine wn1 (wSq (wsr (wmv rfl rfl ?_)))
 refine wbc rfl rfl (bNe (neT he)) ?_
 refine wn1 ?_
 refine wT (ev rfl rfl) ?_
 refine wsr (wl rfl (obuild (ps:=#[]) (v:=.agg #[.bool false,.slice none 0 0]) rfl rfl (parts0) (fun w => by simp [go_sem,Instr.build,Instr.fill]) ?_))
 refine wmv rfl rfl ?_
 refine wl rfl (oSt _ _ Tryz.sizeOf28 hS 0 rfl rfl (ev rfl rfl) (ev rfl rfl) rfl rfl rfl rfl rfl rfl ?_)
 clear hS; intro w7 hS
 refine wavc ?_
 refine wav rfl rfl ?_
 refine wn1 ?_
 refine wLv ?_
 refine thenR ?_
 refine wret3 Tryz.results18 (tellC (cs:=[.bool false,.slice none 0 0]) aggZ hS 0 rfl rfl rfl rfl) (tlT (v:=.slice none 0 0) rfl rfl) (tlT (v:=.int .i64 ((fitM D T))) rfl rfl) ?_
 exact ⟨_,_,rfl,isI,hS.new0⟩
theorem wbradE {bd:Bool} {pd pt:Option Addr} {nd' cd nt ct:Nat} {D:Int} {T:List (List Int)} {w:World} (hd:Zr w bd pd nd' cd D 1048576) (hT:TB w pt nt T 1048576) (hb:∀ L ∈ T,L.length ≤ 1048576) (hfl:T.flatten.length ≤ 1048576) (he:fitM D T ≠ 0) :
  Calls Tryz.prog 19 #[.agg #[.bool bd,.slice pd nd' cd,.slice pt nt ct]] w (Ret (Is (.tuple #[.agg #[.bool false,.slice none 0 0,.bool false,.slice none 0 0],.int .i64 (fitM D T)])) w):=by
 have hS:=Sep.init w
 refine went Tryz.func19 rfl (n:=46) rfl rfl ?_
 refine wsr (wl rfl (obox [.bool bd,.slice pd nd' cd,.slice pt nt ct] hS rfl rfl (ev rfl rfl) rfl ?_))
 clear hS; intro g1 w2 hS
 refine wl rfl (oAl [.bool false,.slice none 0 0,.bool false,.slice none 0 0] hS rfl rfl Tryz.zeroValue43 rfl ?_)
 clear hS; intro g3 w4 hS
 refine wavc ?_
 refine wn2 (wl rfl (oLd ⟨Tryz.isAgg31,Tryz.sizeOf31⟩ hS 1 rfl rfl (ev rfl rfl) rfl rfl rfl ?_))
 refine wcl Tryz.call57 (wbfitE (hd.at hS) (hT.at hS) hb hfl he) (ar1 (ev rfl rfl)) hS ?_
 clear hS; rintro _ _ w5 ⟨rfl,rfl⟩ hS
 refine wmv rfl rfl ?_
 refine wl rfl (oEx rfl rfl (ev rfl rfl) rfl ?_)
 refine wl rfl (oEx rfl rfl (ev rfl rfl) rfl ?_)
 refine wl rfl (oSt _ _ Tryz.sizeOf31 hS 1 rfl rfl (ev rfl rfl) (ev rfl rfl) rfl rfl rfl rfl rfl rfl ?_)
 clear hS; intro w6 hS
 refine wav rfl rfl ?_
 refine wn1 (wSq (wsr (wmv rfl rfl ?_)))
 refine wbc rfl rfl (bNe (neT he)) ?_
 refine wn1 ?_
 refine wT (ev rfl rfl) ?_
 refine wsr (wl rfl (obuild (ps:=#[]) (v:=.agg #[.bool false,.slice none 0 0,.bool false,.slice none 0 0]) rfl rfl (parts0) (fun w => by simp [go_sem,Instr.build,Instr.fill]) ?_))
 refine wmv rfl rfl ?_
 refine wl rfl (oSt _ _ Tryz.sizeOf43 hS 0 rfl rfl (ev rfl rfl) (ev rfl rfl) rfl rfl rfl rfl rfl rfl ?_)
 clear hS; intro w7 hS
 refine wav rfl rfl ?_
 refine wn1 ?_
 refine wLv ?_
 refine thenR ?_
 refine wret2 Tryz.results19 (tellC (cs:=[.bool false,.slice none 0 0,.bool false,.slice none 0 0]) aggR hS 0 rfl rfl rfl rfl) (tlT (v:=.int .i64 ((fitM D T))) rfl rfl) ?_
 exact ⟨_,_,rfl,isI,hS.new0⟩
theorem TBmono {w:World} {p:Option Addr} {n K K2:Nat} {T:List (List Int)} (h:TB w p n T K) (hK:K ≤ K2):TB w p n T K2:=by
  refine ⟨h.1,h.2.1,fun i L hL => ?_⟩
  obtain ⟨b,off,q,c,hp,hc,hs⟩:=h.2.2 i L hL
  refine ⟨b,off,q,c,hp,hc,hs.1,hs.2.1,fun j z hz => ?_⟩
  obtain ⟨g,o2,b2,q2,n2,k2,h1,h2,h3,h4⟩:=hs.2.2 j z hz
  exact ⟨g,o2,b2,q2,n2,k2,h1,h2,h3,h4.mono hK⟩
theorem abs_wdK {l:List Int} {K:Nat} (h:∀ z ∈ l,Wd z K):∀ i,i ≤ l.length → Wd (facc absA 0 l i) (K + i)
 | 0,_ => (Wd.zero K).mono (by omega)
 | i + 1,hi => by
  have h1:=abs_wdK h i (by omega)
  have hx:=List.getElem?_eq_getElem (show i < l.length by omega)
  rw [facc_succ hx]
  exact Wd.add h1 (Wd.nabs (h _ (List.mem_of_getElem? hx)) rfl) rfl (by omega)
theorem rs_wdK {T:List (List Int)} {K n:Nat} (hT:TW' T K) (hr:∀ L ∈ T,L.length = n) (h24:n ≤ 24):∀ i,Wd ((rsums T).getD i 0) (K + 24):=fun i => by
 unfold rsums
 rw [List.getD,List.getElem?_map]
 cases hx:T[i]? with
 | none => exact Wd.zero _
 | some L =>
  have h1:=hr L (List.mem_of_getElem? hx)
  exact (abs_wdK (hT L (List.mem_of_getElem? hx)) L.length (Nat.le_refl _)).mono (by omega)
def radM (D:Int) (T:List (List Int)):Int:=mxA (rsums (mdT D T)) T.length
theorem wbradO {bd:Bool} {pd pt:Option Addr} {nd' cd nt ct:Nat} {D:Int} {T:List (List Int)} {w:World} (hd:Zr w bd pd nd' cd D 1048576) (hT:TB w pt nt T 1048576) (hD:D ≠ 0) (hev:evenB T = true) (hb:∀ L ∈ T,L.length ≤ 1048576) (hfl:T.flatten.length ≤ 1048576) (h0:nt ≠ 0) (hsq:nt = (T.getD 0 []).length) (hh:htM D T ≤ 4096) (h24:nt ≤ 24) :
  Calls Tryz.prog 19 #[.agg #[.bool bd,.slice pd nd' cd,.slice pt nt ct]] w (Ret (RRt (RN (radM D T) (mdD D T.flatten)) (RD (radM D T) (mdD D T.flatten)) 0) w):=by
 have hTl:=hT.1
 have hTb:=hT.2.1
 have hrr:∀ L ∈ mdT D T,L.length = nt:=mdT_rn fun L hL => by rw [evenB_row hev L hL, ← hsq]
 have hWs:=rs_wdK (mdT_wd (D:=D) hT) hrr h24
 have hS:=Sep.init w
 refine went Tryz.func19 rfl (n:=46) rfl rfl ?_
 refine wsr (wl rfl (obox [.bool bd,.slice pd nd' cd,.slice pt nt ct] hS rfl rfl (ev rfl rfl) rfl ?_))
 clear hS; intro g1 w2 hS
 refine wl rfl (oAl [.bool false,.slice none 0 0,.bool false,.slice none 0 0] hS rfl rfl Tryz.zeroValue43 rfl ?_)
 clear hS; intro g3 w4 hS
 refine wavc ?_
 refine wn2 (wl rfl (oLd ⟨Tryz.isAgg31,Tryz.sizeOf31⟩ hS 1 rfl rfl (ev rfl rfl) rfl rfl rfl ?_))
 refine wcl Tryz.call57 (wbfitO (hd.at hS) (hT.at hS) hD hev hb hfl h0 hsq hh h24) (ar1 (ev rfl rfl)) hS ?_
 clear hS; rintro _ _ w5 ⟨pDm,nDm,cDm,pm,cm,Vm,hVm,rfl,rfl⟩ hS
 refine wmv rfl rfl ?_
 refine wl rfl (oEx rfl rfl (ev rfl rfl) rfl ?_)
 refine wl rfl (oEx rfl rfl (ev rfl rfl) rfl ?_)
 refine wl rfl (oSt _ _ Tryz.sizeOf31 hS 3 rfl rfl (ev rfl rfl) (ev rfl rfl) rfl rfl rfl rfl rfl rfl ?_)
 clear hS; intro w6 hS
 refine wav rfl rfl ?_
 refine wn1 (wSq (wsr (wmv rfl rfl ?_)))
 have hkDm:Wd ((mdD D T.flatten)) 1048576:=mdD_wd hd.wd
 refine wbc (u:=.int .i64 0) (v:=.int .i64 0) (z:=.bool false) rfl rfl (bNe (by decide)) ?_
 refine wn1 ?_
 refine wF (ev rfl rfl) ?_
 refine wSk (tNo (wsr (wl rfl (oFA (g:=g1) (off:=0) 2 rfl rfl (ev rfl rfl) Tryz.runUnderlying31 rfl Tryz.sizeOf22 rfl ?_))))
 refine wl rfl (oL1 ⟨Tryz.isAgg22,Tryz.sizeOf22⟩ hS 3 rfl rfl (ev rfl rfl) rfl rfl ?_)
 refine wcl Tryz.call32 (wbsums (TBmono (hS.zutb 1 rfl hVm (mdT_wd hT) hTb (mdT_rb hb)).nb (by decide)) hrr h0 h24) (ar1 (ev rfl rfl)) hS ?_
 clear hS; rintro _ _ w7 ⟨pC,cC,QC,hQC,rfl,rfl⟩ hS
 refine wmv rfl rfl ?_
 refine wl rfl (oEx rfl rfl (ev rfl rfl) rfl ?_)
 refine wl rfl (oEx rfl rfl (ev rfl rfl) rfl ?_)
 refine wav rfl rfl ?_
 refine wav rfl rfl ?_
 refine wn2 ?_
 have hk1:Wd 0 2:=Wd.i64 (by omega) (by omega)
 refine wcl Tryz.call33 (wzof (z:=0) (by omega) (by omega)) (ar1 evc) hS ?_
 clear hS; rintro _ _ w8 ⟨p1,n1,c1,rfl,rfl⟩ hS
 obtain ⟨z2,hz2⟩:∃ z:Int,Hid (((0:Int).natAbs:Int) = z):=⟨_,rfl⟩
 have hk2:Wd z2 2:=Wd.nabs hk1 hz2
 refine wcl Tryz.call36 ((show Calls _ _ _ _ (Ret (Zt z2) _) from by rw [← hz2.out]; exact wbsize (((hS.sl 0 rfl).zr hk1).mono (by omega)))) (ar1 (ev rfl rfl)) hS ?_
 clear hS; rintro _ _ w9 ⟨p2,n2,c2,rfl,rfl⟩ hS
 refine wl rfl (obuild (ps:=#[(0,.agg #[.bool (ng z2),.slice p2 n2 c2])]) (v:=.agg #[.bool (ng z2),.slice p2 n2 c2]) rfl rfl (parts1 (ev rfl rfl)) (fun w => by simp [go_sem,Instr.build,Instr.fill]) ?_)
 refine wl rfl (oAl [.bool false,.slice none 0 0] hS rfl rfl Tryz.zeroValue78 rfl ?_)
 clear hS; intro g10 w11 hS
 refine wl rfl (oSt _ _ Tryz.sizeOf78 hS 0 rfl rfl (ev rfl rfl) (ev rfl rfl) rfl rfl rfl rfl rfl rfl ?_)
 clear hS; intro w12 hS
 refine wn1 (wSq (wsr (wmv rfl rfl ?_)))
 refine wl rfl (olen rfl rfl rfl Tryz.runUnderlying32 (p:=pC) (k:=nt) (m:=cC) (ev rfl rfl) ?_)
 refine wmvc ?_
 refine wn1 (wBk ?_)
 obtain rfl:(0:Int) = z2:=hz2.out
 refine wLp (σ := Nat) (fun i a9 w' => ∃ (fb:Nat → Value) (pza:Option Addr) (nza:Nat) (cza:Nat),a9 = act 46 (sets fb [(1,.pointer (some ⟨g1,0,none⟩)),(2,.pointer (some ⟨g3,0,none⟩)),(3,.int .i64 0),(7,.pointer (some ⟨g10,0,none⟩)),(28,.slice pC nt cC),(29,.int .i64 (nt:Int)),(30,.int .i64 (i:Int))]) ∧ Sep w [.blk g10 [.bool (ng ((mxA (rsums (mdT D T)) i))),.slice pza nza cza] 78,.row pza nza cza (lim ((mxA (rsums (mdT D T)) i)).natAbs),.row p1 n1 c1 (lim (0:Int).natAbs),.lst 28 2 pC nt cC (zzE QC),.row pDm nDm cDm (lim ((mdD D T.flatten)).natAbs),.lst 32 1 pm nt cm (zuT Vm),.blk g3 [.bool false,.slice none 0 0,.bool false,.slice none 0 0] 43,.blk g1 [.bool (ng ((mdD D T.flatten))),.slice pDm nDm cDm,.slice pm nt cm] 31] w' ∧ (i ≤ nt) ∧ (Wd ((mxA (rsums (mdT D T)) i)) 1048600)) (fun i => nt - i) (0) ⟨_,_,_,_,aSs ⟨rfl,rfl,rfl,rfl,rfl,rfl,rfl,trivial⟩,hS,Nat.zero_le _,(hk2).mono (by omega)⟩ ?_
 clear hS; rintro i _ w13 ⟨fb,pza,nza,cza,rfl,hS,hi,hkza⟩
 refine wsr ?_
 by_cases hlt:i < nt
 ·
  refine wbt rfl rfl rfl rfl (bLs (decide_eq_true (by omega))) ?_
  refine wn1 (wSq ?_)
  refine wT (ev rfl rfl) ?_
  refine wk2 ?_
  have hCl2:QC.length = nt:=by rw [← zsq_len,hQC,rsums_len,mdT_len,hTl]
  obtain ⟨gC,hgC⟩:=hS.lstPtr 3 rfl (by omega)
  obtain ⟨⟨px,nx,cx,zx⟩,hqx⟩:∃ q,(QC)[i]? = some q:=⟨_,List.getElem?_eq_getElem (by omega)⟩
  have hzx:(zsq (QC)).getD i 0 = zx:=zsq_get hqx
  have hwx:Wd zx 1048600:=by rw [← hzx,hQC]; exact hWs i
  refine wl rfl (oIx (p:=pC) (g:=gC) (off:=0) (m:=nt) (k:=i) (j:=(0 + i * 2)) rfl rfl Tryz.runUnderlying32 Tryz.sizeOf28 (ev rfl rfl) hgC (ev rfl rfl) (by omega) rfl ?_)
  refine wl rfl (oloadA aggZ rfl rfl (ev (v:=.pointer (some ⟨gC,(0 + i * 2),none⟩)) rfl rfl) (hS.lstAtA 3 rfl hgC i (zzE_get hqx) (by decide) (by omega)) rfl ?_)
  refine wl rfl (oAl [.bool false,.slice none 0 0] hS rfl rfl Tryz.zeroValue28 rfl ?_)
  clear hS; intro g14 w15 hS
  refine wl rfl (oSt _ _ Tryz.sizeOf28 hS 0 rfl rfl (ev rfl rfl) (ev rfl rfl) rfl rfl rfl rfl rfl rfl ?_)
  clear hS; intro w16 hS
  refine wn1 (wreg (wl rfl (oLd aggZ hS 0 rfl rfl (ev rfl rfl) rfl rfl rfl ?_)))
  obtain ⟨z3,hz3⟩:∃ z:Int,Hid (((zx:Int).natAbs:Int) = z):=⟨_,rfl⟩
  have hk3:Wd z3 1048600:=Wd.nabs hwx hz3
  refine wcl Tryz.call36 ((show Calls _ _ _ _ (Ret (Zt z3) _) from by rw [← hz3.out]; exact wbsize ((hS.zwZr 4 rfl hqx hwx).mono (by omega)))) (ar1 (ev rfl rfl)) hS ?_
  clear hS; rintro _ _ w17 ⟨p3,n3,c3,rfl,rfl⟩ hS
  obtain hS:=(show Sep w [.blk g10 [.bool (ng ((mxA (rsums (mdT D T)) i))),.slice pza nza cza] 78,.row pza nza cza (lim ((mxA (rsums (mdT D T)) i)).natAbs),.row p3 n3 c3 (lim z3.natAbs),.blk g14 [.bool (ng zx),.slice px nx cx] 28,.row p1 n1 c1 (lim (0:Int).natAbs),.lst 28 2 pC nt cC (zzE QC),.row pDm nDm cDm (lim ((mdD D T.flatten)).natAbs),.lst 32 1 pm nt cm (zuT Vm),.blk g3 [.bool false,.slice none 0 0,.bool false,.slice none 0 0] 43,.blk g1 [.bool (ng ((mdD D T.flatten))),.slice pDm nDm cDm,.slice pm nt cm] 31] w17 from hS.pick [2,3,0,1,4,5,6,7,8,9] (by decide) rfl)
  refine wl rfl (oCl rfl rfl Tryz.call37 rfl (wbsee (hkza.mono (by omega)) (hk3.mono (by omega)) (m:=(mxA (rsums (mdT D T)) (i + 1))) (by rw [← hz3.out, ← hzx,hQC]; rfl) hS) (ar2 (ev rfl rfl) (ev rfl rfl)) ?_)
  rintro _ w18 ⟨_,_,rfl,⟨p4,n4,c4,rfl,rfl⟩,hN⟩
  refine ⟨_,rfl,?_⟩
  clear hS; have hS:=hN; clear hN
  refine wnil (blkN (tNo (wreg (wbc (z:=.int .i64 ((i + 1:Nat):Int)) rfl rfl (bAd (wI6 (by omega) (by omega))) ?_))))
  refine wmv rfl rfl ?_
  refine wn1 ?_
  exact ⟨(i + 1),⟨_,_,_,_,aSs ⟨rfl,rfl,rfl,rfl,rfl,rfl,rfl,trivial⟩,hS.pick [0,1,3,4,5,6,7,8] (by decide) rfl,by omega,mxA_wd hWs _⟩,by omega⟩
 refine wbt rfl rfl rfl rfl (bLs (decide_eq_false (by omega))) ?_
 refine wn1 (wSq ?_)
 refine wF (ev rfl rfl) ?_
 refine wEx ?_
 refine tEx ?_
 refine tEx ?_
 refine blkE ?_
 refine tNo (wsr (wl rfl (oFA (g:=g10) (off:=0) 0 rfl rfl (ev rfl rfl) Tryz.runUnderlying78 rfl Tryz.sizeOf75 rfl ?_)))
 refine wl rfl (oFA (g:=g10) (off:=0) 0 rfl rfl (ev rfl rfl) Tryz.runUnderlying75 rfl Tryz.sizeOf28 rfl ?_)
 refine wl rfl (oLd aggZ hS 0 rfl rfl (ev rfl rfl) rfl rfl rfl ?_)
 refine wl rfl (oFA (g:=g1) (off:=0) 0 rfl rfl (ev rfl rfl) Tryz.runUnderlying31 rfl Tryz.sizeOf28 rfl ?_)
 refine wl rfl (oLd aggZ hS 7 rfl rfl (ev rfl rfl) rfl rfl rfl ?_)
 have hin:i = nt:=by omega
 obtain ⟨z3,hz3⟩:∃ z:Int,Hid (RN ((mxA (rsums (mdT D T)) i)) ((mdD D T.flatten)) = z):=⟨_,rfl⟩
 have hk3:Wd z3 1048600:=Wd.rn hkza hz3
 obtain ⟨z4,hz4⟩:∃ z:Int,Hid (RD ((mxA (rsums (mdT D T)) i)) ((mdD D T.flatten)) = z):=⟨_,rfl⟩
 have hk4:Wd z4 1048576:=Wd.rd hkDm hz4
 refine wcl Tryz.call58 (wrmake (((hS.sl 1 rfl).zr hkza).mono (by omega)) (((hS.sl 4 rfl).zr hkDm).mono (by omega)) (mdD_ne hD) hz3 hz4) (ar2 (ev rfl rfl) (ev rfl rfl)) hS ?_
 clear hS; rintro _ _ w14 ⟨p3,n3,c3,p4,n4,c4,rfl,rfl⟩ hS
 refine wl rfl (oEx rfl rfl (ev rfl rfl) rfl ?_)
 refine wl rfl (oEx rfl rfl (ev rfl rfl) rfl ?_)
 refine wl rfl (oSt _ _ Tryz.sizeOf43 hS 8 rfl rfl (ev rfl rfl) (ev rfl rfl) rfl rfl rfl rfl rfl rfl ?_)
 clear hS; intro w15 hS
 refine wav rfl rfl ?_
 refine wn1 ?_
 refine wLv ?_
 refine wret2 Tryz.results19 (tellC (cs:=[.bool (ng z3),.slice p3 n3 c3,.bool (ng z4),.slice p4 n4 c4]) aggR hS 8 rfl rfl rfl rfl) (tlT (v:=.int .i64 0) rfl rfl) ?_
 have e1:RN (radM D T) (mdD D T.flatten) = z3:=by rw [← hz3.out,hin]; unfold radM; rw [hTl]
 have e2:RD (radM D T) (mdD D T.flatten) = z4:=by rw [← hz4.out,hin]; unfold radM; rw [hTl]
 rw [e1,e2]
 exact ⟨_,_,rfl,⟨_,_,_,_,_,_,rfl,rfl⟩,(hS.pick [0,1] (by decide) rfl).newA rfl⟩
end Go.Proofs.YtnlnibngpeempaaGreatDoor
