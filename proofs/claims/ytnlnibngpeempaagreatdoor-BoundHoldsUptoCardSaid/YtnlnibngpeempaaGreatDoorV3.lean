/-
  Contracts and lemmas, joined in one text.
-/
import Derived.Test.YtnlnibngpeempaaGreatDoorV2
import Derived.Test.YtnlnibngpeempaaGreatDoorH1
import Derived.Test.YtnlnibngpeempaaGreatDoorH2
set_option linter.unusedVariables false
set_option linter.unusedSimpArgs false
/-
  Lists of whole fractions: rules,simileref09.Norm.
-/
set_option maxRecDepth 100000
set_option maxHeartbeats 16000000
namespace Go.Proofs.YtnlnibngpeempaaGreatDoor
open Go.RowKit
def PQt (m:Nat) (zs:List Int):Tell:=fun v r => ∃ (pp:Option Addr) (c:Nat) (L:List Iq),izs L = zs ∧ v = .slice pp m c ∧ r = [.lst 43 4 pp m c (iqs L)]
section
variable {w0 w:World} {R:List Res} {t:TypeId} {p:Option Addr} {n c i j g K a:Nat} {L:List Iq} {e:Iq}
theorem back_get {L:List Iq} (hj:L[j]? = some e):(List.replicate a nilQ ++ iqs L)[a + j]? = some (iqE e):=by
  rw [List.getElem?_append_right (by simp),List.length_replicate,Nat.add_sub_cancel_left]; exact iqs_get hj
theorem back_set {L:List Iq}:(List.replicate (a + 1) nilQ ++ iqs L).set a (iqE e) = List.replicate a nilQ ++ iqs (e :: L):=by
  rw [List.replicate_succ',List.append_assoc,List.set_append_right _ _ (by simp),List.length_replicate,Nat.sub_self]; rfl
theorem Sep.lqz (hS:Sep w0 R w) (k:Nat) (hk:R[k]? = some (.lst t 4 p n c (List.replicate a Go.Proofs.YtnlnibngpeempaaGreatDoor.nilQ ++ iqs L))) (hj:L[j]? = some e) (hw:Wd e.z K):Zr w (ng e.z) e.p e.n e.c e.z K:=by
  obtain ⟨_,_,_,h3⟩:=lst_cell (hS.get k hk) (back_get hj) (by decide)
  have hf:Fr 0 w e.p e.n e.c (lim e.z.natAbs):=h3 _ List.mem_cons_self
  exact hf.sl.zr hw
theorem Sep.lq1 (hS:Sep w0 R w) (k:Nat) (hk:R[k]? = some (.lst t 4 p n c (List.replicate a Go.Proofs.YtnlnibngpeempaaGreatDoor.nilQ ++ iqs L))) (hj:L[j]? = some e):Zr w (ng 1) e.q e.m e.d 1 2:=by
  obtain ⟨_,_,_,h3⟩:=lst_cell (hS.get k hk) (back_get hj) (by decide)
  have hf:Fr 0 w e.q e.m e.d (lim (1:Int).natAbs):=h3 _ (List.mem_cons_of_mem _ List.mem_cons_self)
  exact hf.sl.zr wd1
end
section
variable {x u q:Int} {bA bB bC bD:Bool} {qA qB qC qD:Option Addr} {nA kA nB kB nC kC nD kD:Nat} {w:World}
theorem wiquo (hA:Zr w bA qA nA kA x 16777216) (hB:Zr w bB qB nB kB 1 16777216) (hC:Zr w bC qC nC kC u 16777216) (hD:Zr w bD qD nD kD 1 16777216) (he:x = u * q) (hu:u ≠ 0):Calls Tryz.prog 52 #[.agg #[.bool bA,.slice qA nA kA,.bool bB,.slice qB nB kB],.agg #[.bool bC,.slice qC nC kC,.bool bD,.slice qD nD kD]] w (Ret (Rrt q 1) w) :=
  wsquo hA hB hC hD (by omega) (by omega) hu (Lib.hid (by rw [RN_same (x':=q) (y':=1) (by omega) (by omega) (by rw [he]; grind),RN_one])) (Lib.hid (by rw [RD_same (x':=q) (y':=1) (by omega) (by omega) (by rw [he]; grind),RD_one]))
end
open Go.RowKit
def bb (n:Nat) (N:Nat → Nat → Int) (d:Nat → Int):Nat → Nat → Nat → Int
  | 0 => dl
  | m + 1 => fun i k => mm n N (bb n N d m) i k + dl i k * d (n - (m + 1))
structure LevC (n:Nat) (N:Nat → Nat → Int) (d:Nat → Int):Prop where
  top:d n = 1
  tr:∀ m,m < n → su n (fun i => mm n N (bb n N d m) i i) = -((m + 1:Nat):Int) * d (n - (m + 1))
  wN:∀ i k,i < n → k < n → Wd (N i k) 2097408
  wb:∀ m i k,m ≤ n → i < n → k < n → Wd (bb n N d m i k) 2097408
  wp:∀ m i k l,m < n → i < n → k < n → l ≤ n → Wd (su l fun j => N i j * bb n N d m j k) 2097408
  wt:∀ m i,m < n → i ≤ n → Wd (su i fun k => mm n N (bb n N d m) k k) 2097408
  wd:∀ i,i ≤ n → Wd (d i) 2097408
theorem LevC.ws {n:Nat} {N:Nat → Nat → Int} {d:Nat → Int} (h:LevC n N d) {j:Nat} (hj:j ≤ n) (i k:Nat):Wd (dl i k * d j) 2097408:=by
  unfold dl
  split
  · rw [show ((1:Nat):Int) * d j = d j by omega]; exact h.wd j hj
  rw [show ((0:Nat):Int) * d j = 0 by omega]; exact wd_smallV (by omega) (by omega)
def dls (d:Nat → Int) (s m:Nat):List Int:=(List.range' s m).map d
theorem dls_cons (d:Nat → Int) (s m:Nat):dls d s (m + 1) = d s :: dls d (s + 1) m:=by simp [dls,List.range'_succ]
theorem dls_get {d:Nat → Int} {s m i:Nat} (h:i < m):(dls d s m)[i]? = some (d (s + i)):=by
  unfold dls; rw [List.getElem?_map,List.getElem?_range' h]; simp
theorem dls_len (d:Nat → Int) (s m:Nat):(dls d s m).length = m:=by simp [dls]
theorem dl_wd (i k:Nat):Wd (dl i k) 2097408:=by unfold dl; split <;> exact wd_smallV (by omega) (by omega)
theorem back_one (a:Nat) (e:Iq):(List.replicate (a + 1) nilQ).set a (iqE e) = List.replicate a nilQ ++ iqs [e]:=by
  have h:=back_set (a:=a) (e:=e) (L:=[]); rwa [show iqs [] = [] from rfl,List.append_nil] at h
def LvT (n:Nat) (zs:List Int):Tell:=fun v r => ∃ (pp:Option Addr) (c:Nat) (L:List Iq) (bm:Bool) (p1:Option Addr) (n1 c1:Nat) (p2:Option Addr) (n2 c2:Nat),izs L = zs ∧ v = .tuple #[.slice pp n c,.agg #[.bool bm,.slice p1 n1 c1,.slice p2 n2 c2]] ∧ r = [.lst 43 4 pp n c (iqs L)]
theorem Wd.neg1 {x:Int} {K:Nat} (h:Wd x K):Wd (x * -1) K:=by unfold Wd at *; rwa [Int.mul_neg,Int.mul_one,Int.natAbs_neg]
theorem wplev {n:Nat} {N:Nat → Nat → Int} {d:Nat → Int} {w:World} {bd:Bool} {pd pt:Option Addr} {nd cd ct:Nat} (hd:Zr w bd pd nd cd 1 2) (hM1:TB w pt n (tbl n n N) 2097408) (h0:n ≠ 0) (hn:n ≤ 1000) (hL:LevC n N d) :
  Calls Tryz.prog 43 #[.agg #[.bool bd,.slice pd nd cd,.slice pt n ct]] w (Ret (LvT (n + 1) (dls d 0 (n + 1))) w):=by
 have hS:=Sep.init w
 refine went Tryz.func43 rfl (n:=60) rfl rfl ?_
 refine wsr (wl rfl (obox [.bool bd,.slice pd nd cd,.slice pt n ct] hS rfl rfl (ev rfl rfl) rfl ?_))
 clear hS; intro g1 w2 hS
 refine wavc ?_
 refine wl rfl (oAl [.bool false,.slice none 0 0,.slice none 0 0] hS rfl rfl Tryz.zeroValue31 rfl ?_)
 clear hS; intro g3 w4 hS
 refine wn2 (wl rfl (oFA (g:=g1) (off:=0) 2 rfl rfl (ev rfl rfl) Tryz.runUnderlying31 rfl Tryz.sizeOf22 rfl ?_))
 refine wl rfl (oL1 ⟨Tryz.isAgg22,Tryz.sizeOf22⟩ hS 1 rfl rfl (ev rfl rfl) rfl rfl ?_)
 refine wl rfl (olen rfl rfl rfl Tryz.runUnderlying22 (p:=pt) (k:=n) (m:=ct) (ev rfl rfl) ?_)
 refine wav rfl rfl ?_
 refine wn2 (wmv rfl rfl ?_)
 have hkDi:Wd 1 2:=wd1
 refine wcl Tryz.call86 (wtIdentity h0 (by omega)) (ar1 (ev rfl rfl)) hS ?_
 clear hS; rintro _ _ w5 ⟨pDi,nDi,cDi,pSi,cSi,rsi,rfl,rfl,hMi⟩ hS
 refine wl rfl (oAl [.bool false,.slice none 0 0,.slice none 0 0] hS rfl rfl Tryz.zeroValue31 rfl ?_)
 clear hS; intro g6 w7 hS
 refine wl rfl (oSt _ _ Tryz.sizeOf31 hS 0 rfl rfl (ev rfl rfl) (ev rfl rfl) rfl rfl rfl rfl rfl rfl ?_)
 clear hS; intro w8 hS
 refine wn2 (wmv rfl rfl ?_)
 refine wbc (z:=.int .i64 ((n + 1:Nat):Int)) rfl rfl (bAd (wI6 (by omega) (by omega))) ?_
 refine wl rfl (omakeL (zs:=[.bool false,.slice none 0 0,.bool false,.slice none 0 0]) (k:=n + 1) (m:=n + 1) hS rfl rfl Tryz.underlying40 infoRat rfl rfl (by decide) rfl (ev rfl rfl) (ev rfl rfl) (by omega) (by omega) (by omega) ?_)
 clear hS; intro g9 w10 hS
 refine wav rfl rfl ?_
 refine wn1 (wSq ?_)
 rw [show List.replicate (n + 1) (⟨[.bool false,.slice none 0 0,.bool false,.slice none 0 0],[]⟩:El) = List.replicate (n + 1) nilQ from rfl] at hS
 refine wreg (wmv rfl rfl ?_)
 refine wmv rfl rfl ?_
 obtain ⟨z1,hz1⟩:∃ z:Int,Hid (1 = z):=⟨_,rfl⟩
 have hk1:Wd z1 2:=by rw [← hz1.out]; exact Wd.i64 (by omega) (by omega)
 have hk2:Wd 1 2:=wd1
 refine wcl Tryz.call48 ((show Calls _ _ _ _ (Ret (Rrt z1 1) _) from by rw [← hz1.out]; exact wsof (by omega) (by omega))) (ar1 evc) hS ?_
 clear hS; rintro _ _ w11 ⟨p1,n1,c1,p2,n2,c2,rfl,rfl⟩ hS
 refine wl rfl (oIx (p:=(some ⟨g9,0,none⟩)) (g:=g9) (off:=0) (m:=n + 1) (k:=n) (j:=(0 + n * 4)) rfl rfl Tryz.runUnderlying40 Tryz.sizeOf43 (ev rfl rfl) (rfl) (ev rfl rfl) (by omega) rfl ?_)
 refine wl rfl (ostoreL (i:=n) (g:=g9) [.bool (ng z1),.slice p1 n1 c1,.bool (ng 1),.slice p2 n2 c2] [.rowm p1 n1 c1 (lim z1.natAbs),.rowm p2 n2 c2 (lim (1:Int).natAbs)] Tryz.sizeOf43 hS rfl rfl (ev rfl rfl) (ev rfl rfl) (rfl) rfl rfl rfl rfl (by omega) rfl ?_)
 clear hS; intro w12 hS
 refine wn1 (wSq ?_)
 rw [show (⟨[.bool (ng z1),.slice p1 n1 c1,.bool (ng 1),.slice p2 n2 c2],[.rowm p1 n1 c1 (lim z1.natAbs),.rowm p2 n2 c2 (lim (1:Int).natAbs)]⟩:El) = iqE ⟨p1,n1,c1,p2,n2,c2,z1⟩ from rfl,back_one] at hS
 have hn0:List.replicate n nilQ = List.replicate (n - 0) nilQ:=rfl
 replace hS:=hS.dupRow2 2 rfl
 replace hS:=hS.dupRow2 3 rfl
 replace hS:=Sep.pack [] rfl hS
 replace hS:=Sep.pack [] rfl hS
 refine wreg (wl rfl (oLd ⟨Tryz.isAgg31,Tryz.sizeOf31⟩ hS 5 rfl rfl (ev rfl rfl) rfl rfl rfl ?_))
 refine wl rfl (oAl [.bool false,.slice none 0 0,.slice none 0 0] hS rfl rfl Tryz.zeroValue31 rfl ?_)
 clear hS; intro g7 w13 hS
 refine wl rfl (oSt _ _ Tryz.sizeOf31 hS 0 rfl rfl (ev rfl rfl) (ev rfl rfl) rfl rfl rfl rfl rfl rfl ?_)
 clear hS; intro w14 hS
 refine wn2 (wl rfl (oLd ⟨Tryz.isAgg31,Tryz.sizeOf31⟩ hS 6 rfl rfl (ev rfl rfl) rfl rfl rfl ?_))
 refine wl rfl (oAl [.bool false,.slice none 0 0,.slice none 0 0] hS rfl rfl Tryz.zeroValue31 rfl ?_)
 clear hS; intro g8 w15 hS
 refine wl rfl (oSt _ _ Tryz.sizeOf31 hS 0 rfl rfl (ev rfl rfl) (ev rfl rfl) rfl rfl rfl rfl rfl rfl ?_)
 clear hS; intro w16 hS
 refine wn1 (wSq (wsr (wavc ?_)))
 refine wn1 (wBk ?_)
 have hkDb:Wd 1 2:=wd1
 have hkDl:Wd 1 2:=wd1
 refine wLp (σ := Nat) (fun m a9 w' => ∃ (fb:Nat → Value) (L:List Iq) (pDb:Option Addr) (nDb:Nat) (cDb:Nat) (pSb:Option Addr) (cSb:Nat) (rsb:List Res) (pDl:Option Addr) (nDl:Nat) (cDl:Nat) (pSl:Option Addr) (cSl:Nat) (rsl:List Res),a9 = act 60 (sets fb [(1,.pointer (some ⟨g1,0,none⟩)),(2,.slice none 0 0),(3,.pointer (some ⟨g3,0,none⟩)),(4,.int .i64 (n:Int)),(5,.pointer (some ⟨g6,0,none⟩)),(6,.slice (some ⟨g9,0,none⟩) (n + 1) (n + 1)),(7,.pointer (some ⟨g7,0,none⟩)),(8,.pointer (some ⟨g8,0,none⟩)),(9,.int .i64 ((((m + 1):Nat):Int)))]) ∧ Sep w [.blk g8 [.bool (ng 1),.slice pDl nDl cDl,.slice pSl n cSl] 31,.blk g7 [.bool (ng 1),.slice pDb nDb cDb,.slice pSb n cSb] 31,.pack rsb,.pack rsl,.row pDb nDb cDb (lim (1:Int).natAbs),.row pDl nDl cDl (lim (1:Int).natAbs),.lst 43 4 (some ⟨g9,0,none⟩) (n + 1) (n + 1) (List.replicate (n - m) nilQ ++ iqs L),.blk g6 [.bool (ng 1),.slice pDi nDi cDi,.slice pSi n cSi] 31,.row pDi nDi cDi (lim (1:Int).natAbs),.pack rsi,.blk g3 [.bool false,.slice none 0 0,.slice none 0 0] 31,.blk g1 [.bool bd,.slice pd nd cd,.slice pt n ct] 31] w' ∧ (m ≤ n) ∧ (izs L = dls d (n - m) (m + 1)) ∧ (∀ w,(Res.pack rsi).holds w → (Res.pack rsb).holds w → TB w pSb n (tbl n n (bb n N d m)) 2097408) ∧ (∀ w,(Res.pack rsi).holds w → (Res.pack rsl).holds w → TB w pSl n (tbl n n (bb n N d (m - 1))) 2097408)) (fun m => n - m) (0) ⟨_,[⟨p1,n1,c1,p2,n2,c2,z1⟩],pDi,nDi,cDi,pSi,cSi,[],pDi,nDi,cDi,pSi,cSi,[],aSs ⟨rfl,rfl,rfl,rfl,rfl,rfl,rfl,rfl,rfl,trivial⟩,hS,Nat.zero_le _,by show [z1] = [d n]; rw [← hz1.out,hL.top],fun w h _ => hMi w h,fun w h _ => hMi w h⟩ ?_
 clear hS; rintro m _ w17 ⟨fb,L,pDb,nDb,cDb,pSb,cSb,rsb,pDl,nDl,cDl,pSl,cSl,rsl,rfl,hS,hm,hLd,hMb,hMl⟩
 refine wSq (wSq ?_)
 by_cases hlm:m < n
 ·
  refine wreg (wmv rfl rfl ?_)
  refine wmv rfl rfl ?_
  refine wbt rfl rfl rfl rfl (bin_leq (decide_eq_true (by omega))) ?_
  refine wn1 ?_
  refine wT (ev rfl rfl) ?_
  refine wk2 (wl rfl (oLd ⟨Tryz.isAgg31,Tryz.sizeOf31⟩ hS 1 rfl rfl (ev rfl rfl) rfl rfl rfl ?_))
  refine wl rfl (oSt _ _ Tryz.sizeOf31 hS 0 rfl rfl (ev rfl rfl) (ev rfl rfl) rfl rfl rfl rfl rfl rfl ?_)
  clear hS; intro w18 hS
  refine wn2 (wl rfl (oLd ⟨Tryz.isAgg31,Tryz.sizeOf31⟩ hS 11 rfl rfl (ev rfl rfl) rfl rfl rfl ?_))
  refine wl rfl (oLd ⟨Tryz.isAgg31,Tryz.sizeOf31⟩ hS 1 rfl rfl (ev rfl rfl) rfl rfl rfl ?_)
  have hkDm:Wd 1 2:=wd1
  refine wcl Tryz.call87 ((wtMul (F:=N) (E:=(bb n N d m)) (hd.at hS) (hM1.atQ hS) ((hS.sl 4 rfl).zr hkDb) (hMb _ (hS.get 9 rfl) (hS.get 2 rfl)) h0 (by omega) (hL.wN) (fun i k => hL.wb m i k (by omega)) (fun i k l hi hk hl => hL.wp m i k l (by omega) hi hk hl))) (ar2 (ev rfl rfl) (ev rfl rfl)) hS ?_
  clear hS; rintro _ _ w19 ⟨pDm,nDm,cDm,pSm,cSm,rsm,rfl,rfl,hMm⟩ hS
  refine wl rfl (oAl [.bool false,.slice none 0 0,.slice none 0 0] hS rfl rfl Tryz.zeroValue31 rfl ?_)
  clear hS; intro g20 w21 hS
  refine wl rfl (oSt _ _ Tryz.sizeOf31 hS 0 rfl rfl (ev rfl rfl) (ev rfl rfl) rfl rfl rfl rfl rfl rfl ?_)
  clear hS; intro w22 hS
  refine wn2 (wl rfl (oLd ⟨Tryz.isAgg31,Tryz.sizeOf31⟩ hS 0 rfl rfl (ev rfl rfl) rfl rfl rfl ?_))
  obtain ⟨z3,hz3⟩:∃ z:Int,Hid ((su n fun k => (mm n N (bb n N d m)) k k) = z):=⟨_,rfl⟩
  have hk3:Wd z3 2097408:=by rw [← hz3.out]; exact hL.wt m n (by omega) (Nat.le_refl _)
  have hk4:Wd 1 2:=wd1
  refine wcl Tryz.call88 ((show Calls _ _ _ _ (Ret (Rrt z3 1) _) from by rw [← hz3.out]; exact wtTrace (F:=(mm n N (bb n N d m))) ((hS.sl 1 rfl).zr hkDm) (hMm _ (hS.get 2 rfl)) h0 (by omega) (fun i k hi hk => hL.wp m i k n (by omega) hi hk (Nat.le_refl _)) (fun i hi => hL.wt m i (by omega) hi))) (ar1 (ev rfl rfl)) hS ?_
  clear hS; rintro _ _ w23 ⟨p3,n3,c3,p4,n4,c4,rfl,rfl⟩ hS
  refine wmv rfl rfl ?_
  refine wl rfl (oneg (k:=.i64) (c:=(-((m + 1:Nat):Int))) rfl rfl (ev rfl rfl) (wI6 (by omega) (by omega)) ?_)
  obtain ⟨z5,hz5⟩:∃ z:Int,Hid ((-((m + 1:Nat):Int)) = z):=⟨_,rfl⟩
  have hk5:Wd z5 2:=by rw [← hz5.out]; exact Wd.i64 (by omega) (by omega)
  have hk6:Wd 1 2:=wd1
  refine wcl Tryz.call48 ((show Calls _ _ _ _ (Ret (Rrt z5 1) _) from by rw [← hz5.out]; exact wsof (by omega) (by omega))) (ar1 (ev rfl rfl)) hS ?_
  clear hS; rintro _ _ w24 ⟨p5,n5,c5,p6,n6,c6,rfl,rfl⟩ hS
  obtain ⟨z7,hz7⟩:∃ z:Int,Hid (d (n - (m + 1)) = z):=⟨_,rfl⟩
  have hk7:Wd z7 2097408:=by rw [← hz7.out]; exact hL.wd _ (by omega)
  have hk8:Wd 1 2:=wd1
  refine wcl Tryz.call52 ((show Calls _ _ _ _ (Ret (Rrt z7 1) _) from by rw [← hz7.out]; exact wiquo (((hS.slm 2 rfl).zr hk3).mono (by omega)) (((hS.slm 3 rfl).zr hk4).mono (by omega)) (((hS.slm 0 rfl).zr hk5).mono (by omega)) (((hS.slm 1 rfl).zr hk6).mono (by omega)) (by rw [← hz3.out, ← hz5.out]; exact hL.tr m (by omega)) (by rw [← hz5.out]; omega))) (ar2 (ev rfl rfl) (ev rfl rfl)) hS ?_
  clear hS; rintro _ _ w25 ⟨p7,n7,c7,p8,n8,c8,rfl,rfl⟩ hS
  refine wl rfl (oAl [.bool false,.slice none 0 0,.bool false,.slice none 0 0] hS rfl rfl Tryz.zeroValue43 rfl ?_)
  clear hS; intro g26 w27 hS
  refine wl rfl (oSt _ _ Tryz.sizeOf43 hS 0 rfl rfl (ev rfl rfl) (ev rfl rfl) rfl rfl rfl rfl rfl rfl ?_)
  clear hS; intro w28 hS
  refine wn2 (wmv rfl rfl ?_)
  refine wmv rfl rfl ?_
  refine wmv rfl rfl ?_
  refine wbt (z:=.int .i64 (((n - (m + 1):Nat):Int))) rfl rfl rfl rfl (bin_sub (by rw [show (n:Int) - (((m + 1):Nat):Int) = ((n - (m + 1):Nat):Int) by omega]; exact wI6 (by omega) (by omega))) ?_
  refine wl rfl (oLd aggR hS 0 rfl rfl (ev rfl rfl) rfl rfl rfl ?_)
  refine wl rfl (oIx (p:=(some ⟨g9,0,none⟩)) (g:=g9) (off:=0) (m:=n + 1) (k:=(n - (m + 1))) (j:=(0 + ((n - (m + 1))) * 4)) rfl rfl Tryz.runUnderlying40 Tryz.sizeOf43 (ev rfl rfl) (rfl) (ev rfl rfl) (by omega) rfl ?_)
  obtain hS:=(show Sep w [.rowm p7 n7 c7 (lim z7.natAbs),.rowm p8 n8 c8 (lim (1:Int).natAbs),.lst 43 4 (some ⟨g9,0,none⟩) (n + 1) (n + 1) (List.replicate (n - m) nilQ ++ iqs L),.blk g26 [.bool (ng z7),.slice p7 n7 c7,.bool (ng 1),.slice p8 n8 c8] 43,.rowm p5 n5 c5 (lim z5.natAbs),.rowm p6 n6 c6 (lim (1:Int).natAbs),.rowm p3 n3 c3 (lim z3.natAbs),.rowm p4 n4 c4 (lim (1:Int).natAbs),.blk g20 [.bool (ng 1),.slice pDm nDm cDm,.slice pSm n cSm] 31,.row pDm nDm cDm (lim (1:Int).natAbs),.pack rsm,.blk g8 [.bool (ng 1),.slice pDb nDb cDb,.slice pSb n cSb] 31,.blk g7 [.bool (ng 1),.slice pDb nDb cDb,.slice pSb n cSb] 31,.pack rsb,.pack rsl,.row pDb nDb cDb (lim (1:Int).natAbs),.row pDl nDl cDl (lim (1:Int).natAbs),.blk g6 [.bool (ng 1),.slice pDi nDi cDi,.slice pSi n cSi] 31,.row pDi nDi cDi (lim (1:Int).natAbs),.pack rsi,.blk g3 [.bool false,.slice none 0 0,.slice none 0 0] 31,.blk g1 [.bool bd,.slice pd nd cd,.slice pt n ct] 31] w28 from hS.pick [1,2,16,0,3,4,5,6,7,8,9,10,11,12,13,14,15,17,18,19,20,21] (by decide) rfl)
  refine wl rfl (ostoreL (i:=(n - (m + 1))) (g:=g9) [.bool (ng z7),.slice p7 n7 c7,.bool (ng 1),.slice p8 n8 c8] [.rowm p7 n7 c7 (lim z7.natAbs),.rowm p8 n8 c8 (lim (1:Int).natAbs)] Tryz.sizeOf43 hS rfl rfl (ev rfl rfl) (ev rfl rfl) (rfl) rfl rfl rfl rfl (by omega) rfl ?_)
  clear hS; intro w29 hS
  refine wn1 ?_
  rw [show List.replicate (n - m) nilQ = List.replicate (n - (m + 1) + 1) nilQ by rw [show n - (m + 1) + 1 = n - m by omega],show (⟨[.bool (ng z7),.slice p7 n7 c7,.bool (ng 1),.slice p8 n8 c8],[.rowm p7 n7 c7 (lim z7.natAbs),.rowm p8 n8 c8 (lim (1:Int).natAbs)]⟩:El) = iqE ⟨p7,n7,c7,p8,n8,c8,z7⟩ from rfl,back_set] at hS
  have hkDs:Wd 1 2:=wd1
  have hkDc:Wd 1 2:=wd1
  refine wSg 5 [47,48,49,50,51] [[],[],[],[1,2],[0,3,1,2]] [] [] [] (fun i9 => ([iSv (.agg #[.bool (ng 1),.slice pDm nDm cDm,.slice pSm n cSm]),iSv (.agg #[.bool (ng 1),.slice pDi nDi cDi,.slice pSi n cSi]),iSv (.agg #[.bool (ng z7),.slice p7 n7 c7,.bool (ng 1),.slice p8 n8 c8]),fun _ => MTt n ((tbl n n (fun i k => dl i k * z7))) 2097408,fun _ => MTt n ((tbl n n (fun i k => (mm n N (bb n N d m)) i k + (fun i k => dl i k * z7) i k))) 2097408]:List (List Value → Tell)).getD i9 (fun _ _ _ => False)) hNi (fun d _ _ _ _ h => (by cases d <;> exact h)) (by kernel_rfl) (by kernel_rfl) (by kernel_rfl) hS ?_ ?_
  ·
   refine stH rfl (fun ho hS=>?_) ?_
   ·exact inNo rfl (oLd ⟨Tryz.isAgg31,Tryz.sizeOf31⟩ hS 6 rfl rfl (ev rfl (ho 10 rfl)) rfl rfl rfl (nSm rfl isI))
   refine stH rfl (fun ho hS=>?_) ?_
   ·exact inNo rfl (oLd ⟨Tryz.isAgg31,Tryz.sizeOf31⟩ hS 15 rfl rfl (ev rfl (ho 5 rfl)) rfl rfl rfl (nSm rfl isI))
   refine stH rfl (fun ho hS=>?_) ?_
   ·exact inNo rfl (oLd aggR hS 1 rfl rfl (ev rfl (ho 11 rfl)) rfl rfl rfl (nSm rfl isI))
   refine stT rfl (fun hT hS=>?_) ?_
   ·obtain ⟨hv1,hr1⟩:=hT 1 48 rfl rfl
    obtain ⟨hv2,hr2⟩:=hT 2 49 rfl rfl
    obtain hS:=hS.flat2 hr1 hr2
    exact .inl ⟨wNo rfl,oCl rfl rfl Tryz.call90 rfl ((wtScale (F:=dl) ((hS.sl 16 rfl).zr hkDi) (hMi _ (hS.get 17 rfl)) (hS.lqz 0 rfl (L:=⟨p7,n7,c7,p8,n8,c8,z7⟩ :: L) (j:=0) (e:=⟨p7,n7,c7,p8,n8,c8,z7⟩) rfl hk7) (hS.lq1 0 rfl (L:=⟨p7,n7,c7,p8,n8,c8,z7⟩ :: L) (j:=0) (e:=⟨p7,n7,c7,p8,n8,c8,z7⟩) rfl) h0 (by omega) (fun i k _ _ => dl_wd i k) (fun i k _ _ => by rw [← hz7.out]; exact hL.ws (by omega) i k))) (ar2 (ev rfl hv1) (ev rfl hv2)) cNw⟩
   refine stT rfl (fun hT hS=>?_) ?_
   ·obtain ⟨hv0,hr0⟩:=hT 0 47 rfl rfl
    obtain ⟨pDs,nDs,cDs,pSs,cSs,rss,hv3,hr3,hMs⟩:=(hT 3 50 rfl rfl:(MTt n ((tbl n n (fun i k => dl i k * z7))) 2097408) _ _)
    obtain hS:=hS.flat2 hr0 hr3
    exact .inl ⟨wNo rfl,oCl rfl rfl Tryz.call89 rfl ((wtAdd (F:=(mm n N (bb n N d m))) (E:=(fun i k => dl i k * z7)) ((hS.sl 7 rfl).zr hkDm) (hMm _ (hS.get 8 rfl)) ((hS.sl 20 rfl).zr hkDs) (hMs _ (hS.get 21 rfl)) h0 (by omega) (fun i k hi hk => hL.wp m i k n (by omega) hi hk (Nat.le_refl _)) (fun i k _ _ => by rw [← hz7.out]; exact hL.ws (by omega) i k) (fun i k hi hk => by rw [← hz7.out]; exact hL.wb (m + 1) i k (by omega) hi hk))) (ar2 (ev rfl hv0) (ev rfl hv3)) cNw⟩
   exact sNi
  intro vs ρ w30 f' hf hT hS
  obtain ⟨hv0,hr0⟩:=hT 0 (by decide)
  obtain ⟨hv1,hr1⟩:=hT 1 (by decide)
  obtain ⟨hv2,hr2⟩:=hT 2 (by decide)
  obtain ⟨pDs,nDs,cDs,pSs,cSs,rss,hv3,hr3,hMs⟩:=(hT 3 (by decide):(MTt n ((tbl n n (fun i k => dl i k * z7))) 2097408) _ _)
  obtain ⟨pDc,nDc,cDc,pSc,cSc,rsc,hv4,hr4,hMc⟩:=(hT 4 (by decide):(MTt n ((tbl n n (fun i k => (mm n N (bb n N d m)) i k + (fun i k => dl i k * z7) i k))) 2097408) _ _)
  simp only [pool,if_true,hr0,hr1,hr2,hr3,hr4,List.nil_append,List.cons_append,List.append_nil] at hS
  simp only [layf,hv0,hv1,hv2,hv3,hv4] at hf
  subst hf; clear hT hv0 hv1 hv2 hv3 hv4 hr0 hr1 hr2 hr3 hr4
  refine wLt 5 rfl (by kernel_rfl) (oSt _ _ Tryz.sizeOf31 hS 14 rfl rfl (ev rfl rfl) (ev rfl rfl) rfl rfl rfl rfl rfl rfl ?_)
  clear hS; intro w31 hS
  refine ⟨hNi,?_⟩
  refine wdone rfl ?_
  refine blkN (tNo (wreg (wmv rfl rfl ?_)))
  refine wbc (z:=.int .i64 ((m + 1 + 1:Nat):Int)) rfl rfl (bAd (wI6 (by omega) (by omega))) ?_
  refine wav rfl rfl ?_
  refine wn1 ?_
  exact ⟨(m + 1),⟨_,_,_,_,_,_,_,_,_,_,_,_,_,_,aSs ⟨rfl,rfl,rfl,rfl,rfl,rfl,rfl,rfl,rfl,trivial⟩,hS.pick [13,14,1,15,0,17,4,19,20,21,22,23] (by decide) rfl,by omega,by show z7 :: izs L = _; rw [hLd, ← hz7.out,dls_cons d (n - (m + 1)) (m + 1),show n - (m + 1) + 1 = n - m by omega],fun w _ h => by have h9:=hMc w h; rw [← hz7.out] at h9; exact h9,by rw [Nat.add_sub_cancel]; exact hMb⟩,by omega⟩
 refine wreg (wmv rfl rfl ?_)
 refine wmv rfl rfl ?_
 refine wbt rfl rfl rfl rfl (bin_leq (decide_eq_false (by omega))) ?_
 refine wn1 ?_
 refine wF (ev rfl rfl) ?_
 refine wEx ?_
 refine tEx ?_
 refine tEx ?_
 refine blkE ?_
 refine tNo (wSq (wSq ?_))
 have hmn:m = n:=by omega
 rw [hmn,Nat.sub_self] at hLd
 have hLl:L.length = n + 1:=by rw [← izs_len,hLd,dls_len]
 rw [hmn,Nat.sub_self,List.replicate_zero,List.nil_append] at hS
 refine wreg (wmv rfl rfl ?_)
 refine wbc (z:=.int .i64 ((n % 2:Nat):Int)) rfl rfl (bin_rem (by omega) rfl) ?_
 by_cases heven:n % 2 = 0
 ·
  refine wbc rfl rfl (bEq (eqT (by omega))) ?_
  refine wn1 ?_
  refine wT (ev rfl rfl) ?_
  obtain ⟨z3,hz3⟩:∃ z:Int,Hid (-1 = z):=⟨_,rfl⟩
  have hk3:Wd z3 2:=by rw [← hz3.out]; exact Wd.i64 (by omega) (by omega)
  have hk4:Wd 1 2:=wd1
  have hkDt:Wd 1 2:=wd1
  refine wSg 3 [55,56,57] [[],[],[0,1]] [] [] [] (fun i9 => ([iSv (.agg #[.bool (ng 1),.slice pDl nDl cDl,.slice pSl n cSl]),fun _ => Rrt z3 1,fun _ => MTt n ((tbl n n (fun i k => (bb n N d (m - 1)) i k * z3))) 2097408]:List (List Value → Tell)).getD i9 (fun _ _ _ => False)) hNi (fun d _ _ _ _ h => (by cases d <;> exact h)) (by kernel_rfl) (by kernel_rfl) (by kernel_rfl) hS ?_ ?_
  ·
   refine stH rfl (fun ho hS=>?_) ?_
   ·exact inNo rfl (oLd ⟨Tryz.isAgg31,Tryz.sizeOf31⟩ hS 0 rfl rfl (ev rfl (ho 8 rfl)) rfl rfl rfl (nSm rfl isI))
   refine stT rfl (fun _ _=>?_) ?_
   ·exact .inl ⟨wNo rfl,oCl rfl rfl Tryz.call48 rfl ((show Calls _ _ _ _ (Ret (Rrt z3 1) _) from by rw [← hz3.out]; exact wsof (by omega) (by omega))) (ar1 evc) cNw⟩
   refine stT rfl (fun hT hS=>?_) ?_
   ·obtain ⟨hv0,hr0⟩:=hT 0 55 rfl rfl
    obtain ⟨p3,n3,c3,p4,n4,c4,hv1,hr1⟩:=(hT 1 56 rfl rfl:(Rrt z3 1) _ _)
    obtain hS:=hS.flat2 hr0 hr1
    exact .inl ⟨wNo rfl,oCl rfl rfl Tryz.call90 rfl ((wtScale (F:=(bb n N d (m - 1))) ((hS.sl 5 rfl).zr hkDl) (hMl _ (hS.get 9 rfl) (hS.get 3 rfl)) (((hS.slm 12 rfl).zr hk3).mono (by omega)) ((hS.slm 13 rfl).zr hk4) h0 (by omega) (fun i k hi hk => hL.wb (m - 1) i k (by omega) hi hk) (fun i k hi hk => by rw [← hz3.out]; exact (hL.wb (m - 1) i k (by omega) hi hk).neg1))) (ar2 (ev rfl hv0) (ev rfl hv1)) cNw⟩
   exact sNi
  intro vs ρ w18 f' hf hT hS
  obtain ⟨hv0,hr0⟩:=hT 0 (by decide)
  obtain ⟨p3,n3,c3,p4,n4,c4,hv1,hr1⟩:=(hT 1 (by decide):(Rrt z3 1) _ _)
  obtain ⟨pDt,nDt,cDt,pSt,cSt,rst,hv2,hr2,hMt⟩:=(hT 2 (by decide):(MTt n ((tbl n n (fun i k => (bb n N d (m - 1)) i k * z3))) 2097408) _ _)
  simp only [pool,if_true,hr0,hr1,hr2,List.nil_append,List.cons_append,List.append_nil] at hS
  simp only [layf,hv0,hv1,hv2] at hf
  subst hf; clear hT hv0 hv1 hv2 hr0 hr1 hr2
  refine wLt 3 rfl (by kernel_rfl) (oSt _ _ Tryz.sizeOf31 hS 4 rfl rfl (ev rfl rfl) (ev rfl rfl) rfl rfl rfl rfl rfl rfl ?_)
  clear hS; intro w19 hS
  refine ⟨hNi,?_⟩
  refine wdone rfl ?_
  refine tNo (wSq ?_)
  refine wSg 3 [58,59,2] [[],[],[0]] [] [] [] (fun i9 => ([iSv (.slice (some ⟨g9,0,none⟩) (n + 1) (n + 1)),iSv (.agg #[.bool (ng 1),.slice pDt nDt cDt,.slice pSt n cSt]),iSv (.slice (some ⟨g9,0,none⟩) (n + 1) (n + 1))]:List (List Value → Tell)).getD i9 (fun _ _ _ => False)) hNi (fun d _ _ _ _ h => (by cases d <;> exact h)) (by kernel_rfl) (by kernel_rfl) (by kernel_rfl) hS ?_ ?_
  ·
   refine stM rfl rfl rfl rfl rfl (fun _=>isI) ?_
   refine stH rfl (fun ho hS=>?_) ?_
   ·exact inNo rfl (oLd ⟨Tryz.isAgg31,Tryz.sizeOf31⟩ hS 4 rfl rfl (ev rfl (ho 8 rfl)) rfl rfl rfl (nSm rfl isI))
   refine stT rfl (fun hT hS=>?_) ?_
   ·obtain ⟨hv0,hr0⟩:=hT 0 58 rfl rfl
    obtain hS:=hS.flat1 hr0
    exact inNo rfl (oassign rfl rfl (ev rfl hv0) (nSm rfl isI))
   exact sNi
  intro vs ρ w20 f' hf hT hS
  obtain ⟨hv0,hr0⟩:=hT 0 (by decide)
  obtain ⟨hv1,hr1⟩:=hT 1 (by decide)
  obtain ⟨hv2,hr2⟩:=hT 2 (by decide)
  simp only [pool,if_true,hr0,hr1,hr2,List.nil_append,List.cons_append,List.append_nil] at hS
  simp only [layf,hv0,hv1,hv2] at hf
  subst hf; clear hT hv0 hv1 hv2 hr0 hr1 hr2
  refine wLt 3 rfl (by kernel_rfl) (oSt _ _ Tryz.sizeOf31 hS 14 rfl rfl (ev rfl rfl) (ev rfl rfl) rfl rfl rfl rfl rfl rfl ?_)
  clear hS; intro w21 hS
  refine ⟨hNi,?_⟩
  refine wdone rfl ?_
  refine tNo ?_
  refine wLv ?_
  refine wret2 Tryz.results43 (tlT (v:=.slice (some ⟨g9,0,none⟩) (n + 1) (n + 1)) rfl rfl) (tellC (cs:=[.bool (ng 1),.slice pDt nDt cDt,.slice pSt n cSt]) ⟨Tryz.isAgg31,Tryz.sizeOf31⟩ hS 14 rfl rfl rfl rfl) ?_
  exact ⟨_,_,rfl,⟨_,_,L,_,_,_,_,_,_,_,hLd,rfl,rfl⟩,hS.newR 10 rfl rfl⟩
 refine wbc rfl rfl (bEq (eqF (by omega))) ?_
 refine wn1 ?_
 refine wF (ev rfl rfl) ?_
 refine wSk (tNo (wSq ?_))
 refine wSg 3 [58,59,2] [[],[],[0]] [] [] [] (fun i9 => ([iSv (.slice (some ⟨g9,0,none⟩) (n + 1) (n + 1)),iSv (.agg #[.bool (ng 1),.slice pDl nDl cDl,.slice pSl n cSl]),iSv (.slice (some ⟨g9,0,none⟩) (n + 1) (n + 1))]:List (List Value → Tell)).getD i9 (fun _ _ _ => False)) hNi (fun d _ _ _ _ h => (by cases d <;> exact h)) (by kernel_rfl) (by kernel_rfl) (by kernel_rfl) hS ?_ ?_
 ·
  refine stM rfl rfl rfl rfl rfl (fun _=>isI) ?_
  refine stH rfl (fun ho hS=>?_) ?_
  ·exact inNo rfl (oLd ⟨Tryz.isAgg31,Tryz.sizeOf31⟩ hS 0 rfl rfl (ev rfl (ho 8 rfl)) rfl rfl rfl (nSm rfl isI))
  refine stT rfl (fun hT hS=>?_) ?_
  ·obtain ⟨hv0,hr0⟩:=hT 0 58 rfl rfl
   obtain hS:=hS.flat1 hr0
   exact inNo rfl (oassign rfl rfl (ev rfl hv0) (nSm rfl isI))
  exact sNi
 intro vs ρ w18 f' hf hT hS
 obtain ⟨hv0,hr0⟩:=hT 0 (by decide)
 obtain ⟨hv1,hr1⟩:=hT 1 (by decide)
 obtain ⟨hv2,hr2⟩:=hT 2 (by decide)
 simp only [pool,if_true,hr0,hr1,hr2,List.nil_append,List.cons_append,List.append_nil] at hS
 simp only [layf,hv0,hv1,hv2] at hf
 subst hf; clear hT hv0 hv1 hv2 hr0 hr1 hr2
 refine wLt 3 rfl (by kernel_rfl) (oSt _ _ Tryz.sizeOf31 hS 10 rfl rfl (ev rfl rfl) (ev rfl rfl) rfl rfl rfl rfl rfl rfl ?_)
 clear hS; intro w19 hS
 refine ⟨hNi,?_⟩
 refine wdone rfl ?_
 refine tNo ?_
 refine wLv ?_
 refine wret2 Tryz.results43 (tlT (v:=.slice (some ⟨g9,0,none⟩) (n + 1) (n + 1)) rfl rfl) (tellC (cs:=[.bool (ng 1),.slice pDl nDl cDl,.slice pSl n cSl]) ⟨Tryz.isAgg31,Tryz.sizeOf31⟩ hS 10 rfl rfl rfl rfl) ?_
 exact ⟨_,_,rfl,⟨_,_,L,_,_,_,_,_,_,_,hLd,rfl,rfl⟩,hS.newR 6 rfl rfl⟩
theorem wpchar20 {n:Nat} {N:Nat → Nat → Int} {d:Nat → Int} {w:World} {bd:Bool} {pd pt:Option Addr} {nd cd ct:Nat} (hd:Zr w bd pd nd cd 1 2) (hM1:TB w pt n (tbl n n N) 2097408) (h0:n ≠ 0) (hn:n ≤ 1000) (hL:LevC n N d) :
  Calls Tryz.prog 12 #[.agg #[.bool bd,.slice pd nd cd,.slice pt n ct]] w (Ret (PQt (n + 1) (dls d 0 (n + 1))) w):=by
 have hS:=Sep.init w
 refine went Tryz.func12 rfl (n:=11) rfl rfl ?_
 refine wsr (wl rfl (obox [.bool bd,.slice pd nd cd,.slice pt n ct] hS rfl rfl (ev rfl rfl) rfl ?_))
 clear hS; intro g1 w2 hS
 refine wavc ?_
 refine wn2 (wl rfl (oLd ⟨Tryz.isAgg31,Tryz.sizeOf31⟩ hS 0 rfl rfl (ev rfl rfl) rfl rfl rfl ?_))
 refine wcl Tryz.call43 (wplev (hd.at hS) (hM1.atQ hS) h0 hn hL) (ar1 (ev rfl rfl)) hS ?_
 clear hS; rintro _ _ w3 ⟨pP,cP,LP,bm,p1,n1,c1,p2,n2,c2,hLP,rfl,rfl⟩ hS
 refine wmv rfl rfl ?_
 refine wl rfl (oEx rfl rfl (ev rfl rfl) rfl ?_)
 refine wl rfl (oEx rfl rfl (ev rfl rfl) rfl ?_)
 refine wl rfl (oAl [.bool false,.slice none 0 0,.slice none 0 0] hS rfl rfl Tryz.zeroValue31 rfl ?_)
 clear hS; intro g4 w5 hS
 refine wav rfl rfl ?_
 refine wl rfl (oSt _ _ Tryz.sizeOf31 hS 0 rfl rfl (ev rfl rfl) (ev rfl rfl) rfl rfl rfl rfl rfl rfl ?_)
 clear hS; intro w6 hS
 refine wn2 (wmv rfl rfl ?_)
 refine wav rfl rfl ?_
 refine wn1 ?_
 refine wLv ?_
 refine wr1 Tryz.results12 (tlT (v:=.slice pP ((n + 1)) cP) rfl rfl) ?_
 exact ⟨_,_,rfl,⟨_,_,_,hLP,rfl,rfl⟩,hS.newR 1 rfl rfl⟩
open Go.RowKit
theorem bbV_lev {n:Nat} {N:Nat → Nat → Int} {d:Nat → Int} {b:Nat → Nat → Nat → Int} (h:Lev n N d b):∀ m r c,m < n → r < n → c < n → bb n N d m r c = b m r c
 | 0,r,c,_,hr,hc => (h.b0 r c hr hc).symm
 | m + 1,r,c,hm,hr,hc => by
  rw [h.bs m r c hm hr hc]
  show mm n N (bb n N d m) r c + dl r c * d (n - (m + 1)) = _
  rw [Int.mul_comm (dl r c)]
  congr 1
  exact su_congr fun j hj => by rw [bbV_lev h m j c (by omega) hj hc]
theorem bbV_tr {n:Nat} {N:Nat → Nat → Int} {d:Nat → Int} {b:Nat → Nat → Nat → Int} (h:Lev n N d b) (m:Nat) (hm:m < n):su n (fun i => mm n N (bb n N d m) i i) = -((m + 1:Nat):Int) * d (n - (m + 1)):=by
  rw [← h.tr m hm]
  exact su_congr fun i hi => su_congr fun j hj => by rw [bbV_lev h m j i hm hj hi]
theorem sN_mem {f:Nat → Nat}:∀ {n i:Nat},i < n → f i ≤ sN n f
 | n + 1,i,h => by
  show f i ≤ sN n f + f n
  by_cases e:i = n
  ·subst e; omega
  have:=sN_mem (f:=f) (n:=n) (i:=i) (by omega); omega
theorem sN_upto {f:Nat → Nat} {l:Nat}:∀ {n:Nat},l ≤ n → sN l f ≤ sN n f
 | 0,h => by rw [show l = 0 by omega]; exact Nat.le_refl _
 | n + 1,h => by
  show sN l f ≤ sN n f + f n
  by_cases e:l = n + 1
  ·subst e; exact Nat.le_refl _
  have:=sN_upto (f:=f) (l:=l) (n:=n) (by omega); omega
theorem pB_mem {f:Nat → Nat}:∀ {n i:Nat},i < n → f i + 1 ≤ pB n f
 | n + 1,i,h => by
  show f i + 1 ≤ pB n f * (f n + 1)
  have h0:=pB_pos f n
  by_cases e:i = n
  ·subst e; exact Nat.le_mul_of_pos_left _ h0
  exact Nat.le_trans (pB_mem (f:=f) (n:=n) (i:=i) (by omega)) (Nat.le_mul_of_pos_right _ (by omega))
theorem sN_pB (f:Nat → Nat):∀ n,sN n f + 1 ≤ pB n f
 | 0 => Nat.le_refl _
 | n + 1 => by
  show sN n f + f n + 1 ≤ pB n f * (f n + 1)
  have h1:=sN_pB f n
  have h2:=Nat.le_mul_of_pos_left (f n) (pB_pos f n)
  rw [Nat.mul_add,Nat.mul_one]
  omega
theorem pB_pow {f W:Nat → Nat}:∀ {n:Nat},(∀ r,r < n → f r < 4294967296 ^ W r) → pB n f ≤ 4294967296 ^ sN n W
 | 0,_ => Nat.le_refl _
 | n + 1,h => by
  show pB n f * (f n + 1) ≤ 4294967296 ^ (sN n W + W n)
  rw [Nat.pow_add]
  exact Nat.mul_le_mul (pB_pow fun r hr => h r (by omega)) (h n (by omega))
theorem wdV {z:Int} {P S:Nat} (hP:P ≤ 4294967296 ^ S) (hS:S ≤ 1048700) (h:z.natAbs ≤ P * P):Wd z 2097408:=by
  have h1:P * P ≤ 4294967296 ^ (S + S):=by rw [Nat.pow_add]; exact Nat.mul_le_mul hP hP
  refine Nat.le_trans (ll_le (k:=S + S + 1) (Nat.lt_of_le_of_lt (Nat.le_trans h h1) (Nat.pow_lt_pow_right (by decide) (by omega)))) (by omega)
theorem lev_V {n S:Nat} {N:Nat → Nat → Int} {W:Nat → Nat} {d:Nat → Int} {b:Nat → Nat → Nat → Int} (h0:n ≠ 0) (h:Lev n N d b) (hb:∀ r c,c < n → ∀ x,adj n (xN N x) r c = pv n (fun l => b (n - 1 - l) r c) x) (hW:∀ r,r < n → ras n N r < 4294967296 ^ W r) (hS:sN n W ≤ S) (hS2:S ≤ 1048700):LevC n N d:=by
 obtain ⟨P,hP⟩:∃ P,pB n (ras n N) = P:=⟨_,rfl⟩
 have hPS:P ≤ 4294967296 ^ S:=by rw [← hP]; exact Nat.le_trans (pB_pow hW) (Nat.pow_le_pow_right (by decide) hS)
 have hP0:0 < P:=by rw [← hP]; exact pB_pos _ _
 have hPP:∀ {x:Nat},x ≤ P → x ≤ P * P:=fun hx => Nat.le_trans hx (Nat.le_mul_of_pos_left _ hP0)
 have hr:∀ i,i < n → ras n N i + 1 ≤ P:=fun i hi => by rw [← hP]; exact pB_mem hi
 have hN:∀ i k,i < n → k < n → (N i k).natAbs ≤ ras n N i:=fun i k _ hk => sN_mem (f:=fun c => (N i c).natAbs) hk
 have hd:∀ i,i ≤ n → (d i).natAbs ≤ P:=fun i hi => by rw [← hP]; exact lev_dB h hi
 have hbb:∀ m i k,m < n → i < n → k < n → (bb n N d m i k).natAbs ≤ P:=fun m i k hm hi hk => by
  rw [bbV_lev h m i k hm hi hk, ← hP]; exact lev_bB hb hm hi hk
 have hp:∀ m i k l,m < n → i < n → k < n → l ≤ n → (su l fun j => N i j * bb n N d m j k).natAbs ≤ ras n N i * P:=fun m i k l hm hi hk hl => by
  refine Nat.le_trans (su_abs (g:=fun j => P * (N i j).natAbs) fun j hj => ?_) ?_
  ·rw [Int.natAbs_mul,Nat.mul_comm]; exact Nat.mul_le_mul_right _ (hbb m j k hm (by omega) hk)
  rw [sN_mul,Nat.mul_comm]; exact Nat.mul_le_mul_right _ (sN_upto hl)
 have hrP:∀ i,i < n → ras n N i * P ≤ P * P:=fun i hi => Nat.mul_le_mul_right _ (by have:=hr i hi; omega)
 refine ⟨h.top,bbV_tr h,fun i k hi hk => wdV hPS hS2 (hPP (by have:=hN i k hi hk; have:=hr i hi; omega)),fun m i k hm hi hk => ?_,fun m i k l hm hi hk hl => wdV hPS hS2 (Nat.le_trans (hp m i k l hm hi hk hl) (hrP i hi)),fun m l hm hl => ?_,fun i hi => wdV hPS hS2 (hPP (hd i hi))⟩
 ·by_cases e:m < n
  ·exact wdV hPS hS2 (hPP (hbb m i k e hi hk))
  obtain rfl:m = n:=by omega
  obtain ⟨j,rfl⟩:∃ j,m = j + 1:=⟨m - 1,by omega⟩
  refine wdV hPS hS2 ?_
  show (mm (j + 1) N (bb (j + 1) N d j) i k + dl i k * d (j + 1 - (j + 1))).natAbs ≤ _
  have h1:=hp j i k (j + 1) (by omega) hi hk (Nat.le_refl _)
  have h2:(dl i k * d (j + 1 - (j + 1))).natAbs ≤ P:=by
   have h3:=hd (j + 1 - (j + 1)) (by omega)
   unfold dl
   split
   ·rw [show ((1:Nat):Int) * d (j + 1 - (j + 1)) = d (j + 1 - (j + 1)) by omega]; exact h3
   rw [show ((0:Nat):Int) * d (j + 1 - (j + 1)) = 0 by omega]; exact Nat.zero_le _
  refine Nat.le_trans (Int.natAbs_add_le _ _) (Nat.le_trans (Nat.add_le_add h1 h2) ?_)
  have h4:=Nat.mul_le_mul_right P (hr i hi)
  rw [Nat.add_mul,Nat.one_mul] at h4
  exact h4
 refine wdV hPS hS2 ?_
 refine Nat.le_trans (su_abs (g:=fun k => P * ras n N k) fun k hk => by rw [Nat.mul_comm]; exact hp m k k n hm (by omega) (by omega) (Nat.le_refl _)) ?_
 rw [sN_mul]
 refine Nat.mul_le_mul_left _ (Nat.le_trans (sN_upto hl) ?_)
 have:=sN_pB (ras n N) n
 rw [hP] at this
 omega
end Go.Proofs.YtnlnibngpeempaaGreatDoor
