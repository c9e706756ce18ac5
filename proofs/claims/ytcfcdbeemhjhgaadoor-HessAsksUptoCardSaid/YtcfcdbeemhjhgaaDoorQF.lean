/-
  Contracts and lemmas, joined in one text.
-/
import Derived.Test.YtcfcdbeemhjhgaaDoorH8
import Derived.Test.YtcfcdbeemhjhgaaDoorRO
import Derived.Test.YtcfcdbeemhjhgaaDoorQA
import Derived.Test.YtcfcdbeemhjhgaaDoorQE
import Derived.Test.YtcfcdbeemhjhgaaDoorHG
set_option linter.unusedVariables false
set_option linter.unusedSimpArgs false
/-
  hess's Of: integers modulo a prime.
-/
set_option maxRecDepth 100000
set_option maxHeartbeats 16000000
namespace Go.Proofs.YtcfcdbeemhjhgaaDoor
open Go.RowKit
def colsT (T:List (List Int)):Nat:=(T.getD 0 []).length
def RectT (T:List (List Int)):Prop := ∀ r ∈ T,r.length = colsT T
def md (p:Nat) (z:Int):Nat:=(z % ((p:Nat):Int)).toNat
def modZ (p:Nat) (xs:List Int):List Nat:=xs.map (md p)
def modT (p:Nat) (T:List (List Int)):List (List Nat):=T.map (modZ p)
theorem md_lt {p:Nat} (hp:0 < p) (z:Int):md p z < p:=by
  unfold md
  have h1:=Int.emod_lt_of_pos z (show (0:Int) < (p:Int) by omega)
  have h2:=Int.emod_nonneg z (show ((p:Nat):Int) ≠ 0 by omega)
  omega
def MOt (n:Nat) (M:List (List Nat)):Tell:=fun v r => ∃ (pp:Option Addr) (c:Nat) (Q:List Rw),nums Q = M ∧ v = .tuple #[.slice pp n c,.int .i64 0] ∧ r = [.lst 29 1 pp n c (mmE Q)]
inductive OFa (p:Nat) (T:List (List Int)):Nat → Prop where
  | prime:¬ MR.Pr p → OFa p T 40
  | shape:MR.Pr p → ¬ RectT T → OFa p T 2
  | big:MR.Pr p → RectT T → 24 < T.length → OFa p T 4
  | wide:MR.Pr p → RectT T → T.length ≤ 24 → 0 < T.length → 24 < colsT T → OFa p T 4
  | ok:MR.Pr p → RectT T → T.length ≤ 24 → colsT T ≤ 24 → OFa p T 0
theorem OFa.ex (p:Nat) (T:List (List Int)):∃ e,OFa p T e:=by
 by_cases h1:MR.Pr p
 ·by_cases h2:RectT T
  ·by_cases h3:T.length ≤ 24
   ·by_cases h4:colsT T ≤ 24
    ·exact ⟨0,.ok h1 h2 h3 h4⟩
    refine ⟨4,.wide h1 h2 h3 ?_ (by omega)⟩
    cases T with
    | nil => exact absurd (show colsT [] ≤ 24 by decide) h4
    | cons a l => simp
   exact ⟨4,.big h1 h2 (by omega)⟩
  exact ⟨2,.shape h1 h2⟩
 exact ⟨40,.prime h1⟩
open Go.RowKit
structure Zq where
  p:Option Addr
  n:Nat
  c:Nat
  z:Int
def zqE (e:Zq):El:=⟨[.bool (ng e.z),.slice e.p e.n e.c],[.rowm e.p e.n e.c (lim e.z.natAbs)]⟩
def zqs (L:List Zq):List El:=L.map zqE
def zqv (L:List Zq):List Int:=L.map Zq.z
structure Zqr where
  p:Option Addr
  c:Nat
  L:List Zq
def zrE (r:Zqr):El:=⟨[.slice r.p r.L.length r.c],[.lst 52 2 r.p r.L.length r.c (zqs r.L)]⟩
def ztE (T:List Zqr):List El:=T.map zrE
def ztv (T:List Zqr):List (List Int):=T.map fun r => zqv r.L
theorem zqv_len (L:List Zq):(zqv L).length = L.length:=List.length_map _
theorem zqv_snoc (L:List Zq) (e:Zq):zqv (L ++ [e]) = zqv L ++ [e.z]:=by simp [zqv]
theorem ztv_snoc (T:List Zqr) (r:Zqr):ztv (T ++ [r]) = ztv T ++ [zqv r.L]:=by simp [ztv]
theorem zt_snoc {T:List Zqr} {p:Option Addr} {n c:Nat} {L:List Zq} (h:L.length = n):ztE T ++ [⟨[.slice p n c],[.lst 52 2 p n c (zqs L)]⟩] = ztE (T ++ [⟨p,c,L⟩]):=by subst h; simp [ztE,zrE]
def nilZq:El:=⟨[.bool false,.slice none 0 0],[]⟩
theorem fillZ {L:List Zq} {k m:Nat} {e:Zq} (hk:L.length = k):(zqs L ++ List.replicate (m + 1) nilZq).set k (zqE e) = zqs (L ++ [e]) ++ List.replicate m nilZq:=by
  have hl:(zqs L).length = L.length:=List.length_map _
  rw [List.set_append_right _ _ (by omega),hl,hk,Nat.sub_self,List.replicate_succ,List.set_cons_zero]
  unfold zqs; rw [List.map_append,List.append_assoc]; rfl
theorem zt_tb {w:World} {t:TypeId} {p:Option Addr} {n c K:Nat} {T:List Zqr} {TT:List (List Int)} (h:(Res.lst t 1 p n c (ztE T)).holds w) (hT:ztv T = TT) (hW:TW TT K) (hn:TT.length = n) (hn2:n ≤ 1048576) (hb:∀ L ∈ TT,L.length ≤ 1048576):TB w p n TT K:=by
  subst hT
  refine ⟨hn,hn2,fun i L hL => ?_⟩
  have hL2:=hL
  unfold ztv at hL
  rw [List.getElem?_map] at hL
  obtain ⟨r,hr,rfl⟩:=Option.map_eq_some_iff.1 hL
  obtain ⟨g,h1,h2,h3⟩:=lst_cell h (show (ztE T)[i]? = some (zrE r) by simp [ztE,hr]) (by decide)
  have hl:=h3 _ List.mem_cons_self
  refine ⟨g,0,r.p,r.c,h1,fun j v hj => h2 j v (by rw [zqv_len] at hj; exact hj),rfl,hb _ (List.mem_of_getElem? hL2),fun j z hz => ?_⟩
  have hz2:=hz
  unfold zqv at hz
  rw [List.getElem?_map] at hz
  obtain ⟨e,he,rfl⟩:=Option.map_eq_some_iff.1 hz
  obtain ⟨g2,h4,h5,h6⟩:=lst_cell hl (show (zqs r.L)[j]? = some (zqE e) by simp [zqs,he]) (by decide)
  have hf:Fr 0 w e.p e.n e.c (lim e.z.natAbs):=h6 _ List.mem_cons_self
  refine ⟨g2,0,ng e.z,e.p,e.n,e.c,h4,?_,?_,hf.sl.zr (hW _ (List.mem_of_getElem? hL2) _ (List.mem_of_getElem? hz2))⟩
  · exact h5 0 _ rfl
  exact h5 1 _ rfl
theorem row_range {xs:List Nat} {n:Nat} (h:xs.length = n):(List.range n).map (fun k => ((nd xs k:Nat):Int)) = xs.map fun x => ((x:Nat):Int):=by
 subst h
 apply List.ext_getElem?
 intro k
 by_cases hk:k < xs.length
 ·rw [List.getElem?_map,List.getElem?_range hk,List.getElem?_map,List.getElem?_eq_getElem hk]
  simp [nd,List.getD,List.getElem?_eq_getElem hk]
 rw [List.getElem?_eq_none (by simp; omega),List.getElem?_eq_none (by simp; omega)]
theorem modM_shpQ {p C:Nat} {M:List (List Nat)} (hp:0 < p) (h:∀ r ∈ M,r.length = C):Shp p C (modM p M):=fun r hr => by
  obtain ⟨r0,h0,rfl⟩:=List.mem_map.1 hr
  refine ⟨by rw [List.length_map]; exact h _ h0,fun x hx => ?_⟩
  obtain ⟨y,_,rfl⟩:=List.mem_map.1 hx
  exact Nat.mod_lt _ hp
theorem modM_getQ {p:Nat} {M:List (List Nat)} {i:Nat} (h:i < M.length):(modM p M).getD i [] = (M.getD i []).map (· % p):=by simp [modM,List.getD,h]
theorem en_row {M:List (List Nat)} {i n:Nat} {xs:List Nat} (h:M.getD i [] = xs) (hn:xs.length = n):(List.range n).map (fun k => en M i k) = xs.map fun x => ((x:Nat):Int):=by
  rw [← row_range hn]; unfold en; rw [h]
theorem enM_lt {p:Nat} (hp:0 < p) (M:List (List Nat)) (i k:Nat):0 ≤ en (modM p M) i k ∧ en (modM p M) i k < p:=by
 unfold en
 have h:nd ((modM p M).getD i []) k < p:=by
  by_cases hi:i < M.length
  ·rw [modM_getQ hi]; unfold nd; rw [List.getD,List.getElem?_map]; cases (M.getD i [])[k]? with
   | none => exact hp
   | some x => exact Nat.mod_lt _ hp
  rw [show (modM p M).getD i [] = [] by simp [modM,List.getD,show M.length ≤ i by omega]]; exact hp
 omega
theorem wqints {pm:Option Addr} {nm cm p:Nat} {M:List (List Nat)} {w:World} (hm:MS w pm nm M) (hp0:0 < p) (hp2:p < 4294967296) (h0:nm ≠ 0) (hbig:nm ≤ 24) (hrl:∀ r ∈ M,r.length = nm)  :
  Calls Tryd.prog 30 #[.slice pm nm cm,.int .u32 ((p:Nat):Int)] w (Ret (MTt nm (tbl nm nm (en (modM p M))) 2048) w):=by
 have hml:=hm.1
 have hsh:=modM_shpQ (M:=M) hp0 hrl
 have hlm:(modM p M).length = nm:=(List.length_map _).trans hml
 have hS:=Sep.init w
 refine went Tryd.func30 rfl (n:=46) rfl rfl ?_
 refine wsr (wl rfl (oAl [.bool false,.slice none 0 0,.slice none 0 0] hS rfl rfl Tryd.zeroValue72 rfl ?_))
 clear hS; intro g1 w2 hS
 refine wn2 ?_
 have hk1:Wd 1 2:=Wd.i64 (by omega) (by omega)
 refine wcl Tryd.call34 (wqof (z:=1) (by omega) (by omega)) (ar1 evc) hS ?_
 clear hS; rintro _ _ w3 ⟨p1,n1,c1,rfl,rfl⟩ hS
 refine wl rfl (obuild (ps:=#[(0,.agg #[.bool (ng 1),.slice p1 n1 c1])]) (v:=.agg #[.bool (ng 1),.slice p1 n1 c1,.slice none 0 0]) rfl rfl (parts1 (ev (v:=.agg #[.bool (ng 1),.slice p1 n1 c1]) rfl rfl)) (fun w => by simp [go_sem,Instr.build,Instr.fill]) ?_)
 refine wl rfl (oAl [.bool false,.slice none 0 0,.slice none 0 0] hS rfl rfl Tryd.zeroValue72 rfl ?_)
 clear hS; intro g4 w5 hS
 refine wl rfl (oSt [.bool (ng 1),.slice p1 n1 c1,.slice none 0 0] [.bool (ng 1),.slice p1 n1 c1,.slice none 0 0] Tryd.sizeOf72 hS 0 rfl rfl (ev rfl rfl) (ev (v:=.agg #[.bool (ng 1),.slice p1 n1 c1,.slice none 0 0]) rfl rfl) rfl rfl rfl rfl rfl rfl ?_)
 clear hS; intro w6 hS
 refine wn1 (wSq (wsr (wmv (v:=.slice pm nm cm) rfl rfl ?_)))
 refine wmv (v:=.int .u32 (p:Int)) rfl rfl ?_
 refine wcl Tryd.call17 (wdnorm (hm.at hS) hp0 hp2 (by omega) (fun r hr => by rw [hrl r hr]; omega)) (ar2 (ev rfl rfl) (ev rfl rfl)) hS ?_
 clear hS; rintro _ _ w7 ⟨pN,cN,QN,hQN,rfl,rfl⟩ hS
 refine wl rfl (olen rfl rfl rfl Tryd.runUnderlying23 (p:=pN) (k:=nm) (m:=cN) (ev rfl rfl) ?_)
 refine wmvc ?_
 refine wn1 (wBk ?_)
 have hNl:QN.length = nm:=by have h9:=nums_len QN; rw [hQN,hlm] at h9; omega
 replace hS:=hS.nilLst 49 1
 obtain ⟨gN,hgN⟩:=hS.lstPtr 1 rfl (by omega)
 refine wLp (σ := Nat) (fun i a9 w' => ∃ (fb:Nat → Value) (V:List Zqr) (pS:Option Addr) (cS:Nat),a9 = act 46 (sets fb [(4,.pointer (some ⟨g1,0,none⟩)),(5,.pointer (some ⟨g4,0,none⟩)),(15,.slice pN nm cN),(16,.int .i64 (nm:Int)),(17,.int .i64 (i:Int))]) ∧ Sep w [.lst 49 1 pS i cS (ztE V),.lst 29 1 pN nm cN (mmE QN),.blk g4 [.bool (ng 1),.slice p1 n1 c1,.slice pS i cS] 72,.row p1 n1 c1 (lim (1:Int).natAbs),.blk g1 [.bool false,.slice none 0 0,.slice none 0 0] 72] w' ∧ (i ≤ nm) ∧ (ztv V = (tbl nm nm (en (modM p M))).take i)) (fun i => nm - i) (0) ⟨_,[],none,0,aSs ⟨rfl,rfl,rfl,rfl,rfl,trivial⟩,hS,Nat.zero_le _,rfl⟩ ?_
 clear hS; rintro i _ w8 ⟨fb,V,pS,cS,rfl,hS,hi,hV⟩
 refine wsr ?_
 by_cases hli:i < nm
 ·
  obtain ⟨⟨pr,cr,xr⟩,hqr⟩:∃ q,(QN)[i]? = some q:=⟨_,List.getElem?_eq_getElem (by omega)⟩
  have hdr:(nums (QN)).getD i [] = xr:=getD_get (nums_get hqr)
  obtain ⟨hnr,hltr⟩:=(show Shp p nm (nums QN) from hQN.symm ▸ hsh).get (nums_get hqr)
  simp only at hnr hltr
  obtain ⟨gr,hgr⟩:=hS.mPtr 1 rfl hqr (by show 0 < xr.length; omega)
  refine wbt (u:=.int .i64 (i:Int)) (v:=.int .i64 (nm:Int)) rfl rfl rfl rfl (bLs (decide_eq_true (by omega))) ?_
  refine wn1 (wSq ?_)
  refine wT (ev rfl rfl) ?_
  refine wk2 (wl rfl (oIx (p:=pN) (g:=gN) (off:=0) (m:=nm) (k:=i) (j:=(0 + i * 1)) rfl rfl Tryd.runUnderlying23 Tryd.sizeOf29 (ev rfl rfl) hgN (ev rfl rfl) (by omega) rfl ?_))
  refine wl rfl (oLc (v:=.slice pr nm cr) ⟨Tryd.isAgg29,Tryd.sizeOf29⟩ rfl rfl (ev (v:=.pointer (some ⟨gN,(0 + i * 1),none⟩)) rfl rfl) (hS.mRow 1 rfl hqr hnr hgN) ?_)
  refine wav (v:=.slice pr nm cr) rfl rfl ?_
  refine wn2 (wmv (v:=.slice pr nm cr) rfl rfl ?_)
  refine wl rfl (olen rfl rfl rfl Tryd.runUnderlying29 (p:=pr) (k:=nm) (m:=cr) (ev rfl rfl) ?_)
  refine wl rfl (omakeL (zs:=[.bool false,.slice none 0 0]) (k:=nm) (m:=nm) hS rfl rfl Tryd.underlying49 infoInt rfl rfl (by decide) rfl (ev (v:=.int .i64 (nm:Int)) rfl rfl) (ev (v:=.int .i64 (nm:Int)) rfl rfl) (by omega) (by omega) (by omega) ?_)
  clear hS; intro g9 w10 hS
  refine wav (v:=.slice (some ⟨g9,0,none⟩) nm nm) rfl rfl ?_
  refine wn1 (wSq (wsr (wmv (v:=.slice pr nm cr) rfl rfl ?_)))
  refine wl rfl (olen rfl rfl rfl Tryd.runUnderlying29 (p:=pr) (k:=nm) (m:=cr) (ev rfl rfl) ?_)
  refine wmvc ?_
  refine wn1 (wBk ?_)
  rw [show List.replicate nm (⟨[.bool false,.slice none 0 0],[]⟩:El) = zqs [] ++ List.replicate (nm - 0) nilZq from rfl] at hS
  refine wLp (σ := Nat) (fun k a9 w' => ∃ (fb:Nat → Value) (L:List Zq),a9 = act 46 (sets fb [(4,.pointer (some ⟨g1,0,none⟩)),(5,.pointer (some ⟨g4,0,none⟩)),(8,.slice (some ⟨g9,0,none⟩) nm nm),(15,.slice pN nm cN),(16,.int .i64 (nm:Int)),(17,.int .i64 (i:Int)),(24,.slice pr nm cr),(25,.int .i64 (nm:Int)),(26,.int .i64 (k:Int))]) ∧ Sep w [.lst 52 2 (some ⟨g9,0,none⟩) nm nm (zqs L ++ List.replicate (nm - k) nilZq),.lst 49 1 pS i cS (ztE V),.lst 29 1 pN nm cN (mmE QN),.blk g4 [.bool (ng 1),.slice p1 n1 c1,.slice pS i cS] 72,.row p1 n1 c1 (lim (1:Int).natAbs),.blk g1 [.bool false,.slice none 0 0,.slice none 0 0] 72] w' ∧ (k ≤ nm) ∧ (zqv L = (xr.take k).map (fun x:Nat => (x:Int)))) (fun k => nm - k) (0) ⟨_,[],aSs ⟨rfl,rfl,rfl,rfl,rfl,rfl,rfl,rfl,rfl,trivial⟩,hS,Nat.zero_le _,rfl⟩ ?_
  clear hS; rintro k _ w11 ⟨fb,L,rfl,hS,hk,hL⟩
  refine wsr ?_
  by_cases hlk:k < nm
  ·
   have hx8:nd xr k < p:=lt_nd hltr hp0 k
   have hx7:xr[k]? = some (nd xr k):=by rw [List.getElem?_eq_getElem (show k < xr.length by omega)]; simp [nd,List.getD,show k < xr.length by omega]
   refine wbt (u:=.int .i64 (k:Int)) (v:=.int .i64 (nm:Int)) rfl rfl rfl rfl (bLs (decide_eq_true (by omega))) ?_
   refine wn1 (wSq ?_)
   refine wT (ev rfl rfl) ?_
   refine wk2 (wmv (v:=.int .i64 (k:Int)) rfl rfl ?_)
   refine wl rfl (oIx (p:=pr) (g:=gr) (off:=0) (m:=nm) (k:=k) (j:=k) rfl rfl Tryd.runUnderlying29 Tryd.sizeOf24 (ev rfl rfl) hgr (ev rfl rfl) (by omega) (by simp) ?_)
   refine wl rfl (oLc (v:=.int .u32 ((nd xr k:Nat):Int)) one32 rfl rfl (ev (v:=.pointer (some ⟨gr,k,none⟩)) rfl rfl) (hS.mCell 2 rfl hqr hgr (by omega)) ?_)
   refine wav (v:=.int .i64 (k:Int)) rfl rfl ?_
   refine wav (v:=.int .u32 ((nd xr k:Nat):Int)) rfl rfl ?_
   refine wn1 (wreg (wmv (v:=.slice (some ⟨g9,0,none⟩) nm nm) rfl rfl ?_))
   refine wmv (v:=.int .i64 (k:Int)) rfl rfl ?_
   refine wmv (v:=.int .u32 ((nd xr k:Nat):Int)) rfl rfl ?_
   refine wl rfl (oCv (u:=.int .u32 ((nd xr k:Nat):Int)) (v:=.int .i64 ((nd xr k:Nat):Int)) rfl rfl (ev rfl rfl) (cvI Tryd.runUnderlying24 Tryd.runUnderlying2 (wI6 (by omega) (by omega))) ?_)
   have hk2:Wd (((nd xr k:Nat):Int)) 2:=Wd.i64 (by omega) (by omega)
   refine wcl Tryd.call34 ((wqof (z:=((nd xr k:Nat):Int)) (by omega) (by omega)).mono Zt.m) (ar1 (ev rfl rfl)) hS ?_
   clear hS; rintro _ _ w12 ⟨p2,n2,c2,rfl,rfl⟩ hS
   refine wl rfl (oIx (p:=(some ⟨g9,0,none⟩)) (g:=g9) (off:=0) (m:=nm) (k:=k) (j:=(0 + k * 2)) rfl rfl Tryd.runUnderlying49 Tryd.sizeOf52 (ev rfl rfl) (rfl) (ev rfl rfl) (by omega) rfl ?_)
   refine wl rfl (ostoreL (i:=k) (g:=g9) [.bool (ng ((nd xr k:Nat):Int)),.slice p2 n2 c2] [.rowm p2 n2 c2 (lim ((nd xr k:Nat):Int).natAbs)] Tryd.sizeOf52 hS rfl rfl (ev (v:=.pointer (some ⟨g9,(0 + k * 2),none⟩)) rfl rfl) (ev (v:=.agg #[.bool (ng ((nd xr k:Nat):Int)),.slice p2 n2 c2]) rfl rfl) (rfl) rfl rfl rfl rfl (by omega) rfl ?_)
   clear hS; intro w13 hS
   refine wnil (blkN (tNo (wreg (wbc (u:=.int .i64 (k:Int)) (v:=.int .i64 1) (z:=.int .i64 ((k + 1:Nat):Int)) rfl rfl (bAd (wI6 (by omega) (by omega))) ?_))))
   refine wmv (v:=.int .i64 ((k + 1:Nat):Int)) rfl rfl ?_
   refine wn1 ?_
   have hLk:L.length = k:=by rw [← zqv_len,hL,List.length_map,List.length_take]; omega
   have hfq:=fillZ (m:=nm - (k + 1)) (e:=⟨p2,n2,c2,(((nd xr k:Nat):Int))⟩) hLk
   rw [show nm - (k + 1) + 1 = nm - k by omega] at hfq
   rw [show (⟨[.bool (ng (((nd xr k:Nat):Int))),.slice p2 n2 c2],[.rowm p2 n2 c2 (lim (((nd xr k:Nat):Int)).natAbs)]⟩:El) = zqE ⟨p2,n2,c2,(((nd xr k:Nat):Int))⟩ from rfl,hfq] at hS
   exact ⟨(k + 1),⟨_,_,aSs ⟨rfl,rfl,rfl,rfl,rfl,rfl,rfl,rfl,rfl,trivial⟩,hS.pick [0,1,2,3,4,5] (by decide) rfl,by omega,by rw [zqv_snoc,hL,take_next hx7,List.map_append]; rfl⟩,by omega⟩
  refine wbt (u:=.int .i64 (k:Int)) (v:=.int .i64 (nm:Int)) rfl rfl rfl rfl (bLs (decide_eq_false (by omega))) ?_
  refine wn1 (wSq ?_)
  refine wF (ev rfl rfl) ?_
  refine wEx ?_
  refine tEx ?_
  refine tEx ?_
  refine blkE ?_
  refine tNo (wreg (wl rfl (oFA (g:=g4) (off:=0) 2 rfl rfl (ev rfl rfl) Tryd.runUnderlying72 rfl Tryd.sizeOf45 rfl ?_)))
  refine wl rfl (oL1 (v:=.slice pS i cS) ⟨Tryd.isAgg45,Tryd.sizeOf45⟩ hS 3 rfl rfl (ev rfl rfl) rfl rfl ?_)
  refine wmv (v:=.slice (some ⟨g9,0,none⟩) nm nm) rfl rfl ?_
  refine wl rfl (obslice (ps:=#[(0,.slice (some ⟨g9,0,none⟩) nm nm)]) (z:=.slice none 0 0) [.slice (some ⟨g9,0,none⟩) nm nm] hS rfl rfl Tryd.runUnderlying45 Tryd.sizeOf49 Tryd.zeroValue49 (parts1 (ev (v:=.slice (some ⟨g9,0,none⟩) nm nm) rfl rfl)) rfl (by decide) (fill1_1s rfl rfl) ?_)
  clear hS; intro g12 w13 hS
  have hkc:k = nm:=by omega
  have hLc:L.length = nm:=by rw [← zqv_len,hL,List.length_map,List.length_take]; omega
  rw [show nm - k = 0 by omega,List.replicate_zero,List.append_nil] at hS
  obtain hS:=(show Sep w [.lst 52 2 (some ⟨g9,0,none⟩) nm nm (zqs L),.lst 49 1 pS i cS (ztE V),.blk g12 [.slice (some ⟨g9,0,none⟩) nm nm] 49,.lst 29 1 pN nm cN (mmE QN),.blk g4 [.bool (ng 1),.slice p1 n1 c1,.slice pS i cS] 72,.row p1 n1 c1 (lim (1:Int).natAbs),.blk g1 [.bool false,.slice none 0 0,.slice none 0 0] 72] w13 from hS.pick [1,2,0,3,4,5,6] (by decide) rfl)
  refine wl rfl (oappendL (p:=pS) (m:=i) (c:=cS) (g2:=g12) (c2:=1) (off:=0) [.slice (some ⟨g9,0,none⟩) nm nm] [.lst 52 2 (some ⟨g9,0,none⟩) nm nm (zqs L)] hS rfl rfl Tryd.underlying45 infoIRow rfl (by decide) (ev (v:=.slice pS i cS) rfl rfl) (ev (v:=.slice (some ⟨g12,0,none⟩) 1 1) rfl rfl) (fun j v hj => by rw [Nat.zero_add]; exact (blk_cell (hS.blkAt 2 rfl) j).trans hj) rfl rfl rfl (by omega) (by omega) ?_)
  clear hS; intro p15 c16 w14 hS
  refine wl rfl (oFA (g:=g4) (off:=0) 2 rfl rfl (ev rfl rfl) Tryd.runUnderlying72 rfl Tryd.sizeOf45 rfl ?_)
  refine wl rfl (oSt [.slice p15 ((i + 1)) c16] [.bool (ng 1),.slice p1 n1 c1,.slice p15 ((i + 1)) c16] Tryd.sizeOf45 hS 3 rfl rfl (ev rfl rfl) (ev (v:=.slice p15 ((i + 1)) c16) rfl rfl) rfl rfl rfl rfl rfl rfl ?_)
  clear hS; intro w17 hS
  refine wnil (blkN (tNo (wreg ?_)))
  rw [zt_snoc hLc] at hS
  refine wbc (u:=.int .i64 (i:Int)) (v:=.int .i64 1) (z:=.int .i64 ((i + 1:Nat):Int)) rfl rfl (bAd (wI6 (by omega) (by omega))) ?_
  refine wmv (v:=.int .i64 ((i + 1:Nat):Int)) rfl rfl ?_
  refine wn1 ?_
  exact ⟨(i + 1),⟨_,_,_,_,aSs ⟨rfl,rfl,rfl,rfl,rfl,trivial⟩,hS.pick [0,2,3,4,5] (by decide) rfl,by omega,by rw [ztv_snoc,hV,take_next (tbl_at hli),hL,show xr.take k = xr from List.take_of_length_le (by omega),en_row (xs:=xr) (by rw [← hQN]; exact hdr) hnr]⟩,by omega⟩
 refine wbt (u:=.int .i64 (i:Int)) (v:=.int .i64 (nm:Int)) rfl rfl rfl rfl (bLs (decide_eq_false (by omega))) ?_
 refine wn1 (wSq ?_)
 refine wF (ev rfl rfl) ?_
 refine wEx ?_
 refine tEx ?_
 refine tEx ?_
 refine blkE ?_
 refine tNo (wsr (wl rfl (oLd (vs:=[.bool (ng 1),.slice p1 n1 c1,.slice pS i cS]) ⟨Tryd.isAgg72,Tryd.sizeOf72⟩ hS 2 rfl rfl (ev rfl rfl) rfl rfl rfl ?_)))
 refine wl rfl (oSt [.bool (ng 1),.slice p1 n1 c1,.slice pS i cS] [.bool (ng 1),.slice p1 n1 c1,.slice pS i cS] Tryd.sizeOf72 hS 4 rfl rfl (ev rfl rfl) (ev (v:=.agg #[.bool (ng 1),.slice p1 n1 c1,.slice pS i cS]) rfl rfl) rfl rfl rfl rfl rfl rfl ?_)
 clear hS; intro w9 hS
 refine wn1 ?_
 refine wLv ?_
 refine wr1 Tryd.results30 (tellC (cs:=[.bool (ng 1),.slice p1 n1 c1,.slice pS i cS]) ⟨Tryd.isAgg72,Tryd.sizeOf72⟩ hS 4 rfl rfl rfl rfl) ?_
 have hin:i = nm:=by omega
 obtain hS:=(show Sep w [.row p1 n1 c1 (lim (1:Int).natAbs),.lst 49 1 pS i cS (ztE V)] w9 from hS.pick [3,0] (by decide) rfl)
 rw [hin] at hS
 have hVV:ztv V = (tbl nm nm (en (modM p M))):=by rw [hV,hin,List.take_of_length_le (by rw [tbl_len]; omega)]
 have hP:Sep w [.pack [.lst 49 1 pS nm cS (ztE V)],.row p1 n1 c1 (lim (1:Int).natAbs)] w9:=Sep.pack [.lst 49 1 pS nm cS (ztE V)] rfl (hS.pick [1,0] (by decide) rfl)
 exact ⟨_,_,by rw [hin],⟨_,_,_,_,_,_,rfl,rfl,fun w' hh => zt_tb (hh.1 _ List.mem_cons_self) hVV (tbl_wd fun i k _ _ => by have:=enM_lt hp0 M i k; exact wd_small (by omega) (by omega)) (tbl_len _ _ _) (by omega) fun L hL => by rw [tbl_row _ _ _ L hL]; omega⟩,(hP.pick [1,0] (by decide) rfl).newH rfl⟩
theorem nd_map_md {p k:Nat} {zs:List Int} {z:Int} (h:zs[k]? = some z):nd (zs.map (md p)) k = md p z:=by
  unfold nd; rw [List.getD,List.getElem?_map,h]; rfl
theorem wqmodp {px:Option Addr} {m cx p:Nat} {zs:List Int} {w:World} (hR:Rs w px m (zs.map fun z => (z,1)) 2048) (hp0:0 < p) (hp2:p < 4294967296) (hm:m ≤ 1048576) :
  Calls Tryd.prog 28 #[.slice px m cx,.int .u32 ((p:Nat):Int)] w (Ret (Rwt (zs.map (md p))) w):=by
 have hzl:=hR.lenw
 have hS:=Sep.init w
 refine went Tryd.func28 rfl (n:=28) rfl rfl ?_
 refine wsr (wavc ?_)
 refine wn2 (wmv (v:=.slice px m cx) rfl rfl ?_)
 refine wl rfl (olen rfl rfl rfl Tryd.runUnderlying69 (p:=px) (k:=m) (m:=cx) (ev rfl rfl) ?_)
 refine wl rfl (omakeL (zs:=[.int .u32 0]) (k:=m) (m:=m) hS rfl rfl Tryd.underlying30 infouint32 rfl rfl (by decide) rfl (ev (v:=.int .i64 (m:Int)) rfl rfl) (ev (v:=.int .i64 (m:Int)) rfl rfl) (by omega) (by omega) (by omega) ?_)
 clear hS; intro g1 w2 hS
 refine wav (v:=.slice (some ⟨g1,0,none⟩) m m) rfl rfl ?_
 refine wn1 (wSq (wsr (wmv (v:=.slice px m cx) rfl rfl ?_)))
 refine wl rfl (olen rfl rfl rfl Tryd.runUnderlying69 (p:=px) (k:=m) (m:=cx) (ev rfl rfl) ?_)
 refine wmvc ?_
 refine wn1 (wBk ?_)
 obtain hS:=(show Sep w [.lst 24 1 (some ⟨g1,0,none⟩) m m (u32E (List.replicate m 0))] w2 from by rw [u32E_rep]; exact hS).lstRow (lims_zeros _)
 rw [← mixR_zero (zs.map (md p)) (List.replicate m 0)] at hS
 refine wLp (σ := Nat) (fun k a9 w' => ∃ (fb:Nat → Value),a9 = act 28 (sets fb [(1,.int .u32 (p:Int)),(4,.slice none 0 0),(5,.slice (some ⟨g1,0,none⟩) m m),(11,.slice px m cx),(12,.int .i64 (m:Int)),(13,.int .i64 (k:Int))]) ∧ Sep w [.rowm (some ⟨g1,0,none⟩) m m (mixR (zs.map (md p)) (List.replicate m 0) k)] w' ∧ (k ≤ m)) (fun k => m - k) (0) ⟨_,aSs ⟨rfl,rfl,rfl,rfl,rfl,rfl,trivial⟩,hS,Nat.zero_le _⟩ ?_
 clear hS; rintro k _ w3 ⟨fb,rfl,hS,hk⟩
 refine wsr ?_
 by_cases hlk:k < m
 ·
  skip
  refine wbt (u:=.int .i64 (k:Int)) (v:=.int .i64 (m:Int)) rfl rfl rfl rfl (bLs (decide_eq_true (by omega))) ?_
  refine wn1 (wSq ?_)
  refine wT (ev rfl rfl) ?_
  refine wk2 (wmv (v:=.int .i64 (k:Int)) rfl rfl ?_)
  obtain ⟨ze,ge,oe,be,pe,ne,ce,bbe,qe,me,de,hle,hpe,hce,hze,hoe⟩:=hR.elw hlk
  refine wl rfl (oIx (p:=px) (g:=ge) (off:=oe) (m:=m) (k:=k) (j:=(oe + k * 4)) rfl rfl Tryd.runUnderlying69 Tryd.sizeOf91 (ev rfl rfl) hpe (ev rfl rfl) hlk rfl ?_)
  refine wl rfl (oloadA (vs:=[.bool be,.slice pe ne ce,.bool bbe,.slice qe me de]) aggR rfl rfl (ev (v:=.pointer (some ⟨ge,(oe + k * 4),none⟩)) rfl rfl) (fun j v hj => hS.cellAt (hce j v hj)) rfl ?_)
  refine wl rfl (oAl [.bool false,.slice none 0 0,.bool false,.slice none 0 0] hS rfl rfl Tryd.zeroValue91 rfl ?_)
  clear hS; intro g4 w5 hS
  refine wav (v:=.int .i64 (k:Int)) rfl rfl ?_
  refine wl rfl (oSt [.bool be,.slice pe ne ce,.bool bbe,.slice qe me de] [.bool be,.slice pe ne ce,.bool bbe,.slice qe me de] Tryd.sizeOf91 hS 0 rfl rfl (ev rfl rfl) (ev (v:=.agg #[.bool be,.slice pe ne ce,.bool bbe,.slice qe me de]) rfl rfl) rfl rfl rfl rfl rfl rfl ?_)
  clear hS; intro w6 hS
  refine wn1 (wreg (wmv (v:=.slice (some ⟨g1,0,none⟩) m m) rfl rfl ?_))
  refine wmv (v:=.int .i64 (k:Int)) rfl rfl ?_
  refine wl rfl (oLd (vs:=[.bool be,.slice pe ne ce,.bool bbe,.slice qe me de]) aggR hS 0 rfl rfl (ev rfl rfl) rfl rfl rfl ?_)
  obtain ⟨z1,hz1⟩:∃ z:Int,Hid (ze = z):=⟨_,rfl⟩
  have hk1:Wd z1 2048:=by rw [← hz1.out]; exact hze.wd
  have hk2:Wd 1 2:=wd1
  refine wcl Tryd.call45 ((show Calls _ _ _ _ (Ret (Rrt z1 1) _) from by rw [← hz1.out]; exact winorm ((hze.at hS).mono (by omega)) ((hoe.at hS).mono (by omega)))) (ar1 (ev rfl rfl)) hS ?_
  clear hS; rintro _ _ w7 ⟨p1,n1,c1,p2,n2,c2,rfl,rfl⟩ hS
  refine wl rfl (ofield (sz:=0) (vs:=[]) (fs:=#[]) (fd:=default) (cs:=[.bool (ng z1),.slice p1 n1 c1,.bool (ng 1),.slice p2 n2 c2]) (v:=.agg #[.bool (ng z1),.slice p1 n1 c1]) rfl rfl (ev rfl rfl) (run_field_agg Tryd.runUnderlying91 rfl aggZ rfl) ?_)
  refine wmv (v:=.int .u32 (p:Int)) rfl rfl ?_
  refine wcl Tryd.call21 ((show Calls _ _ _ _ (Ret (Is (.int .u32 ((md p z1:Nat):Int))) _) from wqmod (((hS.slm 0 rfl).zr hk1).mono (by omega)) hp2 (by omega))) (ar2 (ev rfl rfl) (ev rfl rfl)) hS ?_
  clear hS; rintro _ _ w8 ⟨rfl,rfl⟩ hS
  have hm9:=md_lt hp0 z1
  refine wl rfl (oIx (p:=(some ⟨g1,0,none⟩)) (g:=g1) (off:=0) (m:=m) (k:=k) (j:=k) rfl rfl Tryd.runUnderlying30 Tryd.sizeOf24 (ev rfl rfl) (rfl) (ev rfl rfl) (by omega) (by simp) ?_)
  refine wl rfl (ostoreRow (i:=k) (u:=(md p z1)) Tryd.sizeOf24 hS 3 rfl rfl (ev (v:=.pointer (some ⟨g1,k,none⟩)) rfl rfl) ((ev (v:=.int .u32 ((md p z1:Nat):Int)) rfl rfl)) rfl (rfl) ((by omega)) (by omega) ?_)
  clear hS; intro w9 hS
  refine wnil (blkN (tNo (wreg (wbc (u:=.int .i64 (k:Int)) (v:=.int .i64 1) (z:=.int .i64 ((k + 1:Nat):Int)) rfl rfl (bAd (wI6 (by omega) (by omega))) ?_))))
  refine wmv (v:=.int .i64 ((k + 1:Nat):Int)) rfl rfl ?_
  refine wn1 ?_
  rw [mixR_set (new:=(zs.map (md p))) (old:=(List.replicate m 0)) (by rw [List.length_map,List.length_replicate,hzl]) (by rw [List.length_replicate]; omega) (by rw [nd_map_md hle,hz1.out])] at hS
  exact ⟨(k + 1),⟨_,aSs ⟨rfl,rfl,rfl,rfl,rfl,rfl,trivial⟩,hS.pick [3] (by decide) rfl,by omega⟩,by omega⟩
 refine wbt (u:=.int .i64 (k:Int)) (v:=.int .i64 (m:Int)) rfl rfl rfl rfl (bLs (decide_eq_false (by omega))) ?_
 refine wn1 (wSq ?_)
 refine wF (ev rfl rfl) ?_
 refine wEx ?_
 refine tEx ?_
 refine tEx ?_
 refine blkE ?_
 refine tNo (wsr (wmv (v:=.slice (some ⟨g1,0,none⟩) m m) rfl rfl ?_))
 refine wav (v:=.slice (some ⟨g1,0,none⟩) m m) rfl rfl ?_
 refine wn1 ?_
 refine wLv ?_
 rw [mixR_full (new:=(zs.map (md p))) (old:=(List.replicate m 0)) (by rw [List.length_map,List.length_replicate,hzl]) (by rw [List.length_replicate]; omega)] at hS
 refine wr1 Tryd.results28 (tlT (v:=.slice (some ⟨g1,0,none⟩) m m) rfl rfl) ?_
 have hxl:(zs.map (md p)).length = m:=by rw [List.length_map,hzl]
 exact ⟨_,_,rfl,⟨_,_,by rw [hxl],by rw [hxl]⟩,hS.newR 0 rfl rfl⟩
theorem doc_char {p:Nat} {M:List (List Nat)} (hp:MR.Pr p) (hr:RectM M) (h0:M.length ≠ 0) (hq:M.length = colsM M) (hn:M.length ≤ 1000) (hp2:p < 4294967296):∃ d,LevC M.length (en (modM p M)) d ∧ (dls d 0 (M.length + 1)).map (md p) = charL p M:=by
 have hp0:0 < p:=by have:=hp.1; omega
 obtain ⟨d,b,hL⟩:=lev_ex h0 (en (modM p M))
 refine ⟨d,lev_C hn hL fun i k _ _ => by have:=enM_lt hp0 M i k; omega,?_⟩
 have hcl:=charL_len hp.1 M
 have h1:Pe p (pv (M.length + 1) fun i => (nd (charL p M) i:Int)) (pv (M.length + 1) d):=by
  have h2:=char_val hp hr h0 hq
  have h3:Pe p (fun x => dt M.length (xm M x)) (fun x => dt M.length (xm (modM p M) x)):=(xm_em fun r c _ _ => en_mod p M r c).symm
  have h4:Pe p (fun x => dt M.length (xm (modM p M) x)) (pv (M.length + 1) d):=Pe.of_eq fun x => hL.val x
  have h5:Pe p (pv (M.length + 1) fun i => (nd (charL p M) i:Int)) (plv (charL p M)):=Pe.of_eq fun x => by unfold plv; rw [hcl]
  exact h5.trans (h2.trans (h3.trans h4))
 have h2:=h1.coef
 apply List.ext_getElem?
 intro i
 by_cases hi:i < M.length + 1
 ·rw [List.getElem?_map,dls_get hi,Nat.zero_add,Option.map_some]
  have h3:nd (charL p M) i < p:=lt_nd (charL_lt hp0 M) hp0 i
  have h4:=h2 i hi
  rw [show (charL p M)[i]? = some (nd (charL p M) i) by simp [nd,List.getD,List.getElem?_eq_getElem (show i < (charL p M).length by omega)]]
  congr 1
  obtain ⟨k,hk⟩:=h4.symm
  unfold md
  rw [show d i = (nd (charL p M) i:Int) + p * k by omega,Int.add_mul_emod_self_left,Int.emod_eq_of_lt (by omega) (by omega)]
  omega
 rw [List.getElem?_eq_none (by rw [List.length_map,dls_len]; omega),List.getElem?_eq_none (by omega)]
theorem wqchar {pm:Option Addr} {nm cm p:Nat} {M:List (List Nat)} {w:World} (hm:MS w pm nm M) (hp2:p < 4294967296) (hp:MR.Pr p) (hr:RectM M) (h0:nm ≠ 0) (hq:M.length = colsM M) (hbig:nm ≤ 24) :
  Calls Tryd.prog 15 #[.slice pm nm cm,.int .u32 ((p:Nat):Int)] w (Ret (Rwt (charL p M)) w):=by
 have hml:=hm.1
 have hp0:0 < p:=by have:=hp.1; omega
 have hrl:∀ r ∈ M,r.length = nm:=fun r h => by rw [hr r h]; omega
 obtain ⟨d,hLC,hdc⟩:=doc_char hp hr (by omega) hq (by omega) hp2
 rw [hml] at hLC hdc
 have hS:=Sep.init w
 refine went Tryd.func15 rfl (n:=11) rfl rfl ?_
 refine wsr (wavc ?_)
 refine wn2 (wmv (v:=.slice pm nm cm) rfl rfl ?_)
 refine wmv (v:=.int .u32 (p:Int)) rfl rfl ?_
 have hkDI:Wd 1 2:=wd1
 refine wcl Tryd.call30 (wqints (hm.at hS) hp0 hp2 h0 hbig hrl) (ar2 (ev rfl rfl) (ev rfl rfl)) hS ?_
 clear hS; rintro _ _ w1 ⟨pDI,nDI,cDI,pSI,cSI,rsI,rfl,rfl,hMI⟩ hS
 refine wcl Tryd.call29 (wpchar ((hS.sl 0 rfl).zr hkDI) (hMI _ (hS.get 1 rfl)) h0 (by omega) hLC) (ar1 (ev rfl rfl)) hS ?_
 clear hS; rintro _ _ w2 ⟨pP,cP,LP,hLP,rfl,rfl⟩ hS
 refine wmv (v:=.int .u32 (p:Int)) rfl rfl ?_
 have hLl:LP.length = nm + 1:=by rw [← izs_len,hLP,dls_len]
 refine wcl Tryd.call28 ((show Calls _ _ _ _ (Ret (Rwt (charL p M)) _) from by rw [← hdc]; exact wqmodp (zs:=dls d 0 (nm + 1)) (by rw [← hLP, ← hLl]; exact ir_rs (L:=LP) (c:=cP) (t:=91) (by rw [hLl]; exact hS.get 0 rfl) (by rw [hLP]; exact dls_wd hLC.wd (Nat.le_refl _)) (by decide) (by omega)) hp0 hp2 (by omega))) (ar2 (ev rfl rfl) (ev rfl rfl)) hS ?_
 clear hS; rintro _ _ w3 ⟨pO,cO,rfl,rfl⟩ hS
 refine wav (v:=.slice pO (((charL p M)).length) cO) rfl rfl ?_
 refine wn1 ?_
 refine wLv ?_
 refine wr1 Tryd.results15 (tlT (v:=.slice pO (((charL p M)).length) cO) rfl rfl) ?_
 exact ⟨_,_,rfl,⟨_,_,rfl,rfl⟩,hS.newR 0 rfl rfl⟩
open Go.RowKit
def isH (p:Nat) (M:List (List Nat)):Prop := ∀ i k,k + 1 < i → i < M.length → nd (M.getD i []) k % p = 0
theorem wqis0 {pm : Option Addr} {nm cm p : Nat} {M : List (List Nat)} {w : World} (hm : MS w pm nm M) (hp0 : 0 < p) (hp2 : p < 4294967296) (hb1 : nm ≤ 2097152) (hrr : ∀ r ∈ M, r.length = nm) (hz : ¬ isH p M) :
    Calls Tryd.prog 13 #[.slice pm nm cm,.int .u32 ((p:Nat):Int)] w (Ret (Is (.bool false)) w):=by
  have hml:=hm.1
  have hS:=Sep.init w
  refine went Tryd.func13 rfl (n:=29) rfl rfl ?_
  refine wsr (wavc ?_)
  refine wn1 (wSq (wsr (wmv (v:=.slice pm nm cm) rfl rfl ?_)))
  refine wl rfl (olen rfl rfl rfl Tryd.runUnderlying23 (p:=pm) (k:=nm) (m:=cm) (ev rfl rfl) ?_)
  refine wmvc ?_
  refine wn1 (wBk ?_)
  refine wLp (σ := Nat) (fun i a9 w' => ∃ (fb:Nat → Value),a9 = act 29 (sets fb [(0,.slice pm nm cm),(1,.int .u32 (p:Int)),(8,.int .i64 (nm:Int)),(9,.int .i64 (i:Int))]) ∧ Sep w [] w' ∧ (i ≤ nm) ∧ (∀ i2 k2,i2 < i → k2 + 1 < i2 → nd (M.getD i2 []) k2 % p = 0)) (fun i => nm - i) (0) ⟨_,aSs ⟨rfl,rfl,rfl,rfl,trivial⟩,hS,Nat.zero_le _,fun _ _ h => by omega⟩ ?_
  clear hS; rintro i _ w1 ⟨fb,rfl,hS,hi,hno⟩
  refine wsr ?_
  by_cases hli:i < nm
  ·
    refine wbt (u:=.int .i64 (i:Int)) (v:=.int .i64 (nm:Int)) rfl rfl rfl rfl (bLs (decide_eq_true (by omega))) ?_
    refine wn1 (wSq ?_)
    refine wT (ev rfl rfl) ?_
    refine wk2 (wmv (v:=.int .i64 (i:Int)) rfl rfl ?_)
    refine wav (v:=.int .i64 (i:Int)) rfl rfl ?_
    refine wn2 (wavc ?_)
    refine wn1 (wBk ?_)
    obtain ⟨xr,hxr⟩:∃ r,(M)[i]? = some r:=⟨_,List.getElem?_eq_getElem (by have:=hm.1; omega)⟩
    obtain ⟨br,ofr,pr,cr,hpr,hcr,hsr⟩:=hm.2.2 i _ hxr
    have hrl:=hrr xr (List.mem_of_getElem? hxr)
    refine wLp (σ := Nat) (fun k a9 w' => ∃ (fb:Nat → Value),a9 = act 29 (sets fb [(0,.slice pm nm cm),(1,.int .u32 (p:Int)),(5,.int .i64 (i:Int)),(6,.int .i64 (k:Int)),(8,.int .i64 (nm:Int)),(9,.int .i64 (i:Int))]) ∧ Sep w [] w' ∧ (k ≤ i) ∧ (∀ k2,k2 < k → nd xr k2 % p = 0)) (fun k => i - k) (0) ⟨_,aSs ⟨rfl,rfl,rfl,rfl,rfl,rfl,trivial⟩,hS,Nat.zero_le _,fun _ h => by omega⟩ ?_
    clear hS; rintro k _ w2 ⟨fb,rfl,hS,hk,hno2⟩
    refine wSq (wsr (wmv (v:=.int .i64 (k:Int)) rfl rfl ?_))
    refine wbc (u:=.int .i64 (k:Int)) (v:=.int .i64 1) (z:=.int .i64 ((k + 1:Nat):Int)) rfl rfl (bAd (wI6 (by omega) (by omega))) ?_
    refine wmv (v:=.int .i64 (i:Int)) rfl rfl ?_
    by_cases hlk:k + 1 < i
    ·
      refine wbt (u:=.int .i64 ((k + 1:Nat):Int)) (v:=.int .i64 (i:Int)) rfl rfl rfl rfl (bLs (decide_eq_true (by omega))) ?_
      refine wn1 ?_
      refine wT (ev rfl rfl) ?_
      refine wk2 (wmv (v:=.slice pm nm cm) rfl rfl ?_)
      refine wmv (v:=.int .i64 (i:Int)) rfl rfl ?_
      obtain ⟨bce,oce,hpce,hcce⟩:=hsr.el (show k < xr.length by omega)
      have hl9:=hsr.lim1 k
      refine wl rfl (oIx (p:=pm) (g:=br) (off:=ofr) (m:=nm) (k:=i) (j:=(ofr + i * 1)) rfl rfl Tryd.runUnderlying23 Tryd.sizeOf29 (ev rfl rfl) hpr (ev rfl rfl) (by omega) rfl ?_)
      refine wl rfl (oLc (v:=.slice pr xr.length cr) ⟨Tryd.isAgg29,Tryd.sizeOf29⟩ rfl rfl (ev (v:=.pointer (some ⟨br,(ofr + i * 1),none⟩)) rfl rfl) (hS.cellAt (hcr 0 _ rfl)) ?_)
      refine wmv (v:=.int .i64 (k:Int)) rfl rfl ?_
      refine wl rfl (oIx (p:=pr) (g:=bce) (off:=oce) (m:=xr.length) (k:=k) (j:=(oce + k * 1)) rfl rfl Tryd.runUnderlying29 Tryd.sizeOf24 (ev rfl rfl) hpce (ev rfl rfl) (by omega) rfl ?_)
      refine wl rfl (oLc (v:=.int .u32 ((nd xr k:Nat):Int)) one32 rfl rfl (ev (v:=.pointer (some ⟨bce,(oce + k * 1),none⟩)) rfl rfl) (hS.cellAt (hcce 0 _ rfl)) ?_)
      refine wmv (v:=.int .u32 (p:Int)) rfl rfl ?_
      refine wbt (u:=.int .u32 ((nd xr k:Nat):Int)) (v:=.int .u32 (p:Int)) (z:=.int .u32 ((nd xr k % p:Nat):Int)) rfl rfl rfl rfl (bin_rem (by omega) rfl) ?_
      by_cases hzz:nd xr k % p = 0
      ·
        refine wbc (u:=.int .u32 ((nd xr k % p:Nat):Int)) (v:=.int .u32 0) (z:=.bool false) rfl rfl (bNe (neF (by omega))) ?_
        refine wn1 ?_
        refine wF (ev rfl rfl) ?_
        refine wSk (blkN (tNo (wreg (wmv (v:=.int .i64 (k:Int)) rfl rfl ?_))))
        refine wbc (u:=.int .i64 (k:Int)) (v:=.int .i64 1) (z:=.int .i64 ((k + 1:Nat):Int)) rfl rfl (bAd (wI6 (by omega) (by omega))) ?_
        refine wav (v:=.int .i64 ((k + 1:Nat):Int)) rfl rfl ?_
        refine wn1 ?_
        exact ⟨(k + 1), ⟨_, aSs (l := [(0, .slice pm nm cm), (1, .int .u32 (p : Int)), (5, .int .i64 (i : Int)), (6, .int .i64 (((k + 1 : Nat) : Int))), (8, .int .i64 (nm : Int)), (9, .int .i64 (i : Int))]) ⟨rfl, rfl, rfl, rfl, rfl, rfl, trivial⟩, hS.pick [] (by decide) rfl, by omega, fun k2 h2 => by
                      by_cases e:k2 = k
                      · rw [e]; exact hzz
                      exact hno2 k2 (by omega)⟩,by omega⟩
      refine wbc (u:=.int .u32 ((nd xr k % p:Nat):Int)) (v:=.int .u32 0) (z:=.bool true) rfl rfl (bNe (neT (by omega))) ?_
      refine wn1 ?_
      refine wT (ev rfl rfl) ?_
      refine wsr (wavc ?_)
      refine wn1 ?_
      refine wLv ?_
      refine blkR ?_
      refine thenR ?_
      refine thenR ?_
      refine blkR ?_
      refine blkR ?_
      refine thenR ?_
      refine thenR ?_
      refine blkR ?_
      refine thenR ?_
      refine wr1 Tryd.results13 (tlT (v:=.bool false) rfl rfl) ?_
      exact ⟨_,_,rfl,isI,hS.new0⟩
    refine wbt (u:=.int .i64 ((k + 1:Nat):Int)) (v:=.int .i64 (i:Int)) rfl rfl rfl rfl (bLs (decide_eq_false (by omega))) ?_
    refine wn1 ?_
    refine wF (ev rfl rfl) ?_
    refine wEx ?_
    refine tEx ?_
    refine tEx ?_
    refine blkE ?_
    refine blkN (tNo (wreg (wbc (u:=.int .i64 (i:Int)) (v:=.int .i64 1) (z:=.int .i64 ((i + 1:Nat):Int)) rfl rfl (bAd (wI6 (by omega) (by omega))) ?_)))
    refine wmv (v:=.int .i64 ((i + 1:Nat):Int)) rfl rfl ?_
    refine wn1 ?_
    exact ⟨(i + 1), ⟨_, aSs (l := [(0, .slice pm nm cm), (1, .int .u32 (p : Int)), (8, .int .i64 (nm : Int)), (9, .int .i64 (((i + 1 : Nat) : Int)))]) ⟨rfl, rfl, rfl, rfl, trivial⟩, hS.pick [] (by decide) rfl, by omega, fun i2 k2 h2 h3 => by
                  by_cases e:i2 = i
                  · subst e; rw [getD_get hxr]; exact hno2 k2 (by omega)
                  exact hno i2 k2 (by omega) h3⟩,by omega⟩
  refine wbt (u:=.int .i64 (i:Int)) (v:=.int .i64 (nm:Int)) rfl rfl rfl rfl (bLs (decide_eq_false (by omega))) ?_
  refine wn1 (wSq ?_)
  refine wF (ev rfl rfl) ?_
  refine wEx ?_
  refine tEx ?_
  refine tEx ?_
  refine blkE ?_
  refine tNo (wsr (wavc ?_))
  refine wn1 ?_
  refine wLv ?_
  exact absurd (fun i2 k2 h3 h4 => hno i2 k2 (by omega) h3) hz
theorem whIs1 {pm:Option Addr} {nm cm p:Nat} {M:List (List Nat)} {w:World} (ht:Tb w) (hm:MS w pm nm M) (hp2:p < 4294967296) (hb1:nm ≤ 2097152) (hb2:∀ r ∈ M,r.length ≤ 1048576) (hp:MR.Pr p) (hr:RectM M) (h0:nm ≠ 0) (hq:M.length = colsM M) (hbig:nm ≤ 24) (hz:isH p M) :
  Calls Tryd.prog 8 #[.slice pm nm cm,.int .u32 ((p:Nat):Int)] w (Ret (Is (.tuple #[.bool true,.int .i64 0])) w):=by
 have hml:=hm.1
 have hp0:0 < p:=by have:=hp.1; omega
 have hrr:∀ r ∈ M,r.length = nm:=fun r h => by rw [hr r h]; omega
 have hS:=Sep.init w
 refine went Tryd.func8 rfl (n:=38) rfl rfl ?_
 refine wsr (wavc ?_)
 refine wavc ?_
 refine wn1 (wSq (wsr (wmv (v:=.slice pm nm cm) rfl rfl ?_)))
 refine wmv (v:=.int .u32 (p:Int)) rfl rfl ?_
 refine wcl Tryd.call22 (whfaults (ht.at hS) (hm.at hS) hp2 hb1 hb2 (HFa.ok hp hr (by omega) hq (by omega))) (ar2 (ev rfl rfl) (ev rfl rfl)) hS ?_
 clear hS; rintro _ _ w1 ⟨rfl,rfl⟩ hS
 refine wav (v:=.int .i64 ((0:Nat):Int)) rfl rfl ?_
 refine wn2 (wmv (v:=.int .i64 ((0:Nat):Int)) rfl rfl ?_)
 refine wbc (u:=.int .i64 ((0:Nat):Int)) (v:=.int .i64 0) (z:=.bool false) rfl rfl (bNe (neF rfl)) ?_
 refine wn1 ?_
 refine wF (ev rfl rfl) ?_
 refine wSk (tNo (wSq (wsr (wmv (v:=.slice pm nm cm) rfl rfl ?_))))
 refine wl rfl (olen rfl rfl rfl Tryd.runUnderlying23 (p:=pm) (k:=nm) (m:=cm) (ev rfl rfl) ?_)
 refine wmvc ?_
 refine wn1 (wBk ?_)
 refine wLp (σ := Nat) (fun i a9 w' => ∃ (fb:Nat → Value),a9 = act 38 (sets fb [(1,.int .u32 (p:Int)),(16,.slice pm nm cm),(17,.int .i64 (nm:Int)),(18,.int .i64 (i:Int))]) ∧ Sep w [] w' ∧ (i ≤ nm)) (fun i => nm - i) (0) ⟨_,aSs ⟨rfl,rfl,rfl,rfl,trivial⟩,hS,Nat.zero_le _⟩ ?_
 clear hS; rintro i _ w2 ⟨fb,rfl,hS,hi⟩
 refine wsr ?_
 by_cases hli:i < nm
 ·
  refine wbt (u:=.int .i64 (i:Int)) (v:=.int .i64 (nm:Int)) rfl rfl rfl rfl (bLs (decide_eq_true (by omega))) ?_
  refine wn1 (wSq ?_)
  refine wT (ev rfl rfl) ?_
  refine wk2 (wmv (v:=.int .i64 (i:Int)) rfl rfl ?_)
  obtain ⟨xr,hxr⟩:∃ r,(M)[i]? = some r:=⟨_,List.getElem?_eq_getElem (by have:=hm.1; omega)⟩
  obtain ⟨br,ofr,pr,cr,hpr,hcr,hsr⟩:=hm.2.2 i _ hxr
  have hrl:=hrr xr (List.mem_of_getElem? hxr)
  refine wl rfl (oIx (p:=pm) (g:=br) (off:=ofr) (m:=nm) (k:=i) (j:=(ofr + i * 1)) rfl rfl Tryd.runUnderlying23 Tryd.sizeOf29 (ev rfl rfl) hpr (ev rfl rfl) (by omega) rfl ?_)
  refine wl rfl (oLc (v:=.slice pr xr.length cr) ⟨Tryd.isAgg29,Tryd.sizeOf29⟩ rfl rfl (ev (v:=.pointer (some ⟨br,(ofr + i * 1),none⟩)) rfl rfl) (hS.cellAt (hcr 0 _ rfl)) ?_)
  refine wav (v:=.int .i64 (i:Int)) rfl rfl ?_
  refine wav (v:=.slice pr xr.length cr) rfl rfl ?_
  refine wn2 (wmv (v:=.int .i64 (i:Int)) rfl rfl ?_)
  refine wbc (u:=.int .i64 (i:Int)) (v:=.int .i64 1) (z:=.int .i64 (((i:Int) - 1))) rfl rfl (bin_sub (wI6 (by omega) (by omega))) ?_
  refine wl rfl (omax2 (a:=((i:Int) - 1)) (b:=0) (r:=((i - 1:Nat):Int)) rfl rfl rfl (ev (v:=.int .i64 (((i:Int) - 1))) rfl rfl) (evc (v:=.int .i64 0)) (by split <;> omega) ?_)
  refine wmvc ?_
  refine wn1 (wBk ?_)
  refine wLp (σ := Nat) (fun k a9 w' => ∃ (fb:Nat → Value),a9 = act 38 (sets fb [(1,.int .u32 (p:Int)),(8,.slice pr xr.length cr),(16,.slice pm nm cm),(17,.int .i64 (nm:Int)),(18,.int .i64 (i:Int)),(25,.int .i64 ((i - 1:Nat):Int)),(26,.int .i64 (k:Int))]) ∧ Sep w [] w' ∧ (k ≤ i - 1)) (fun k => i - 1 - k) (0) ⟨_,aSs ⟨rfl,rfl,rfl,rfl,rfl,rfl,rfl,trivial⟩,hS,Nat.zero_le _⟩ ?_
  clear hS; rintro k _ w3 ⟨fb,rfl,hS,hk⟩
  refine wsr ?_
  by_cases hlk:k < i - 1
  ·
   refine wbt (u:=.int .i64 (k:Int)) (v:=.int .i64 ((i - 1:Nat):Int)) rfl rfl rfl rfl (bLs (decide_eq_true (by omega))) ?_
   refine wn1 (wSq ?_)
   refine wT (ev rfl rfl) ?_
   refine wk2 (wmv (v:=.int .i64 (k:Int)) rfl rfl ?_)
   refine wav (v:=.int .i64 (k:Int)) rfl rfl ?_
   refine wn2 (wmv (v:=.slice pr xr.length cr) rfl rfl ?_)
   refine wmv (v:=.int .i64 (k:Int)) rfl rfl ?_
   obtain ⟨bce,oce,hpce,hcce⟩:=hsr.el (show k < xr.length by omega)
   have hl9:=hsr.lim1 k
   have hzz:nd xr k % p = 0:=by have:=hz i k (by omega) (by omega); rwa [getD_get hxr] at this
   refine wl rfl (oIx (p:=pr) (g:=bce) (off:=oce) (m:=xr.length) (k:=k) (j:=(oce + k * 1)) rfl rfl Tryd.runUnderlying29 Tryd.sizeOf24 (ev rfl rfl) hpce (ev rfl rfl) (by omega) rfl ?_)
   refine wl rfl (oLc (v:=.int .u32 ((nd xr k:Nat):Int)) one32 rfl rfl (ev (v:=.pointer (some ⟨bce,(oce + k * 1),none⟩)) rfl rfl) (hS.cellAt (hcce 0 _ rfl)) ?_)
   refine wmv (v:=.int .u32 (p:Int)) rfl rfl ?_
   refine wbt (u:=.int .u32 ((nd xr k:Nat):Int)) (v:=.int .u32 (p:Int)) (z:=.int .u32 ((nd xr k % p:Nat):Int)) rfl rfl rfl rfl (bin_rem (by omega) rfl) ?_
   refine wbc (u:=.int .u32 ((nd xr k % p:Nat):Int)) (v:=.int .u32 0) (z:=.bool false) rfl rfl (bNe (neF (by omega))) ?_
   refine wn1 ?_
   refine wF (ev rfl rfl) ?_
   refine wSk (blkN (tNo (wreg (wbc (u:=.int .i64 (k:Int)) (v:=.int .i64 1) (z:=.int .i64 ((k + 1:Nat):Int)) rfl rfl (bAd (wI6 (by omega) (by omega))) ?_))))
   refine wmv (v:=.int .i64 ((k + 1:Nat):Int)) rfl rfl ?_
   refine wn1 ?_
   exact ⟨(k + 1),⟨_,aSs ⟨rfl,rfl,rfl,rfl,rfl,rfl,rfl,trivial⟩,hS.pick [] (by decide) rfl,by omega⟩,by omega⟩
  refine wbt (u:=.int .i64 (k:Int)) (v:=.int .i64 ((i - 1:Nat):Int)) rfl rfl rfl rfl (bLs (decide_eq_false (by omega))) ?_
  refine wn1 (wSq ?_)
  refine wF (ev rfl rfl) ?_
  refine wEx ?_
  refine tEx ?_
  refine tEx ?_
  refine blkE ?_
  refine blkN (tNo (wreg (wbc (u:=.int .i64 (i:Int)) (v:=.int .i64 1) (z:=.int .i64 ((i + 1:Nat):Int)) rfl rfl (bAd (wI6 (by omega) (by omega))) ?_)))
  refine wmv (v:=.int .i64 ((i + 1:Nat):Int)) rfl rfl ?_
  refine wn1 ?_
  exact ⟨(i + 1),⟨_,aSs ⟨rfl,rfl,rfl,rfl,trivial⟩,hS.pick [] (by decide) rfl,by omega⟩,by omega⟩
 refine wbt (u:=.int .i64 (i:Int)) (v:=.int .i64 (nm:Int)) rfl rfl rfl rfl (bLs (decide_eq_false (by omega))) ?_
 refine wn1 (wSq ?_)
 refine wF (ev rfl rfl) ?_
 refine wEx ?_
 refine tEx ?_
 refine tEx ?_
 refine blkE ?_
 refine tNo (wsr (wavc ?_))
 refine wavc ?_
 refine wn1 ?_
 refine wLv ?_
 refine wret2 Tryd.results8 (tlT (v:=.bool true) rfl rfl) (tlT (v:=.int .i64 0) rfl rfl) ?_
 exact ⟨_,_,rfl,isI,hS.new0⟩
theorem whIs0 {pm : Option Addr} {nm cm p : Nat} {M : List (List Nat)} {w : World} (ht : Tb w) (hm : MS w pm nm M) (hp2 : p < 4294967296) (hb1 : nm ≤ 2097152) (hb2 : ∀ r ∈ M, r.length ≤ 1048576) (hp : MR.Pr p) (hr : RectM M) (h0 : nm ≠ 0) (hq : M.length = colsM M) (hbig : nm ≤ 24) (hz : ¬ isH p M) :
    Calls Tryd.prog 8 #[.slice pm nm cm,.int .u32 ((p:Nat):Int)] w (Ret (Is (.tuple #[.bool false,.int .i64 0])) w):=by
  have hml:=hm.1
  have hp0:0 < p:=by have:=hp.1; omega
  have hrr:∀ r ∈ M,r.length = nm:=fun r h => by rw [hr r h]; omega
  have hS:=Sep.init w
  refine went Tryd.func8 rfl (n:=38) rfl rfl ?_
  refine wsr (wavc ?_)
  refine wavc ?_
  refine wn1 (wSq (wsr (wmv (v:=.slice pm nm cm) rfl rfl ?_)))
  refine wmv (v:=.int .u32 (p:Int)) rfl rfl ?_
  refine wcl Tryd.call22 (whfaults (ht.at hS) (hm.at hS) hp2 hb1 hb2 (HFa.ok hp hr (by omega) hq (by omega))) (ar2 (ev rfl rfl) (ev rfl rfl)) hS ?_
  clear hS; rintro _ _ w1 ⟨rfl,rfl⟩ hS
  refine wav (v:=.int .i64 ((0:Nat):Int)) rfl rfl ?_
  refine wn2 (wmv (v:=.int .i64 ((0:Nat):Int)) rfl rfl ?_)
  refine wbc (u:=.int .i64 ((0:Nat):Int)) (v:=.int .i64 0) (z:=.bool false) rfl rfl (bNe (neF rfl)) ?_
  refine wn1 ?_
  refine wF (ev rfl rfl) ?_
  refine wSk (tNo (wSq (wsr (wmv (v:=.slice pm nm cm) rfl rfl ?_))))
  refine wl rfl (olen rfl rfl rfl Tryd.runUnderlying23 (p:=pm) (k:=nm) (m:=cm) (ev rfl rfl) ?_)
  refine wmvc ?_
  refine wn1 (wBk ?_)
  refine wLp (σ := Nat) (fun i a9 w' => ∃ (fb:Nat → Value),a9 = act 38 (sets fb [(1,.int .u32 (p:Int)),(16,.slice pm nm cm),(17,.int .i64 (nm:Int)),(18,.int .i64 (i:Int))]) ∧ Sep w [] w' ∧ (i ≤ nm) ∧ (∀ i2 k2,i2 < i → k2 + 1 < i2 → nd (M.getD i2 []) k2 % p = 0)) (fun i => nm - i) (0) ⟨_,aSs ⟨rfl,rfl,rfl,rfl,trivial⟩,hS,Nat.zero_le _,fun _ _ h => by omega⟩ ?_
  clear hS; rintro i _ w2 ⟨fb,rfl,hS,hi,hno⟩
  refine wsr ?_
  by_cases hli:i < nm
  ·
    refine wbt (u:=.int .i64 (i:Int)) (v:=.int .i64 (nm:Int)) rfl rfl rfl rfl (bLs (decide_eq_true (by omega))) ?_
    refine wn1 (wSq ?_)
    refine wT (ev rfl rfl) ?_
    refine wk2 (wmv (v:=.int .i64 (i:Int)) rfl rfl ?_)
    obtain ⟨xr,hxr⟩:∃ r,(M)[i]? = some r:=⟨_,List.getElem?_eq_getElem (by have:=hm.1; omega)⟩
    obtain ⟨br,ofr,pr,cr,hpr,hcr,hsr⟩:=hm.2.2 i _ hxr
    have hrl:=hrr xr (List.mem_of_getElem? hxr)
    refine wl rfl (oIx (p:=pm) (g:=br) (off:=ofr) (m:=nm) (k:=i) (j:=(ofr + i * 1)) rfl rfl Tryd.runUnderlying23 Tryd.sizeOf29 (ev rfl rfl) hpr (ev rfl rfl) (by omega) rfl ?_)
    refine wl rfl (oLc (v:=.slice pr xr.length cr) ⟨Tryd.isAgg29,Tryd.sizeOf29⟩ rfl rfl (ev (v:=.pointer (some ⟨br,(ofr + i * 1),none⟩)) rfl rfl) (hS.cellAt (hcr 0 _ rfl)) ?_)
    refine wav (v:=.int .i64 (i:Int)) rfl rfl ?_
    refine wav (v:=.slice pr xr.length cr) rfl rfl ?_
    refine wn2 (wmv (v:=.int .i64 (i:Int)) rfl rfl ?_)
    refine wbc (u:=.int .i64 (i:Int)) (v:=.int .i64 1) (z:=.int .i64 (((i:Int) - 1))) rfl rfl (bin_sub (wI6 (by omega) (by omega))) ?_
    refine wl rfl (omax2 (a:=((i:Int) - 1)) (b:=0) (r:=((i - 1:Nat):Int)) rfl rfl rfl (ev (v:=.int .i64 (((i:Int) - 1))) rfl rfl) (evc (v:=.int .i64 0)) (by split <;> omega) ?_)
    refine wmvc ?_
    refine wn1 (wBk ?_)
    refine wLp (σ := Nat) (fun k a9 w' => ∃ (fb:Nat → Value),a9 = act 38 (sets fb [(1,.int .u32 (p:Int)),(8,.slice pr xr.length cr),(16,.slice pm nm cm),(17,.int .i64 (nm:Int)),(18,.int .i64 (i:Int)),(25,.int .i64 ((i - 1:Nat):Int)),(26,.int .i64 (k:Int))]) ∧ Sep w [] w' ∧ (k ≤ i - 1) ∧ (∀ k2,k2 < k → nd xr k2 % p = 0)) (fun k => i - 1 - k) (0) ⟨_,aSs ⟨rfl,rfl,rfl,rfl,rfl,rfl,rfl,trivial⟩,hS,Nat.zero_le _,fun _ h => by omega⟩ ?_
    clear hS; rintro k _ w3 ⟨fb,rfl,hS,hk,hno2⟩
    refine wsr ?_
    by_cases hlk:k < i - 1
    ·
      refine wbt (u:=.int .i64 (k:Int)) (v:=.int .i64 ((i - 1:Nat):Int)) rfl rfl rfl rfl (bLs (decide_eq_true (by omega))) ?_
      refine wn1 (wSq ?_)
      refine wT (ev rfl rfl) ?_
      refine wk2 (wmv (v:=.int .i64 (k:Int)) rfl rfl ?_)
      refine wav (v:=.int .i64 (k:Int)) rfl rfl ?_
      refine wn2 (wmv (v:=.slice pr xr.length cr) rfl rfl ?_)
      refine wmv (v:=.int .i64 (k:Int)) rfl rfl ?_
      obtain ⟨bce,oce,hpce,hcce⟩:=hsr.el (show k < xr.length by omega)
      have hl9:=hsr.lim1 k
      refine wl rfl (oIx (p:=pr) (g:=bce) (off:=oce) (m:=xr.length) (k:=k) (j:=(oce + k * 1)) rfl rfl Tryd.runUnderlying29 Tryd.sizeOf24 (ev rfl rfl) hpce (ev rfl rfl) (by omega) rfl ?_)
      refine wl rfl (oLc (v:=.int .u32 ((nd xr k:Nat):Int)) one32 rfl rfl (ev (v:=.pointer (some ⟨bce,(oce + k * 1),none⟩)) rfl rfl) (hS.cellAt (hcce 0 _ rfl)) ?_)
      refine wmv (v:=.int .u32 (p:Int)) rfl rfl ?_
      refine wbt (u:=.int .u32 ((nd xr k:Nat):Int)) (v:=.int .u32 (p:Int)) (z:=.int .u32 ((nd xr k % p:Nat):Int)) rfl rfl rfl rfl (bin_rem (by omega) rfl) ?_
      by_cases hzz:nd xr k % p = 0
      ·
        refine wbc (u:=.int .u32 ((nd xr k % p:Nat):Int)) (v:=.int .u32 0) (z:=.bool false) rfl rfl (bNe (neF (by omega))) ?_
        refine wn1 ?_
        refine wF (ev rfl rfl) ?_
        refine wSk (blkN (tNo (wreg (wbc (u:=.int .i64 (k:Int)) (v:=.int .i64 1) (z:=.int .i64 ((k + 1:Nat):Int)) rfl rfl (bAd (wI6 (by omega) (by omega))) ?_))))
        refine wmv (v:=.int .i64 ((k + 1:Nat):Int)) rfl rfl ?_
        refine wn1 ?_
        exact ⟨(k + 1), ⟨_, aSs (l := [(1, .int .u32 (p : Int)), (8, .slice pr xr.length cr), (16, .slice pm nm cm), (17, .int .i64 (nm : Int)), (18, .int .i64 (i : Int)), (25, .int .i64 (((i - 1 : Nat) : Int))), (26, .int .i64 (((k + 1 : Nat) : Int)))]) ⟨rfl, rfl, rfl, rfl, rfl, rfl, rfl, trivial⟩, hS.pick [] (by decide) rfl, by omega, fun k2 h2 => by
                      by_cases e:k2 = k
                      · rw [e]; exact hzz
                      exact hno2 k2 (by omega)⟩,by omega⟩
      refine wbc (u:=.int .u32 ((nd xr k % p:Nat):Int)) (v:=.int .u32 0) (z:=.bool true) rfl rfl (bNe (neT (by omega))) ?_
      refine wn1 ?_
      refine wT (ev rfl rfl) ?_
      refine wsr (wavc ?_)
      refine wavc ?_
      refine wn1 ?_
      refine wLv ?_
      refine blkR ?_
      refine thenR ?_
      refine thenR ?_
      refine blkR ?_
      refine blkR ?_
      refine thenR ?_
      refine thenR ?_
      refine blkR ?_
      refine thenR ?_
      refine wret2 Tryd.results8 (tlT (v:=.bool false) rfl rfl) (tlT (v:=.int .i64 0) rfl rfl) ?_
      exact ⟨_,_,rfl,isI,hS.new0⟩
    refine wbt (u:=.int .i64 (k:Int)) (v:=.int .i64 ((i - 1:Nat):Int)) rfl rfl rfl rfl (bLs (decide_eq_false (by omega))) ?_
    refine wn1 (wSq ?_)
    refine wF (ev rfl rfl) ?_
    refine wEx ?_
    refine tEx ?_
    refine tEx ?_
    refine blkE ?_
    refine blkN (tNo (wreg (wbc (u:=.int .i64 (i:Int)) (v:=.int .i64 1) (z:=.int .i64 ((i + 1:Nat):Int)) rfl rfl (bAd (wI6 (by omega) (by omega))) ?_)))
    refine wmv (v:=.int .i64 ((i + 1:Nat):Int)) rfl rfl ?_
    refine wn1 ?_
    exact ⟨(i + 1), ⟨_, aSs (l := [(1, .int .u32 (p : Int)), (16, .slice pm nm cm), (17, .int .i64 (nm : Int)), (18, .int .i64 (((i + 1 : Nat) : Int)))]) ⟨rfl, rfl, rfl, rfl, trivial⟩, hS.pick [] (by decide) rfl, by omega, fun i2 k2 h2 h3 => by
                  by_cases e:i2 = i
                  · subst e; rw [getD_get hxr]; exact hno2 k2 (by omega)
                  exact hno i2 k2 (by omega) h3⟩,by omega⟩
  refine wbt (u:=.int .i64 (i:Int)) (v:=.int .i64 (nm:Int)) rfl rfl rfl rfl (bLs (decide_eq_false (by omega))) ?_
  refine wn1 (wSq ?_)
  refine wF (ev rfl rfl) ?_
  refine wEx ?_
  refine tEx ?_
  refine tEx ?_
  refine blkE ?_
  refine tNo (wsr (wavc ?_))
  refine wavc ?_
  refine wn1 ?_
  refine wLv ?_
  exact absurd (fun i2 k2 h3 h4 => hno i2 k2 (by omega) h3) hz
end Go.Proofs.YtcfcdbeemhjhgaaDoor
