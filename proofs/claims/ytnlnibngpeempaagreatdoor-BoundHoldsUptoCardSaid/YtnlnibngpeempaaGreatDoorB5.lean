/-
  Contracts and lemmas, joined in one text.
-/
import Derived.Test.YtnlnibngpeempaaGreatDoorB4
import Derived.Test.YtnlnibngpeempaaGreatDoorOP
import Derived.Test.YtnlnibngpeempaaGreatDoorBC
set_option linter.unusedVariables false
set_option linter.unusedSimpArgs false
/-
  The document's Sums,Coeffs,Bound.
-/
set_option maxRecDepth 100000
set_option maxHeartbeats 16000000
namespace Go.Proofs.YtnlnibngpeempaaGreatDoor
open Go.RowKit
theorem TB.mono {w:World} {p:Option Addr} {n K K2:Nat} {T:List (List Int)} (h:TB w p n T K) (hK:K ≤ K2):TB w p n T K2:=by
  refine ⟨h.1,h.2.1,fun i L hL => ?_⟩
  obtain ⟨b,off,q,c,hp,hc,hs⟩:=h.2.2 i L hL
  refine ⟨b,off,q,c,hp,hc,hs.1,hs.2.1,fun j z hz => ?_⟩
  obtain ⟨g,off',b',q',n',k',h1,h2,h3,h4⟩:=hs.2.2 j z hz
  exact ⟨g,off',b',q',n',k',h1,h2,h3,h4.mono hK⟩
theorem facc_abs_wdK {w:World} {p:Option Addr} {m K:Nat} {l:List Int} (h:Zs w p m l K):∀ i,i ≤ m → Wd (facc absA 0 l i) (K + i)
 | 0,_ => Wd.zero _
 | i + 1,hi => by
  obtain ⟨ze,ge,oe,be,pe,ne,ce,hle,_,_,hze⟩:=h.el (show i < m by omega)
  rw [facc_succ hle]
  exact Wd.add (facc_abs_wdK h i (by omega)) (Wd.nabs hze.wd rfl) rfl (by omega)
theorem rsums_wdK {w:World} {p:Option Addr} {n K:Nat} {T:List (List Int)} (hT:TB w p n T K) (hr:∀ L ∈ T,L.length = n) (h24:n ≤ 24):∀ i,Wd ((rsums T).getD i 0) (K + 24):=fun i => by
 unfold rsums
 rw [List.getD,List.getElem?_map]
 cases hx:T[i]? with
 | none => exact Wd.zero _
 | some L =>
  obtain ⟨b,off,q,c,_,_,hz⟩:=hT.2.2 i L hx
  have h1:=hr L (List.mem_of_getElem? hx)
  exact (facc_abs_wdK hz L.length (Nat.le_refl _)).mono (by omega)
theorem esym_wdS {w:World} {p:Option Addr} {n:Nat} {T:List (List Int)} (hT:TB w p n T 1048576) (hr:∀ L ∈ T,L.length = n) (h24:n ≤ 24) (i k:Nat) (hi:i ≤ 24):Wd (esym (rsums T) i k) 26000000 :=
  (esym_wd (rsums_wdK hT hr h24) i k).mono (by omega)
open Go.RowKit
theorem coefs_wdS {w:World} {p:Option Addr} {n:Nat} {T:List (List Int)} (hT:TB w p n T 1048576) (hr:∀ L ∈ T,L.length = n) (h24:n ≤ 24) (k:Nat):Wd ((coefs T).getD k 0) 26000000:=by
  rw [coefs_get]
  split
  · have h1:=hT.1; exact esym_wdS hT hr h24 _ _ (by omega)
  exact Wd.zero _
open Go.RowKit
theorem rt_le (n:Nat):rt n ≤ n:=Nat.le_trans (Nat.le_mul_self _) (rt_spec n).1
theorem wnsqrt {p:Option Addr} {n c x:Nat} {w:World} (h:Nr w p n c x 1048576000):Calls Tryz.prog 39 #[.slice p n c] w (Ret (Nt (lim (rt x))) w):=by
  obtain ⟨xs,h1,rfl,h2⟩:=h
  exact (sqrt_any h1 h2).mono RetN.u
def sqN (l:List Int):Nat → Nat
  | 0 => 0
  | j + 1 => sqN l j + (l.getD j 0).natAbs * (l.getD j 0).natAbs
def hadP (T:List (List Int)):Nat → Nat
  | 0 => 1
  | i + 1 => hadP T i * sqN (T.getD i []) (T.getD i []).length
def hadN (N:Nat):Nat:=if rt N * rt N < N then rt N + 1 else rt N
theorem getD_int {l:List Int} {j:Nat} {z:Int} (h:l[j]? = some z):l.getD j 0 = z:=by rw [List.getD,h]; rfl
theorem sqN_next {l:List Int} {j:Nat} {z:Int} (h:l[j]? = some z):sqN l (j + 1) = sqN l j + z.natAbs * z.natAbs:=by rw [sqN,getD_int h]
theorem hadP_next {T:List (List Int)} {i:Nat} {L:List Int} (h:T[i]? = some L):hadP T (i + 1) = hadP T i * sqN L L.length:=by rw [hadP,getD_some h]
theorem sqN_step {l:List Int} {j:Nat} {z z1 z2:Int} (h:l[j]? = some z) (h1:Hid (z * z = z1)) (h2:Hid (((sqN l j:Nat):Int) + z1 = z2)):((sqN l (j + 1):Nat):Int) = z2:=by
  rw [sqN_next h, ← h2.out, ← h1.out,Int.natCast_add,Int.natCast_mul,Int.natAbs_mul_self']
theorem had_step {T:List (List Int)} {i:Nat} {L:List Int} {z:Int} (h:T[i]? = some L) (h1:Hid (((hadP T i:Nat):Int) * ((sqN L L.length:Nat):Int) = z)):((hadP T (i + 1):Nat):Int) = z:=by
  rw [hadP_next h, ← h1.out,Int.natCast_mul]
theorem sqN_ll {w:World} {p:Option Addr} {m K:Nat} {l:List Int} (h:Zs w p m l K):∀ j,j ≤ m → ll (sqN l j) ≤ 2 * K + 1 + j
 | 0,_ => Nat.le_trans (ll_le (k:=0) (by show (0:Nat) < 4294967296 ^ 0; decide)) (Nat.zero_le _)
 | j + 1,hj => by
  obtain ⟨z,hz⟩:=h.some (show j < m by omega)
  have h1:ll z.natAbs ≤ K:=h.elWd hz
  rw [sqN_next hz]
  exact Nd.add (sqN_ll h j (by omega)) (Nd.mul h1 h1 rfl (Nat.le_refl _)) rfl (by omega)
theorem hadP_ll {w:World} {p:Option Addr} {n K:Nat} {T:List (List Int)} (hT:TB w p n T K) (hr:∀ L ∈ T,L.length = n) (h24:n ≤ 24):∀ i,i ≤ n → ll (hadP T i) ≤ (2 * K + 25) * i + 1
 | 0,_ => ll_le (k:=1) (by show (1:Nat) < _; decide)
 | i + 1,hi => by
  have hl:=hT.1
  obtain ⟨L,hL⟩:∃ L,T[i]? = some L:=⟨_,List.getElem?_eq_getElem (by omega)⟩
  obtain ⟨b,off,q,c,_,_,hz⟩:=hT.2.2 i L hL
  have h1:=hr L (List.mem_of_getElem? hL)
  have h2:=sqN_ll hz L.length (Nat.le_refl _)
  rw [hadP_next hL]
  exact Nd.mul (hadP_ll hT hr h24 i (by omega)) h2 rfl (by rw [Nat.mul_add]; omega)
theorem cmpN_ltD {a b:Nat} {s:Int} (h:Hid (cmpN a b = s)):decide (s < 0) = decide (a < b):=by
  rw [← h.out]
  by_cases h2:a < b
  · have:=cmpN_below h2; rw [decide_eq_true h2,decide_eq_true this]
  have:=cmpN_not_below (show b ≤ a by omega); rw [decide_eq_false h2,decide_eq_false (by omega)]
theorem wbhad {pt:Option Addr} {nt ct:Nat} {T:List (List Int)} {w:World} (hT:TB w pt nt T 1048576) (hr:∀ L ∈ T,L.length = nt) (h0:nt ≠ 0) (h24:nt ≤ 24) :
  Calls Tryz.prog 10 #[.slice pt nt ct] w (Ret (ZEt ((hadN (hadP T nt):Nat):Int) 0) w):=by
 have hTl:=hT.1
 have hPl:=hadP_ll hT hr h24
 have hS:=Sep.init w
 refine went Tryz.func10 rfl (n:=57) rfl rfl ?_
 refine wsr (wl rfl (oAl [.bool false,.slice none 0 0] hS rfl rfl Tryz.zeroValue28 rfl ?_))
 clear hS; intro g1 w2 hS
 refine wavc ?_
 refine wn1 (wSq (wsr (wmv rfl rfl ?_)))
 refine wcl Tryz.call38 (wbfit ((hT.mono (by omega)).at hS) hr h0 h24) (ar1 (ev rfl rfl)) hS ?_
 clear hS; rintro _ _ w3 ⟨rfl,rfl⟩ hS
 refine wav rfl rfl ?_
 refine wn2 (wmv rfl rfl ?_)
 refine wbc (u:=.int .i64 0) (v:=.int .i64 0) (z:=.bool false) rfl rfl (bNe (by decide)) ?_
 refine wn1 ?_
 refine wF (ev rfl rfl) ?_
 refine wSk (tNo (wsr ?_))
 have hk1:Wd 1 2:=Wd.i64 (by omega) (by omega)
 refine wcl Tryz.call33 (wzof (z:=1) (by omega) (by omega)) (ar1 evc) hS ?_
 clear hS; rintro _ _ w4 ⟨p1,n1,c1,rfl,rfl⟩ hS
 refine wl rfl (oAl [.bool false,.slice none 0 0] hS rfl rfl Tryz.zeroValue28 rfl ?_)
 clear hS; intro g5 w6 hS
 refine wl rfl (oSt _ _ Tryz.sizeOf28 hS 0 rfl rfl (ev rfl rfl) (ev rfl rfl) rfl rfl rfl rfl rfl rfl ?_)
 clear hS; intro w7 hS
 refine wn1 (wSq (wsr (wmv rfl rfl ?_)))
 refine wl rfl (olen rfl rfl rfl Tryz.runUnderlying22 (p:=pt) (k:=nt) (m:=ct) (ev rfl rfl) ?_)
 refine wmvc ?_
 refine wn1 (wBk ?_)
 refine wLp (σ := Nat) (fun i a9 w' => ∃ (fb:Nat → Value) (pzp:Option Addr) (nzp:Nat) (czp:Nat),a9 = act 57 (sets fb [(2,.pointer (some ⟨g1,0,none⟩)),(3,.int .i64 0),(5,.pointer (some ⟨g5,0,none⟩)),(19,.slice pt nt ct),(20,.int .i64 (nt:Int)),(21,.int .i64 (i:Int))]) ∧ Sep w [.blk g5 [.bool (ng ((hadP T i:Nat):Int)),.slice pzp nzp czp] 28,.row pzp nzp czp (lim ((hadP T i:Nat):Int).natAbs),.blk g1 [.bool false,.slice none 0 0] 28] w' ∧ (i ≤ nt) ∧ (Wd ((hadP T i:Nat):Int) 51000000)) (fun i => nt - i) (0) ⟨_,_,_,_,aSs ⟨rfl,rfl,rfl,rfl,rfl,rfl,trivial⟩,hS,Nat.zero_le _,(hk1).mono (by omega)⟩ ?_
 clear hS; rintro i _ w8 ⟨fb,pzp,nzp,czp,rfl,hS,hi,hkzp⟩
 refine wsr ?_
 by_cases hlt:i < nt
 ·
  refine wbt rfl rfl rfl rfl (bLs (decide_eq_true (by omega))) ?_
  refine wn1 (wSq ?_)
  refine wT (ev rfl rfl) ?_
  refine wk2 ?_
  obtain ⟨xr,hxr⟩:∃ r,(T)[i]? = some r:=⟨_,List.getElem?_eq_getElem (by have:=hT.1; omega)⟩
  obtain ⟨br,ofr,pr,cr,hpr,hcr,hsr⟩:=hT.2.2 i _ hxr
  have h1:=hr xr (List.mem_of_getElem? hxr)
  have hSq:=sqN_ll hsr
  refine wl rfl (oIx (p:=pt) (g:=br) (off:=ofr) (m:=nt) (k:=i) (j:=(ofr + i * 1)) rfl rfl Tryz.runUnderlying22 Tryz.sizeOf32 (ev rfl rfl) hpr (ev rfl rfl) (by omega) rfl ?_)
  refine wl rfl (oLc ⟨Tryz.isAgg32,Tryz.sizeOf32⟩ rfl rfl (ev rfl rfl) (hS.cellAt (hcr 0 _ rfl)) ?_)
  refine wav rfl rfl ?_
  refine wn2 ?_
  have hk2:Wd 0 2:=Wd.i64 (by omega) (by omega)
  refine wcl Tryz.call33 (wzof (z:=0) (by omega) (by omega)) (ar1 evc) hS ?_
  clear hS; rintro _ _ w9 ⟨p2,n2,c2,rfl,rfl⟩ hS
  refine wl rfl (oAl [.bool false,.slice none 0 0] hS rfl rfl Tryz.zeroValue28 rfl ?_)
  clear hS; intro g10 w11 hS
  refine wl rfl (oSt _ _ Tryz.sizeOf28 hS 0 rfl rfl (ev rfl rfl) (ev rfl rfl) rfl rfl rfl rfl rfl rfl ?_)
  clear hS; intro w12 hS
  refine wn1 (wSq (wsr (wmv rfl rfl ?_)))
  refine wl rfl (olen rfl rfl rfl Tryz.runUnderlying32 (p:=pr) (k:=xr.length) (m:=cr) (ev rfl rfl) ?_)
  refine wmvc ?_
  refine wn1 (wBk ?_)
  refine wLp (σ := Nat) (fun j a9 w' => ∃ (fb:Nat → Value) (pza:Option Addr) (nza:Nat) (cza:Nat),a9 = act 57 (sets fb [(2,.pointer (some ⟨g1,0,none⟩)),(3,.int .i64 0),(5,.pointer (some ⟨g5,0,none⟩)),(8,.pointer (some ⟨g10,0,none⟩)),(19,.slice pt nt ct),(20,.int .i64 (nt:Int)),(21,.int .i64 (i:Int)),(26,.slice pr xr.length cr),(27,.int .i64 (xr.length:Int)),(28,.int .i64 (j:Int))]) ∧ Sep w [.blk g10 [.bool (ng ((sqN xr j:Nat):Int)),.slice pza nza cza] 28,.row pza nza cza (lim ((sqN xr j:Nat):Int).natAbs),.blk g5 [.bool (ng ((hadP T i:Nat):Int)),.slice pzp nzp czp] 28,.row pzp nzp czp (lim ((hadP T i:Nat):Int).natAbs),.blk g1 [.bool false,.slice none 0 0] 28] w' ∧ (j ≤ xr.length) ∧ (Wd ((sqN xr j:Nat):Int) 2097200)) (fun j => xr.length - j) (0) ⟨_,_,_,_,aSs ⟨rfl,rfl,rfl,rfl,rfl,rfl,rfl,rfl,rfl,rfl,trivial⟩,hS,Nat.zero_le _,(hk2).mono (by omega)⟩ ?_
  clear hS; rintro j _ w13 ⟨fb,pza,nza,cza,rfl,hS,hj,hkza⟩
  refine wsr ?_
  by_cases hlj:j < xr.length
  ·
   refine wbt rfl rfl rfl rfl (bLs (decide_eq_true (by omega))) ?_
   refine wn1 (wSq ?_)
   refine wT (ev rfl rfl) ?_
   refine wk2 ?_
   obtain ⟨ze,ge,oe,be,pe,ne,ce,hle,hpe,hce,hze⟩:=hsr.el hlj
   refine wl rfl (oIx (p:=pr) (g:=ge) (off:=oe) (m:=xr.length) (k:=j) (j:=(oe + j * 2)) rfl rfl Tryz.runUnderlying32 Tryz.sizeOf28 (ev rfl rfl) hpe (ev rfl rfl) hlj rfl ?_)
   refine wl rfl (oloadA aggZ rfl rfl (ev rfl rfl) (fun j v hj => hS.cellAt (hce j v hj)) rfl ?_)
   refine wl rfl (oAl [.bool false,.slice none 0 0] hS rfl rfl Tryz.zeroValue28 rfl ?_)
   clear hS; intro g14 w15 hS
   refine wl rfl (oSt _ _ Tryz.sizeOf28 hS 0 rfl rfl (ev rfl rfl) (ev rfl rfl) rfl rfl rfl rfl rfl rfl ?_)
   clear hS; intro w16 hS
   refine wn1 ?_
   obtain ⟨z3,hz3⟩:∃ z:Int,Hid (ze * ze = z):=⟨_,rfl⟩
   have hk3:Wd z3 2097152:=Wd.mul hze.wd hze.wd hz3 (by omega)
   obtain ⟨z4,hz4⟩:∃ z:Int,Hid ((((sqN xr j:Nat):Int)) + z3 = z):=⟨_,rfl⟩
   have hk4:Wd z4 2097201:=Wd.add hkza hk3 hz4 (by omega)
   refine wSg 5 [32,33,34,35,36] [[],[],[],[1,2],[0,3,1,2]] [] [] [] (fun i9 => ([iSv (.agg #[.bool (ng ((sqN xr j:Nat):Int)),.slice pza nza cza]),iSv (.agg #[.bool be,.slice pe ne ce]),iSv (.agg #[.bool be,.slice pe ne ce]),fun _ => Zt z3,fun _ => Zt z4]:List (List Value → Tell)).getD i9 (fun _ _ _ => False)) hNi (fun d _ _ _ _ h => (by cases d <;> exact h)) (by kernel_rfl) (by kernel_rfl) (by kernel_rfl) hS ?_ ?_
   ·
    refine stH rfl (fun ho hS=>?_) ?_
    ·exact inNo rfl (oLd aggZ hS 1 rfl rfl (ev rfl (ho 8 rfl)) rfl rfl rfl (nSm rfl isI))
    refine stH rfl (fun ho hS=>?_) ?_
    ·exact inNo rfl (oLd aggZ hS 0 rfl rfl (ev rfl (ho 10 rfl)) rfl rfl rfl (nSm rfl isI))
    refine stH rfl (fun ho hS=>?_) ?_
    ·exact inNo rfl (oLd aggZ hS 0 rfl rfl (ev rfl (ho 10 rfl)) rfl rfl rfl (nSm rfl isI))
    refine stT rfl (fun hT hS=>?_) ?_
    ·obtain ⟨hv1,hr1⟩:=hT 1 33 rfl rfl
     obtain ⟨hv2,hr2⟩:=hT 2 34 rfl rfl
     obtain hS:=hS.flat2 hr1 hr2
     exact .inl ⟨wNo rfl,oCl rfl rfl Tryz.call35 rfl (wzmul ((hze.at hS).mono (by omega)) ((hze.at hS).mono (by omega)) hz3) (ar2 (ev rfl hv1) (ev rfl hv2)) cNw⟩
    refine stT rfl (fun hT hS=>?_) ?_
    ·obtain ⟨hv0,hr0⟩:=hT 0 32 rfl rfl
     obtain ⟨p3,n3,c3,hv3,hr3⟩:=(hT 3 35 rfl rfl:(Zt z3) _ _)
     obtain hS:=hS.flat2 hr0 hr3
     exact .inl ⟨wNo rfl,oCl rfl rfl Tryz.call34 rfl (wzadd (((hS.sl 2 rfl).zr hkza).mono (by omega)) (((hS.sl 6 rfl).zr hk3).mono (by omega)) hz4) (ar2 (ev rfl hv0) (ev rfl hv3)) cNw⟩
    exact sNi
   intro vs ρ w17 f' hf hT hS
   obtain ⟨hv0,hr0⟩:=hT 0 (by decide)
   obtain ⟨hv1,hr1⟩:=hT 1 (by decide)
   obtain ⟨hv2,hr2⟩:=hT 2 (by decide)
   obtain ⟨p3,n3,c3,hv3,hr3⟩:=(hT 3 (by decide):(Zt z3) _ _)
   obtain ⟨p4,n4,c4,hv4,hr4⟩:=(hT 4 (by decide):(Zt z4) _ _)
   simp only [pool,if_true,hr0,hr1,hr2,hr3,hr4,List.nil_append,List.cons_append,List.append_nil] at hS
   simp only [layf,hv0,hv1,hv2,hv3,hv4] at hf
   subst hf; clear hT hv0 hv1 hv2 hv3 hv4 hr0 hr1 hr2 hr3 hr4
   refine wLt 5 rfl (by kernel_rfl) (oSt _ _ Tryz.sizeOf28 hS 3 rfl rfl (ev rfl rfl) (ev rfl rfl) rfl rfl rfl rfl rfl rfl ?_)
   clear hS; intro w18 hS
   refine ⟨hNi,?_⟩
   refine wdone rfl ?_
   refine blkN (tNo (wreg ?_))
   obtain rfl:((sqN xr (j + 1):Nat):Int) = z4:=sqN_step hle hz3 hz4
   refine wbc (z:=.int .i64 ((j + 1:Nat):Int)) rfl rfl (bAd (wI6 (by omega) (by omega))) ?_
   refine wmv rfl rfl ?_
   refine wn1 ?_
   exact ⟨(j + 1),⟨_,_,_,_,aSs ⟨rfl,rfl,rfl,rfl,rfl,rfl,rfl,rfl,rfl,rfl,trivial⟩,hS.pick [3,0,5,6,7] (by decide) rfl,by omega,Wd.ofN (Nat.le_trans (hSq _ (by omega)) (by omega))⟩,by omega⟩
  refine wbt rfl rfl rfl rfl (bLs (decide_eq_false (by omega))) ?_
  refine wn1 (wSq ?_)
  refine wF (ev rfl rfl) ?_
  refine wEx ?_
  refine tEx ?_
  refine tEx ?_
  refine blkE ?_
  refine tNo (wreg (wl rfl (oLd aggZ hS 2 rfl rfl (ev rfl rfl) rfl rfl rfl ?_)))
  refine wl rfl (oLd aggZ hS 0 rfl rfl (ev rfl rfl) rfl rfl rfl ?_)
  obtain ⟨z3,hz3⟩:∃ z:Int,Hid ((((hadP T i:Nat):Int)) * (((sqN xr j:Nat):Int)) = z):=⟨_,rfl⟩
  have hk3:Wd z3 53097200:=Wd.mul hkzp hkza hz3 (by omega)
  refine wcl Tryz.call35 (wzmul (((hS.sl 3 rfl).zr hkzp).mono (by omega)) (((hS.sl 1 rfl).zr hkza).mono (by omega)) hz3) (ar2 (ev rfl rfl) (ev rfl rfl)) hS ?_
  clear hS; rintro _ _ w14 ⟨p3,n3,c3,rfl,rfl⟩ hS
  refine wl rfl (oSt _ _ Tryz.sizeOf28 hS 3 rfl rfl (ev rfl rfl) (ev rfl rfl) rfl rfl rfl rfl rfl rfl ?_)
  clear hS; intro w15 hS
  refine wnil (blkN (tNo (wreg ?_)))
  obtain rfl:j = xr.length:=by omega
  refine wbc (z:=.int .i64 ((i + 1:Nat):Int)) rfl rfl (bAd (wI6 (by omega) (by omega))) ?_
  refine wmv rfl rfl ?_
  refine wn1 ?_
  obtain rfl:((hadP T (i + 1):Nat):Int) = z3:=had_step hxr hz3
  exact ⟨(i + 1),⟨_,_,_,_,aSs ⟨rfl,rfl,rfl,rfl,rfl,rfl,trivial⟩,hS.pick [3,0,5] (by decide) rfl,by omega,Wd.ofN (Nat.le_trans (hPl _ (by omega)) (by omega))⟩,by omega⟩
 refine wbt rfl rfl rfl rfl (bLs (decide_eq_false (by omega))) ?_
 refine wn1 (wSq ?_)
 refine wF (ev rfl rfl) ?_
 refine wEx ?_
 refine tEx ?_
 refine tEx ?_
 refine blkE ?_
 refine tNo (wsr (wl rfl (oFA (g:=g5) (off:=0) 1 rfl rfl (ev rfl rfl) Tryz.runUnderlying28 rfl Tryz.sizeOf26 rfl ?_)))
 refine wl rfl (oL1 oneN hS 0 rfl rfl (ev rfl rfl) rfl rfl ?_)
 have hin:i = nt:=by omega
 have hkP:ll (hadP T i) ≤ 51000000:=hkzp
 have hkx2:ll (rt (hadP T i)) ≤ 51000000:=llv_le (rt_le _) hkP
 refine wcl Tryz.call39 (wnsqrt (((hS.sl 1 rfl).nr hkP).mono (by omega))) (ar1 (ev rfl rfl)) hS ?_
 clear hS; rintro _ _ w9 ⟨p2,n2,c2,rfl,rfl⟩ hS
 refine wav rfl rfl ?_
 refine wn1 (wSq (wSq ?_))
 obtain ⟨x3,hx3⟩:∃ x:Nat,Hid (((rt (hadP T i))) * ((rt (hadP T i))) = x):=⟨_,rfl⟩
 have hkx3:ll x3 ≤ 102000000:=Nd.mul hkx2 hkx2 hx3 (by omega)
 obtain ⟨s4,hs4⟩:∃ z:Int,Hid (cmpN x3 (hadP T i) = z):=⟨_,rfl⟩
 refine wSg 7 [45,46,47,48,49,50,51] [[],[],[0,1],[],[3],[2,4,0,1,3],[5,0,1,2,3,4]] [] [] [] (fun i9 => ([iSv (.slice p2 n2 c2),iSv (.slice p2 n2 c2),fun _ => Nt (lim x3),iSv (.pointer (some ⟨g5,1,none⟩)),iSv (.slice pzp nzp czp),iSv (.int .i64 s4),iSv (.bool (decide (rt (hadP T i) * rt (hadP T i) < hadP T i)))]:List (List Value → Tell)).getD i9 (fun _ _ _ => False)) hNi (fun d _ _ _ _ h => (by cases d <;> exact h)) (by kernel_rfl) (by kernel_rfl) (by kernel_rfl) hS ?_ ?_
 ·
  refine stM rfl rfl rfl rfl rfl (fun _=>isI) ?_
  refine stM rfl rfl rfl rfl rfl (fun _=>isI) ?_
  refine stT rfl (fun hT hS=>?_) ?_
  ·obtain ⟨hv0,hr0⟩:=hT 0 45 rfl rfl
   obtain ⟨hv1,hr1⟩:=hT 1 46 rfl rfl
   obtain hS:=hS.flat2 hr0 hr1
   exact .inl ⟨wNo rfl,oCl rfl rfl Tryz.call41 rfl (wnmul (((hS.sl 0 rfl).nr hkx2).mono (by omega)) (((hS.sl 0 rfl).nr hkx2).mono (by omega)) hx3) (ar2 (ev rfl hv0) (ev rfl hv1)) cNw⟩
  refine stH rfl (fun ho _=>?_) ?_
  ·exact inNo rfl (oFA (g:=g5) (off:=0) 1 rfl rfl (ev rfl (ho 5 rfl)) Tryz.runUnderlying28 rfl Tryz.sizeOf26 rfl (nSm rfl isI))
  refine stT rfl (fun hT hS=>?_) ?_
  ·obtain ⟨hv3,hr3⟩:=hT 3 48 rfl rfl
   obtain hS:=hS.flat1 hr3
   exact inNo rfl (oL1 oneN hS 1 rfl rfl (ev rfl hv3) rfl rfl (nSm rfl isI))
  refine stT rfl (fun hT hS=>?_) ?_
  ·obtain ⟨p3,n3,c3,hv2,hr2⟩:=(hT 2 47 rfl rfl:(Nt (lim x3)) _ _)
   obtain ⟨hv4,hr4⟩:=hT 4 49 rfl rfl
   obtain hS:=hS.flat2 hr2 hr4
   exact .inl ⟨wNo rfl,oCl rfl rfl Tryz.call40 rfl (wncmp ((hS.sl 4 rfl).nr hkx3) ((hS.sl 2 rfl).nr hkP) hs4) (ar2 (ev rfl hv2) (ev rfl hv4)) cNw⟩
  refine stT rfl (fun hT hS=>?_) ?_
  ·obtain ⟨hv5,hr5⟩:=hT 5 50 rfl rfl
   obtain hS:=hS.flat1 hr5
   exact inNo rfl (obin (z:=.bool (decide (rt (hadP T i) * rt (hadP T i) < hadP T i))) rfl rfl (ev rfl hv5) evc (bLs ((cmpN_ltD hs4).trans (by rw [← hx3.out]))) (nSm rfl isI))
  exact sNi
 intro vs ρ w10 f' hf hT hS
 obtain ⟨hv0,hr0⟩:=hT 0 (by decide)
 obtain ⟨hv1,hr1⟩:=hT 1 (by decide)
 obtain ⟨p3,n3,c3,hv2,hr2⟩:=(hT 2 (by decide):(Nt (lim x3)) _ _)
 obtain ⟨hv3,hr3⟩:=hT 3 (by decide)
 obtain ⟨hv4,hr4⟩:=hT 4 (by decide)
 obtain ⟨hv5,hr5⟩:=hT 5 (by decide)
 obtain ⟨hv6,hr6⟩:=hT 6 (by decide)
 simp only [pool,if_true,hr0,hr1,hr2,hr3,hr4,hr5,hr6,List.nil_append,List.cons_append,List.append_nil] at hS
 simp only [layf,hv0,hv1,hv2,hv3,hv4,hv5,hv6] at hf
 subst hf; clear hT hv0 hv1 hv2 hv3 hv4 hv5 hv6 hr0 hr1 hr2 hr3 hr4 hr5 hr6
 refine wdone rfl ?_
 refine tNo ?_
 by_cases hrt:rt (hadP T i) * rt (hadP T i) < hadP T i
 ·
  refine wT ((ev rfl rfl).trans (congrArg Value.bool (decide_eq_true hrt))) ?_
  refine wreg (wmv rfl rfl ?_)
  refine wl rfl (obslice (ps:=#[(0,.int .u32 1)]) (z:=.int .u32 0) [.int .u32 1] hS rfl rfl Tryz.runUnderlying26 Tryz.sizeOf63 Tryz.zeroValue63 (parts1 (evc (v:=.int .u32 1))) rfl (by decide) (fill1_1s rfl rfl) ?_)
  clear hS; intro g11 w12 hS
  obtain ⟨x5,hx5⟩:∃ x:Nat,Hid (((rt (hadP T i))) + 1 = x):=⟨_,rfl⟩
  have hkx5:ll x5 ≤ 51000001:=Nd.add hkx2 (Nd.u32 (by omega)) hx5 (by omega)
  refine wcl Tryz.call42 (wnadd (((hS.sl 2 rfl).nr hkx2).mono (by omega)) ((Nr.blk (x:=1) (hS.blkAt 0 rfl) (by omega) (by omega)).mono (by omega)) hx5) (ar2 (ev rfl rfl) (ev rfl rfl)) hS ?_
  clear hS; rintro _ _ w13 ⟨p5,n5,c5,rfl,rfl⟩ hS
  refine wav rfl rfl ?_
  refine wn2 (wmv rfl rfl ?_)
  refine wl rfl (obuild (ps:=#[(1,.slice p5 n5 c5)]) (v:=.agg #[.bool false,.slice p5 n5 c5]) rfl rfl (parts1 (ev rfl rfl)) (fun w => by simp [go_sem,Instr.build,Instr.fill]) ?_)
  refine wl rfl (oSt _ _ Tryz.sizeOf28 hS 6 rfl rfl (ev rfl rfl) (ev rfl rfl) rfl rfl rfl rfl rfl rfl ?_)
  clear hS; intro w14 hS
  refine wavc ?_
  refine wn1 ?_
  refine wLv ?_
  refine wret2 Tryz.results10 (tellC (cs:=[.bool false,.slice p5 n5 c5]) aggZ hS 6 rfl rfl rfl rfl) (tlT (v:=.int .i64 0) rfl rfl) ?_
  have hz9:hadN (hadP T nt) = x5:=by rw [← hin]; unfold hadN; rw [if_pos hrt]; exact hx5.out
  rw [hz9]
  exact ⟨_,_,rfl,⟨_,_,_,by rw [ng_nat],rfl⟩,hS.new1 0 rfl⟩
 refine wF ((ev rfl rfl).trans (congrArg Value.bool (decide_eq_false hrt))) ?_
 refine wSk (tNo (wsr (wmv rfl rfl ?_)))
 refine wl rfl (obuild (ps:=#[(1,.slice p2 n2 c2)]) (v:=.agg #[.bool false,.slice p2 n2 c2]) rfl rfl (parts1 (ev rfl rfl)) (fun w => by simp [go_sem,Instr.build,Instr.fill]) ?_)
 refine wl rfl (oSt _ _ Tryz.sizeOf28 hS 4 rfl rfl (ev rfl rfl) (ev rfl rfl) rfl rfl rfl rfl rfl rfl ?_)
 clear hS; intro w11 hS
 refine wavc ?_
 refine wn1 ?_
 refine wLv ?_
 refine wret2 Tryz.results10 (tellC (cs:=[.bool false,.slice p2 n2 c2]) aggZ hS 4 rfl rfl rfl rfl) (tlT (v:=.int .i64 0) rfl rfl) ?_
 have hz9:hadN (hadP T nt) = (rt (hadP T i)):=by rw [← hin]; unfold hadN; rw [if_neg hrt]
 rw [hz9]
 exact ⟨_,_,rfl,⟨_,_,_,by rw [ng_nat],rfl⟩,hS.new1 1 rfl⟩
open Go.RowKit
end Go.Proofs.YtnlnibngpeempaaGreatDoor
