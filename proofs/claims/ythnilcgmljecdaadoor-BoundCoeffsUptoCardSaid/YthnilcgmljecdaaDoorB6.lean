/-
  Contracts and lemmas, joined in one text.
-/
import Derived.Test.YthnilcgmljecdaaDoorB4
import Derived.Test.YthnilcgmljecdaaDoorOP
import Derived.Test.YthnilcgmljecdaaDoorBC
set_option linter.unusedVariables false
set_option linter.unusedSimpArgs false
/-
  The document's Sums,Coeffs,Bound.
-/
set_option maxRecDepth 100000
set_option maxHeartbeats 16000000
namespace Go.Proofs.YthnilcgmljecdaaDoor
open Go.RowKit
theorem TB.mono {w:World} {p:Option Addr} {n K K2:Nat} {T:List (List Int)} (h:TB w p n T K) (hK:K ≤ K2):TB w p n T K2:=by
  refine ⟨h.1,h.2.1,fun i L hL => ?_⟩
  obtain ⟨b,off,q,c,hp,hc,hs⟩:=h.2.2 i L hL
  refine ⟨b,off,q,c,hp,hc,hs.1,hs.2.1,fun j z hz => ?_⟩
  obtain ⟨g,off',b',q',n',k',h1,h2,h3,h4⟩:=hs.2.2 j z hz
  exact ⟨g,off',b',q',n',k',h1,h2,h3,h4.mono hK⟩
theorem facc_abs_wdK {w:World} {p:Option Addr} {m K:Nat} {l:List Int} (h:Zs w p m l K):∀ i,i ≤ m → Wd (facc absA 0 l i) (K + i)
 | 0,_ => Wd.zero _
 | i + 1,hi => by
  obtain ⟨ze,ge,oe,be,pe,ne,ce,hle,_,_,hze⟩:=h.el (show i < m by omega)
  rw [facc_succ hle]
  exact Wd.add (facc_abs_wdK h i (by omega)) (Wd.nabs hze.wd rfl) rfl (by omega)
theorem rsums_wdK {w:World} {p:Option Addr} {n K:Nat} {T:List (List Int)} (hT:TB w p n T K) (hr:∀ L ∈ T,L.length = n) (h24:n ≤ 24):∀ i,Wd ((rsums T).getD i 0) (K + 24):=fun i => by
 unfold rsums
 rw [List.getD,List.getElem?_map]
 cases hx:T[i]? with
 | none => exact Wd.zero _
 | some L =>
  obtain ⟨b,off,q,c,_,_,hz⟩:=hT.2.2 i L hx
  have h1:=hr L (List.mem_of_getElem? hx)
  exact (facc_abs_wdK hz L.length (Nat.le_refl _)).mono (by omega)
theorem esym_wdS {w:World} {p:Option Addr} {n:Nat} {T:List (List Int)} (hT:TB w p n T 1048576) (hr:∀ L ∈ T,L.length = n) (h24:n ≤ 24) (i k:Nat) (hi:i ≤ 24):Wd (esym (rsums T) i k) 26000000 :=
  (esym_wd (rsums_wdK hT hr h24) i k).mono (by omega)
theorem Sep.lit1 {w0 w:World} {R:List Res} {g n c:Nat} {z:Int} {p:Option Addr} {t:TypeId} (h:Sep w0 (.blk g [.bool (ng z),.slice p n c] t :: .rowm p n c (lim z.natAbs) :: R) w):Sep w0 (.lst t 2 (some ⟨g,0,none⟩) 1 1 (zzE [⟨p,n,c,z⟩]) :: R) w:=by
  have h1:=h.ofBlk (sz:=2) (m:=1) (cap:=1) (Nat.le_refl _) (by simp only [maxLen]; omega) rfl
  exact Sep.closeL (els_zzE _) rfl h1
theorem Sep.lastNil {w0 w:World} {R:List Res} {t:TypeId} {p:Option Addr} {n c:Nat} {Q:List Zw} (h:Sep w0 (.lst t 2 p n c (zzE Q ++ [(⟨[.bool false,.slice none 0 0],[]⟩:El)]) :: R) w):Sep w0 (.lst t 2 p n c (zzE (Q ++ [⟨none,0,0,0⟩])) :: R) w:=by
 obtain ⟨h1,h2,h3⟩:=h.openL
 have hC:flatC (zzE (Q ++ [⟨none,0,0,0⟩])) = flatC (zzE Q ++ [(⟨[.bool false,.slice none 0 0],[]⟩:El)]):=by
  unfold zzE; rw [List.map_append]; unfold flatC; rw [List.flatMap_append,List.flatMap_append]; rfl
 have hR:flatR (zzE (Q ++ [⟨none,0,0,0⟩])) = flatR (zzE Q) ++ [.rowm none 0 0 []]:=by
  unfold zzE; rw [List.map_append]; unfold flatR; rw [List.flatMap_append]; rfl
 have hR2:flatR (zzE Q ++ [(⟨[.bool false,.slice none 0 0],[]⟩:El)]) = flatR (zzE Q):=by
  unfold flatR; rw [List.flatMap_append]; simp
 rw [hR2] at h3
 refine Sep.closeL (els_zzE _) (by rw [← h2]; simp [zzE]) ?_
 rw [hC,hR]
 refine h3.nilRowm.perm ?_
 refine (List.Perm.swap _ _ _).trans (List.Perm.cons _ ?_)
 rw [List.append_assoc]
 exact List.perm_middle.symm
theorem zels_zz {l:List Int} {m:Nat} {es:List El} (h:ZEls (l.map fun z => (ng z,lim z.natAbs)) m es) (h1:es.length = m) (h2:l.length = m):∃ Q,zsq Q = l ∧ es = zzE Q:=by
 obtain ⟨Q,q1,q2,_⟩:=build_list (α := Zw) (Pp:=fun i q => es[i]? = some (zwE q) ∧ l[i]? = some q.z) (g:=fun _ => 0) (h:=fun _ => 0) (fun _ _ _ => Nat.le_refl _) m (fun i hi => by
  have hil:i < l.length:=by omega
  obtain ⟨q,n,c,hq⟩:=h i (ng l[i],lim l[i].natAbs) hi (by rw [List.getElem?_map,List.getElem?_eq_getElem hil]; rfl)
  exact ⟨⟨q,n,c,l[i]⟩,hq,List.getElem?_eq_getElem hil⟩)
 refine ⟨Q,?_,?_⟩
 ·apply List.ext_getElem?
  intro i
  by_cases hi:i < m
  ·have h3:=(q2 i _ (List.getElem?_eq_getElem (by omega))).2
   unfold zsq
   rw [List.getElem?_map,List.getElem?_eq_getElem (by omega),h3]; rfl
  ·rw [List.getElem?_eq_none (by rw [zsq_len]; omega),List.getElem?_eq_none (by omega)]
 ·apply List.ext_getElem?
  intro i
  by_cases hi:i < m
  ·have h3:=(q2 i _ (List.getElem?_eq_getElem (by omega))).1
   rw [h3]
   exact (zzE_get (List.getElem?_eq_getElem (by omega))).symm
  ·rw [List.getElem?_eq_none (by omega),List.getElem?_eq_none (by rw [zzE_len]; omega)]
theorem sweep2 {l:List Int} {i k:Nat} {Q:List Zw} {q:Zw} (hk:k < i + 1) (hl:Q.length = i + 2) (h:∀ j,j < i + 2 → (zsq Q).getD j 0 = if j ≤ k then esym l (i + 1) j else esym l i j) (hz:q.z = esym l (i + 1) (k + 1)) :
  ∀ j,j < i + 2 → (zsq (Q.set (k + 1) q)).getD j 0 = if j ≤ k + 1 then esym l (i + 1) j else esym l i j:=fun j hj => by
 rw [zsq_set]
 by_cases e:j = k + 1
 ·subst e
  rw [if_pos (Nat.le_refl _),List.getD,List.getElem?_set_self (by rw [zsq_len]; omega)]; exact hz
 ·rw [List.getD,List.getElem?_set_ne (fun h => e h.symm)]
  have h9:=h j hj
  rw [List.getD] at h9
  rw [h9]
  by_cases e2:j ≤ k
  ·rw [if_pos e2,if_pos (by omega)]
  ·rw [if_neg e2,if_neg (by omega)]
theorem Sep.memZr {w0 w:World} {R:List Res} (hS:Sep w0 R w) (k:Nat) {e:TypeId} {p pp:Option Addr} {m c n cc K:Nat} {z:Int} {Q:List Zw} (hk:R[k]? = some (.lst e 2 p m c (zzE Q))) (hm:(⟨pp,n,cc,z⟩:Zw) ∈ (⟨none,0,0,0⟩:Zw) :: Q) (hw:Wd z K):Zr w (ng z) pp n cc z K:=by
 rcases List.mem_cons.1 hm with h | h
 ·injection h with h1 h2 h3 h4
  subst h1; subst h2; subst h3; subst h4
  exact (Sl.nil w).zr (z:=0) hw
 ·obtain ⟨i,hi⟩:=List.mem_iff_getElem?.1 h
  exact hS.zwZr k hk hi hw
theorem Sep.memRow {w0 w:World} {R:List Res} {e:TypeId} {p pp:Option Addr} {m c n cc:Nat} {z:Int} {Q:List Zw} (h:Sep w0 (.lst e 2 p m c (zzE Q) :: R) w) (hm:(⟨pp,n,cc,z⟩:Zw) ∈ (⟨none,0,0,0⟩:Zw) :: Q):Sep w0 (.rowm pp n cc (lim z.natAbs) :: R) w:=by
 rcases List.mem_cons.1 hm with h9 | h9
 ·injection h9 with h1 h2 h3 h4
  subst h1; subst h2; subst h3; subst h4
  exact (h.sub (List.sublist_cons_self _ _)).nilRowm
 ·obtain ⟨_,_,h1⟩:=h.openL
  have h2:Sep w0 (flatR (zzE Q) ++ R) w:=h1.sub (List.sublist_cons_self _ _)
  have hmem:Res.rowm pp n cc (lim z.natAbs) ∈ flatR (zzE Q):=by
   unfold flatR zzE
   exact List.mem_flatMap.2 ⟨zwE ⟨pp,n,cc,z⟩,List.mem_map.2 ⟨_,h9,rfl⟩,List.mem_cons_self⟩
  have h3:[Res.rowm pp n cc (lim z.natAbs)].Sublist (flatR (zzE Q)):=List.singleton_sublist.2 hmem
  exact h2.sub (h3.append (List.Sublist.refl R))
theorem wqsums {pt:Option Addr} {nt ct:Nat} {T:List (List Int)} {w:World} (hT:TB w pt nt T 1048576) (hr:∀ L ∈ T,L.length = nt) (h0:nt ≠ 0) (h24:nt ≤ 24) :
  Calls Tryd.prog 29 #[.slice pt nt ct] w (Ret (LIt nt (rsums T)) w):=by
 have hTl:=hT.1
 have hS:=Sep.init w
 refine went Tryd.func29 rfl (n:=32) rfl rfl ?_
 refine wseq (wreg (wl rfl (oassign (v:=.slice none 0 0) rfl rfl evc ?_)))
 refine wnil (thenN (wseq (wreg (wl rfl (oassign (v:=.slice none 0 0) rfl rfl evc ?_)))))
 refine wnil (thenN (wseq (wseq (wreg (wl rfl (omove (v:=.slice pt nt ct) rfl rfl (ev rfl rfl) ?_))))))
 refine wl rfl (olen rfl rfl rfl Tryd.runUnderlying36 (p:=pt) (k:=nt) (m:=ct) (ev rfl rfl) ?_)
 refine wl rfl (omove (v:=.int .i64 0) rfl rfl evc ?_)
 refine wnil (thenN (wblock ?_))
 replace hS:=hS.nilLst 28 2
 refine wloop (σ := Nat) (fun i a9 w' => ∃ (fb:Nat → Value) (Q:List Zw) (pX:Option Addr) (cX:Nat),a9 = act 32 (sets fb [(2,.slice none 0 0),(3,.slice pX i cX),(9,.slice pt nt ct),(10,.int .i64 (nt:Int)),(11,.int .i64 (i:Int))]) ∧ Sep w [.lst 28 2 pX i cX (zzE Q)] w' ∧ (i ≤ nt) ∧ (zsq Q = (rsums T).take i)) (fun i => nt - i) (0) ⟨_,[],none,0,act_sets (l:=[(2,.slice none 0 0),(3,.slice none 0 0),(9,.slice pt nt ct),(10,.int .i64 (nt:Int)),(11,.int .i64 0)]) ⟨rfl,rfl,rfl,rfl,rfl,trivial⟩,hS,Nat.zero_le _,rfl⟩ ?_
 clear hS; rintro i _ w1 ⟨fb,Q,pX,cX,rfl,hS,hi,hQ⟩
 refine wseq (wreg ?_)
 by_cases hlt:i < nt
 ·
  refine wl rfl (obin (u:=.int .i64 (i:Int)) (v:=.int .i64 (nt:Int)) (z:=.bool true) rfl rfl (ev rfl rfl) (ev rfl rfl) (bin_lss (decide_eq_true (by omega))) ?_)
  refine wnil (thenN (wseq ?_))
  refine wT (ev rfl rfl) ?_
  refine wskip (thenN (wseq (wblock (wseq (wreg ?_)))))
  obtain ⟨xr,hxr⟩:∃ r,(T)[i]? = some r:=⟨_,List.getElem?_eq_getElem (by have:=hT.1; omega)⟩
  obtain ⟨br,ofr,pr,cr,hpr,hcr,hsr⟩:=hT.2.2 i _ hxr
  have h1:=hr xr (List.mem_of_getElem? hxr)
  have hWd:=facc_abs_wdK hsr
  refine wl rfl (oindex (p:=pt) (g:=br) (off:=ofr) (m:=nt) (k:=i) (j:=(ofr + i * 1)) rfl rfl Tryd.runUnderlying36 Tryd.sizeOf38 (ev rfl rfl) (hpr) (ev rfl rfl) (by omega) rfl ?_)
  refine wl rfl (oloadc (v:=.slice pr xr.length cr) (show One Tryd.prog 38 from ⟨Tryd.isAgg38,Tryd.sizeOf38⟩) rfl rfl (ev (v:=.pointer (some ⟨br,(ofr + i * 1),none⟩)) rfl rfl) (hS.cellAt (hcr 0 _ rfl)) ?_)
  refine wl rfl (oassign (v:=.slice pr xr.length cr) rfl rfl (ev rfl rfl) ?_)
  refine wnil (thenN (wseq (wreg (wl rfl (oalloc [.bool false,.slice none 0 0] hS rfl rfl Tryd.zeroValue28 rfl ?_)))))
  clear hS; intro g2 w3 hS
  refine wnil (thenN (wseq (wseq (wreg (wl rfl (omove (v:=.slice pr xr.length cr) rfl rfl (ev rfl rfl) ?_))))))
  refine wl rfl (olen rfl rfl rfl Tryd.runUnderlying38 (p:=pr) (k:=xr.length) (m:=cr) (ev rfl rfl) ?_)
  refine wl rfl (omove (v:=.int .i64 0) rfl rfl evc ?_)
  refine wnil (thenN (wblock ?_))
  replace hS:=hS.nilRowm
  refine wloop (σ := Nat) (fun j a9 w' => ∃ (fb:Nat → Value) (pza:Option Addr) (nza:Nat) (cza:Nat),a9 = act 32 (sets fb [(2,.slice none 0 0),(3,.slice pX i cX),(6,.pointer (some ⟨g2,0,none⟩)),(9,.slice pt nt ct),(10,.int .i64 (nt:Int)),(11,.int .i64 (i:Int)),(15,.slice pr xr.length cr),(16,.int .i64 (xr.length:Int)),(17,.int .i64 (j:Int))]) ∧ Sep w [.rowm pza nza cza (lim ((facc absA 0 xr j)).natAbs),.blk g2 [.bool (ng ((facc absA 0 xr j))),.slice pza nza cza] 28,.lst 28 2 pX i cX (zzE Q)] w' ∧ (j ≤ xr.length) ∧ (Wd ((facc absA 0 xr j)) 1048600)) (fun j => xr.length - j) (0) ⟨_,_,_,_,act_sets (l:=[(2,.slice none 0 0),(3,.slice pX i cX),(6,.pointer (some ⟨g2,0,none⟩)),(9,.slice pt nt ct),(10,.int .i64 (nt:Int)),(11,.int .i64 (i:Int)),(15,.slice pr xr.length cr),(16,.int .i64 (xr.length:Int)),(17,.int .i64 0)]) ⟨rfl,rfl,rfl,rfl,rfl,rfl,rfl,rfl,rfl,trivial⟩,hS,Nat.zero_le _,((Wd.i64 (z:=0) (by omega) (by omega))).mono (by omega)⟩ ?_
  clear hS; rintro j _ w4 ⟨fb,pza,nza,cza,rfl,hS,hj,hkza⟩
  refine wseq (wreg ?_)
  by_cases hlj:j < xr.length
  ·
   refine wl rfl (obin (u:=.int .i64 (j:Int)) (v:=.int .i64 (xr.length:Int)) (z:=.bool true) rfl rfl (ev rfl rfl) (ev rfl rfl) (bin_lss (decide_eq_true (by omega))) ?_)
   refine wnil (thenN (wseq ?_))
   refine wT (ev rfl rfl) ?_
   refine wskip (thenN (wseq (wblock (wseq (wreg ?_)))))
   obtain ⟨ze,ge,oe,be,pe,ne,ce,hle,hpe,hce,hze⟩:=hsr.el hlj
   refine wl rfl (oindex (p:=pr) (g:=ge) (off:=oe) (m:=xr.length) (k:=j) (j:=(oe + j * 2)) rfl rfl Tryd.runUnderlying38 Tryd.sizeOf28 (ev rfl rfl) (hpe) (ev rfl rfl) (hlj) rfl ?_)
   refine wl rfl (oloadA (vs:=[.bool be,.slice pe ne ce]) aggZ rfl rfl (ev (v:=.pointer (some ⟨ge,(oe + j * 2),none⟩)) rfl rfl) (fun j v hj => hS.cellAt (hce j v hj)) rfl ?_)
   refine wl rfl (oalloc [.bool false,.slice none 0 0] hS rfl rfl Tryd.zeroValue28 rfl ?_)
   clear hS; intro g5 w6 hS
   refine wl rfl (ostore [.bool be,.slice pe ne ce] [.bool be,.slice pe ne ce] Tryd.sizeOf28 hS 0 rfl rfl (ev rfl rfl) (ev (v:=.agg #[.bool be,.slice pe ne ce]) rfl rfl) rfl rfl rfl rfl rfl rfl ?_)
   clear hS; intro w7 hS
   refine wnil (thenN ?_)
   obtain ⟨z1,hz1⟩:∃ z:Int,Hid ((Int.natAbs ze:Int) = z):=⟨_,rfl⟩
   have hk1:Wd z1 1048576:=Wd.nabs hze.wd hz1
   obtain ⟨z2,hz2⟩:∃ z:Int,Hid (((facc absA 0 xr j)) + z1 = z):=⟨_,rfl⟩
   have hk2:Wd z2 1048601:=Wd.add hkza hk1 hz2 (by omega)
   refine wstage 4 [21,22,23,24] [[],[],[1],[0,2,1]] [[],[],[],[]] [] [] (fun i9 => ([fun _ => Is (.agg #[.bool (ng ((facc absA 0 xr j))),.slice pza nza cza]),fun _ => Is (.agg #[.bool be,.slice pe ne ce]),fun _ => Zt z1,fun _ => Zm z2]:List (List Value → Tell)).getD i9 (fun _ _ _ => False)) (heldNil) (fun d _ _ _ _ h => (by cases d <;> exact h)) (by kernel_rfl) (by kernel_rfl) (by kernel_rfl) hS ?_ ?_
   ·
    refine stepsCons rfl (fun Q f' w' ρ S ho hT hS hB => ?_) ?_
    ·exact .inl ⟨want_none rfl,oload (vs:=[.bool (ng ((facc absA 0 xr j))),.slice pza nza cza]) aggZ hS 2 rfl rfl (ev rfl (ho 6 rfl)) rfl rfl rfl ⟨_,_,rfl,isI,New.same _⟩⟩
    refine stepsCons rfl (fun Q f' w' ρ S ho hT hS hB => ?_) ?_
    ·exact .inl ⟨want_none rfl,oload (vs:=[.bool be,.slice pe ne ce]) aggZ hS 0 rfl rfl (ev rfl (ho 8 rfl)) rfl rfl rfl ⟨_,_,rfl,isI,New.same _⟩⟩
    refine stepsCons rfl (fun Q f' w' ρ S ho hT hS hB => ?_) ?_
    ·obtain ⟨hv1,hr1⟩:=(hT 1 22 rfl rfl:(Is (.agg #[.bool be,.slice pe ne ce])) _ _)
     obtain hS:=hS.flat1 hr1
     exact .inl ⟨want_none rfl,ocall rfl rfl Tryd.call66 rfl (wqabs ((hze.at hS).mono (by omega)) hz1) (args1 (ev rfl hv1)) callN⟩
    refine stepsCons rfl (fun Q f' w' ρ S ho hT hS hB => ?_) ?_
    ·obtain ⟨hv0,hr0⟩:=(hT 0 21 rfl rfl:(Is (.agg #[.bool (ng ((facc absA 0 xr j))),.slice pza nza cza])) _ _)
     obtain ⟨p1,n1,c1,hv2,hr2⟩:=(hT 2 23 rfl rfl:(Zt z1) _ _)
     obtain hS:=hS.flat2 hr0 hr2
     exact .inl ⟨want_none rfl,ocall rfl rfl Tryd.call17 rfl ((wqadd (((hS.slm 1 rfl).zr hkza).mono (by omega)) (((hS.sl 4 rfl).zr hk1).mono (by omega)) hz2).mono Zt.m) (args2 (ev rfl hv0) (ev rfl hv2)) callN⟩
    exact stepsNil
   ·
    intro vs ρ w8 f' hf hT hS
    obtain ⟨hv0,hr0⟩:=(hT 0 (by decide):(Is (.agg #[.bool (ng ((facc absA 0 xr j))),.slice pza nza cza])) _ _)
    obtain ⟨hv1,hr1⟩:=(hT 1 (by decide):(Is (.agg #[.bool be,.slice pe ne ce])) _ _)
    obtain ⟨p1,n1,c1,hv2,hr2⟩:=(hT 2 (by decide):(Zt z1) _ _)
    obtain ⟨p2,n2,c2,hv3,hr3⟩:=(hT 3 (by decide):(Zm z2) _ _)
    simp only [pool,if_true,hr0,hr1,hr2,hr3,List.nil_append,List.cons_append,List.append_nil] at hS
    simp only [layf,hv0,hv1,hv2,hv3] at hf
    subst hf; clear hT hv0 hv1 hv2 hv3 hr0 hr1 hr2 hr3
    refine wlate 4 rfl (by kernel_rfl) (ostore [.bool (ng z2),.slice p2 n2 c2] [.bool (ng z2),.slice p2 n2 c2] Tryd.sizeOf28 hS 4 rfl rfl (ev rfl rfl) (ev (v:=.agg #[.bool (ng z2),.slice p2 n2 c2]) rfl rfl) rfl rfl rfl rfl rfl rfl ?_)
    clear hS; intro w9 hS
    refine ⟨heldNil,?_⟩
    refine wdone rfl ?_
    refine blkN (thenN (wreg ?_))
    obtain rfl:(facc absA 0 xr (j + 1)) = z2:=(facc_succ hle).trans (by show _ + _ = _; rw [hz1.out]; exact hz2.out)
    refine wl rfl (obin (u:=.int .i64 (j:Int)) (v:=.int .i64 1) (z:=.int .i64 (((j + 1:Nat):Int))) rfl rfl (ev rfl rfl) evc (bin_add (wrap_i64 (by omega) (by omega))) ?_)
    refine wl rfl (omove (v:=.int .i64 (((j + 1:Nat):Int))) rfl rfl (ev rfl rfl) ?_)
    refine wnil (thenN ?_)
    exact ⟨(j + 1),⟨_,_,_,_,act_sets (l:=[(2,.slice none 0 0),(3,.slice pX i cX),(6,.pointer (some ⟨g2,0,none⟩)),(9,.slice pt nt ct),(10,.int .i64 (nt:Int)),(11,.int .i64 (i:Int)),(15,.slice pr xr.length cr),(16,.int .i64 (xr.length:Int)),(17,.int .i64 (((j + 1:Nat):Int)))]) ⟨rfl,rfl,rfl,rfl,rfl,rfl,rfl,rfl,rfl,trivial⟩,hS.pick [0,4,5] (by decide) rfl,by omega,(hWd _ (by omega)).mono (by omega)⟩,by omega⟩
  ·
   refine wl rfl (obin (u:=.int .i64 (j:Int)) (v:=.int .i64 (xr.length:Int)) (z:=.bool false) rfl rfl (ev rfl rfl) (ev rfl rfl) (bin_lss (decide_eq_false (by omega))) ?_)
   refine wnil (thenN (wseq ?_))
   refine wF (ev rfl rfl) ?_
   refine wexit ?_
   refine thenE ?_
   refine thenE ?_
   refine blkE ?_
   refine thenN (wreg (wl rfl (omove (v:=.slice pX i cX) rfl rfl (ev rfl rfl) ?_)))
   refine wl rfl (oload (vs:=[.bool (ng ((facc absA 0 xr j))),.slice pza nza cza]) aggZ hS 1 rfl rfl (ev rfl rfl) rfl rfl rfl ?_)
   refine wl rfl (obslice (ps:=#[(0,.agg #[.bool (ng ((facc absA 0 xr j))),.slice pza nza cza])]) (z:=.agg #[.bool false,.slice none 0 0]) [.bool (ng ((facc absA 0 xr j))),.slice pza nza cza] hS rfl rfl Tryd.runUnderlying38 Tryd.sizeOf28 Tryd.zeroValue28 (parts1 (ev (v:=.agg #[.bool (ng ((facc absA 0 xr j))),.slice pza nza cza]) rfl rfl)) rfl (by decide) fill2_1 ?_)
   clear hS; intro g5 w6 hS
   obtain rfl:j = xr.length:=by omega
   obtain hS:=(show Sep w [.rowm pza nza cza (lim ((facc absA 0 xr xr.length)).natAbs),.lst 28 2 pX i cX (zzE Q),.blk g5 [.bool (ng ((facc absA 0 xr xr.length))),.slice pza nza cza] 28,.blk g2 [.bool (ng ((facc absA 0 xr xr.length))),.slice pza nza cza] 28] w6 from hS.pick [1,3,0,2] (by decide) rfl)
   refine wl rfl (oappendL (p:=pX) (m:=i) (c:=cX) (g2:=g5) (c2:=1) (off:=0) [.bool (ng ((facc absA 0 xr xr.length))),.slice pza nza cza] [.rowm pza nza cza (lim ((facc absA 0 xr xr.length)).natAbs)] hS rfl rfl Tryd.underlying38 infoInt rfl (by decide) (ev (v:=.slice pX i cX) rfl rfl) (ev (v:=.slice (some ⟨g5,0,none⟩) 1 1) rfl rfl) (fun j v hj => by rw [Nat.zero_add]; exact (blk_cell (hS.blkAt 2 rfl) j).trans hj) rfl rfl rfl (by omega) (by omega) ?_)
   clear hS; intro p8 c9 w7 hS
   refine wl rfl (oassign (v:=.slice p8 ((i + 1)) c9) rfl rfl (ev rfl rfl) ?_)
   refine wnil (blkN (thenN (wreg ?_)))
   rw [zz_snoc] at hS
   refine wl rfl (obin (u:=.int .i64 (i:Int)) (v:=.int .i64 1) (z:=.int .i64 (((i + 1:Nat):Int))) rfl rfl (ev rfl rfl) evc (bin_add (wrap_i64 (by omega) (by omega))) ?_)
   refine wl rfl (omove (v:=.int .i64 (((i + 1:Nat):Int))) rfl rfl (ev rfl rfl) ?_)
   refine wnil (thenN ?_)
   exact ⟨(i + 1),⟨_,_,_,_,act_sets (l:=[(2,.slice none 0 0),(3,.slice p8 ((i + 1)) c9),(9,.slice pt nt ct),(10,.int .i64 (nt:Int)),(11,.int .i64 (((i + 1:Nat):Int)))]) ⟨rfl,rfl,rfl,rfl,rfl,trivial⟩,hS.pick [0] (by decide) rfl,by omega,by rw [zsq_snoc,hQ,List.take_add_one,show (rsums T)[i]? = some (rsum xr) by unfold rsums; rw [List.getElem?_map,hxr]; rfl]; rfl⟩,by omega⟩
 ·
  refine wl rfl (obin (u:=.int .i64 (i:Int)) (v:=.int .i64 (nt:Int)) (z:=.bool false) rfl rfl (ev rfl rfl) (ev rfl rfl) (bin_lss (decide_eq_false (by omega))) ?_)
  refine wnil (thenN (wseq ?_))
  refine wF (ev rfl rfl) ?_
  refine wexit ?_
  refine thenE ?_
  refine thenE ?_
  refine blkE ?_
  refine thenN (wseq (wreg (wl rfl (omove (v:=.slice pX i cX) rfl rfl (ev rfl rfl) ?_))))
  refine wl rfl (oassign (v:=.slice pX i cX) rfl rfl (ev rfl rfl) ?_)
  refine wnil (thenN ?_)
  refine wleave ?_
  have hin:i = nt:=by omega
  refine wret1 Tryd.results29 (tellT (v:=.slice pX i cX) rfl rfl) ?_
  exact ⟨_,_,rfl,⟨pX,cX,Q,by rw [hQ,List.take_of_length_le (by unfold rsums; rw [List.length_map]; omega)],by rw [hin],by rw [hin]⟩,hS.newR 0 rfl rfl⟩
theorem wqcoeffs {pt:Option Addr} {nt ct:Nat} {T:List (List Int)} {w:World} (hT:TB w pt nt T 1048576) (hr:∀ L ∈ T,L.length = nt) (h0:nt ≠ 0) (h24:nt ≤ 24) :
  Calls Tryd.prog 30 #[.slice pt nt ct] w (Ret (LIt (nt + 1) (coefs T)) w):=by
 have hTl:=hT.1
 have hWe:=esym_wdS hT hr h24
 have hWs:=rsums_wdK hT hr h24
 have hSl9:=rsums_len T
 have hS:=Sep.init w
 refine went Tryd.func30 rfl (n:=47) rfl rfl ?_
 refine wseq (wreg (wl rfl (oassign (v:=.slice none 0 0) rfl rfl evc ?_)))
 refine wnil (thenN (wseq (wreg ?_)))
 have hk1:Wd 1 2:=Wd.i64 (by omega) (by omega)
 refine wl rfl (ocall rfl rfl Tryd.call34 rfl ((wqof (z:=1) (by omega) (by omega)).mono Zt.m) (args1 evc) ?_)
 rintro _ w1 ⟨_,_,rfl,⟨p1,n1,c1,rfl,rfl⟩,hN⟩
 refine ⟨_,rfl,?_⟩
 replace hS:=hS.news hN; clear hN
 refine wl rfl (obslice (ps:=#[(0,.agg #[.bool (ng 1),.slice p1 n1 c1])]) (z:=.agg #[.bool false,.slice none 0 0]) [.bool (ng 1),.slice p1 n1 c1] hS rfl rfl Tryd.runUnderlying38 Tryd.sizeOf28 Tryd.zeroValue28 (parts1 (ev (v:=.agg #[.bool (ng 1),.slice p1 n1 c1]) rfl rfl)) rfl (by decide) fill2_1 ?_)
 clear hS; intro g2 w3 hS
 refine wl rfl (oassign (v:=.slice (some ⟨g2,0,none⟩) 1 1) rfl rfl (ev rfl rfl) ?_)
 refine wnil (thenN (wseq (wseq (wreg (wl rfl (omove (v:=.slice pt nt ct) rfl rfl (ev rfl rfl) ?_))))))
 replace hS:=hS.lit1
 refine wl rfl (ocall rfl rfl Tryd.call29 rfl (wqsums (hT.at hS) hr h0 h24) (args1 (ev rfl rfl)) ?_)
 rintro _ w4 ⟨_,_,rfl,⟨pS,cS,QS,hQS,rfl,rfl⟩,hN⟩
 refine ⟨_,rfl,?_⟩
 replace hS:=hS.news hN; clear hN
 refine wl rfl (olen rfl rfl rfl Tryd.runUnderlying38 (p:=pS) (k:=nt) (m:=cS) (ev rfl rfl) ?_)
 refine wl rfl (omove (v:=.int .i64 0) rfl rfl evc ?_)
 refine wnil (thenN (wblock ?_))
 refine wloop (σ := Nat) (fun i a9 w' => ∃ (fb:Nat → Value) (QC:List Zw) (pC:Option Addr) (cC:Nat),a9 = act 47 (sets fb [(2,.slice none 0 0),(3,.slice pC ((i + 1)) cC),(12,.slice pS nt cS),(13,.int .i64 (nt:Int)),(14,.int .i64 (i:Int))]) ∧ Sep w [.lst 28 2 pS nt cS (zzE QS),.lst 28 2 pC ((i + 1)) cC (zzE QC)] w' ∧ (i ≤ nt) ∧ (∀ j,j < i + 1 → (zsq QC).getD j 0 = esym (rsums T) i j) ∧ (QC.length = i + 1)) (fun i => nt - i) (0) ⟨_,_,_,_,act_sets (l:=[(2,.slice none 0 0),(3,.slice (some ⟨g2,0,none⟩) 1 1),(12,.slice pS nt cS),(13,.int .i64 (nt:Int)),(14,.int .i64 0)]) ⟨rfl,rfl,rfl,rfl,rfl,trivial⟩,hS,Nat.zero_le _,(fun j hj => by obtain rfl:j = 0:=(by omega); rw [esym_zero]; rfl),rfl⟩ ?_
 clear hS; rintro i _ w5 ⟨fb,QC,pC,cC,rfl,hS,hi,hC,hCl⟩
 refine wseq (wreg ?_)
 by_cases hlt:i < nt
 ·
  refine wl rfl (obin (u:=.int .i64 (i:Int)) (v:=.int .i64 (nt:Int)) (z:=.bool true) rfl rfl (ev rfl rfl) (ev rfl rfl) (bin_lss (decide_eq_true (by omega))) ?_)
  refine wnil (thenN (wseq ?_))
  refine wT (ev rfl rfl) ?_
  refine wskip (thenN (wseq (wblock (wseq (wreg ?_)))))
  have hSl:QS.length = nt:=by rw [← zsq_len,hQS,hSl9,hTl]
  obtain ⟨gS,hgS⟩:=hS.lstPtr 0 rfl (by omega)
  obtain ⟨⟨px,nx,cx,zx⟩,hqx⟩:∃ q,(QS)[i]? = some q:=⟨_,List.getElem?_eq_getElem (by omega)⟩
  have hzx:(zsq (QS)).getD i 0 = zx:=zsq_get hqx
  have hwx:Wd zx 1048600:=by rw [← hzx,hQS]; exact (hWs i).mono (by omega)
  refine wl rfl (oindex (p:=pS) (g:=gS) (off:=0) (m:=nt) (k:=i) (j:=(0 + i * 2)) rfl rfl Tryd.runUnderlying38 Tryd.sizeOf28 (ev rfl rfl) (hgS) (ev rfl rfl) (by omega) rfl ?_)
  refine wl rfl (oloadA (vs:=[.bool (ng zx),.slice px nx cx]) aggZ rfl rfl (ev (v:=.pointer (some ⟨gS,(0 + i * 2),none⟩)) rfl rfl) (hS.lstAtA 0 rfl hgS i (zzE_get hqx) (by decide) (by omega)) rfl ?_)
  refine wl rfl (oalloc [.bool false,.slice none 0 0] hS rfl rfl Tryd.zeroValue28 rfl ?_)
  clear hS; intro g6 w7 hS
  refine wl rfl (ostore [.bool (ng zx),.slice px nx cx] [.bool (ng zx),.slice px nx cx] Tryd.sizeOf28 hS 0 rfl rfl (ev rfl rfl) (ev (v:=.agg #[.bool (ng zx),.slice px nx cx]) rfl rfl) rfl rfl rfl rfl rfl rfl ?_)
  clear hS; intro w8 hS
  refine wnil (thenN (wseq (wreg (wl rfl (omove (v:=.slice pC ((i + 1)) cC) rfl rfl (ev rfl rfl) ?_)))))
  have hzC:ZL w8 pC (i + 1) ((zsq QC).map fun z => (ng z,lim z.natAbs)) 67108864:=hS.zll 2 rfl (by omega) (fun z hz => by
    obtain ⟨j,hj⟩:=List.mem_iff_getElem?.1 hz
    have h9:=hC j (by have:=(List.getElem?_eq_some_iff.1 hj).1; rw [zsq_len] at this; omega)
    rw [List.getD,hj] at h9
    rw [show z = esym (rsums T) i j from h9]
    exact (hWe i j (by omega)).mono (by omega))
  refine wl rfl (ocall rfl rfl Tryd.call15 rfl (wqCopyAll hzC) (args1 (ev rfl rfl)) ?_)
  rintro _ w9 ⟨_,_,rfl,⟨gN,esN,heN,rfl,rfl⟩,hN⟩
  refine ⟨_,rfl,?_⟩
  replace hS:=hS.news hN; clear hN
  refine wl rfl (obuild (ps:=#[]) (v:=.agg #[.bool false,.slice none 0 0]) rfl rfl (parts0) (fun w => by simp [go_sem,Instr.build,Instr.fill]) ?_)
  refine wl rfl (obslice (ps:=#[(0,.agg #[.bool false,.slice none 0 0])]) (z:=.agg #[.bool false,.slice none 0 0]) [.bool false,.slice none 0 0] hS rfl rfl Tryd.runUnderlying38 Tryd.sizeOf28 Tryd.zeroValue28 (parts1 (ev (v:=.agg #[.bool false,.slice none 0 0]) rfl rfl)) rfl (by decide) fill2_1 ?_)
  clear hS; intro g10 w11 hS
  have hesl:=hS.lstLen 1 rfl
  obtain ⟨QN0,hQN0,rfl⟩:=zels_zz heN hesl (by rw [zsq_len,hCl])
  obtain hS:=(show Sep w [.lst 28 2 (some ⟨gN,0,none⟩) ((i + 1)) ((i + 1)) (zzE QN0),.blk g10 [.bool false,.slice none 0 0] 28,.blk g6 [.bool (ng zx),.slice px nx cx] 28,.lst 28 2 pS nt cS (zzE QS),.lst 28 2 pC ((i + 1)) cC (zzE QC)] w11 from hS.pick [1,0,2,3,4] (by decide) rfl)
  refine wl rfl (oappendL (p:=(some ⟨gN,0,none⟩)) (m:=(i + 1)) (c:=(i + 1)) (g2:=g10) (c2:=1) (off:=0) [.bool false,.slice none 0 0] [] hS rfl rfl Tryd.underlying38 infoInt rfl (by decide) (ev (v:=.slice (some ⟨gN,0,none⟩) ((i + 1)) ((i + 1))) rfl rfl) (ev (v:=.slice (some ⟨g10,0,none⟩) 1 1) rfl rfl) (fun j v hj => by rw [Nat.zero_add]; exact (blk_cell (hS.blkAt 1 rfl) j).trans hj) rfl rfl rfl (by omega) (by omega) ?_)
  clear hS; intro p13 c14 w12 hS
  refine wl rfl (oassign (v:=.slice p13 (((i + 1) + 1)) c14) rfl rfl (ev rfl rfl) ?_)
  refine wnil (thenN (wseq (wseq (wreg (wl rfl (omove (v:=.slice pC ((i + 1)) cC) rfl rfl (ev rfl rfl) ?_))))))
  refine wl rfl (olen rfl rfl rfl Tryd.runUnderlying38 (p:=pC) (k:=(i + 1)) (m:=cC) (ev rfl rfl) ?_)
  refine wl rfl (omove (v:=.int .i64 0) rfl rfl evc ?_)
  refine wnil (thenN (wblock ?_))
  replace hS:=hS.lastNil
  have hN0l:QN0.length = i + 1:=by rw [← zsq_len,hQN0,zsq_len,hCl]
  have hNl0:(QN0 ++ [(⟨none,0,0,0⟩:Zw)]).length = i + 2:=by rw [List.length_append,hN0l]; rfl
  have hN0:∀ j,j < i + 2 → (zsq (QN0 ++ [(⟨none,0,0,0⟩:Zw)])).getD j 0 = if j ≤ 0 then esym (rsums T) (i + 1) j else esym (rsums T) i j:=fun j hj => by
   rw [zsq_snoc,hQN0,List.getD]
   by_cases e:j < i + 1
   ·rw [List.getElem?_append_left (by rw [zsq_len]; omega)]
    have h9:=hC j e
    rw [List.getD] at h9
    rw [h9]
    by_cases e0:j ≤ 0
    ·rw [if_pos e0,show j = 0 by omega,esym_zero,esym_zero]
    ·rw [if_neg e0]
   ·rw [show j = i + 1 by omega,List.getElem?_append_right (by rw [zsq_len]; omega),zsq_len,hCl,Nat.sub_self,if_neg (by omega),esym_far i (i + 1) (by omega)]; rfl
  refine wloop (σ := Nat) (fun k a9 w' => ∃ (fb:Nat → Value) (QN:List Zw),a9 = act 47 (sets fb [(2,.slice none 0 0),(3,.slice pC ((i + 1)) cC),(5,.pointer (some ⟨g6,0,none⟩)),(6,.slice p13 (((i + 1) + 1)) c14),(12,.slice pS nt cS),(13,.int .i64 (nt:Int)),(14,.int .i64 (i:Int)),(23,.slice pC ((i + 1)) cC),(24,.int .i64 ((((i + 1):Nat):Int))),(25,.int .i64 (k:Int))]) ∧ Sep w [.lst 28 2 p13 (((i + 1) + 1)) c14 (zzE QN),.blk g10 [.bool false,.slice none 0 0] 28,.blk g6 [.bool (ng zx),.slice px nx cx] 28,.lst 28 2 pS nt cS (zzE QS),.lst 28 2 pC ((i + 1)) cC (zzE QC)] w' ∧ (k ≤ i + 1) ∧ (∀ j,j < i + 2 → (zsq QN).getD j 0 = if j ≤ k then esym (rsums T) (i + 1) j else esym (rsums T) i j) ∧ (QN.length = i + 2)) (fun k => i + 1 - k) (0) ⟨_,_,act_sets (l:=[(2,.slice none 0 0),(3,.slice pC ((i + 1)) cC),(5,.pointer (some ⟨g6,0,none⟩)),(6,.slice p13 (((i + 1) + 1)) c14),(12,.slice pS nt cS),(13,.int .i64 (nt:Int)),(14,.int .i64 (i:Int)),(23,.slice pC ((i + 1)) cC),(24,.int .i64 ((((i + 1):Nat):Int))),(25,.int .i64 0)]) ⟨rfl,rfl,rfl,rfl,rfl,rfl,rfl,rfl,rfl,rfl,trivial⟩,hS,Nat.zero_le _,hN0,hNl0⟩ ?_
  clear hS; rintro k _ w15 ⟨fb,QN,rfl,hS,hk,hN,hNl⟩
  refine wseq (wreg ?_)
  by_cases hlk:k < i + 1
  ·
   refine wl rfl (obin (u:=.int .i64 (k:Int)) (v:=.int .i64 ((((i + 1):Nat):Int))) (z:=.bool true) rfl rfl (ev rfl rfl) (ev rfl rfl) (bin_lss (decide_eq_true (by omega))) ?_)
   refine wnil (thenN (wseq ?_))
   refine wT (ev rfl rfl) ?_
   refine wskip (thenN (wseq (wblock (wseq (wreg (wl rfl (omove (v:=.int .i64 (k:Int)) rfl rfl (ev rfl rfl) ?_)))))))
   obtain ⟨gC,hgC⟩:=hS.lstPtr 4 rfl (by omega)
   obtain ⟨gN,hgN⟩:=hS.lstPtr 0 rfl (by omega)
   obtain ⟨⟨pc,nc,cc,zc⟩,hqc⟩:∃ q,(QC)[k]? = some q:=⟨_,List.getElem?_eq_getElem (by omega)⟩
   have hzc:(zsq (QC)).getD k 0 = zc:=zsq_get hqc
   have hwc:Wd zc 26000000:=by rw [← hzc,hC k (by omega)]; exact hWe i k (by omega)
   obtain ⟨⟨pa,na,ca,za⟩,hqa⟩:∃ q,(QN)[(k + 1)]? = some q:=⟨_,List.getElem?_eq_getElem (by omega)⟩
   have hza:(zsq (QN)).getD ((k + 1)) 0 = za:=zsq_get hqa
   have hwa:Wd za 26000000:=by rw [← hza,hN (k + 1) (by omega),if_neg (by omega)]; exact hWe i (k + 1) (by omega)
   refine wl rfl (oindex (p:=pC) (g:=gC) (off:=0) (m:=(i + 1)) (k:=k) (j:=(0 + k * 2)) rfl rfl Tryd.runUnderlying38 Tryd.sizeOf28 (ev rfl rfl) (hgC) (ev rfl rfl) (by omega) rfl ?_)
   refine wl rfl (oloadA (vs:=[.bool (ng zc),.slice pc nc cc]) aggZ rfl rfl (ev (v:=.pointer (some ⟨gC,(0 + k * 2),none⟩)) rfl rfl) (hS.lstAtA 4 rfl hgC k (zzE_get hqc) (by decide) (by omega)) rfl ?_)
   refine wl rfl (oalloc [.bool false,.slice none 0 0] hS rfl rfl Tryd.zeroValue28 rfl ?_)
   clear hS; intro g16 w17 hS
   refine wl rfl (oassign (v:=.int .i64 (k:Int)) rfl rfl (ev rfl rfl) ?_)
   refine wl rfl (ostore [.bool (ng zc),.slice pc nc cc] [.bool (ng zc),.slice pc nc cc] Tryd.sizeOf28 hS 0 rfl rfl (ev rfl rfl) (ev (v:=.agg #[.bool (ng zc),.slice pc nc cc]) rfl rfl) rfl rfl rfl rfl rfl rfl ?_)
   clear hS; intro w18 hS
   refine wnil (thenN ?_)
   obtain ⟨z2,hz2⟩:∃ z:Int,Hid (zc * zx = z):=⟨_,rfl⟩
   have hk2:Wd z2 27048600:=Wd.mul hwc hwx hz2 (by omega)
   obtain ⟨z3,hz3⟩:∃ z:Int,Hid (za + z2 = z):=⟨_,rfl⟩
   have hk3:Wd z3 27048601:=Wd.add hwa hk2 hz3 (by omega)
   refine wstage 13 [30,31,32,33,34,35,36,37,38,39,40,41,42] [[],[],[1],[],[],[4],[3,5,4],[6,3,4,5],[],[],[8,9],[7,10,3,4,5,6,8,9],[0,2,1,3,4,5,6,7,8,9,10,11]] [[],[],[],[],[],[],[],[],[],[],[],[],[]] [] [] (fun i9 => ([fun _ => Is (.slice p13 (((i + 1) + 1)) c14),fun _ => Is (.int .i64 (k:Int)),fun _ => Is (.int .i64 (((k + 1:Nat):Int))),fun _ => Is (.slice p13 (((i + 1) + 1)) c14),fun _ => Is (.int .i64 (k:Int)),fun _ => Is (.int .i64 (((k + 1:Nat):Int))),fun _ => Is (.pointer (some ⟨gN,(0 + (k + 1) * 2),none⟩)),fun _ => Is (.agg #[.bool (ng za),.slice pa na ca]),fun _ => Is (.agg #[.bool (ng zc),.slice pc nc cc]),fun _ => Is (.agg #[.bool (ng zx),.slice px nx cx]),fun _ => Zt z2,fun _ => Zm z3,fun _ => Is (.pointer (some ⟨gN,(0 + (k + 1) * 2),none⟩))]:List (List Value → Tell)).getD i9 (fun _ _ _ => False)) (heldNil) (fun d _ _ _ _ h => (by cases d <;> exact h)) (by kernel_rfl) (by kernel_rfl) (by kernel_rfl) hS ?_ ?_
   ·
    refine stepsCons rfl (fun Q f' w' ρ S ho hT hS hB => ?_) ?_
    ·exact .inl ⟨want_none rfl,omove (v:=.slice p13 (((i + 1) + 1)) c14) rfl rfl (ev rfl (ho 6 rfl)) ⟨_,_,rfl,isI,New.same _⟩⟩
    refine stepsCons rfl (fun Q f' w' ρ S ho hT hS hB => ?_) ?_
    ·exact .inl ⟨want_none rfl,omove (v:=.int .i64 (k:Int)) rfl rfl (ev rfl (ho 7 rfl)) ⟨_,_,rfl,isI,New.same _⟩⟩
    refine stepsCons rfl (fun Q f' w' ρ S ho hT hS hB => ?_) ?_
    ·obtain ⟨hv1,hr1⟩:=(hT 1 31 rfl rfl:(Is (.int .i64 (((k:Nat):Int)))) _ _)
     obtain hS:=hS.flat1 hr1
     exact .inl ⟨want_none rfl,obin (u:=.int .i64 (k:Int)) (v:=.int .i64 1) (z:=.int .i64 (((k + 1:Nat):Int))) rfl rfl (ev rfl hv1) evc (bin_add (wrap_i64 (by omega) (by omega))) ⟨_,_,rfl,isI,New.same _⟩⟩
    refine stepsCons rfl (fun Q f' w' ρ S ho hT hS hB => ?_) ?_
    ·exact .inl ⟨want_none rfl,omove (v:=.slice p13 (((i + 1) + 1)) c14) rfl rfl (ev rfl (ho 6 rfl)) ⟨_,_,rfl,isI,New.same _⟩⟩
    refine stepsCons rfl (fun Q f' w' ρ S ho hT hS hB => ?_) ?_
    ·exact .inl ⟨want_none rfl,omove (v:=.int .i64 (k:Int)) rfl rfl (ev rfl (ho 7 rfl)) ⟨_,_,rfl,isI,New.same _⟩⟩
    refine stepsCons rfl (fun Q f' w' ρ S ho hT hS hB => ?_) ?_
    ·obtain ⟨hv4,hr4⟩:=(hT 4 34 rfl rfl:(Is (.int .i64 (((k:Nat):Int)))) _ _)
     obtain hS:=hS.flat1 hr4
     exact .inl ⟨want_none rfl,obin (u:=.int .i64 (k:Int)) (v:=.int .i64 1) (z:=.int .i64 (((k + 1:Nat):Int))) rfl rfl (ev rfl hv4) evc (bin_add (wrap_i64 (by omega) (by omega))) ⟨_,_,rfl,isI,New.same _⟩⟩
    refine stepsCons rfl (fun Q f' w' ρ S ho hT hS hB => ?_) ?_
    ·obtain ⟨hv3,hr3⟩:=(hT 3 33 rfl rfl:(Is (.slice p13 (((i + 1) + 1)) c14)) _ _)
     obtain ⟨hv5,hr5⟩:=(hT 5 35 rfl rfl:(Is (.int .i64 (((k + 1:Nat):Int)))) _ _)
     obtain hS:=hS.flat2 hr3 hr5
     exact .inl ⟨want_none rfl,oindex (p:=p13) (g:=gN) (off:=0) (m:=((i + 1) + 1)) (k:=(k + 1)) (j:=(0 + (k + 1) * 2)) rfl rfl Tryd.runUnderlying38 Tryd.sizeOf28 (ev rfl hv3) (hgN) (ev rfl hv5) (by omega) rfl ⟨_,_,rfl,isI,New.same _⟩⟩
    refine stepsCons rfl (fun Q f' w' ρ S ho hT hS hB => ?_) ?_
    ·obtain ⟨hv6,hr6⟩:=(hT 6 36 rfl rfl:(Is (.pointer (some ⟨gN,(0 + (k + 1) * 2),none⟩))) _ _)
     obtain hS:=hS.flat1 hr6
     exact .inl ⟨want_none rfl,oloadA (vs:=[.bool (ng za),.slice pa na ca]) aggZ rfl rfl (ev (v:=.pointer (some ⟨gN,(0 + (k + 1) * 2),none⟩)) rfl hv6) (hS.lstAtA 1 rfl hgN (k + 1) (zzE_get hqa) (by decide) (by omega)) rfl ⟨_,_,rfl,isI,New.same _⟩⟩
    refine stepsCons rfl (fun Q f' w' ρ S ho hT hS hB => ?_) ?_
    ·exact .inl ⟨want_none rfl,oload (vs:=[.bool (ng zc),.slice pc nc cc]) aggZ hS 0 rfl rfl (ev rfl (ho 8 rfl)) rfl rfl rfl ⟨_,_,rfl,isI,New.same _⟩⟩
    refine stepsCons rfl (fun Q f' w' ρ S ho hT hS hB => ?_) ?_
    ·exact .inl ⟨want_none rfl,oload (vs:=[.bool (ng zx),.slice px nx cx]) aggZ hS 3 rfl rfl (ev rfl (ho 5 rfl)) rfl rfl rfl ⟨_,_,rfl,isI,New.same _⟩⟩
    refine stepsCons rfl (fun Q f' w' ρ S ho hT hS hB => ?_) ?_
    ·obtain ⟨hv8,hr8⟩:=(hT 8 38 rfl rfl:(Is (.agg #[.bool (ng zc),.slice pc nc cc])) _ _)
     obtain ⟨hv9,hr9⟩:=(hT 9 39 rfl rfl:(Is (.agg #[.bool (ng zx),.slice px nx cx])) _ _)
     obtain hS:=hS.flat2 hr8 hr9
     exact .inl ⟨want_none rfl,ocall rfl rfl Tryd.call67 rfl (wqmul ((hS.zwZr 5 rfl hqc hwc).mono (by omega)) ((hS.zwZr 4 rfl hqx hwx).mono (by omega)) hz2) (args2 (ev rfl hv8) (ev rfl hv9)) callN⟩
    refine stepsCons rfl (fun Q f' w' ρ S ho hT hS hB => ?_) ?_
    ·obtain ⟨hv7,hr7⟩:=(hT 7 37 rfl rfl:(Is (.agg #[.bool (ng za),.slice pa na ca])) _ _)
     obtain ⟨p2,n2,c2,hv10,hr10⟩:=(hT 10 40 rfl rfl:(Zt z2) _ _)
     obtain hS:=hS.flat2 hr7 hr10
     exact .inl ⟨want_none rfl,ocall rfl rfl Tryd.call17 rfl ((wqadd ((hS.zwZr 1 rfl hqa hwa).mono (by omega)) (((hS.sl 6 rfl).zr hk2).mono (by omega)) hz3).mono Zt.m) (args2 (ev rfl hv7) (ev rfl hv10)) callN⟩
    refine stepsCons rfl (fun Q f' w' ρ S ho hT hS hB => ?_) ?_
    ·obtain ⟨hv0,hr0⟩:=(hT 0 30 rfl rfl:(Is (.slice p13 (((i + 1) + 1)) c14)) _ _)
     obtain ⟨hv2,hr2⟩:=(hT 2 32 rfl rfl:(Is (.int .i64 (((k + 1:Nat):Int)))) _ _)
     obtain hS:=hS.flat2 hr0 hr2
     exact .inl ⟨want_none rfl,oindex (p:=p13) (g:=gN) (off:=0) (m:=((i + 1) + 1)) (k:=(k + 1)) (j:=(0 + (k + 1) * 2)) rfl rfl Tryd.runUnderlying38 Tryd.sizeOf28 (ev rfl hv0) (hgN) (ev rfl hv2) (by omega) rfl ⟨_,_,rfl,isI,New.same _⟩⟩
    exact stepsNil
   ·
    intro vs ρ w19 f' hf hT hS
    obtain ⟨hv0,hr0⟩:=(hT 0 (by decide):(Is (.slice p13 (((i + 1) + 1)) c14)) _ _)
    obtain ⟨hv1,hr1⟩:=(hT 1 (by decide):(Is (.int .i64 (((k:Nat):Int)))) _ _)
    obtain ⟨hv2,hr2⟩:=(hT 2 (by decide):(Is (.int .i64 (((k + 1:Nat):Int)))) _ _)
    obtain ⟨hv3,hr3⟩:=(hT 3 (by decide):(Is (.slice p13 (((i + 1) + 1)) c14)) _ _)
    obtain ⟨hv4,hr4⟩:=(hT 4 (by decide):(Is (.int .i64 (((k:Nat):Int)))) _ _)
    obtain ⟨hv5,hr5⟩:=(hT 5 (by decide):(Is (.int .i64 (((k + 1:Nat):Int)))) _ _)
    obtain ⟨hv6,hr6⟩:=(hT 6 (by decide):(Is (.pointer (some ⟨gN,(0 + (k + 1) * 2),none⟩))) _ _)
    obtain ⟨hv7,hr7⟩:=(hT 7 (by decide):(Is (.agg #[.bool (ng za),.slice pa na ca])) _ _)
    obtain ⟨hv8,hr8⟩:=(hT 8 (by decide):(Is (.agg #[.bool (ng zc),.slice pc nc cc])) _ _)
    obtain ⟨hv9,hr9⟩:=(hT 9 (by decide):(Is (.agg #[.bool (ng zx),.slice px nx cx])) _ _)
    obtain ⟨p2,n2,c2,hv10,hr10⟩:=(hT 10 (by decide):(Zt z2) _ _)
    obtain ⟨p3,n3,c3,hv11,hr11⟩:=(hT 11 (by decide):(Zm z3) _ _)
    obtain ⟨hv12,hr12⟩:=(hT 12 (by decide):(Is (.pointer (some ⟨gN,(0 + (k + 1) * 2),none⟩))) _ _)
    simp only [pool,if_true,hr0,hr1,hr2,hr3,hr4,hr5,hr6,hr7,hr8,hr9,hr10,hr11,hr12,List.nil_append,List.cons_append,List.append_nil] at hS
    simp only [layf,hv0,hv1,hv2,hv3,hv4,hv5,hv6,hv7,hv8,hv9,hv10,hv11,hv12] at hf
    subst hf; clear hT hv0 hv1 hv2 hv3 hv4 hv5 hv6 hv7 hv8 hv9 hv10 hv11 hv12 hr0 hr1 hr2 hr3 hr4 hr5 hr6 hr7 hr8 hr9 hr10 hr11 hr12
    obtain hS:=(show Sep w [.rowm p3 n3 c3 (lim z3.natAbs),.lst 28 2 p13 (((i + 1) + 1)) c14 (zzE QN),.row p2 n2 c2 (lim z2.natAbs),.blk g16 [.bool (ng zc),.slice pc nc cc] 28,.blk g10 [.bool false,.slice none 0 0] 28,.blk g6 [.bool (ng zx),.slice px nx cx] 28,.lst 28 2 pS nt cS (zzE QS),.lst 28 2 pC ((i + 1)) cC (zzE QC)] w19 from hS.pick [0,3,1,2,4,5,6,7] (by decide) rfl)
    refine wlate 13 rfl (by kernel_rfl) (ostoreL (i:=(k + 1)) (g:=gN) [.bool (ng z3),.slice p3 n3 c3] [.rowm p3 n3 c3 (lim z3.natAbs)] Tryd.sizeOf28 hS rfl rfl (ev (v:=.pointer (some ⟨gN,(0 + (k + 1) * 2),none⟩)) rfl rfl) (ev (v:=.agg #[.bool (ng z3),.slice p3 n3 c3]) rfl rfl) (rfl) rfl rfl rfl hgN (by omega) rfl ?_)
    clear hS; intro w20 hS
    refine ⟨heldNil,?_⟩
    refine wdone rfl ?_
    refine blkN (thenN (wreg ?_))
    rw [zzE_set] at hS
    have hz9:z3 = esym (rsums T) (i + 1) (k + 1):=by rw [esym_next, ← hz3.out, ← hz2.out, ← hzx,hQS, ← hza, ← hzc,hN (k + 1) (by omega),hC k (by omega),if_neg (by omega)]
    refine wl rfl (obin (u:=.int .i64 (k:Int)) (v:=.int .i64 1) (z:=.int .i64 (((k + 1:Nat):Int))) rfl rfl (ev rfl rfl) evc (bin_add (wrap_i64 (by omega) (by omega))) ?_)
    refine wl rfl (omove (v:=.int .i64 (((k + 1:Nat):Int))) rfl rfl (ev rfl rfl) ?_)
    refine wnil (thenN ?_)
    exact ⟨(k + 1),⟨_,_,act_sets (l:=[(2,.slice none 0 0),(3,.slice pC ((i + 1)) cC),(5,.pointer (some ⟨g6,0,none⟩)),(6,.slice p13 (((i + 1) + 1)) c14),(12,.slice pS nt cS),(13,.int .i64 (nt:Int)),(14,.int .i64 (i:Int)),(23,.slice pC ((i + 1)) cC),(24,.int .i64 ((((i + 1):Nat):Int))),(25,.int .i64 (((k + 1:Nat):Int)))]) ⟨rfl,rfl,rfl,rfl,rfl,rfl,rfl,rfl,rfl,rfl,trivial⟩,hS.pick [0,3,4,5,6] (by decide) rfl,by omega,sweep2 (by omega) hNl hN hz9,by rw [List.length_set]; exact hNl⟩,by omega⟩
  ·
   refine wl rfl (obin (u:=.int .i64 (k:Int)) (v:=.int .i64 ((((i + 1):Nat):Int))) (z:=.bool false) rfl rfl (ev rfl rfl) (ev rfl rfl) (bin_lss (decide_eq_false (by omega))) ?_)
   refine wnil (thenN (wseq ?_))
   refine wF (ev rfl rfl) ?_
   refine wexit ?_
   refine thenE ?_
   refine thenE ?_
   refine blkE ?_
   refine thenN (wreg (wl rfl (omove (v:=.slice p13 (((i + 1) + 1)) c14) rfl rfl (ev rfl rfl) ?_)))
   refine wl rfl (oassign (v:=.slice p13 (((i + 1) + 1)) c14) rfl rfl (ev rfl rfl) ?_)
   refine wnil (blkN (thenN (wreg (wl rfl (obin (u:=.int .i64 (i:Int)) (v:=.int .i64 1) (z:=.int .i64 (((i + 1:Nat):Int))) rfl rfl (ev rfl rfl) evc (bin_add (wrap_i64 (by omega) (by omega))) ?_)))))
   refine wl rfl (omove (v:=.int .i64 (((i + 1:Nat):Int))) rfl rfl (ev rfl rfl) ?_)
   refine wnil (thenN ?_)
   exact ⟨(i + 1),⟨_,_,_,_,act_sets (l:=[(2,.slice none 0 0),(3,.slice p13 (((i + 1) + 1)) c14),(12,.slice pS nt cS),(13,.int .i64 (nt:Int)),(14,.int .i64 (((i + 1:Nat):Int)))]) ⟨rfl,rfl,rfl,rfl,rfl,trivial⟩,hS.pick [3,0] (by decide) rfl,by omega,fun j hj => by rw [hN j (by omega),if_pos (by omega)],by omega⟩,by omega⟩
 ·
  refine wl rfl (obin (u:=.int .i64 (i:Int)) (v:=.int .i64 (nt:Int)) (z:=.bool false) rfl rfl (ev rfl rfl) (ev rfl rfl) (bin_lss (decide_eq_false (by omega))) ?_)
  refine wnil (thenN (wseq ?_))
  refine wF (ev rfl rfl) ?_
  refine wexit ?_
  refine thenE ?_
  refine thenE ?_
  refine blkE ?_
  refine thenN (wseq (wreg (wl rfl (omove (v:=.slice pC ((i + 1)) cC) rfl rfl (ev rfl rfl) ?_))))
  refine wl rfl (oassign (v:=.slice pC ((i + 1)) cC) rfl rfl (ev rfl rfl) ?_)
  refine wnil (thenN ?_)
  refine wleave ?_
  have hin:i = nt:=by omega
  refine wret1 Tryd.results30 (tellT (v:=.slice pC ((i + 1)) cC) rfl rfl) ?_
  have hfin:zsq QC = coefs T:=by
   apply List.ext_getElem?
   intro j
   by_cases e:j < nt + 1
   ·have h9:=hC j (by omega)
    have h8:=coefs_get T j
    rw [if_pos (by omega),hTl, ← hin, ← h9] at h8
    rw [List.getD,List.getD,List.getElem?_eq_getElem (l:=coefs T) (by rw [coefs_len]; omega),List.getElem?_eq_getElem (l:=zsq QC) (by rw [zsq_len]; omega)] at h8
    rw [List.getElem?_eq_getElem (l:=coefs T) (by rw [coefs_len]; omega),List.getElem?_eq_getElem (l:=zsq QC) (by rw [zsq_len]; omega)]
    exact congrArg some h8.symm
   ·rw [List.getElem?_eq_none (by rw [zsq_len]; omega),List.getElem?_eq_none (by rw [coefs_len]; omega)]
  exact ⟨_,_,rfl,⟨pC,cC,QC,hfin,by rw [hin],by rw [hin]⟩,hS.newR 1 rfl rfl⟩
end Go.Proofs.YthnilcgmljecdaaDoor
/-
  The document's Bound.
-/
namespace Go.Proofs.YthnilcgmljecdaaDoor
open Go.RowKit
theorem mxA_up {l:List Int} {i:Nat} {z:Int} (h0:0 ≤ l.getD i 0) (hz:l.getD i 0 = z) (h:mxA l i < z):mxA l (i + 1) = z:=by
  rw [mxA,hz,if_neg (by omega)]; omega
theorem mxA_keep {l:List Int} {i:Nat} {z:Int} (h0:0 ≤ l.getD i 0) (hz:l.getD i 0 = z) (h:¬ mxA l i < z):mxA l (i + 1) = mxA l i:=by
  rw [mxA,hz]; split <;> omega
theorem coefs_wdS {w:World} {p:Option Addr} {n:Nat} {T:List (List Int)} (hT:TB w p n T 1048576) (hr:∀ L ∈ T,L.length = n) (h24:n ≤ 24) (k:Nat):Wd ((coefs T).getD k 0) 26000000:=by
  rw [coefs_get]
  split
  · have h1:=hT.1; exact esym_wdS hT hr h24 _ _ (by omega)
  · exact Wd.zero _
theorem wqbound {pt:Option Addr} {nt ct:Nat} {T:List (List Int)} {w:World} (hT:TB w pt nt T 1048576) (hr:∀ L ∈ T,L.length = nt) (h0:nt ≠ 0) (h24:nt ≤ 24) :
  Calls Tryd.prog 31 #[.slice pt nt ct] w (Ret (Zt (mxA (coefs T) (nt + 1))) w):=by
 have hTl:=hT.1
 have hWc:=coefs_wdS hT hr h24
 have hCl:=coefs_len T
 have hnn:=coefs_nn T
 have hS:=Sep.init w
 refine went Tryd.func31 rfl (n:=20) rfl rfl ?_
 refine wseq (wreg (wl rfl (oalloc [.bool false,.slice none 0 0] hS rfl rfl Tryd.zeroValue28 rfl ?_)))
 clear hS; intro g1 w2 hS
 refine wnil (thenN (wseq (wreg (wl rfl (oalloc [.bool false,.slice none 0 0] hS rfl rfl Tryd.zeroValue28 rfl ?_)))))
 clear hS; intro g3 w4 hS
 refine wnil (thenN (wseq (wseq (wreg (wl rfl (omove (v:=.slice pt nt ct) rfl rfl (ev rfl rfl) ?_))))))
 refine wl rfl (ocall rfl rfl Tryd.call30 rfl (wqcoeffs (hT.at hS) hr h0 h24) (args1 (ev rfl rfl)) ?_)
 rintro _ w5 ⟨_,_,rfl,⟨pC,cC,QC,hQC,rfl,rfl⟩,hN⟩
 refine ⟨_,rfl,?_⟩
 replace hS:=hS.news hN; clear hN
 refine wl rfl (olen rfl rfl rfl Tryd.runUnderlying38 (p:=pC) (k:=nt + 1) (m:=cC) (ev rfl rfl) ?_)
 refine wl rfl (omove (v:=.int .i64 0) rfl rfl evc ?_)
 refine wnil (thenN (wblock ?_))
 refine wloop (σ := Nat) (fun i a9 w' => ∃ (fb:Nat → Value) (pm:Option Addr) (nm:Nat) (cm:Nat),a9 = act 20 (sets fb [(2,.pointer (some ⟨g1,0,none⟩)),(3,.pointer (some ⟨g3,0,none⟩)),(7,.slice pC (nt + 1) cC),(8,.int .i64 (((nt + 1:Nat):Int))),(9,.int .i64 (i:Int))]) ∧ Sep w [.lst 28 2 pC (nt + 1) cC (zzE QC),.blk g3 [.bool (ng (mxA (coefs T) i)),.slice pm nm cm] 28,.blk g1 [.bool false,.slice none 0 0] 28] w' ∧ (i ≤ nt + 1) ∧ ((⟨pm,nm,cm,mxA (coefs T) i⟩:Zw) ∈ (⟨none,0,0,0⟩:Zw) :: QC)) (fun i => nt + 1 - i) (0) ⟨_,none,0,0,act_sets (l:=[(2,.pointer (some ⟨g1,0,none⟩)),(3,.pointer (some ⟨g3,0,none⟩)),(7,.slice pC (nt + 1) cC),(8,.int .i64 (((nt + 1:Nat):Int))),(9,.int .i64 0)]) ⟨rfl,rfl,rfl,rfl,rfl,trivial⟩,hS,Nat.zero_le _,List.mem_cons_self⟩ ?_
 clear hS; rintro i _ w6 ⟨fb,pm,nm,cm,rfl,hS,hi,hmem⟩
 refine wseq (wreg ?_)
 by_cases hlt:i < nt + 1
 ·
  refine wl rfl (obin (u:=.int .i64 (i:Int)) (v:=.int .i64 (((nt + 1:Nat):Int))) (z:=.bool true) rfl rfl (ev rfl rfl) (ev rfl rfl) (bin_lss (decide_eq_true (by omega))) ?_)
  refine wnil (thenN (wseq ?_))
  refine wT (ev rfl rfl) ?_
  refine wskip (thenN (wseq (wblock (wseq (wreg ?_)))))
  have hCl2:QC.length = nt + 1:=by rw [← zsq_len,hQC,hCl,hTl]
  obtain ⟨gC,hgC⟩:=hS.lstPtr 0 rfl (by omega)
  obtain ⟨⟨px,nx,cx,zx⟩,hqx⟩:∃ q,(QC)[i]? = some q:=⟨_,List.getElem?_eq_getElem (by omega)⟩
  have hzx:(zsq (QC)).getD i 0 = zx:=zsq_get hqx
  have hwx:Wd zx 26000000:=by rw [← hzx,hQC]; exact hWc i
  have hwM:Wd (mxA (coefs T) i) 26000000:=mxA_wd hWc i
  have hzx2:(coefs T).getD i 0 = zx:=by rw [← hQC]; exact hzx
  refine wl rfl (oindex (p:=pC) (g:=gC) (off:=0) (m:=nt + 1) (k:=i) (j:=(0 + i * 2)) rfl rfl Tryd.runUnderlying38 Tryd.sizeOf28 (ev rfl rfl) (hgC) (ev rfl rfl) (by omega) rfl ?_)
  refine wl rfl (oloadA (vs:=[.bool (ng zx),.slice px nx cx]) aggZ rfl rfl (ev (v:=.pointer (some ⟨gC,(0 + i * 2),none⟩)) rfl rfl) (hS.lstAtA 0 rfl hgC i (zzE_get hqx) (by decide) (by omega)) rfl ?_)
  refine wl rfl (oalloc [.bool false,.slice none 0 0] hS rfl rfl Tryd.zeroValue28 rfl ?_)
  clear hS; intro g7 w8 hS
  refine wl rfl (ostore [.bool (ng zx),.slice px nx cx] [.bool (ng zx),.slice px nx cx] Tryd.sizeOf28 hS 0 rfl rfl (ev rfl rfl) (ev (v:=.agg #[.bool (ng zx),.slice px nx cx]) rfl rfl) rfl rfl rfl rfl rfl rfl ?_)
  clear hS; intro w9 hS
  refine wnil (thenN (wseq (wreg (wl rfl (oload (vs:=[.bool (ng zx),.slice px nx cx]) aggZ hS 0 rfl rfl (ev rfl rfl) rfl rfl rfl ?_)))))
  refine wl rfl (oload (vs:=[.bool (ng (mxA (coefs T) i)),.slice pm nm cm]) aggZ hS 2 rfl rfl (ev rfl rfl) rfl rfl rfl ?_)
  obtain ⟨s1,hs1⟩:∃ z:Int,Hid (cmpZ zx ((mxA (coefs T) i)) = z):=⟨_,rfl⟩
  refine wl rfl (ocall rfl rfl Tryd.call19 rfl (wqcmp ((hS.zwZr 1 rfl hqx hwx).mono (by omega)) ((hS.memZr 1 rfl hmem hwM).mono (by omega)) hs1) (args2 (ev rfl rfl) (ev rfl rfl)) ?_)
  rintro _ w10 ⟨_,_,rfl,⟨rfl,rfl⟩,hN⟩
  refine ⟨_,rfl,?_⟩
  replace hS:=hS.news hN; clear hN
  by_cases hgt:mxA (coefs T) i < zx
  ·
   refine wl rfl (obin (u:=.int .i64 s1) (v:=.int .i64 0) (z:=.bool true) rfl rfl (ev rfl rfl) evc (bin_gtr ((cmpZ_gtD hs1).trans (decide_eq_true hgt))) ?_)
   refine wnil (thenN ?_)
   refine wT (ev rfl rfl) ?_
   refine wreg (wl rfl (oload (vs:=[.bool (ng zx),.slice px nx cx]) aggZ hS 0 rfl rfl (ev rfl rfl) rfl rfl rfl ?_))
   refine wl rfl (ostore [.bool (ng zx),.slice px nx cx] [.bool (ng zx),.slice px nx cx] Tryd.sizeOf28 hS 2 rfl rfl (ev rfl rfl) (ev (v:=.agg #[.bool (ng zx),.slice px nx cx]) rfl rfl) rfl rfl rfl rfl rfl rfl ?_)
   clear hS; intro w11 hS
   refine wnil (blkN (thenN (wreg (wl rfl (obin (u:=.int .i64 (i:Int)) (v:=.int .i64 1) (z:=.int .i64 (((i + 1:Nat):Int))) rfl rfl (ev rfl rfl) evc (bin_add (wrap_i64 (by omega) (by omega))) ?_)))))
   refine wl rfl (omove (v:=.int .i64 (((i + 1:Nat):Int))) rfl rfl (ev rfl rfl) ?_)
   refine wnil (thenN ?_)
   have hmx:=mxA_up (hnn i) hzx2 hgt
   rw [show ng zx = ng (mxA (coefs T) (i + 1)) by rw [hmx]] at hS
   exact ⟨(i + 1),⟨_,_,_,_,act_sets (l:=[(2,.pointer (some ⟨g1,0,none⟩)),(3,.pointer (some ⟨g3,0,none⟩)),(7,.slice pC (nt + 1) cC),(8,.int .i64 (((nt + 1:Nat):Int))),(9,.int .i64 (((i + 1:Nat):Int)))]) ⟨rfl,rfl,rfl,rfl,rfl,trivial⟩,hS.pick [1,2,3] (by decide) rfl,by omega,List.mem_cons_of_mem _ (by rw [hmx]; exact List.mem_of_getElem? hqx)⟩,by omega⟩
  ·
   refine wl rfl (obin (u:=.int .i64 s1) (v:=.int .i64 0) (z:=.bool false) rfl rfl (ev rfl rfl) evc (bin_gtr ((cmpZ_gtD hs1).trans (decide_eq_false hgt))) ?_)
   refine wnil (thenN ?_)
   refine wF (ev rfl rfl) ?_
   refine wskip (blkN (thenN (wreg (wl rfl (obin (u:=.int .i64 (i:Int)) (v:=.int .i64 1) (z:=.int .i64 (((i + 1:Nat):Int))) rfl rfl (ev rfl rfl) evc (bin_add (wrap_i64 (by omega) (by omega))) ?_)))))
   refine wl rfl (omove (v:=.int .i64 (((i + 1:Nat):Int))) rfl rfl (ev rfl rfl) ?_)
   refine wnil (thenN ?_)
   have hmx:=mxA_keep (hnn i) hzx2 hgt
   rw [← hmx] at hS hmem
   exact ⟨(i + 1),⟨_,_,_,_,act_sets (l:=[(2,.pointer (some ⟨g1,0,none⟩)),(3,.pointer (some ⟨g3,0,none⟩)),(7,.slice pC (nt + 1) cC),(8,.int .i64 (((nt + 1:Nat):Int))),(9,.int .i64 (((i + 1:Nat):Int)))]) ⟨rfl,rfl,rfl,rfl,rfl,trivial⟩,hS.pick [1,2,3] (by decide) rfl,by omega,hmem⟩,by omega⟩
 ·
  refine wl rfl (obin (u:=.int .i64 (i:Int)) (v:=.int .i64 (((nt + 1:Nat):Int))) (z:=.bool false) rfl rfl (ev rfl rfl) (ev rfl rfl) (bin_lss (decide_eq_false (by omega))) ?_)
  refine wnil (thenN (wseq ?_))
  refine wF (ev rfl rfl) ?_
  refine wexit ?_
  refine thenE ?_
  refine thenE ?_
  refine blkE ?_
  refine thenN (wseq (wreg (wl rfl (oload (vs:=[.bool (ng (mxA (coefs T) i)),.slice pm nm cm]) aggZ hS 1 rfl rfl (ev rfl rfl) rfl rfl rfl ?_))))
  refine wl rfl (ostore [.bool (ng (mxA (coefs T) i)),.slice pm nm cm] [.bool (ng (mxA (coefs T) i)),.slice pm nm cm] Tryd.sizeOf28 hS 2 rfl rfl (ev rfl rfl) (ev (v:=.agg #[.bool (ng (mxA (coefs T) i)),.slice pm nm cm]) rfl rfl) rfl rfl rfl rfl rfl rfl ?_)
  clear hS; intro w7 hS
  refine wnil (thenN ?_)
  refine wleave ?_
  have hin:i = nt + 1:=by omega
  refine wret1 Tryd.results31 (tellC (cs:=[.bool (ng (mxA (coefs T) i)),.slice pm nm cm]) aggZ hS 2 rfl rfl rfl rfl) ?_
  replace hS:=(hS.memRow hmem).toRow 0 rfl
  rw [hin] at hS
  exact ⟨_,_,rfl,⟨_,_,_,by rw [hin],rfl⟩,hS.new1 0 rfl⟩
end Go.Proofs.YthnilcgmljecdaaDoor
/-
  Hadamard's bound,twice.
-/
namespace Go.Proofs.YthnilcgmljecdaaDoor
open Go.RowKit
theorem rt_le (n:Nat):rt n ≤ n:=Nat.le_trans (Nat.le_mul_self _) (rt_spec n).1
theorem wnsqrt {p:Option Addr} {n c x:Nat} {w:World} (h:Nr w p n c x 1048576000):Calls Tryd.prog 60 #[.slice p n c] w (Ret (Nt (lim (rt x))) w):=by
  obtain ⟨xs,h1,rfl,h2⟩:=h
  exact (sqrt_any h1 h2).mono RetN.u
theorem wmsqrt {p:Option Addr} {n c x:Nat} {w:World} (h:Nr w p n c x 1048576000):Calls Tryd.prog 68 #[.slice p n c] w (Ret (Nt (lim (rt x))) w):=by
  obtain ⟨xs,h1,rfl,h2⟩:=h
  exact (rsqrt_any h1 h2).mono RetN.u
def sqN (l:List Int):Nat → Nat
  | 0 => 0
  | j + 1 => sqN l j + (l.getD j 0).natAbs * (l.getD j 0).natAbs
def hadP (T:List (List Int)):Nat → Nat
  | 0 => 1
  | i + 1 => hadP T i * sqN (T.getD i []) (T.getD i []).length
def hadN (N:Nat):Nat:=if rt N * rt N < N then rt N + 1 else rt N
theorem getD_int {l:List Int} {j:Nat} {z:Int} (h:l[j]? = some z):l.getD j 0 = z:=by rw [List.getD,h]; rfl
theorem sqN_next {l:List Int} {j:Nat} {z:Int} (h:l[j]? = some z):sqN l (j + 1) = sqN l j + z.natAbs * z.natAbs:=by rw [sqN,getD_int h]
theorem hadP_next {T:List (List Int)} {i:Nat} {L:List Int} (h:T[i]? = some L):hadP T (i + 1) = hadP T i * sqN L L.length:=by rw [hadP,getD_some h]
theorem sqN_step {l:List Int} {j:Nat} {z z1 z2:Int} (h:l[j]? = some z) (h1:Hid (z * z = z1)) (h2:Hid (((sqN l j:Nat):Int) + z1 = z2)):((sqN l (j + 1):Nat):Int) = z2:=by
  rw [sqN_next h, ← h2.out, ← h1.out,Int.natCast_add,Int.natCast_mul,Int.natAbs_mul_self']
theorem had_step {T:List (List Int)} {i:Nat} {L:List Int} {z:Int} (h:T[i]? = some L) (h1:Hid (((hadP T i:Nat):Int) * ((sqN L L.length:Nat):Int) = z)):((hadP T (i + 1):Nat):Int) = z:=by
  rw [hadP_next h, ← h1.out,Int.natCast_mul]
theorem sqN_ll {w:World} {p:Option Addr} {m K:Nat} {l:List Int} (h:Zs w p m l K):∀ j,j ≤ m → ll (sqN l j) ≤ 2 * K + 1 + j
 | 0,_ => Nat.le_trans (ll_le (k:=0) (by show (0:Nat) < 4294967296 ^ 0; decide)) (Nat.zero_le _)
 | j + 1,hj => by
  obtain ⟨z,hz⟩:=h.some (show j < m by omega)
  have h1:ll z.natAbs ≤ K:=h.elWd hz
  rw [sqN_next hz]
  exact Nd.add (sqN_ll h j (by omega)) (Nd.mul h1 h1 rfl (Nat.le_refl _)) rfl (by omega)
theorem hadP_ll {w:World} {p:Option Addr} {n K:Nat} {T:List (List Int)} (hT:TB w p n T K) (hr:∀ L ∈ T,L.length = n) (h24:n ≤ 24):∀ i,i ≤ n → ll (hadP T i) ≤ (2 * K + 25) * i + 1
 | 0,_ => ll_le (k:=1) (by show (1:Nat) < _; decide)
 | i + 1,hi => by
  have hl:=hT.1
  obtain ⟨L,hL⟩:∃ L,T[i]? = some L:=⟨_,List.getElem?_eq_getElem (by omega)⟩
  obtain ⟨b,off,q,c,_,_,hz⟩:=hT.2.2 i L hL
  have h1:=hr L (List.mem_of_getElem? hL)
  have h2:=sqN_ll hz L.length (Nat.le_refl _)
  rw [hadP_next hL]
  exact Nd.mul (hadP_ll hT hr h24 i (by omega)) h2 rfl (by rw [Nat.mul_add]; omega)
theorem cmpN_ltD {a b:Nat} {s:Int} (h:Hid (cmpN a b = s)):decide (s < 0) = decide (a < b):=by
  rw [← h.out]
  by_cases h2:a < b
  · have:=cmpN_below h2; rw [decide_eq_true h2,decide_eq_true this]
  · have:=cmpN_not_below (show b ≤ a by omega); rw [decide_eq_false h2,decide_eq_false (by omega)]
theorem wbhad {pt:Option Addr} {nt ct:Nat} {T:List (List Int)} {w:World} (hT:TB w pt nt T 1048576) (hr:∀ L ∈ T,L.length = nt) (h0:nt ≠ 0) (h24:nt ≤ 24) :
  Calls Tryd.prog 26 #[.slice pt nt ct] w (Ret (ZEt ((hadN (hadP T nt):Nat):Int) 0) w):=by
 have hTl:=hT.1
 have hPl:=hadP_ll hT hr h24
 have hS:=Sep.init w
 refine went Tryd.func26 rfl (n:=57) rfl rfl ?_
 refine wseq (wreg (wl rfl (oalloc [.bool false,.slice none 0 0] hS rfl rfl Tryd.zeroValue28 rfl ?_)))
 clear hS; intro g1 w2 hS
 refine wl rfl (oassign (v:=.int .i64 0) rfl rfl evc ?_)
 refine wnil (thenN (wseq (wseq (wreg (wl rfl (omove (v:=.slice pt nt ct) rfl rfl (ev rfl rfl) ?_))))))
 refine wl rfl (ocall rfl rfl Tryd.call59 rfl (wbfit ((hT.mono (by omega)).at hS) hr h0 h24) (args1 (ev rfl rfl)) ?_)
 rintro _ w3 ⟨_,_,rfl,⟨rfl,rfl⟩,hN⟩
 refine ⟨_,rfl,?_⟩
 replace hS:=hS.news hN; clear hN
 refine wl rfl (oassign (v:=.int .i64 0) rfl rfl (ev rfl rfl) ?_)
 refine wnil (thenN (wseq (wreg (wl rfl (omove (v:=.int .i64 0) rfl rfl (ev rfl rfl) ?_)))))
 refine wl rfl (obin (u:=.int .i64 0) (v:=.int .i64 0) (z:=.bool false) rfl rfl (ev rfl rfl) evc (bin_neq (by decide)) ?_)
 refine wnil (thenN ?_)
 refine wF (ev rfl rfl) ?_
 refine wskip (thenN (wseq (wreg ?_)))
 have hk1:Wd 1 2:=Wd.i64 (by omega) (by omega)
 refine wl rfl (ocall rfl rfl Tryd.call40 rfl (wzof (z:=1) (by omega) (by omega)) (args1 evc) ?_)
 rintro _ w4 ⟨_,_,rfl,⟨p1,n1,c1,rfl,rfl⟩,hN⟩
 refine ⟨_,rfl,?_⟩
 replace hS:=hS.news hN; clear hN
 refine wl rfl (oalloc [.bool false,.slice none 0 0] hS rfl rfl Tryd.zeroValue28 rfl ?_)
 clear hS; intro g5 w6 hS
 refine wl rfl (ostore [.bool (ng 1),.slice p1 n1 c1] [.bool (ng 1),.slice p1 n1 c1] Tryd.sizeOf28 hS 0 rfl rfl (ev rfl rfl) (ev (v:=.agg #[.bool (ng 1),.slice p1 n1 c1]) rfl rfl) rfl rfl rfl rfl rfl rfl ?_)
 clear hS; intro w7 hS
 refine wnil (thenN (wseq (wseq (wreg (wl rfl (omove (v:=.slice pt nt ct) rfl rfl (ev rfl rfl) ?_))))))
 refine wl rfl (olen rfl rfl rfl Tryd.runUnderlying36 (p:=pt) (k:=nt) (m:=ct) (ev rfl rfl) ?_)
 refine wl rfl (omove (v:=.int .i64 0) rfl rfl evc ?_)
 refine wnil (thenN (wblock ?_))
 refine wloop (σ := Nat) (fun i a9 w' => ∃ (fb:Nat → Value) (pzp:Option Addr) (nzp:Nat) (czp:Nat),a9 = act 57 (sets fb [(2,.pointer (some ⟨g1,0,none⟩)),(3,.int .i64 0),(5,.pointer (some ⟨g5,0,none⟩)),(19,.slice pt nt ct),(20,.int .i64 (nt:Int)),(21,.int .i64 (i:Int))]) ∧ Sep w [.blk g5 [.bool (ng (((hadP T i:Nat):Int))),.slice pzp nzp czp] 28,.row pzp nzp czp (lim (((hadP T i:Nat):Int)).natAbs),.blk g1 [.bool false,.slice none 0 0] 28] w' ∧ (i ≤ nt) ∧ (Wd (((hadP T i:Nat):Int)) 51000000)) (fun i => nt - i) (0) ⟨_,_,_,_,act_sets (l:=[(2,.pointer (some ⟨g1,0,none⟩)),(3,.int .i64 0),(5,.pointer (some ⟨g5,0,none⟩)),(19,.slice pt nt ct),(20,.int .i64 (nt:Int)),(21,.int .i64 0)]) ⟨rfl,rfl,rfl,rfl,rfl,rfl,trivial⟩,hS,Nat.zero_le _,(hk1).mono (by omega)⟩ ?_
 clear hS; rintro i _ w8 ⟨fb,pzp,nzp,czp,rfl,hS,hi,hkzp⟩
 refine wseq (wreg ?_)
 by_cases hlt:i < nt
 ·
  refine wl rfl (obin (u:=.int .i64 (i:Int)) (v:=.int .i64 (nt:Int)) (z:=.bool true) rfl rfl (ev rfl rfl) (ev rfl rfl) (bin_lss (decide_eq_true (by omega))) ?_)
  refine wnil (thenN (wseq ?_))
  refine wT (ev rfl rfl) ?_
  refine wskip (thenN (wseq (wblock (wseq (wreg ?_)))))
  obtain ⟨xr,hxr⟩:∃ r,(T)[i]? = some r:=⟨_,List.getElem?_eq_getElem (by have:=hT.1; omega)⟩
  obtain ⟨br,ofr,pr,cr,hpr,hcr,hsr⟩:=hT.2.2 i _ hxr
  have h1:=hr xr (List.mem_of_getElem? hxr)
  have hSq:=sqN_ll hsr
  refine wl rfl (oindex (p:=pt) (g:=br) (off:=ofr) (m:=nt) (k:=i) (j:=(ofr + i * 1)) rfl rfl Tryd.runUnderlying36 Tryd.sizeOf38 (ev rfl rfl) (hpr) (ev rfl rfl) (by omega) rfl ?_)
  refine wl rfl (oloadc (v:=.slice pr xr.length cr) (show One Tryd.prog 38 from ⟨Tryd.isAgg38,Tryd.sizeOf38⟩) rfl rfl (ev (v:=.pointer (some ⟨br,(ofr + i * 1),none⟩)) rfl rfl) (hS.cellAt (hcr 0 _ rfl)) ?_)
  refine wl rfl (oassign (v:=.slice pr xr.length cr) rfl rfl (ev rfl rfl) ?_)
  refine wnil (thenN (wseq (wreg ?_)))
  have hk2:Wd 0 2:=Wd.i64 (by omega) (by omega)
  refine wl rfl (ocall rfl rfl Tryd.call40 rfl (wzof (z:=0) (by omega) (by omega)) (args1 evc) ?_)
  rintro _ w9 ⟨_,_,rfl,⟨p2,n2,c2,rfl,rfl⟩,hN⟩
  refine ⟨_,rfl,?_⟩
  replace hS:=hS.news hN; clear hN
  refine wl rfl (oalloc [.bool false,.slice none 0 0] hS rfl rfl Tryd.zeroValue28 rfl ?_)
  clear hS; intro g10 w11 hS
  refine wl rfl (ostore [.bool (ng 0),.slice p2 n2 c2] [.bool (ng 0),.slice p2 n2 c2] Tryd.sizeOf28 hS 0 rfl rfl (ev rfl rfl) (ev (v:=.agg #[.bool (ng 0),.slice p2 n2 c2]) rfl rfl) rfl rfl rfl rfl rfl rfl ?_)
  clear hS; intro w12 hS
  refine wnil (thenN (wseq (wseq (wreg (wl rfl (omove (v:=.slice pr xr.length cr) rfl rfl (ev rfl rfl) ?_))))))
  refine wl rfl (olen rfl rfl rfl Tryd.runUnderlying38 (p:=pr) (k:=xr.length) (m:=cr) (ev rfl rfl) ?_)
  refine wl rfl (omove (v:=.int .i64 0) rfl rfl evc ?_)
  refine wnil (thenN (wblock ?_))
  refine wloop (σ := Nat) (fun j a9 w' => ∃ (fb:Nat → Value) (pza:Option Addr) (nza:Nat) (cza:Nat),a9 = act 57 (sets fb [(2,.pointer (some ⟨g1,0,none⟩)),(3,.int .i64 0),(5,.pointer (some ⟨g5,0,none⟩)),(8,.pointer (some ⟨g10,0,none⟩)),(19,.slice pt nt ct),(20,.int .i64 (nt:Int)),(21,.int .i64 (i:Int)),(26,.slice pr xr.length cr),(27,.int .i64 (xr.length:Int)),(28,.int .i64 (j:Int))]) ∧ Sep w [.blk g10 [.bool (ng (((sqN xr j:Nat):Int))),.slice pza nza cza] 28,.row pza nza cza (lim (((sqN xr j:Nat):Int)).natAbs),.blk g5 [.bool (ng (((hadP T i:Nat):Int))),.slice pzp nzp czp] 28,.row pzp nzp czp (lim (((hadP T i:Nat):Int)).natAbs),.blk g1 [.bool false,.slice none 0 0] 28] w' ∧ (j ≤ xr.length) ∧ (Wd (((sqN xr j:Nat):Int)) 2097200)) (fun j => xr.length - j) (0) ⟨_,_,_,_,act_sets (l:=[(2,.pointer (some ⟨g1,0,none⟩)),(3,.int .i64 0),(5,.pointer (some ⟨g5,0,none⟩)),(8,.pointer (some ⟨g10,0,none⟩)),(19,.slice pt nt ct),(20,.int .i64 (nt:Int)),(21,.int .i64 (i:Int)),(26,.slice pr xr.length cr),(27,.int .i64 (xr.length:Int)),(28,.int .i64 0)]) ⟨rfl,rfl,rfl,rfl,rfl,rfl,rfl,rfl,rfl,rfl,trivial⟩,hS,Nat.zero_le _,(hk2).mono (by omega)⟩ ?_
  clear hS; rintro j _ w13 ⟨fb,pza,nza,cza,rfl,hS,hj,hkza⟩
  refine wseq (wreg ?_)
  by_cases hlj:j < xr.length
  ·
   refine wl rfl (obin (u:=.int .i64 (j:Int)) (v:=.int .i64 (xr.length:Int)) (z:=.bool true) rfl rfl (ev rfl rfl) (ev rfl rfl) (bin_lss (decide_eq_true (by omega))) ?_)
   refine wnil (thenN (wseq ?_))
   refine wT (ev rfl rfl) ?_
   refine wskip (thenN (wseq (wblock (wseq (wreg ?_)))))
   obtain ⟨ze,ge,oe,be,pe,ne,ce,hle,hpe,hce,hze⟩:=hsr.el hlj
   refine wl rfl (oindex (p:=pr) (g:=ge) (off:=oe) (m:=xr.length) (k:=j) (j:=(oe + j * 2)) rfl rfl Tryd.runUnderlying38 Tryd.sizeOf28 (ev rfl rfl) (hpe) (ev rfl rfl) (hlj) rfl ?_)
   refine wl rfl (oloadA (vs:=[.bool be,.slice pe ne ce]) aggZ rfl rfl (ev (v:=.pointer (some ⟨ge,(oe + j * 2),none⟩)) rfl rfl) (fun j v hj => hS.cellAt (hce j v hj)) rfl ?_)
   refine wl rfl (oalloc [.bool false,.slice none 0 0] hS rfl rfl Tryd.zeroValue28 rfl ?_)
   clear hS; intro g14 w15 hS
   refine wl rfl (ostore [.bool be,.slice pe ne ce] [.bool be,.slice pe ne ce] Tryd.sizeOf28 hS 0 rfl rfl (ev rfl rfl) (ev (v:=.agg #[.bool be,.slice pe ne ce]) rfl rfl) rfl rfl rfl rfl rfl rfl ?_)
   clear hS; intro w16 hS
   refine wnil (thenN ?_)
   obtain ⟨z3,hz3⟩:∃ z:Int,Hid (ze * ze = z):=⟨_,rfl⟩
   have hk3:Wd z3 2097152:=Wd.mul hze.wd hze.wd hz3 (by omega)
   obtain ⟨z4,hz4⟩:∃ z:Int,Hid ((((sqN xr j:Nat):Int)) + z3 = z):=⟨_,rfl⟩
   have hk4:Wd z4 2097201:=Wd.add hkza hk3 hz4 (by omega)
   refine wstage 5 [32,33,34,35,36] [[],[],[],[1,2],[0,3,1,2]] [[],[],[],[],[]] [] [] (fun i9 => ([fun _ => Is (.agg #[.bool (ng (((sqN xr j:Nat):Int))),.slice pza nza cza]),fun _ => Is (.agg #[.bool be,.slice pe ne ce]),fun _ => Is (.agg #[.bool be,.slice pe ne ce]),fun _ => Zt z3,fun _ => Zt z4]:List (List Value → Tell)).getD i9 (fun _ _ _ => False)) (heldNil) (fun d _ _ _ _ h => (by cases d <;> exact h)) (by kernel_rfl) (by kernel_rfl) (by kernel_rfl) hS ?_ ?_
   ·
    refine stepsCons rfl (fun Q f' w' ρ S ho hT hS hB => ?_) ?_
    ·exact .inl ⟨want_none rfl,oload (vs:=[.bool (ng (((sqN xr j:Nat):Int))),.slice pza nza cza]) aggZ hS 1 rfl rfl (ev rfl (ho 8 rfl)) rfl rfl rfl ⟨_,_,rfl,isI,New.same _⟩⟩
    refine stepsCons rfl (fun Q f' w' ρ S ho hT hS hB => ?_) ?_
    ·exact .inl ⟨want_none rfl,oload (vs:=[.bool be,.slice pe ne ce]) aggZ hS 0 rfl rfl (ev rfl (ho 10 rfl)) rfl rfl rfl ⟨_,_,rfl,isI,New.same _⟩⟩
    refine stepsCons rfl (fun Q f' w' ρ S ho hT hS hB => ?_) ?_
    ·exact .inl ⟨want_none rfl,oload (vs:=[.bool be,.slice pe ne ce]) aggZ hS 0 rfl rfl (ev rfl (ho 10 rfl)) rfl rfl rfl ⟨_,_,rfl,isI,New.same _⟩⟩
    refine stepsCons rfl (fun Q f' w' ρ S ho hT hS hB => ?_) ?_
    ·obtain ⟨hv1,hr1⟩:=(hT 1 33 rfl rfl:(Is (.agg #[.bool be,.slice pe ne ce])) _ _)
     obtain ⟨hv2,hr2⟩:=(hT 2 34 rfl rfl:(Is (.agg #[.bool be,.slice pe ne ce])) _ _)
     obtain hS:=hS.flat2 hr1 hr2
     exact .inl ⟨want_none rfl,ocall rfl rfl Tryd.call44 rfl (wzmul ((hze.at hS).mono (by omega)) ((hze.at hS).mono (by omega)) hz3) (args2 (ev rfl hv1) (ev rfl hv2)) callN⟩
    refine stepsCons rfl (fun Q f' w' ρ S ho hT hS hB => ?_) ?_
    ·obtain ⟨hv0,hr0⟩:=(hT 0 32 rfl rfl:(Is (.agg #[.bool (ng (((sqN xr j:Nat):Int))),.slice pza nza cza])) _ _)
     obtain ⟨p3,n3,c3,hv3,hr3⟩:=(hT 3 35 rfl rfl:(Zt z3) _ _)
     obtain hS:=hS.flat2 hr0 hr3
     exact .inl ⟨want_none rfl,ocall rfl rfl Tryd.call38 rfl (wzadd (((hS.sl 2 rfl).zr hkza).mono (by omega)) (((hS.sl 6 rfl).zr hk3).mono (by omega)) hz4) (args2 (ev rfl hv0) (ev rfl hv3)) callN⟩
    exact stepsNil
   ·
    intro vs ρ w17 f' hf hT hS
    obtain ⟨hv0,hr0⟩:=(hT 0 (by decide):(Is (.agg #[.bool (ng (((sqN xr j:Nat):Int))),.slice pza nza cza])) _ _)
    obtain ⟨hv1,hr1⟩:=(hT 1 (by decide):(Is (.agg #[.bool be,.slice pe ne ce])) _ _)
    obtain ⟨hv2,hr2⟩:=(hT 2 (by decide):(Is (.agg #[.bool be,.slice pe ne ce])) _ _)
    obtain ⟨p3,n3,c3,hv3,hr3⟩:=(hT 3 (by decide):(Zt z3) _ _)
    obtain ⟨p4,n4,c4,hv4,hr4⟩:=(hT 4 (by decide):(Zt z4) _ _)
    simp only [pool,if_true,hr0,hr1,hr2,hr3,hr4,List.nil_append,List.cons_append,List.append_nil] at hS
    simp only [layf,hv0,hv1,hv2,hv3,hv4] at hf
    subst hf; clear hT hv0 hv1 hv2 hv3 hv4 hr0 hr1 hr2 hr3 hr4
    refine wlate 5 rfl (by kernel_rfl) (ostore [.bool (ng z4),.slice p4 n4 c4] [.bool (ng z4),.slice p4 n4 c4] Tryd.sizeOf28 hS 3 rfl rfl (ev rfl rfl) (ev (v:=.agg #[.bool (ng z4),.slice p4 n4 c4]) rfl rfl) rfl rfl rfl rfl rfl rfl ?_)
    clear hS; intro w18 hS
    refine ⟨heldNil,?_⟩
    refine wdone rfl ?_
    refine blkN (thenN (wreg ?_))
    obtain rfl:((sqN xr (j + 1):Nat):Int) = z4:=sqN_step hle hz3 hz4
    refine wl rfl (obin (u:=.int .i64 (j:Int)) (v:=.int .i64 1) (z:=.int .i64 (((j + 1:Nat):Int))) rfl rfl (ev rfl rfl) evc (bin_add (wrap_i64 (by omega) (by omega))) ?_)
    refine wl rfl (omove (v:=.int .i64 (((j + 1:Nat):Int))) rfl rfl (ev rfl rfl) ?_)
    refine wnil (thenN ?_)
    exact ⟨(j + 1),⟨_,_,_,_,act_sets (l:=[(2,.pointer (some ⟨g1,0,none⟩)),(3,.int .i64 0),(5,.pointer (some ⟨g5,0,none⟩)),(8,.pointer (some ⟨g10,0,none⟩)),(19,.slice pt nt ct),(20,.int .i64 (nt:Int)),(21,.int .i64 (i:Int)),(26,.slice pr xr.length cr),(27,.int .i64 (xr.length:Int)),(28,.int .i64 (((j + 1:Nat):Int)))]) ⟨rfl,rfl,rfl,rfl,rfl,rfl,rfl,rfl,rfl,rfl,trivial⟩,hS.pick [3,0,5,6,7] (by decide) rfl,by omega,Wd.ofN (Nat.le_trans (hSq _ (by omega)) (by omega))⟩,by omega⟩
  ·
   refine wl rfl (obin (u:=.int .i64 (j:Int)) (v:=.int .i64 (xr.length:Int)) (z:=.bool false) rfl rfl (ev rfl rfl) (ev rfl rfl) (bin_lss (decide_eq_false (by omega))) ?_)
   refine wnil (thenN (wseq ?_))
   refine wF (ev rfl rfl) ?_
   refine wexit ?_
   refine thenE ?_
   refine thenE ?_
   refine blkE ?_
   refine thenN (wreg (wl rfl (oload (vs:=[.bool (ng (((hadP T i:Nat):Int))),.slice pzp nzp czp]) aggZ hS 2 rfl rfl (ev rfl rfl) rfl rfl rfl ?_)))
   refine wl rfl (oload (vs:=[.bool (ng (((sqN xr j:Nat):Int))),.slice pza nza cza]) aggZ hS 0 rfl rfl (ev rfl rfl) rfl rfl rfl ?_)
   obtain ⟨z3,hz3⟩:∃ z:Int,Hid ((((hadP T i:Nat):Int)) * (((sqN xr j:Nat):Int)) = z):=⟨_,rfl⟩
   have hk3:Wd z3 53097200:=Wd.mul hkzp hkza hz3 (by omega)
   refine wl rfl (ocall rfl rfl Tryd.call44 rfl (wzmul (((hS.sl 3 rfl).zr hkzp).mono (by omega)) (((hS.sl 1 rfl).zr hkza).mono (by omega)) hz3) (args2 (ev rfl rfl) (ev rfl rfl)) ?_)
   rintro _ w14 ⟨_,_,rfl,⟨p3,n3,c3,rfl,rfl⟩,hN⟩
   refine ⟨_,rfl,?_⟩
   replace hS:=hS.news hN; clear hN
   refine wl rfl (ostore [.bool (ng z3),.slice p3 n3 c3] [.bool (ng z3),.slice p3 n3 c3] Tryd.sizeOf28 hS 3 rfl rfl (ev rfl rfl) (ev (v:=.agg #[.bool (ng z3),.slice p3 n3 c3]) rfl rfl) rfl rfl rfl rfl rfl rfl ?_)
   clear hS; intro w15 hS
   refine wnil (blkN (thenN (wreg ?_)))
   obtain rfl:j = xr.length:=by omega
   refine wl rfl (obin (u:=.int .i64 (i:Int)) (v:=.int .i64 1) (z:=.int .i64 (((i + 1:Nat):Int))) rfl rfl (ev rfl rfl) evc (bin_add (wrap_i64 (by omega) (by omega))) ?_)
   refine wl rfl (omove (v:=.int .i64 (((i + 1:Nat):Int))) rfl rfl (ev rfl rfl) ?_)
   refine wnil (thenN ?_)
   obtain rfl:((hadP T (i + 1):Nat):Int) = z3:=had_step hxr hz3
   exact ⟨(i + 1),⟨_,_,_,_,act_sets (l:=[(2,.pointer (some ⟨g1,0,none⟩)),(3,.int .i64 0),(5,.pointer (some ⟨g5,0,none⟩)),(19,.slice pt nt ct),(20,.int .i64 (nt:Int)),(21,.int .i64 (((i + 1:Nat):Int)))]) ⟨rfl,rfl,rfl,rfl,rfl,rfl,trivial⟩,hS.pick [3,0,5] (by decide) rfl,by omega,Wd.ofN (Nat.le_trans (hPl _ (by omega)) (by omega))⟩,by omega⟩
 ·
  refine wl rfl (obin (u:=.int .i64 (i:Int)) (v:=.int .i64 (nt:Int)) (z:=.bool false) rfl rfl (ev rfl rfl) (ev rfl rfl) (bin_lss (decide_eq_false (by omega))) ?_)
  refine wnil (thenN (wseq ?_))
  refine wF (ev rfl rfl) ?_
  refine wexit ?_
  refine thenE ?_
  refine thenE ?_
  refine blkE ?_
  refine thenN (wseq (wreg (wl rfl (ofieldAddr (g:=g5) (off:=0) 1 rfl rfl (ev rfl rfl) Tryd.runUnderlying28 rfl Tryd.sizeOf26 rfl ?_))))
  refine wl rfl (oload1 (v:=.slice pzp nzp czp) oneN hS 0 rfl rfl (ev rfl rfl) rfl rfl ?_)
  have hin:i = nt:=by omega
  have hkP:ll (hadP T i) ≤ 51000000:=hkzp
  have hkx2:ll (rt (hadP T i)) ≤ 51000000:=llv_le (rt_le _) hkP
  refine wl rfl (ocall rfl rfl Tryd.call60 rfl (wnsqrt (((hS.sl 1 rfl).nr hkP).mono (by omega))) (args1 (ev rfl rfl)) ?_)
  rintro _ w9 ⟨_,_,rfl,⟨p2,n2,c2,rfl,rfl⟩,hN⟩
  refine ⟨_,rfl,?_⟩
  replace hS:=hS.news hN; clear hN
  refine wl rfl (oassign (v:=.slice p2 n2 c2) rfl rfl (ev rfl rfl) ?_)
  refine wnil (thenN (wseq (wseq ?_)))
  obtain ⟨x3,hx3⟩:∃ x:Nat,Hid (((rt (hadP T i))) * ((rt (hadP T i))) = x):=⟨_,rfl⟩
  have hkx3:ll x3 ≤ 102000000:=Nd.mul hkx2 hkx2 hx3 (by omega)
  obtain ⟨s4,hs4⟩:∃ z:Int,Hid (cmpN x3 (hadP T i) = z):=⟨_,rfl⟩
  refine wstage 7 [45,46,47,48,49,50,51] [[],[],[0,1],[],[3],[2,4,0,1,3],[5,0,1,2,3,4]] [[],[],[],[],[],[],[]] [] [] (fun i9 => ([fun _ => Is (.slice p2 n2 c2),fun _ => Is (.slice p2 n2 c2),fun _ => Nt (lim x3),fun _ => Is (.pointer (some ⟨g5,1,none⟩)),fun _ => Is (.slice pzp nzp czp),fun _ => Is (.int .i64 s4),fun _ => Is (.bool (decide (rt (hadP T i) * rt (hadP T i) < hadP T i)))]:List (List Value → Tell)).getD i9 (fun _ _ _ => False)) (heldNil) (fun d _ _ _ _ h => (by cases d <;> exact h)) (by kernel_rfl) (by kernel_rfl) (by kernel_rfl) hS ?_ ?_
  ·
   refine stepsCons rfl (fun Q f' w' ρ S ho hT hS hB => ?_) ?_
   ·exact .inl ⟨want_none rfl,omove (v:=.slice p2 n2 c2) rfl rfl (ev rfl (ho 11 rfl)) ⟨_,_,rfl,isI,New.same _⟩⟩
   refine stepsCons rfl (fun Q f' w' ρ S ho hT hS hB => ?_) ?_
   ·exact .inl ⟨want_none rfl,omove (v:=.slice p2 n2 c2) rfl rfl (ev rfl (ho 11 rfl)) ⟨_,_,rfl,isI,New.same _⟩⟩
   refine stepsCons rfl (fun Q f' w' ρ S ho hT hS hB => ?_) ?_
   ·obtain ⟨hv0,hr0⟩:=(hT 0 45 rfl rfl:(Is (.slice p2 n2 c2)) _ _)
    obtain ⟨hv1,hr1⟩:=(hT 1 46 rfl rfl:(Is (.slice p2 n2 c2)) _ _)
    obtain hS:=hS.flat2 hr0 hr1
    exact .inl ⟨want_none rfl,ocall rfl rfl Tryd.call62 rfl (wnmul (((hS.sl 0 rfl).nr hkx2).mono (by omega)) (((hS.sl 0 rfl).nr hkx2).mono (by omega)) hx3) (args2 (ev rfl hv0) (ev rfl hv1)) callN⟩
   refine stepsCons rfl (fun Q f' w' ρ S ho hT hS hB => ?_) ?_
   ·exact .inl ⟨want_none rfl,ofieldAddr (g:=g5) (off:=0) 1 rfl rfl (ev rfl (ho 5 rfl)) Tryd.runUnderlying28 rfl Tryd.sizeOf26 rfl ⟨_,_,rfl,isI,New.same _⟩⟩
   refine stepsCons rfl (fun Q f' w' ρ S ho hT hS hB => ?_) ?_
   ·obtain ⟨hv3,hr3⟩:=(hT 3 48 rfl rfl:(Is (.pointer (some ⟨g5,1,none⟩))) _ _)
    obtain hS:=hS.flat1 hr3
    exact .inl ⟨want_none rfl,oload1 (v:=.slice pzp nzp czp) oneN hS 1 rfl rfl (ev rfl hv3) rfl rfl ⟨_,_,rfl,isI,New.same _⟩⟩
   refine stepsCons rfl (fun Q f' w' ρ S ho hT hS hB => ?_) ?_
   ·obtain ⟨p3,n3,c3,hv2,hr2⟩:=(hT 2 47 rfl rfl:(Nt (lim x3)) _ _)
    obtain ⟨hv4,hr4⟩:=(hT 4 49 rfl rfl:(Is (.slice pzp nzp czp)) _ _)
    obtain hS:=hS.flat2 hr2 hr4
    exact .inl ⟨want_none rfl,ocall rfl rfl Tryd.call61 rfl (wncmp ((hS.sl 4 rfl).nr hkx3) ((hS.sl 2 rfl).nr hkP) hs4) (args2 (ev rfl hv2) (ev rfl hv4)) callN⟩
   refine stepsCons rfl (fun Q f' w' ρ S ho hT hS hB => ?_) ?_
   ·obtain ⟨hv5,hr5⟩:=(hT 5 50 rfl rfl:(Is (.int .i64 s4)) _ _)
    obtain hS:=hS.flat1 hr5
    exact .inl ⟨want_none rfl,obin (u:=.int .i64 s4) (v:=.int .i64 0) (z:=.bool (decide (rt (hadP T i) * rt (hadP T i) < hadP T i))) rfl rfl (ev rfl hv5) evc (bin_lss ((cmpN_ltD hs4).trans (by rw [← hx3.out]))) ⟨_,_,rfl,isI,New.same _⟩⟩
   exact stepsNil
  ·
   intro vs ρ w10 f' hf hT hS
   obtain ⟨hv0,hr0⟩:=(hT 0 (by decide):(Is (.slice p2 n2 c2)) _ _)
   obtain ⟨hv1,hr1⟩:=(hT 1 (by decide):(Is (.slice p2 n2 c2)) _ _)
   obtain ⟨p3,n3,c3,hv2,hr2⟩:=(hT 2 (by decide):(Nt (lim x3)) _ _)
   obtain ⟨hv3,hr3⟩:=(hT 3 (by decide):(Is (.pointer (some ⟨g5,1,none⟩))) _ _)
   obtain ⟨hv4,hr4⟩:=(hT 4 (by decide):(Is (.slice pzp nzp czp)) _ _)
   obtain ⟨hv5,hr5⟩:=(hT 5 (by decide):(Is (.int .i64 s4)) _ _)
   obtain ⟨hv6,hr6⟩:=(hT 6 (by decide):(Is (.bool (decide (rt (hadP T i) * rt (hadP T i) < hadP T i)))) _ _)
   simp only [pool,if_true,hr0,hr1,hr2,hr3,hr4,hr5,hr6,List.nil_append,List.cons_append,List.append_nil] at hS
   simp only [layf,hv0,hv1,hv2,hv3,hv4,hv5,hv6] at hf
   subst hf; clear hT hv0 hv1 hv2 hv3 hv4 hv5 hv6 hr0 hr1 hr2 hr3 hr4 hr5 hr6
   refine wdone rfl ?_
   refine thenN ?_
   by_cases hrt:rt (hadP T i) * rt (hadP T i) < hadP T i
   ·
    refine wT ((ev (v:=.bool (decide (rt (hadP T i) * rt (hadP T i) < hadP T i))) rfl rfl).trans (congrArg Value.bool (decide_eq_true hrt))) ?_
    refine wreg (wl rfl (omove (v:=.slice p2 n2 c2) rfl rfl (ev rfl rfl) ?_))
    refine wl rfl (obslice (ps:=#[(0,.int .u32 1)]) (z:=.int .u32 0) [.int .u32 1] hS rfl rfl Tryd.runUnderlying26 Tryd.sizeOf34 Tryd.zeroValue34 (parts1 (evc (v:=.int .u32 1))) rfl (by decide) (fill1_1s rfl rfl) ?_)
    clear hS; intro g11 w12 hS
    obtain ⟨x5,hx5⟩:∃ x:Nat,Hid (((rt (hadP T i))) + 1 = x):=⟨_,rfl⟩
    have hkx5:ll x5 ≤ 51000001:=Nd.add hkx2 (Nd.u32 (by omega)) hx5 (by omega)
    refine wl rfl (ocall rfl rfl Tryd.call63 rfl (wnadd (((hS.sl 2 rfl).nr hkx2).mono (by omega)) ((Nr.blk (x:=1) (hS.blkAt 0 rfl) (by omega) (by omega)).mono (by omega)) hx5) (args2 (ev rfl rfl) (ev rfl rfl)) ?_)
    rintro _ w13 ⟨_,_,rfl,⟨p5,n5,c5,rfl,rfl⟩,hN⟩
    refine ⟨_,rfl,?_⟩
    replace hS:=hS.news hN; clear hN
    refine wl rfl (oassign (v:=.slice p5 n5 c5) rfl rfl (ev rfl rfl) ?_)
    refine wnil (thenN (wseq (wreg (wl rfl (omove (v:=.slice p5 n5 c5) rfl rfl (ev rfl rfl) ?_)))))
    refine wl rfl (obuild (ps:=#[(1,.slice p5 n5 c5)]) (v:=.agg #[.bool false,.slice p5 n5 c5]) rfl rfl (parts1 (ev (v:=.slice p5 n5 c5) rfl rfl)) (fun w => by simp [go_sem,Instr.build,Instr.fill]) ?_)
    refine wl rfl (ostore [.bool false,.slice p5 n5 c5] [.bool false,.slice p5 n5 c5] Tryd.sizeOf28 hS 6 rfl rfl (ev rfl rfl) (ev (v:=.agg #[.bool false,.slice p5 n5 c5]) rfl rfl) rfl rfl rfl rfl rfl rfl ?_)
    clear hS; intro w14 hS
    refine wl rfl (oassign (v:=.int .i64 0) rfl rfl evc ?_)
    refine wnil (thenN ?_)
    refine wleave ?_
    refine wret2 Tryd.results26 (tellC (cs:=[.bool false,.slice p5 n5 c5]) aggZ hS 6 rfl rfl rfl rfl) (tellT (v:=.int .i64 0) rfl rfl) ?_
    have hz9:hadN (hadP T nt) = x5:=by rw [← hin]; unfold hadN; rw [if_pos hrt]; exact hx5.out
    rw [hz9]
    exact ⟨_,_,rfl,⟨_,_,_,by rw [ng_nat],rfl⟩,hS.new1 0 rfl⟩
   ·
    refine wF ((ev (v:=.bool (decide (rt (hadP T i) * rt (hadP T i) < hadP T i))) rfl rfl).trans (congrArg Value.bool (decide_eq_false hrt))) ?_
    refine wskip (thenN (wseq (wreg (wl rfl (omove (v:=.slice p2 n2 c2) rfl rfl (ev rfl rfl) ?_)))))
    refine wl rfl (obuild (ps:=#[(1,.slice p2 n2 c2)]) (v:=.agg #[.bool false,.slice p2 n2 c2]) rfl rfl (parts1 (ev (v:=.slice p2 n2 c2) rfl rfl)) (fun w => by simp [go_sem,Instr.build,Instr.fill]) ?_)
    refine wl rfl (ostore [.bool false,.slice p2 n2 c2] [.bool false,.slice p2 n2 c2] Tryd.sizeOf28 hS 4 rfl rfl (ev rfl rfl) (ev (v:=.agg #[.bool false,.slice p2 n2 c2]) rfl rfl) rfl rfl rfl rfl rfl rfl ?_)
    clear hS; intro w11 hS
    refine wl rfl (oassign (v:=.int .i64 0) rfl rfl evc ?_)
    refine wnil (thenN ?_)
    refine wleave ?_
    refine wret2 Tryd.results26 (tellC (cs:=[.bool false,.slice p2 n2 c2]) aggZ hS 4 rfl rfl rfl rfl) (tellT (v:=.int .i64 0) rfl rfl) ?_
    have hz9:hadN (hadP T nt) = (rt (hadP T i)):=by rw [← hin]; unfold hadN; rw [if_neg hrt]
    rw [hz9]
    exact ⟨_,_,rfl,⟨_,_,_,by rw [ng_nat],rfl⟩,hS.new1 1 rfl⟩
theorem wqhad {pt:Option Addr} {nt ct:Nat} {T:List (List Int)} {w:World} (hT:TB w pt nt T 1048576) (hr:∀ L ∈ T,L.length = nt) (h0:nt ≠ 0) (h24:nt ≤ 24) :
  Calls Tryd.prog 32 #[.slice pt nt ct] w (Ret (Zt ((hadN (hadP T nt):Nat):Int)) w):=by
 have hTl:=hT.1
 have hPl:=hadP_ll hT hr h24
 have hS:=Sep.init w
 refine went Tryd.func32 rfl (n:=49) rfl rfl ?_
 refine wseq (wreg (wl rfl (oalloc [.bool false,.slice none 0 0] hS rfl rfl Tryd.zeroValue28 rfl ?_)))
 clear hS; intro g1 w2 hS
 refine wnil (thenN (wseq (wreg ?_)))
 have hkx1:ll 1 ≤ 2:=Nd.u64 (by omega)
 refine wl rfl (ocall rfl rfl Tryd.call47 rfl (wmof (x:=1) (by omega)) (args1 evc) ?_)
 rintro _ w3 ⟨_,_,rfl,⟨p1,n1,c1,rfl,rfl⟩,hN⟩
 refine ⟨_,rfl,?_⟩
 replace hS:=hS.news hN; clear hN
 refine wl rfl (oassign (v:=.slice p1 n1 c1) rfl rfl (ev rfl rfl) ?_)
 refine wnil (thenN (wseq (wseq (wreg (wl rfl (omove (v:=.slice pt nt ct) rfl rfl (ev rfl rfl) ?_))))))
 refine wl rfl (olen rfl rfl rfl Tryd.runUnderlying36 (p:=pt) (k:=nt) (m:=ct) (ev rfl rfl) ?_)
 refine wl rfl (omove (v:=.int .i64 0) rfl rfl evc ?_)
 refine wnil (thenN (wblock ?_))
 refine wloop (σ := Nat) (fun i a9 w' => ∃ (fb:Nat → Value) (pP:Option Addr) (nP:Nat) (cP:Nat),a9 = act 49 (sets fb [(2,.pointer (some ⟨g1,0,none⟩)),(3,.slice pP nP cP),(11,.slice pt nt ct),(12,.int .i64 (nt:Int)),(13,.int .i64 (i:Int))]) ∧ Sep w [.row pP nP cP (lim (hadP T i)),.blk g1 [.bool false,.slice none 0 0] 28] w' ∧ (i ≤ nt) ∧ (ll (hadP T i) ≤ 51000000)) (fun i => nt - i) (0) ⟨_,_,_,_,act_sets (l:=[(2,.pointer (some ⟨g1,0,none⟩)),(3,.slice p1 n1 c1),(11,.slice pt nt ct),(12,.int .i64 (nt:Int)),(13,.int .i64 0)]) ⟨rfl,rfl,rfl,rfl,rfl,trivial⟩,hS,Nat.zero_le _,Nat.le_trans (hPl 0 (Nat.zero_le _)) (by omega)⟩ ?_
 clear hS; rintro i _ w4 ⟨fb,pP,nP,cP,rfl,hS,hi,hkP⟩
 refine wseq (wreg ?_)
 by_cases hlt:i < nt
 ·
  refine wl rfl (obin (u:=.int .i64 (i:Int)) (v:=.int .i64 (nt:Int)) (z:=.bool true) rfl rfl (ev rfl rfl) (ev rfl rfl) (bin_lss (decide_eq_true (by omega))) ?_)
  refine wnil (thenN (wseq ?_))
  refine wT (ev rfl rfl) ?_
  refine wskip (thenN (wseq (wblock (wseq (wreg ?_)))))
  obtain ⟨xr,hxr⟩:∃ r,(T)[i]? = some r:=⟨_,List.getElem?_eq_getElem (by have:=hT.1; omega)⟩
  obtain ⟨br,ofr,pr,cr,hpr,hcr,hsr⟩:=hT.2.2 i _ hxr
  have h1:=hr xr (List.mem_of_getElem? hxr)
  have hSq:=sqN_ll hsr
  refine wl rfl (oindex (p:=pt) (g:=br) (off:=ofr) (m:=nt) (k:=i) (j:=(ofr + i * 1)) rfl rfl Tryd.runUnderlying36 Tryd.sizeOf38 (ev rfl rfl) (hpr) (ev rfl rfl) (by omega) rfl ?_)
  refine wl rfl (oloadc (v:=.slice pr xr.length cr) (show One Tryd.prog 38 from ⟨Tryd.isAgg38,Tryd.sizeOf38⟩) rfl rfl (ev (v:=.pointer (some ⟨br,(ofr + i * 1),none⟩)) rfl rfl) (hS.cellAt (hcr 0 _ rfl)) ?_)
  refine wl rfl (oassign (v:=.slice pr xr.length cr) rfl rfl (ev rfl rfl) ?_)
  refine wnil (thenN (wseq (wreg (wl rfl (oassign (v:=.slice none 0 0) rfl rfl evc ?_)))))
  refine wnil (thenN (wseq (wseq (wreg (wl rfl (omove (v:=.slice pr xr.length cr) rfl rfl (ev rfl rfl) ?_))))))
  refine wl rfl (olen rfl rfl rfl Tryd.runUnderlying38 (p:=pr) (k:=xr.length) (m:=cr) (ev rfl rfl) ?_)
  refine wl rfl (omove (v:=.int .i64 0) rfl rfl evc ?_)
  refine wnil (thenN (wblock ?_))
  replace hS:=hS.nilRow
  refine wloop (σ := Nat) (fun j a9 w' => ∃ (fb:Nat → Value) (pS:Option Addr) (nS:Nat) (cS:Nat),a9 = act 49 (sets fb [(2,.pointer (some ⟨g1,0,none⟩)),(3,.slice pP nP cP),(6,.slice pS nS cS),(11,.slice pt nt ct),(12,.int .i64 (nt:Int)),(13,.int .i64 (i:Int)),(17,.slice pr xr.length cr),(18,.int .i64 (xr.length:Int)),(19,.int .i64 (j:Int))]) ∧ Sep w [.row pS nS cS (lim (sqN xr j)),.row pP nP cP (lim (hadP T i)),.blk g1 [.bool false,.slice none 0 0] 28] w' ∧ (j ≤ xr.length) ∧ (ll (sqN xr j) ≤ 2097200)) (fun j => xr.length - j) (0) ⟨_,_,_,_,act_sets (l:=[(2,.pointer (some ⟨g1,0,none⟩)),(3,.slice pP nP cP),(6,.slice none 0 0),(11,.slice pt nt ct),(12,.int .i64 (nt:Int)),(13,.int .i64 (i:Int)),(17,.slice pr xr.length cr),(18,.int .i64 (xr.length:Int)),(19,.int .i64 0)]) ⟨rfl,rfl,rfl,rfl,rfl,rfl,rfl,rfl,rfl,trivial⟩,hS,Nat.zero_le _,Nat.le_trans (hSq 0 (Nat.zero_le _)) (by omega)⟩ ?_
  clear hS; rintro j _ w5 ⟨fb,pS,nS,cS,rfl,hS,hj,hkS⟩
  refine wseq (wreg ?_)
  by_cases hlj:j < xr.length
  ·
   refine wl rfl (obin (u:=.int .i64 (j:Int)) (v:=.int .i64 (xr.length:Int)) (z:=.bool true) rfl rfl (ev rfl rfl) (ev rfl rfl) (bin_lss (decide_eq_true (by omega))) ?_)
   refine wnil (thenN (wseq ?_))
   refine wT (ev rfl rfl) ?_
   refine wskip (thenN (wseq (wblock (wseq (wreg ?_)))))
   obtain ⟨ze,ge,oe,be,pe,ne,ce,hle,hpe,hce,hze⟩:=hsr.el hlj
   refine wl rfl (oindex (p:=pr) (g:=ge) (off:=oe) (m:=xr.length) (k:=j) (j:=(oe + j * 2)) rfl rfl Tryd.runUnderlying38 Tryd.sizeOf28 (ev rfl rfl) (hpe) (ev rfl rfl) (hlj) rfl ?_)
   refine wl rfl (oloadA (vs:=[.bool be,.slice pe ne ce]) aggZ rfl rfl (ev (v:=.pointer (some ⟨ge,(oe + j * 2),none⟩)) rfl rfl) (fun j v hj => hS.cellAt (hce j v hj)) rfl ?_)
   refine wl rfl (oalloc [.bool false,.slice none 0 0] hS rfl rfl Tryd.zeroValue28 rfl ?_)
   clear hS; intro g6 w7 hS
   refine wl rfl (ostore [.bool be,.slice pe ne ce] [.bool be,.slice pe ne ce] Tryd.sizeOf28 hS 0 rfl rfl (ev rfl rfl) (ev (v:=.agg #[.bool be,.slice pe ne ce]) rfl rfl) rfl rfl rfl rfl rfl rfl ?_)
   clear hS; intro w8 hS
   refine wnil (thenN (wreg (wl rfl (omove (v:=.slice pS nS cS) rfl rfl (ev rfl rfl) ?_))))
   refine wl rfl (ofieldAddr (g:=g6) (off:=0) 1 rfl rfl (ev rfl rfl) Tryd.runUnderlying28 rfl Tryd.sizeOf26 rfl ?_)
   refine wl rfl (oload1 (v:=.slice pe ne ce) oneN hS 0 rfl rfl (ev rfl rfl) rfl rfl ?_)
   refine wl rfl (ofieldAddr (g:=g6) (off:=0) 1 rfl rfl (ev rfl rfl) Tryd.runUnderlying28 rfl Tryd.sizeOf26 rfl ?_)
   refine wl rfl (oload1 (v:=.slice pe ne ce) oneN hS 0 rfl rfl (ev rfl rfl) rfl rfl ?_)
   obtain ⟨x2,hx2⟩:∃ x:Nat,Hid (ze.natAbs * ze.natAbs = x):=⟨_,rfl⟩
   have hkx2:ll x2 ≤ 2097152:=Nd.mul hze.nr.ll hze.nr.ll hx2 (by omega)
   refine wl rfl (ocall rfl rfl Tryd.call50 rfl (wmmul ((hze.nr.at hS).mono (by omega)) ((hze.nr.at hS).mono (by omega)) hx2) (args2 (ev rfl rfl) (ev rfl rfl)) ?_)
   rintro _ w9 ⟨_,_,rfl,⟨p2,n2,c2,rfl,rfl⟩,hN⟩
   refine ⟨_,rfl,?_⟩
   replace hS:=hS.news hN; clear hN
   obtain ⟨x3,hx3⟩:∃ x:Nat,Hid (((sqN xr j)) + x2 = x):=⟨_,rfl⟩
   have hkx3:ll x3 ≤ 2097201:=Nd.add hkS hkx2 hx3 (by omega)
   refine wl rfl (ocall rfl rfl Tryd.call46 rfl (wmadd (((hS.sl 2 rfl).nr hkS).mono (by omega)) (((hS.sl 0 rfl).nr hkx2).mono (by omega)) hx3) (args2 (ev rfl rfl) (ev rfl rfl)) ?_)
   rintro _ w10 ⟨_,_,rfl,⟨p3,n3,c3,rfl,rfl⟩,hN⟩
   refine ⟨_,rfl,?_⟩
   replace hS:=hS.news hN; clear hN
   refine wl rfl (oassign (v:=.slice p3 n3 c3) rfl rfl (ev rfl rfl) ?_)
   refine wnil (blkN (thenN (wreg ?_)))
   obtain rfl:sqN xr (j + 1) = x3:=by rw [sqN_next hle,hx2.out]; exact hx3.out
   refine wl rfl (obin (u:=.int .i64 (j:Int)) (v:=.int .i64 1) (z:=.int .i64 (((j + 1:Nat):Int))) rfl rfl (ev rfl rfl) evc (bin_add (wrap_i64 (by omega) (by omega))) ?_)
   refine wl rfl (omove (v:=.int .i64 (((j + 1:Nat):Int))) rfl rfl (ev rfl rfl) ?_)
   refine wnil (thenN ?_)
   exact ⟨(j + 1),⟨_,_,_,_,act_sets (l:=[(2,.pointer (some ⟨g1,0,none⟩)),(3,.slice pP nP cP),(6,.slice p3 n3 c3),(11,.slice pt nt ct),(12,.int .i64 (nt:Int)),(13,.int .i64 (i:Int)),(17,.slice pr xr.length cr),(18,.int .i64 (xr.length:Int)),(19,.int .i64 (((j + 1:Nat):Int)))]) ⟨rfl,rfl,rfl,rfl,rfl,rfl,rfl,rfl,rfl,trivial⟩,hS.pick [0,4,5] (by decide) rfl,by omega,Nat.le_trans (hSq _ (by omega)) (by omega)⟩,by omega⟩
  ·
   refine wl rfl (obin (u:=.int .i64 (j:Int)) (v:=.int .i64 (xr.length:Int)) (z:=.bool false) rfl rfl (ev rfl rfl) (ev rfl rfl) (bin_lss (decide_eq_false (by omega))) ?_)
   refine wnil (thenN (wseq ?_))
   refine wF (ev rfl rfl) ?_
   refine wexit ?_
   refine thenE ?_
   refine thenE ?_
   refine blkE ?_
   refine thenN (wreg (wl rfl (omove (v:=.slice pP nP cP) rfl rfl (ev rfl rfl) ?_)))
   refine wl rfl (omove (v:=.slice pS nS cS) rfl rfl (ev rfl rfl) ?_)
   obtain ⟨x2,hx2⟩:∃ x:Nat,Hid (((hadP T i)) * ((sqN xr j)) = x):=⟨_,rfl⟩
   have hkx2:ll x2 ≤ 53097200:=Nd.mul hkP hkS hx2 (by omega)
   refine wl rfl (ocall rfl rfl Tryd.call50 rfl (wmmul (((hS.sl 1 rfl).nr hkP).mono (by omega)) (((hS.sl 0 rfl).nr hkS).mono (by omega)) hx2) (args2 (ev rfl rfl) (ev rfl rfl)) ?_)
   rintro _ w6 ⟨_,_,rfl,⟨p2,n2,c2,rfl,rfl⟩,hN⟩
   refine ⟨_,rfl,?_⟩
   replace hS:=hS.news hN; clear hN
   refine wl rfl (oassign (v:=.slice p2 n2 c2) rfl rfl (ev rfl rfl) ?_)
   refine wnil (blkN (thenN (wreg ?_)))
   obtain rfl:j = xr.length:=by omega
   refine wl rfl (obin (u:=.int .i64 (i:Int)) (v:=.int .i64 1) (z:=.int .i64 (((i + 1:Nat):Int))) rfl rfl (ev rfl rfl) evc (bin_add (wrap_i64 (by omega) (by omega))) ?_)
   refine wl rfl (omove (v:=.int .i64 (((i + 1:Nat):Int))) rfl rfl (ev rfl rfl) ?_)
   refine wnil (thenN ?_)
   obtain rfl:hadP T (i + 1) = x2:=by rw [hadP_next hxr]; exact hx2.out
   exact ⟨(i + 1),⟨_,_,_,_,act_sets (l:=[(2,.pointer (some ⟨g1,0,none⟩)),(3,.slice p2 n2 c2),(11,.slice pt nt ct),(12,.int .i64 (nt:Int)),(13,.int .i64 (((i + 1:Nat):Int)))]) ⟨rfl,rfl,rfl,rfl,rfl,trivial⟩,hS.pick [0,3] (by decide) rfl,by omega,Nat.le_trans (hPl _ (by omega)) (by omega)⟩,by omega⟩
 ·
  refine wl rfl (obin (u:=.int .i64 (i:Int)) (v:=.int .i64 (nt:Int)) (z:=.bool false) rfl rfl (ev rfl rfl) (ev rfl rfl) (bin_lss (decide_eq_false (by omega))) ?_)
  refine wnil (thenN (wseq ?_))
  refine wF (ev rfl rfl) ?_
  refine wexit ?_
  refine thenE ?_
  refine thenE ?_
  refine blkE ?_
  refine thenN (wseq (wreg (wl rfl (omove (v:=.slice pP nP cP) rfl rfl (ev rfl rfl) ?_))))
  have hkx2:ll (rt ((hadP T i))) ≤ 51000000:=llv_le (rt_le _) hkP
  refine wl rfl (ocall rfl rfl Tryd.call68 rfl (wmsqrt (((hS.sl 0 rfl).nr hkP).mono (by omega))) (args1 (ev rfl rfl)) ?_)
  rintro _ w5 ⟨_,_,rfl,⟨p2,n2,c2,rfl,rfl⟩,hN⟩
  refine ⟨_,rfl,?_⟩
  replace hS:=hS.news hN; clear hN
  refine wl rfl (oassign (v:=.slice p2 n2 c2) rfl rfl (ev rfl rfl) ?_)
  refine wnil (thenN (wseq (wseq (wreg (wl rfl (omove (v:=.slice p2 n2 c2) rfl rfl (ev rfl rfl) ?_))))))
  refine wl rfl (omove (v:=.slice p2 n2 c2) rfl rfl (ev rfl rfl) ?_)
  obtain ⟨x3,hx3⟩:∃ x:Nat,Hid (((rt ((hadP T i)))) * ((rt ((hadP T i)))) = x):=⟨_,rfl⟩
  have hkx3:ll x3 ≤ 102000000:=Nd.mul hkx2 hkx2 hx3 (by omega)
  refine wl rfl (ocall rfl rfl Tryd.call50 rfl (wmmul (((hS.sl 0 rfl).nr hkx2).mono (by omega)) (((hS.sl 0 rfl).nr hkx2).mono (by omega)) hx3) (args2 (ev rfl rfl) (ev rfl rfl)) ?_)
  rintro _ w6 ⟨_,_,rfl,⟨p3,n3,c3,rfl,rfl⟩,hN⟩
  refine ⟨_,rfl,?_⟩
  replace hS:=hS.news hN; clear hN
  refine wl rfl (omove (v:=.slice pP nP cP) rfl rfl (ev rfl rfl) ?_)
  obtain ⟨s4,hs4⟩:∃ z:Int,Hid (cmpN x3 ((hadP T i)) = z):=⟨_,rfl⟩
  refine wl rfl (ocall rfl rfl Tryd.call48 rfl (wmcmp ((hS.sl 0 rfl).nr hkx3) ((hS.sl 2 rfl).nr hkP) hs4) (args2 (ev rfl rfl) (ev rfl rfl)) ?_)
  rintro _ w7 ⟨_,_,rfl,⟨rfl,rfl⟩,hN⟩
  refine ⟨_,rfl,?_⟩
  replace hS:=hS.news hN; clear hN
  have hin:i = nt:=by omega
  by_cases hrt:rt (hadP T i) * rt (hadP T i) < hadP T i
  ·
   refine wl rfl (obin (u:=.int .i64 s4) (v:=.int .i64 0) (z:=.bool true) rfl rfl (ev rfl rfl) evc (bin_lss ((cmpN_ltD hs4).trans (decide_eq_true (by rw [← hx3.out]; exact hrt)))) ?_)
   refine wnil (thenN ?_)
   refine wT (ev rfl rfl) ?_
   refine wreg (wl rfl (omove (v:=.slice p2 n2 c2) rfl rfl (ev rfl rfl) ?_))
   have hkx5:ll 1 ≤ 2:=Nd.u64 (by omega)
   refine wl rfl (ocall rfl rfl Tryd.call47 rfl (wmof (x:=1) (by omega)) (args1 evc) ?_)
   rintro _ w8 ⟨_,_,rfl,⟨p5,n5,c5,rfl,rfl⟩,hN⟩
   refine ⟨_,rfl,?_⟩
   replace hS:=hS.news hN; clear hN
   obtain ⟨x6,hx6⟩:∃ x:Nat,Hid (((rt ((hadP T i)))) + 1 = x):=⟨_,rfl⟩
   have hkx6:ll x6 ≤ 51000001:=Nd.add hkx2 hkx5 hx6 (by omega)
   refine wl rfl (ocall rfl rfl Tryd.call46 rfl (wmadd (((hS.sl 2 rfl).nr hkx2).mono (by omega)) (((hS.sl 0 rfl).nr hkx5).mono (by omega)) hx6) (args2 (ev rfl rfl) (ev rfl rfl)) ?_)
   rintro _ w9 ⟨_,_,rfl,⟨p6,n6,c6,rfl,rfl⟩,hN⟩
   refine ⟨_,rfl,?_⟩
   replace hS:=hS.news hN; clear hN
   refine wl rfl (oassign (v:=.slice p6 n6 c6) rfl rfl (ev rfl rfl) ?_)
   refine wnil (thenN (wseq (wreg (wl rfl (omove (v:=.slice p6 n6 c6) rfl rfl (ev rfl rfl) ?_)))))
   refine wl rfl (obuild (ps:=#[(1,.slice p6 n6 c6)]) (v:=.agg #[.bool false,.slice p6 n6 c6]) rfl rfl (parts1 (ev (v:=.slice p6 n6 c6) rfl rfl)) (fun w => by simp [go_sem,Instr.build,Instr.fill]) ?_)
   obtain ⟨z7,hz7⟩:∃ z:Int,Hid (((x6:Nat):Int) = z):=⟨_,rfl⟩
   refine wl rfl (ocall rfl rfl Tryd.call16 rfl (wqnorm (((hS.sl 0 rfl).zrN hkx6).mono (by omega)) hz7) (args1 (ev rfl rfl)) ?_)
   rintro _ w10 ⟨_,_,rfl,⟨p7,n7,c7,rfl,rfl⟩,hN⟩
   refine ⟨_,rfl,?_⟩
   replace hS:=hS.news hN; clear hN
   refine wl rfl (ostore [.bool (ng z7),.slice p7 n7 c7] [.bool (ng z7),.slice p7 n7 c7] Tryd.sizeOf28 hS 6 rfl rfl (ev rfl rfl) (ev (v:=.agg #[.bool (ng z7),.slice p7 n7 c7]) rfl rfl) rfl rfl rfl rfl rfl rfl ?_)
   clear hS; intro w11 hS
   refine wnil (thenN ?_)
   refine wleave ?_
   refine wret1 Tryd.results32 (tellC (cs:=[.bool (ng z7),.slice p7 n7 c7]) aggZ hS 6 rfl rfl rfl rfl) ?_
   have hz9:hadN (hadP T nt) = x6:=by rw [← hin]; unfold hadN; rw [if_pos hrt]; exact hx6.out
   obtain rfl:((hadN (hadP T nt):Nat):Int) = z7:=by rw [hz9]; exact hz7.out
   exact ⟨_,_,rfl,⟨_,_,_,rfl,rfl⟩,hS.new1 0 rfl⟩
  ·
   refine wl rfl (obin (u:=.int .i64 s4) (v:=.int .i64 0) (z:=.bool false) rfl rfl (ev rfl rfl) evc (bin_lss ((cmpN_ltD hs4).trans (decide_eq_false (by rw [← hx3.out]; exact hrt)))) ?_)
   refine wnil (thenN ?_)
   refine wF (ev rfl rfl) ?_
   refine wskip (thenN (wseq (wreg (wl rfl (omove (v:=.slice p2 n2 c2) rfl rfl (ev rfl rfl) ?_)))))
   refine wl rfl (obuild (ps:=#[(1,.slice p2 n2 c2)]) (v:=.agg #[.bool false,.slice p2 n2 c2]) rfl rfl (parts1 (ev (v:=.slice p2 n2 c2) rfl rfl)) (fun w => by simp [go_sem,Instr.build,Instr.fill]) ?_)
   obtain ⟨z5,hz5⟩:∃ z:Int,Hid ((((rt ((hadP T i))):Nat):Int) = z):=⟨_,rfl⟩
   refine wl rfl (ocall rfl rfl Tryd.call16 rfl (wqnorm (((hS.sl 1 rfl).zrN hkx2).mono (by omega)) hz5) (args1 (ev rfl rfl)) ?_)
   rintro _ w8 ⟨_,_,rfl,⟨p5,n5,c5,rfl,rfl⟩,hN⟩
   refine ⟨_,rfl,?_⟩
   replace hS:=hS.news hN; clear hN
   refine wl rfl (ostore [.bool (ng z5),.slice p5 n5 c5] [.bool (ng z5),.slice p5 n5 c5] Tryd.sizeOf28 hS 4 rfl rfl (ev rfl rfl) (ev (v:=.agg #[.bool (ng z5),.slice p5 n5 c5]) rfl rfl) rfl rfl rfl rfl rfl rfl ?_)
   clear hS; intro w9 hS
   refine wnil (thenN ?_)
   refine wleave ?_
   refine wret1 Tryd.results32 (tellC (cs:=[.bool (ng z5),.slice p5 n5 c5]) aggZ hS 4 rfl rfl rfl rfl) ?_
   have hz9:hadN (hadP T nt) = (rt ((hadP T i))):=by rw [← hin]; unfold hadN; rw [if_neg hrt]
   obtain rfl:((hadN (hadP T nt):Nat):Int) = z5:=by rw [hz9]; exact hz5.out
   exact ⟨_,_,rfl,⟨_,_,_,rfl,rfl⟩,hS.new1 0 rfl⟩
end Go.Proofs.YthnilcgmljecdaaDoor
