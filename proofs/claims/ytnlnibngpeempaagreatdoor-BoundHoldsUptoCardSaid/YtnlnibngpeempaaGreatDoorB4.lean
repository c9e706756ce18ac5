/-
  Contracts and lemmas, joined in one text.
-/
import Derived.Test.YtnlnibngpeempaaGreatDoorB3
set_option linter.unusedVariables false
set_option linter.unusedSimpArgs false
/-
  Both fits in full; the errors of bound's functions; bound.Bound.
-/
set_option maxRecDepth 100000
set_option maxHeartbeats 16000000
namespace Go.Proofs.YtnlnibngpeempaaGreatDoor
open Go.RowKit
def fitc (T:List (List Int)):Int :=
  if ∀ L ∈ T,L.length = (T.getD 0 []).length then (if T.length = 0 ∨ T.length ≠ (T.getD 0 []).length then 3 else if 24 < T.length then 4 else 0) else 2
theorem getD_some {T:List (List Int)} {i:Nat} {L:List Int} (h:T[i]? = some L):T.getD i [] = L:=by rw [List.getD,h]; rfl
theorem fitc2 {T:List (List Int)} {i:Nat} {L Z:List Int} (h:T[i]? = some L) (hz:T[0]? = some Z) (hne:¬ L.length = Z.length):fitc T = 2:=by
  unfold fitc
  rw [if_neg]
  intro h1
  have h2:=h1 L (List.mem_of_getElem? h)
  rw [getD_some hz] at h2
  exact hne h2
theorem fitc_all {T:List (List Int)} {n:Nat} (hn:T.length = n) (h:∀ j,j < n → (T.getD j []).length = (T.getD 0 []).length):∀ L ∈ T,L.length = (T.getD 0 []).length:=fun L hL => by
  obtain ⟨j,hj,rfl⟩:=List.mem_iff_getElem.1 hL
  have h1:=h j (by omega)
  rwa [getD_some (List.getElem?_eq_getElem hj)] at h1
theorem fitc3a {T:List (List Int)} (h:T.length = 0):fitc T = 3:=by
  obtain rfl:=List.eq_nil_of_length_eq_zero h
  rfl
theorem fitc3b {T:List (List Int)} {Z:List Int} (h:∀ L ∈ T,L.length = (T.getD 0 []).length) (hz:T[0]? = some Z) (hne:¬ T.length = Z.length):fitc T = 3:=by
  unfold fitc; rw [if_pos h,if_pos (.inr (by rw [getD_some hz]; exact hne))]
theorem fitc4 {T:List (List Int)} {Z:List Int} (h:∀ L ∈ T,L.length = (T.getD 0 []).length) (hz:T[0]? = some Z) (h0:T.length ≠ 0) (hsq:T.length = Z.length) (hb:24 < T.length):fitc T = 4:=by
  unfold fitc; rw [if_pos h,if_neg (by rw [getD_some hz]; omega),if_pos hb]
theorem fitc0 {T:List (List Int)} {Z:List Int} (h:∀ L ∈ T,L.length = (T.getD 0 []).length) (hz:T[0]? = some Z) (h0:T.length ≠ 0) (hsq:T.length = Z.length) (hb:¬ 24 < T.length):fitc T = 0:=by
  unfold fitc; rw [if_pos h,if_neg (by rw [getD_some hz]; omega),if_neg hb]
theorem fitc_ok {T:List (List Int)} (h:fitc T = 0):(∀ L ∈ T,L.length = T.length) ∧ T.length ≠ 0 ∧ T.length ≤ 24:=by
 unfold fitc at h
 split at h
 ·next h1 =>
  split at h
  ·cases h
  next h2 =>
  split at h
  ·cases h
  next h3 => exact ⟨fun L hL => by rw [h1 L hL]; omega,by omega,by omega⟩
 cases h
def SeT (g:Nat) (m:Int):Tell:=fun v r => ∃ (p:Option Addr) (n c:Nat),v = .tuple #[] ∧ r = [.blk g [.bool (ng m),.slice p n c] 78,.row p n c (lim m.natAbs)]
theorem wqfitG {pt:Option Addr} {nt ct:Nat} {T:List (List Int)} {w:World} (hT:TB w pt nt T 67108864)  :
  Calls Tryz.prog 5 #[.slice pt nt ct] w (Ret (Is (.int .i64 (fitc T))) w):=by
 have hTl:=hT.1
 have hTb:=hT.2.1
 have hS:=Sep.init w
 refine went Tryz.func5 rfl (n:=34) rfl rfl ?_
 refine wsr (wavc ?_)
 refine wn1 (wSq (wsr (wmv rfl rfl ?_)))
 refine wl rfl (olen rfl rfl rfl Tryz.runUnderlying22 (p:=pt) (k:=nt) (m:=ct) (ev rfl rfl) ?_)
 refine wmvc ?_
 refine wn1 (wBk ?_)
 refine wLp (σ := Nat) (fun i a9 w' => ∃ (fb:Nat → Value),a9 = act 34 (sets fb [(0,.slice pt nt ct),(5,.slice pt nt ct),(6,.int .i64 (nt:Int)),(7,.int .i64 (i:Int))]) ∧ Sep w [] w' ∧ (i ≤ nt) ∧ (∀ j,j < i → (T.getD j []).length = (T.getD 0 []).length)) (fun i => nt - i) (0) ⟨_,aSs ⟨rfl,rfl,rfl,rfl,trivial⟩,hS,Nat.zero_le _,fun j hj => by omega⟩ ?_
 clear hS; rintro i _ w1 ⟨fb,rfl,hS,hi,hall⟩
 refine wsr ?_
 by_cases hlt:i < nt
 ·
  refine wbt rfl rfl rfl rfl (bLs (decide_eq_true (by omega))) ?_
  refine wn1 (wSq ?_)
  refine wT (ev rfl rfl) ?_
  refine wk2 ?_
  obtain ⟨xr,hxr⟩:∃ r,(T)[i]? = some r:=⟨_,List.getElem?_eq_getElem (by have:=hT.1; omega)⟩
  obtain ⟨br,ofr,pr,cr,hpr,hcr,hsr⟩:=hT.2.2 i _ hxr
  obtain ⟨xz,hxz⟩:∃ r,(T)[0]? = some r:=⟨_,List.getElem?_eq_getElem (by have:=hT.1; omega)⟩
  obtain ⟨bz,ofz,pz,cz,hpz,hcz,hsz⟩:=hT.2.2 0 _ hxz
  refine wl rfl (oIx (p:=pt) (g:=br) (off:=ofr) (m:=nt) (k:=i) (j:=(ofr + i * 1)) rfl rfl Tryz.runUnderlying22 Tryz.sizeOf32 (ev rfl rfl) hpr (ev rfl rfl) (by omega) rfl ?_)
  refine wl rfl (oLc ⟨Tryz.isAgg32,Tryz.sizeOf32⟩ rfl rfl (ev rfl rfl) (hS.cellAt (hcr 0 _ rfl)) ?_)
  refine wav rfl rfl ?_
  refine wn2 (wmv rfl rfl ?_)
  refine wl rfl (olen rfl rfl rfl Tryz.runUnderlying32 (p:=pr) (k:=xr.length) (m:=cr) (ev rfl rfl) ?_)
  refine wmv rfl rfl ?_
  refine wl rfl (oIx (p:=pt) (g:=bz) (off:=ofz) (m:=nt) (k:=0) (j:=(ofz + 0 * 1)) rfl rfl Tryz.runUnderlying22 Tryz.sizeOf32 (ev rfl rfl) hpz evc (by omega) rfl ?_)
  refine wl rfl (oLc ⟨Tryz.isAgg32,Tryz.sizeOf32⟩ rfl rfl (ev rfl rfl) (hS.cellAt (hcz 0 _ rfl)) ?_)
  refine wl rfl (olen rfl rfl rfl Tryz.runUnderlying32 (p:=pz) (k:=xz.length) (m:=cz) (ev rfl rfl) ?_)
  by_cases heq:xr.length = xz.length
  ·
   refine wbt rfl rfl rfl rfl (bNe (neF (by omega))) ?_
   refine wn1 ?_
   refine wF (ev rfl rfl) ?_
   refine wSk (blkN (tNo (wreg (wbc (z:=.int .i64 ((i + 1:Nat):Int)) rfl rfl (bAd (wI6 (by omega) (by omega))) ?_))))
   refine wmv rfl rfl ?_
   refine wn1 ?_
   exact ⟨(i + 1),⟨_,aSs ⟨rfl,rfl,rfl,rfl,trivial⟩,hS.pick [] (by decide) rfl,by omega,fun j hj => if e:j = i then (by rw [e,getD_some hxr,getD_some hxz]; exact heq) else hall j (by omega)⟩,by omega⟩
  refine wbt rfl rfl rfl rfl (bNe (neT (by omega))) ?_
  refine wn1 ?_
  refine wT (ev rfl rfl) ?_
  refine wsr (wavc ?_)
  refine wn1 ?_
  refine wLv ?_
  refine blkR ?_
  refine thenR ?_
  refine thenR ?_
  refine blkR ?_
  refine thenR ?_
  refine wr1 Tryz.results5 (tlT (v:=.int .i64 2) rfl rfl) ?_
  exact ⟨_,_,rfl,⟨by rw [fitc2 hxr hxz heq],rfl⟩,hS.new0⟩
 refine wbt rfl rfl rfl rfl (bLs (decide_eq_false (by omega))) ?_
 refine wn1 (wSq ?_)
 refine wF (ev rfl rfl) ?_
 refine wEx ?_
 refine tEx ?_
 refine tEx ?_
 refine blkE ?_
 refine tNo (wSq (wsr (wmv rfl rfl ?_)))
 refine wl rfl (olen rfl rfl rfl Tryz.runUnderlying22 (p:=pt) (k:=nt) (m:=ct) (ev rfl rfl) ?_)
 have hin:i = nt:=by omega
 have hal:=fitc_all hTl (fun j hj => hall j (by omega))
 by_cases hn0:nt = 0
 ·
  refine wbc rfl rfl (bEq (eqT (by omega))) ?_
  refine wmv rfl rfl ?_
  refine wlOff (e:=22) (d:=23) (b':=true) rfl rfl rfl rfl rfl rfl ?_
  refine wlOff (e:=22) (d:=24) (b':=true) rfl rfl rfl rfl rfl rfl ?_
  refine wlOff (e:=22) (d:=25) (b':=true) rfl rfl rfl rfl rfl rfl ?_
  refine wlOff (e:=22) (d:=26) (b':=true) rfl rfl rfl rfl rfl rfl ?_
  refine wlOff (e:=22) (d:=27) (b':=true) rfl rfl rfl rfl rfl rfl ?_
  refine wlOff (e:=22) (d:=28) (b':=true) rfl rfl rfl rfl rfl rfl ?_
  refine wlOff (e:=22) (d:=29) (b':=true) rfl rfl rfl rfl rfl rfl ?_
  refine wl rfl (opick rfl rfl (ev rfl rfl) evc ?_)
  refine wn1 ?_
  refine wT (ev rfl rfl) ?_
  refine wsr (wavc ?_)
  refine wn1 ?_
  refine wLv ?_
  refine thenR ?_
  refine wr1 Tryz.results5 (tlT (v:=.int .i64 3) rfl rfl) ?_
  exact ⟨_,_,rfl,⟨by rw [fitc3a (by omega)],rfl⟩,hS.new0⟩
 refine wbc rfl rfl (bEq (eqF (by omega))) ?_
 refine wmv rfl rfl ?_
 refine wlOn (e:=22) rfl rfl rfl rfl (omove rfl rfl (ev rfl rfl) ?_)
 obtain ⟨xz,hxz⟩:∃ r,(T)[0]? = some r:=⟨_,List.getElem?_eq_getElem (by have:=hT.1; omega)⟩
 obtain ⟨bz,ofz,pz,cz,hpz,hcz,hsz⟩:=hT.2.2 0 _ hxz
 refine wlOn (e:=22) rfl rfl rfl rfl (oIx (p:=pt) (g:=bz) (off:=ofz) (m:=nt) (k:=0) (j:=(ofz + 0 * 1)) rfl rfl Tryz.runUnderlying22 Tryz.sizeOf32 (ev rfl rfl) hpz evc (by omega) rfl ?_)
 refine wlOn (e:=22) rfl rfl rfl rfl (oLc ⟨Tryz.isAgg32,Tryz.sizeOf32⟩ rfl rfl (ev rfl rfl) (hS.cellAt (hcz 0 _ rfl)) ?_)
 refine wlOn (e:=22) rfl rfl rfl rfl (olen rfl rfl rfl Tryz.runUnderlying32 (p:=pz) (k:=xz.length) (m:=cz) (ev rfl rfl) ?_)
 refine wlOn (e:=22) rfl rfl rfl rfl (omove rfl rfl (ev rfl rfl) ?_)
 refine wlOn (e:=22) rfl rfl rfl rfl (olen rfl rfl rfl Tryz.runUnderlying22 (p:=pt) (k:=nt) (m:=ct) (ev rfl rfl) ?_)
 by_cases hsq:nt = xz.length
 ·
  refine wlOn (e:=22) rfl rfl rfl rfl (obin rfl rfl (ev rfl rfl) (ev rfl rfl) (bNe (neF (by omega))) ?_)
  refine wl rfl (opick rfl rfl (ev rfl rfl) (ev rfl rfl) ?_)
  refine wn1 ?_
  refine wF (ev rfl rfl) ?_
  refine wSk (tNo (wSq (wsr (wmv rfl rfl ?_))))
  refine wl rfl (olen rfl rfl rfl Tryz.runUnderlying22 (p:=pt) (k:=nt) (m:=ct) (ev rfl rfl) ?_)
  by_cases hbig:24 < nt
  ·
   refine wbc rfl rfl (bin_gtr (decide_eq_true (by omega))) ?_
   refine wn1 ?_
   refine wT (ev rfl rfl) ?_
   refine wsr (wavc ?_)
   refine wn1 ?_
   refine wLv ?_
   refine thenR ?_
   refine wr1 Tryz.results5 (tlT (v:=.int .i64 4) rfl rfl) ?_
   exact ⟨_,_,rfl,⟨by rw [fitc4 hal hxz (by omega) (by omega) (by omega)],rfl⟩,hS.new0⟩
  refine wbc rfl rfl (bin_gtr (decide_eq_false (by omega))) ?_
  refine wn1 ?_
  refine wF (ev rfl rfl) ?_
  refine wSk (tNo (wsr (wavc ?_)))
  refine wn1 ?_
  refine wLv ?_
  refine wr1 Tryz.results5 (tlT (v:=.int .i64 0) rfl rfl) ?_
  exact ⟨_,_,rfl,⟨by rw [fitc0 hal hxz (by omega) (by omega) (by omega)],rfl⟩,hS.new0⟩
 refine wlOn (e:=22) rfl rfl rfl rfl (obin rfl rfl (ev rfl rfl) (ev rfl rfl) (bNe (neT (by omega))) ?_)
 refine wl rfl (opick rfl rfl (ev rfl rfl) (ev rfl rfl) ?_)
 refine wn1 ?_
 refine wT (ev rfl rfl) ?_
 refine wsr (wavc ?_)
 refine wn1 ?_
 refine wLv ?_
 refine thenR ?_
 refine wr1 Tryz.results5 (tlT (v:=.int .i64 3) rfl rfl) ?_
 exact ⟨_,_,rfl,⟨by rw [fitc3b hal hxz (by omega)],rfl⟩,hS.new0⟩
open Go.RowKit
def mxA (l:List Int):Nat → Int
  | 0 => 0
  | i + 1 => if ((l.getD i 0).natAbs:Int) < mxA l i then mxA l i else ((l.getD i 0).natAbs:Int)
theorem mxA_wd {l:List Int} {K:Nat} (h:∀ i,Wd (l.getD i 0) K):∀ i,Wd (mxA l i) K
 | 0 => Wd.zero _
 | i + 1 => by
  rw [mxA]; split
  ·exact mxA_wd h i
  exact Wd.nabs (h i) rfl
theorem rsums_wd {w:World} {p:Option Addr} {n:Nat} {T:List (List Int)} (hT:TB w p n T 67108864) (hr:∀ L ∈ T,L.length = n) (h24:n ≤ 24):∀ i,Wd ((rsums T).getD i 0) 67108890:=fun i => by
 unfold rsums
 rw [List.getD,List.getElem?_map]
 cases hx:T[i]? with
 | none => exact Wd.zero _
 | some L =>
  obtain ⟨b,off,q,c,_,_,hz⟩:=hT.2.2 i L hx
  have h1:=hr L (List.mem_of_getElem? hx)
  exact (facc_abs_wd hz L.length (Nat.le_refl _)).mono (by omega)
theorem facc_abs_nn (L:List Int):∀ i,0 ≤ facc absA 0 L i
 | 0 => Int.le_refl _
 | i + 1 => by
  have h1:=facc_abs_nn L i
  cases hx:L[i]? with
  | none => unfold facc at h1 ⊢; rw [List.take_add_one,hx]; simpa using h1
  | some x => rw [facc_succ hx]; show 0 ≤ _ + _; omega
theorem rsums_nn (T:List (List Int)) (i:Nat):0 ≤ (rsums T).getD i 0:=by
  unfold rsums
  rw [List.getD,List.getElem?_map]
  cases T[i]? with
  | none => exact Int.le_refl _
  | some L => exact facc_abs_nn L _
theorem esym_nn {l:List Int} (h:∀ i,0 ≤ l.getD i 0):∀ i k,0 ≤ esym l i k
 | 0,k => by rw [esym]; split <;> omega
 | i + 1,k => by
  have h1:=esym_nn h i k
  rw [esym]
  split
  ·omega
  have h2:=Int.mul_nonneg (esym_nn h i (k - 1)) (h i)
  omega
theorem coefs_len (T:List (List Int)):(coefs T).length = T.length + 1:=by unfold coefs; rw [List.length_map,List.length_range]
theorem coefs_get (T:List (List Int)) (k:Nat):(coefs T).getD k 0 = if k < T.length + 1 then esym (rsums T) T.length k else 0:=by
  unfold coefs
  rw [List.getD,List.getElem?_map]
  by_cases h:k < T.length + 1
  · rw [if_pos h,List.getElem?_range h]; rfl
  rw [if_neg h,List.getElem?_eq_none (by rw [List.length_range]; omega)]; rfl
theorem coefs_wd {w:World} {p:Option Addr} {n:Nat} {T:List (List Int)} (hT:TB w p n T 67108864) (hr:∀ L ∈ T,L.length = n) (h24:n ≤ 24) (k:Nat):Wd ((coefs T).getD k 0) 2000000000:=by
  rw [coefs_get]
  split
  · have h1:=hT.1; exact (esym_wd (rsums_wd hT hr h24) T.length k).mono (by omega)
  exact Wd.zero _
theorem coefs_nn (T:List (List Int)) (k:Nat):0 ≤ (coefs T).getD k 0:=by
  rw [coefs_get]
  split
  · exact esym_nn (rsums_nn T) _ _
  exact Int.le_refl _
theorem wbabove {bx by9 x:Bool} {px py:Option Addr} {nx cx ny cy:Nat} {a b:Int} {w:World} (hx:Zr w bx px nx cx a 4000000000) (hy:Zr w by9 py ny cy b 4000000000) (hb:decide (b < a) = x) :
  Calls Tryz.prog 77 #[.agg #[.bool bx,.slice px nx cx],.agg #[.bool by9,.slice py ny cy]] w (Ret (Is (.bool x)) w):=by
 have hS:=Sep.init w
 refine went Tryz.func77 rfl (n:=11) rfl rfl ?_
 refine wsr (wl rfl (obox [.bool bx,.slice px nx cx] hS rfl rfl (ev rfl rfl) rfl ?_))
 clear hS; intro g1 w2 hS
 refine wl rfl (obox [.bool by9,.slice py ny cy] hS rfl rfl (ev rfl rfl) rfl ?_)
 clear hS; intro g3 w4 hS
 refine wavc ?_
 refine wn2 (wl rfl (oFA (g:=g1) (off:=0) 0 rfl rfl (ev rfl rfl) Tryz.runUnderlying75 rfl Tryz.sizeOf28 rfl ?_))
 refine wl rfl (oLd aggZ hS 1 rfl rfl (ev rfl rfl) rfl rfl rfl ?_)
 refine wl rfl (oFA (g:=g3) (off:=0) 0 rfl rfl (ev rfl rfl) Tryz.runUnderlying75 rfl Tryz.sizeOf28 rfl ?_)
 refine wl rfl (oLd aggZ hS 0 rfl rfl (ev rfl rfl) rfl rfl rfl ?_)
 obtain ⟨s1,hs1⟩:∃ z:Int,Hid (cmpZ a b = z):=⟨_,rfl⟩
 refine wcl Tryz.call70 (wzcmp ((hx.at hS).mono (by omega)) ((hy.at hS).mono (by omega)) hs1) (ar2 (ev rfl rfl) (ev rfl rfl)) hS ?_
 clear hS; rintro _ _ w5 ⟨rfl,rfl⟩ hS
 refine wbc (z:=.bool x) rfl rfl (bin_gtr ((cmpZ_gtD hs1).trans hb)) ?_
 refine wav rfl rfl ?_
 refine wn1 ?_
 refine wLv ?_
 refine wr1 Tryz.results77 (tlT (v:=.bool x) rfl rfl) ?_
 exact ⟨_,_,rfl,isI,hS.new0⟩
theorem wbseeG {w0 w:World} {R:List Res} {g na ca nb cb:Nat} {pa pb:Option Addr} {a b:Int} (hka:Wd a 4000000000) (hkb:Wd b 4000000000) (hab:decide (b < a) = true) (hS:Sep w0 (.blk g [.bool (ng a),.slice pa na ca] 78 :: .row pa na ca (lim a.natAbs) :: .row pb nb cb (lim b.natAbs) :: R) w) :
  Calls Tryz.prog 37 #[.pointer (some ⟨g,0,none⟩),.agg #[.bool (ng b),.slice pb nb cb]] w (RetS (SeT g a) w0 R):=by
 refine went Tryz.func37 rfl (n:=15) rfl rfl ?_
 refine wsr (wl rfl (obox [.bool (ng b),.slice pb nb cb] hS rfl rfl (ev rfl rfl) rfl ?_))
 clear hS; intro g1 w2 hS
 refine wn1 (wSq ?_)
 refine wSg 7 [4,5,6,7,8,9,10] [[],[0],[1,0],[2,0,1],[],[3,4,0,1,2],[5,0,1,2,3,4]] [] [] [] (fun i9 => ([iSv (.pointer (some ⟨g,0,none⟩)),iSv (.pointer (some ⟨g,0,none⟩)),iSv (.pointer (some ⟨g,0,none⟩)),iSv (.agg #[.bool (ng a),.slice pa na ca]),iSv (.agg #[.bool (ng b),.slice pb nb cb]),iSv (.bool true),iSv (.bool false)]:List (List Value → Tell)).getD i9 (fun _ _ _ => False)) hNi (fun d _ _ _ _ h => (by cases d <;> exact h)) (by kernel_rfl) (by kernel_rfl) (by kernel_rfl) hS ?_ ?_
 ·
  refine stM rfl rfl rfl rfl rfl (fun _=>isI) ?_
  refine stT rfl (fun hT hS=>?_) ?_
  ·obtain ⟨hv0,hr0⟩:=hT 0 4 rfl rfl
   obtain hS:=(hS.flat1 hr0).front1
   exact inNo rfl (oNC (a:=⟨g,0,none⟩) rfl rfl (ev rfl hv0) (nSm rfl isI))
  refine stT rfl (fun hT hS=>?_) ?_
  ·obtain ⟨hv1,hr1⟩:=hT 1 5 rfl rfl
   obtain hS:=(hS.flat1 hr1).front1
   exact inNo rfl (oFA (g:=g) (off:=0) 0 rfl rfl (ev rfl hv1) Tryz.runUnderlying78 rfl Tryz.sizeOf75 rfl (nSm rfl isI))
  refine stT rfl (fun hT hS=>?_) ?_
  ·obtain ⟨hv2,hr2⟩:=hT 2 6 rfl rfl
   obtain hS:=(hS.flat1 hr2).front1
   exact inNo rfl (oLd ⟨Tryz.isAgg75,Tryz.sizeOf75⟩ hS 1 rfl rfl (ev rfl hv2) rfl rfl rfl (nSm rfl isI))
  refine stH rfl (fun ho hS=>?_) ?_
  ·exact inNo rfl (oLd ⟨Tryz.isAgg75,Tryz.sizeOf75⟩ hS 0 rfl rfl (ev rfl (ho 3 rfl)) rfl rfl rfl (nSm rfl isI))
  refine stT rfl (fun hT hS=>?_) ?_
  ·obtain ⟨hv3,hr3⟩:=hT 3 7 rfl rfl
   obtain ⟨hv4,hr4⟩:=hT 4 8 rfl rfl
   obtain hS:=(hS.flat2 hr3 hr4).front2
   exact .inl ⟨wNo rfl,oCl rfl rfl Tryz.call77 rfl (wbabove ((hS.sl 2 rfl).zr hka) ((hS.sl 3 rfl).zr hkb) hab) (ar2 (ev rfl hv3) (ev rfl hv4)) cNw⟩
  refine stT rfl (fun hT hS=>?_) ?_
  ·obtain ⟨hv5,hr5⟩:=hT 5 9 rfl rfl
   obtain hS:=(hS.flat1 hr5).front1
   exact inNo rfl (onot rfl rfl (ev rfl hv5) (nSm rfl isI))
  exact sNi
 intro vs ρ w3 f' hf hT hS
 obtain ⟨hv0,hr0⟩:=hT 0 (by decide)
 obtain ⟨hv1,hr1⟩:=hT 1 (by decide)
 obtain ⟨hv2,hr2⟩:=hT 2 (by decide)
 obtain ⟨hv3,hr3⟩:=hT 3 (by decide)
 obtain ⟨hv4,hr4⟩:=hT 4 (by decide)
 obtain ⟨hv5,hr5⟩:=hT 5 (by decide)
 obtain ⟨hv6,hr6⟩:=hT 6 (by decide)
 simp only [pool,if_true,hr0,hr1,hr2,hr3,hr4,hr5,hr6,List.nil_append,List.cons_append,List.append_nil] at hS
 simp only [layf,hv0,hv1,hv2,hv3,hv4,hv5,hv6] at hf
 subst hf; clear hT hv0 hv1 hv2 hv3 hv4 hv5 hv6 hr0 hr1 hr2 hr3 hr4 hr5 hr6
 refine wdone rfl ?_
 refine tNo ?_
 refine wF (ev rfl rfl) ?_
 refine wSk ?_
 refine wret0n Tryz.results37 ?_
 obtain hS:=(show Sep w0 (.blk g [.bool (ng a),.slice pa na ca] 78 :: .row pa na ca (lim a.natAbs) :: .blk g1 [.bool (ng b),.slice pb nb cb] 75 :: .row pb nb cb (lim b.natAbs) :: R) w3 from Sep.pickT [.blk g1 [.bool (ng b),.slice pb nb cb] 75,.blk g [.bool (ng a),.slice pa na ca] 78,.row pa na ca (lim a.natAbs),.row pb nb cb (lim b.natAbs)] [.blk g [.bool (ng a),.slice pa na ca] 78,.row pa na ca (lim a.natAbs),.blk g1 [.bool (ng b),.slice pb nb cb] 75,.row pb nb cb (lim b.natAbs)] hS [1,2,0,3] (by decide) rfl)
 exact ⟨_,_,rfl,⟨_,_,_,rfl,rfl⟩,Sep.pickT [.blk g [.bool (ng a),.slice pa na ca] 78,.row pa na ca (lim a.natAbs),.blk g1 [.bool (ng b),.slice pb nb cb] 75,.row pb nb cb (lim b.natAbs)] [.blk g [.bool (ng a),.slice pa na ca] 78,.row pa na ca (lim a.natAbs)] hS [0,1] (by decide) rfl⟩
theorem wbseeL {w0 w:World} {R:List Res} {g na ca nb cb:Nat} {pa pb:Option Addr} {a b:Int} (hka:Wd a 4000000000) (hkb:Wd b 4000000000) (hab:decide (b < a) = false) (hS:Sep w0 (.blk g [.bool (ng a),.slice pa na ca] 78 :: .row pa na ca (lim a.natAbs) :: .row pb nb cb (lim b.natAbs) :: R) w) :
  Calls Tryz.prog 37 #[.pointer (some ⟨g,0,none⟩),.agg #[.bool (ng b),.slice pb nb cb]] w (RetS (SeT g b) w0 R):=by
 refine went Tryz.func37 rfl (n:=15) rfl rfl ?_
 refine wsr (wl rfl (obox [.bool (ng b),.slice pb nb cb] hS rfl rfl (ev rfl rfl) rfl ?_))
 clear hS; intro g1 w2 hS
 refine wn1 (wSq ?_)
 refine wSg 7 [4,5,6,7,8,9,10] [[],[0],[1,0],[2,0,1],[],[3,4,0,1,2],[5,0,1,2,3,4]] [] [] [] (fun i9 => ([iSv (.pointer (some ⟨g,0,none⟩)),iSv (.pointer (some ⟨g,0,none⟩)),iSv (.pointer (some ⟨g,0,none⟩)),iSv (.agg #[.bool (ng a),.slice pa na ca]),iSv (.agg #[.bool (ng b),.slice pb nb cb]),iSv (.bool false),iSv (.bool true)]:List (List Value → Tell)).getD i9 (fun _ _ _ => False)) hNi (fun d _ _ _ _ h => (by cases d <;> exact h)) (by kernel_rfl) (by kernel_rfl) (by kernel_rfl) hS ?_ ?_
 ·
  refine stM rfl rfl rfl rfl rfl (fun _=>isI) ?_
  refine stT rfl (fun hT hS=>?_) ?_
  ·obtain ⟨hv0,hr0⟩:=hT 0 4 rfl rfl
   obtain hS:=(hS.flat1 hr0).front1
   exact inNo rfl (oNC (a:=⟨g,0,none⟩) rfl rfl (ev rfl hv0) (nSm rfl isI))
  refine stT rfl (fun hT hS=>?_) ?_
  ·obtain ⟨hv1,hr1⟩:=hT 1 5 rfl rfl
   obtain hS:=(hS.flat1 hr1).front1
   exact inNo rfl (oFA (g:=g) (off:=0) 0 rfl rfl (ev rfl hv1) Tryz.runUnderlying78 rfl Tryz.sizeOf75 rfl (nSm rfl isI))
  refine stT rfl (fun hT hS=>?_) ?_
  ·obtain ⟨hv2,hr2⟩:=hT 2 6 rfl rfl
   obtain hS:=(hS.flat1 hr2).front1
   exact inNo rfl (oLd ⟨Tryz.isAgg75,Tryz.sizeOf75⟩ hS 1 rfl rfl (ev rfl hv2) rfl rfl rfl (nSm rfl isI))
  refine stH rfl (fun ho hS=>?_) ?_
  ·exact inNo rfl (oLd ⟨Tryz.isAgg75,Tryz.sizeOf75⟩ hS 0 rfl rfl (ev rfl (ho 3 rfl)) rfl rfl rfl (nSm rfl isI))
  refine stT rfl (fun hT hS=>?_) ?_
  ·obtain ⟨hv3,hr3⟩:=hT 3 7 rfl rfl
   obtain ⟨hv4,hr4⟩:=hT 4 8 rfl rfl
   obtain hS:=(hS.flat2 hr3 hr4).front2
   exact .inl ⟨wNo rfl,oCl rfl rfl Tryz.call77 rfl (wbabove ((hS.sl 2 rfl).zr hka) ((hS.sl 3 rfl).zr hkb) hab) (ar2 (ev rfl hv3) (ev rfl hv4)) cNw⟩
  refine stT rfl (fun hT hS=>?_) ?_
  ·obtain ⟨hv5,hr5⟩:=hT 5 9 rfl rfl
   obtain hS:=(hS.flat1 hr5).front1
   exact inNo rfl (onot rfl rfl (ev rfl hv5) (nSm rfl isI))
  exact sNi
 intro vs ρ w3 f' hf hT hS
 obtain ⟨hv0,hr0⟩:=hT 0 (by decide)
 obtain ⟨hv1,hr1⟩:=hT 1 (by decide)
 obtain ⟨hv2,hr2⟩:=hT 2 (by decide)
 obtain ⟨hv3,hr3⟩:=hT 3 (by decide)
 obtain ⟨hv4,hr4⟩:=hT 4 (by decide)
 obtain ⟨hv5,hr5⟩:=hT 5 (by decide)
 obtain ⟨hv6,hr6⟩:=hT 6 (by decide)
 simp only [pool,if_true,hr0,hr1,hr2,hr3,hr4,hr5,hr6,List.nil_append,List.cons_append,List.append_nil] at hS
 simp only [layf,hv0,hv1,hv2,hv3,hv4,hv5,hv6] at hf
 subst hf; clear hT hv0 hv1 hv2 hv3 hv4 hv5 hv6 hr0 hr1 hr2 hr3 hr4 hr5 hr6
 refine wdone rfl ?_
 refine tNo ?_
 refine wT (ev rfl rfl) ?_
 refine wreg (wmv rfl rfl ?_)
 refine wl rfl (oLd ⟨Tryz.isAgg75,Tryz.sizeOf75⟩ hS 0 rfl rfl (ev rfl rfl) rfl rfl rfl ?_)
 refine wl rfl (oNC (a:=⟨g,0,none⟩) rfl rfl (ev rfl rfl) ?_)
 refine wl rfl (oFA (g:=g) (off:=0) 0 rfl rfl (ev rfl rfl) Tryz.runUnderlying78 rfl Tryz.sizeOf75 rfl ?_)
 refine wl rfl (oSt _ _ Tryz.sizeOf75 hS 1 rfl rfl (ev rfl rfl) (ev rfl rfl) rfl rfl rfl rfl rfl rfl ?_)
 clear hS; intro w4 hS
 refine wnil ?_
 refine wret0n Tryz.results37 ?_
 obtain hS:=(show Sep w0 (.blk g [.bool (ng b),.slice pb nb cb] 78 :: .row pb nb cb (lim b.natAbs) :: .blk g1 [.bool (ng b),.slice pb nb cb] 75 :: .row pa na ca (lim a.natAbs) :: R) w4 from Sep.pickT [.blk g1 [.bool (ng b),.slice pb nb cb] 75,.blk g [.bool (ng b),.slice pb nb cb] 78,.row pa na ca (lim a.natAbs),.row pb nb cb (lim b.natAbs)] [.blk g [.bool (ng b),.slice pb nb cb] 78,.row pb nb cb (lim b.natAbs),.blk g1 [.bool (ng b),.slice pb nb cb] 75,.row pa na ca (lim a.natAbs)] hS [1,3,0,2] (by decide) rfl)
 exact ⟨_,_,rfl,⟨_,_,_,rfl,rfl⟩,Sep.pickT [.blk g [.bool (ng b),.slice pb nb cb] 78,.row pb nb cb (lim b.natAbs),.blk g1 [.bool (ng b),.slice pb nb cb] 75,.row pa na ca (lim a.natAbs)] [.blk g [.bool (ng b),.slice pb nb cb] 78,.row pb nb cb (lim b.natAbs)] hS [0,1] (by decide) rfl⟩
theorem wbsee {w0 w:World} {R:List Res} {g na ca nb cb:Nat} {pa pb:Option Addr} {a b m:Int} (hka:Wd a 4000000000) (hkb:Wd b 4000000000) (hm:(if b < a then a else b) = m) (hS:Sep w0 (.blk g [.bool (ng a),.slice pa na ca] 78 :: .row pa na ca (lim a.natAbs) :: .row pb nb cb (lim b.natAbs) :: R) w) :
  Calls Tryz.prog 37 #[.pointer (some ⟨g,0,none⟩),.agg #[.bool (ng b),.slice pb nb cb]] w (RetS (SeT g m) w0 R):=by
 subst hm
 split
 ·exact wbseeG hka hkb (decide_eq_true ‹_›) hS
 exact wbseeL hka hkb (decide_eq_false ‹_›) hS
theorem wbbound {pt:Option Addr} {nt ct:Nat} {T:List (List Int)} {w:World} (hT:TB w pt nt T 67108864) (hr:∀ L ∈ T,L.length = nt) (h0:nt ≠ 0) (h24:nt ≤ 24) :
  Calls Tryz.prog 9 #[.slice pt nt ct] w (Ret (ZEt (mxA (coefs T) (nt + 1)) 0) w):=by
 have hTl:=hT.1
 have hWc:=coefs_wd hT hr h24
 have hCl:=coefs_len T
 have hS:=Sep.init w
 refine went Tryz.func9 rfl (n:=34) rfl rfl ?_
 refine wsr (wl rfl (oAl [.bool false,.slice none 0 0] hS rfl rfl Tryz.zeroValue28 rfl ?_))
 clear hS; intro g1 w2 hS
 refine wavc ?_
 refine wn2 (wmv rfl rfl ?_)
 refine wcl Tryz.call8 (wbcoeffs (hT.at hS) hr h0 h24) (ar1 (ev rfl rfl)) hS ?_
 clear hS; rintro _ _ w3 ⟨pC,cC,QC,hQC,rfl,rfl⟩ hS
 refine wmv rfl rfl ?_
 refine wl rfl (oEx rfl rfl (ev rfl rfl) rfl ?_)
 refine wl rfl (oEx rfl rfl (ev rfl rfl) rfl ?_)
 refine wav rfl rfl ?_
 refine wav rfl rfl ?_
 refine wn1 (wSq (wsr (wmv rfl rfl ?_)))
 refine wbc (u:=.int .i64 0) (v:=.int .i64 0) (z:=.bool false) rfl rfl (bNe (by decide)) ?_
 refine wn1 ?_
 refine wF (ev rfl rfl) ?_
 refine wSk (tNo (wsr ?_))
 have hk1:Wd 0 2:=Wd.i64 (by omega) (by omega)
 refine wcl Tryz.call33 (wzof (z:=0) (by omega) (by omega)) (ar1 evc) hS ?_
 clear hS; rintro _ _ w4 ⟨p1,n1,c1,rfl,rfl⟩ hS
 obtain ⟨z2,hz2⟩:∃ z:Int,Hid (((0:Int).natAbs:Int) = z):=⟨_,rfl⟩
 have hk2:Wd z2 2:=Wd.nabs hk1 hz2
 refine wcl Tryz.call36 ((show Calls _ _ _ _ (Ret (Zt z2) _) from by rw [← hz2.out]; exact wbsize (((hS.sl 0 rfl).zr hk1).mono (by omega)))) (ar1 (ev rfl rfl)) hS ?_
 clear hS; rintro _ _ w5 ⟨p2,n2,c2,rfl,rfl⟩ hS
 refine wl rfl (obuild (ps:=#[(0,.agg #[.bool (ng z2),.slice p2 n2 c2])]) (v:=.agg #[.bool (ng z2),.slice p2 n2 c2]) rfl rfl (parts1 (ev rfl rfl)) (fun w => by simp [go_sem,Instr.build,Instr.fill]) ?_)
 refine wl rfl (oAl [.bool false,.slice none 0 0] hS rfl rfl Tryz.zeroValue78 rfl ?_)
 clear hS; intro g6 w7 hS
 refine wl rfl (oSt _ _ Tryz.sizeOf78 hS 0 rfl rfl (ev rfl rfl) (ev rfl rfl) rfl rfl rfl rfl rfl rfl ?_)
 clear hS; intro w8 hS
 refine wn1 (wSq (wsr (wmv rfl rfl ?_)))
 refine wl rfl (olen rfl rfl rfl Tryz.runUnderlying32 (p:=pC) (k:=nt + 1) (m:=cC) (ev rfl rfl) ?_)
 refine wmvc ?_
 refine wn1 (wBk ?_)
 obtain rfl:(0:Int) = z2:=hz2.out
 refine wLp (σ := Nat) (fun i a9 w' => ∃ (fb:Nat → Value) (pza:Option Addr) (nza:Nat) (cza:Nat),a9 = act 34 (sets fb [(2,.pointer (some ⟨g1,0,none⟩)),(3,.int .i64 0),(6,.pointer (some ⟨g6,0,none⟩)),(21,.slice pC (nt + 1) cC),(22,.int .i64 ((nt + 1:Nat):Int)),(23,.int .i64 (i:Int))]) ∧ Sep w [.blk g6 [.bool (ng ((mxA (coefs T) i))),.slice pza nza cza] 78,.row pza nza cza (lim ((mxA (coefs T) i)).natAbs),.row p1 n1 c1 (lim (0:Int).natAbs),.lst 28 2 pC (nt + 1) cC (zzE QC),.blk g1 [.bool false,.slice none 0 0] 28] w' ∧ (i ≤ nt + 1) ∧ (Wd ((mxA (coefs T) i)) 2000000000)) (fun i => nt + 1 - i) (0) ⟨_,_,_,_,aSs ⟨rfl,rfl,rfl,rfl,rfl,rfl,trivial⟩,hS,Nat.zero_le _,(hk2).mono (by omega)⟩ ?_
 clear hS; rintro i _ w9 ⟨fb,pza,nza,cza,rfl,hS,hi,hkza⟩
 refine wsr ?_
 by_cases hlt:i < nt + 1
 ·
  refine wbt rfl rfl rfl rfl (bLs (decide_eq_true (by omega))) ?_
  refine wn1 (wSq ?_)
  refine wT (ev rfl rfl) ?_
  refine wk2 ?_
  have hCl2:QC.length = nt + 1:=by rw [← zsq_len,hQC,hCl,hTl]
  obtain ⟨gC,hgC⟩:=hS.lstPtr 3 rfl (by omega)
  obtain ⟨⟨px,nx,cx,zx⟩,hqx⟩:∃ q,(QC)[i]? = some q:=⟨_,List.getElem?_eq_getElem (by omega)⟩
  have hzx:(zsq (QC)).getD i 0 = zx:=zsq_get hqx
  have hwx:Wd zx 2000000000:=by rw [← hzx,hQC]; exact hWc i
  refine wl rfl (oIx (p:=pC) (g:=gC) (off:=0) (m:=nt + 1) (k:=i) (j:=(0 + i * 2)) rfl rfl Tryz.runUnderlying32 Tryz.sizeOf28 (ev rfl rfl) hgC (ev rfl rfl) (by omega) rfl ?_)
  refine wl rfl (oloadA aggZ rfl rfl (ev (v:=.pointer (some ⟨gC,(0 + i * 2),none⟩)) rfl rfl) (hS.lstAtA 3 rfl hgC i (zzE_get hqx) (by decide) (by omega)) rfl ?_)
  refine wl rfl (oAl [.bool false,.slice none 0 0] hS rfl rfl Tryz.zeroValue28 rfl ?_)
  clear hS; intro g10 w11 hS
  refine wl rfl (oSt _ _ Tryz.sizeOf28 hS 0 rfl rfl (ev rfl rfl) (ev rfl rfl) rfl rfl rfl rfl rfl rfl ?_)
  clear hS; intro w12 hS
  refine wn1 (wreg (wl rfl (oLd aggZ hS 0 rfl rfl (ev rfl rfl) rfl rfl rfl ?_)))
  obtain ⟨z3,hz3⟩:∃ z:Int,Hid (((zx:Int).natAbs:Int) = z):=⟨_,rfl⟩
  have hk3:Wd z3 2000000000:=Wd.nabs hwx hz3
  refine wcl Tryz.call36 ((show Calls _ _ _ _ (Ret (Zt z3) _) from by rw [← hz3.out]; exact wbsize ((hS.zwZr 4 rfl hqx hwx).mono (by omega)))) (ar1 (ev rfl rfl)) hS ?_
  clear hS; rintro _ _ w13 ⟨p3,n3,c3,rfl,rfl⟩ hS
  obtain hS:=(show Sep w [.blk g6 [.bool (ng ((mxA (coefs T) i))),.slice pza nza cza] 78,.row pza nza cza (lim ((mxA (coefs T) i)).natAbs),.row p3 n3 c3 (lim z3.natAbs),.blk g10 [.bool (ng zx),.slice px nx cx] 28,.row p1 n1 c1 (lim (0:Int).natAbs),.lst 28 2 pC (nt + 1) cC (zzE QC),.blk g1 [.bool false,.slice none 0 0] 28] w13 from hS.pick [2,3,0,1,4,5,6] (by decide) rfl)
  refine wl rfl (oCl rfl rfl Tryz.call37 rfl (wbsee (hkza.mono (by omega)) (hk3.mono (by omega)) (m:=mxA (coefs T) (i + 1)) (by rw [← hz3.out, ← hzx,hQC]; rfl) hS) (ar2 (ev rfl rfl) (ev rfl rfl)) ?_)
  rintro _ w14 ⟨_,_,rfl,⟨p4,n4,c4,rfl,rfl⟩,hN⟩
  refine ⟨_,rfl,?_⟩
  clear hS; have hS:=hN; clear hN
  refine wnil (blkN (tNo (wreg (wbc (z:=.int .i64 ((i + 1:Nat):Int)) rfl rfl (bAd (wI6 (by omega) (by omega))) ?_))))
  refine wmv rfl rfl ?_
  refine wn1 ?_
  exact ⟨(i + 1),⟨_,_,_,_,aSs ⟨rfl,rfl,rfl,rfl,rfl,rfl,trivial⟩,hS.pick [0,1,3,4,5] (by decide) rfl,by omega,mxA_wd hWc _⟩,by omega⟩
 refine wbt rfl rfl rfl rfl (bLs (decide_eq_false (by omega))) ?_
 refine wn1 (wSq ?_)
 refine wF (ev rfl rfl) ?_
 refine wEx ?_
 refine tEx ?_
 refine tEx ?_
 refine blkE ?_
 refine tNo (wsr (wl rfl (oFA (g:=g6) (off:=0) 0 rfl rfl (ev rfl rfl) Tryz.runUnderlying78 rfl Tryz.sizeOf75 rfl ?_)))
 refine wl rfl (oFA (g:=g6) (off:=0) 0 rfl rfl (ev rfl rfl) Tryz.runUnderlying75 rfl Tryz.sizeOf28 rfl ?_)
 refine wl rfl (oLd aggZ hS 0 rfl rfl (ev rfl rfl) rfl rfl rfl ?_)
 refine wl rfl (oSt _ _ Tryz.sizeOf28 hS 4 rfl rfl (ev rfl rfl) (ev rfl rfl) rfl rfl rfl rfl rfl rfl ?_)
 clear hS; intro w10 hS
 refine wavc ?_
 refine wn1 ?_
 refine wLv ?_
 have hin:i = nt + 1:=by omega
 refine wret2 Tryz.results9 (tellC (cs:=[.bool (ng ((mxA (coefs T) i))),.slice pza nza cza]) aggZ hS 4 rfl rfl rfl rfl) (tlT (v:=.int .i64 0) rfl rfl) ?_
 rw [hin] at hS
 exact ⟨_,_,rfl,⟨_,_,_,by rw [hin],rfl⟩,hS.new1 1 rfl⟩
end Go.Proofs.YtnlnibngpeempaaGreatDoor
