/-
  Contracts and lemmas, joined in one text.
-/
import Derived.Test.YtnlnibngpeempaaGreatDoorI0
import Derived.Test.YtnlnibngpeempaaGreatDoorB2
set_option linter.unusedVariables false
set_option linter.unusedSimpArgs false
/-
  The grids of qmat: each,even,cols; Check.
-/
set_option maxRecDepth 100000
set_option maxHeartbeats 16000000
namespace Go.Proofs.YtnlnibngpeempaaGreatDoor
open Go.RowKit
def EAt (F:FuncId) (t:TypeId) (p:Option Addr) (n c:Nat):Tell:=fun v r => ∃ g,v = .func (.func F) #[] #[.pointer (some ⟨g,0,none⟩)] ∧ r = [.blk g [.slice p n c] t]
def ZA (w0:World) (K:Nat) (z:Int):Tell:=fun v r => ∃ b p n c,v = .agg #[.bool b,.slice p n c] ∧ Zr w0 b p n c z K ∧ r = []
def FA (w0:World) (K:Nat) (e:Int × Int):Tell:=fun v r => ∃ b p n c b2 q m d,v = .agg #[.bool b,.slice p n c,.bool b2,.slice q m d] ∧ Zr w0 b p n c e.1 K ∧ Zr w0 b2 q m d e.2 K ∧ r = []
theorem flat_pre {α : Type} {T:List (List α)} {i j:Nat} {L:List α} {z : α} (h:T[i]? = some L) (hj:L[j]? = some z):((T.take i).flatten ++ L.take j) ++ [z] <+: T.flatten:=by
  have e:T.flatten = (T.take (i + 1)).flatten ++ (T.drop (i + 1)).flatten:=by rw [← List.flatten_append,List.take_append_drop]
  have e2:L = L.take (j + 1) ++ L.drop (j + 1):=(List.take_append_drop _ _).symm
  rw [e,flI_S h]
  refine ⟨L.drop (j + 1) ++ (T.drop (i + 1)).flatten,?_⟩
  conv => rhs; rw [e2,take_nx hj]
  simp [List.append_assoc]
def evenB {α : Type} (T:List (List α)):Bool:=T.all fun L => L.length == (T.getD 0 []).length
theorem evenB_of {α : Type} {T:List (List α)} (h:∀ (i:Nat) (L:List α),T[i]? = some L → L.length = (T.getD 0 []).length):evenB T = true:=by
  unfold evenB
  refine List.all_eq_true.2 fun L hL => ?_
  obtain ⟨i,hi⟩:=List.mem_iff_getElem?.1 hL
  simpa using h i L hi
theorem evenB_row {α : Type} {T:List (List α)} (h:evenB T = true):∀ L ∈ T,L.length = (T.getD 0 []).length:=fun L hL => by
  unfold evenB at h
  simpa using List.all_eq_true.1 h L hL
theorem evenB_no {α : Type} {T:List (List α)} {i:Nat} {L:List α} (h:T[i]? = some L) (hn:L.length ≠ (T.getD 0 []).length):evenB T = false:=by
  cases he:evenB T with
  | false => rfl
  | true => exact absurd (evenB_row he L (List.mem_of_getElem? h)) hn
theorem weachI {p:Option Addr} {n c:Nat} {w:World} :
  Calls Tryz.prog 142 #[.slice p n c] w (Ret (EAt 155 162 p n c) w):=by
 have hS:=Sep.init w
 refine went Tryz.func142 rfl (n:=4) rfl rfl ?_
 refine wsr (wl rfl (obox [.slice p n c] hS rfl rfl (ev rfl rfl) rfl ?_))
 clear hS; intro g1 w2 hS
 refine wavc ?_
 refine wn2 (wl rfl (omakeFunc (cs:=#[.pointer (some ⟨g1,0,none⟩)]) rfl rfl (ar1 (ev rfl rfl)) ?_))
 refine wav rfl rfl ?_
 refine wn1 ?_
 refine wLv ?_
 refine wr1 Tryz.results142 (tlT (v:=.func (.func 155) #[] #[.pointer (some ⟨g1,0,none⟩)]) rfl rfl) ?_
 exact ⟨_,_,rfl,⟨g1,rfl,rfl⟩,hS.newR 0 rfl rfl⟩
theorem each_iterI {w0:World} {gb nt ct K:Nat} {pt:Option Addr} {T:List (List Int)} (hT:TB w0 pt nt T K) :
  Iter Tryz.prog 155 #[.pointer (some ⟨gb,0,none⟩)] (ZA w0 K) T.flatten w0 [.blk gb [.slice pt nt ct] 162]:=by
 have hTl:=hT.1
 have hTb:=hT.2.1
 intro l I Ix Rc w hY hI0 hS
 have hS:=(show Sep w0 (.blk gb [.slice pt nt ct] 162 :: Rc) w from hS)
 show Calls Tryz.prog 155 #[.func (.yield l) #[] #[],.pointer (some ⟨gb,0,none⟩)] w _
 refine went Tryz.func155 rfl (n:=25) rfl rfl ?_
 refine wsr (wl rfl (oL1 ⟨Tryz.isAgg162,Tryz.sizeOf162⟩ hS 0 rfl rfl (ev rfl rfl) rfl rfl ?_))
 refine wl rfl (olen rfl rfl rfl Tryz.runUnderlying162 (p:=pt) (k:=nt) (m:=ct) (ev rfl rfl) ?_)
 refine wmvc ?_
 refine wn1 (wBk ?_)
 refine wLp (σ := Nat) (fun i a9 w' => ∃ (fb:Nat → Value) (Rc:List Res),a9 = act 25 (sets fb [(0,.func (.yield l) #[] #[]),(7,.slice pt nt ct),(8,.int .i64 (nt:Int)),(9,.int .i64 (i:Int))]) ∧ Sep w0 (.blk gb [.slice pt nt ct] 162 :: Rc) w' ∧ (i ≤ nt) ∧ (I ((T.take i).flatten) Rc)) (fun i => nt - i) (0) ⟨_,_,aSs ⟨rfl,rfl,rfl,rfl,trivial⟩,hS,Nat.zero_le _,by simpa using hI0⟩ ?_
 clear hS; rintro i _ w1 ⟨fb,Rc,rfl,hS,hi,hI⟩
 refine wsr ?_
 by_cases hli:i < nt
 ·
  refine wbt rfl rfl rfl rfl (bLs (decide_eq_true (by omega))) ?_
  refine wn1 (wSq ?_)
  refine wT (ev rfl rfl) ?_
  refine wk2 ?_
  obtain ⟨xr,hxr⟩:∃ r,(T)[i]? = some r:=⟨_,List.getElem?_eq_getElem (by have:=hT.1; omega)⟩
  obtain ⟨br,ofr,pr,cr,hpr,hcr,hsr⟩:=hT.2.2 i _ hxr
  have hxl:=hsr.2.1
  refine wl rfl (oIx (p:=pt) (g:=br) (off:=ofr) (m:=nt) (k:=i) (j:=(ofr + i * 1)) rfl rfl Tryz.runUnderlying162 Tryz.sizeOf32 (ev rfl rfl) hpr (ev rfl rfl) (by omega) rfl ?_)
  refine wl rfl (oLc ⟨Tryz.isAgg32,Tryz.sizeOf32⟩ rfl rfl (ev rfl rfl) (hS.cellAt (hcr 0 _ rfl)) ?_)
  refine wav rfl rfl ?_
  refine wn2 (wmv rfl rfl ?_)
  refine wl rfl (olen rfl rfl rfl Tryz.runUnderlying32 (p:=pr) (k:=xr.length) (m:=cr) (ev rfl rfl) ?_)
  refine wmvc ?_
  refine wn1 (wBk ?_)
  refine wLp (σ := Nat) (fun j a9 w' => ∃ (fb:Nat → Value) (Rc:List Res),a9 = act 25 (sets fb [(0,.func (.yield l) #[] #[]),(7,.slice pt nt ct),(8,.int .i64 (nt:Int)),(9,.int .i64 (i:Int)),(13,.slice pr xr.length cr),(14,.int .i64 (xr.length:Int)),(15,.int .i64 (j:Int))]) ∧ Sep w0 (.blk gb [.slice pt nt ct] 162 :: Rc) w' ∧ (j ≤ xr.length) ∧ (I ((T.take i).flatten ++ xr.take j) Rc)) (fun j => xr.length - j) (0) ⟨_,_,aSs ⟨rfl,rfl,rfl,rfl,rfl,rfl,rfl,trivial⟩,hS,Nat.zero_le _,by simpa using hI⟩ ?_
  clear hS; rintro j _ w2 ⟨fb,Rc,rfl,hS,hj,hI2⟩
  refine wsr ?_
  by_cases hlj:j < xr.length
  ·
   refine wbt rfl rfl rfl rfl (bLs (decide_eq_true (by omega))) ?_
   refine wn1 (wSq ?_)
   refine wT (ev rfl rfl) ?_
   refine wk2 ?_
   obtain ⟨ze,ge,oe,be,pe,ne,ce,hle,hpe,hce,hze⟩:=hsr.el hlj
   refine wl rfl (oIx (p:=pr) (g:=ge) (off:=oe) (m:=xr.length) (k:=j) (j:=(oe + j * 2)) rfl rfl Tryz.runUnderlying32 Tryz.sizeOf28 (ev rfl rfl) hpe (ev rfl rfl) hlj rfl ?_)
   refine wl rfl (oloadA aggZ rfl rfl (ev rfl rfl) (fun j v hj => hS.cellAt (hce j v hj)) rfl ?_)
   refine wl rfl (oAl [.bool false,.slice none 0 0] hS rfl rfl Tryz.zeroValue28 rfl ?_)
   clear hS; intro g3 w4 hS
   refine wl rfl (oSt _ _ Tryz.sizeOf28 hS 0 rfl rfl (ev rfl rfl) (ev rfl rfl) rfl rfl rfl rfl rfl rfl ?_)
   clear hS; intro w5 hS
   refine wn1 (wSq ?_)
   refine cw_of_cr (m:=0) (rreg ?_)
   refine rl rfl rfl (omove rfl rfl (ev rfl rfl) ?_)
   refine rl rfl rfl (oLd aggZ hS 0 rfl rfl (ev rfl rfl) rfl rfl rfl ?_)
   have hpx:=flat_pre hxr hle
   refine ryield rfl rfl rfl rfl (ev rfl rfl) (ar1 (ev rfl rfl)) (hY 0 _ _ _ [] [.blk g3 [.bool be,.slice pe ne ce] 28,.blk gb [.slice pt nt ct] 162] Rc _ (hpx) hI2 (⟨be,pe,ne,ce,rfl,hze,rfl⟩) hS) ?_
   intro e7 w6 hye7
   by_cases he7:e7 = .returned (.bool true)
   ·
    obtain ⟨rfl,Rc,hI,hS⟩:=hye7.resolve_right (fun h => by have h1:=h.1; rw [he7] at h1; cases h1)
    refine ⟨_,rfl,?_⟩
    refine rl rfl rfl (onot rfl rfl (ev rfl rfl) ?_)
    refine rnil (tNo ?_)
    refine wF (ev rfl rfl) ?_
    refine wSk (blkN (tNo (wreg (wbc (z:=.int .i64 ((j + 1:Nat):Int)) rfl rfl (bAd (wI6 (by omega) (by omega))) ?_))))
    refine wmv rfl rfl ?_
    refine wn1 ?_
    exact ⟨(j + 1),⟨_,_,aSs ⟨rfl,rfl,rfl,rfl,rfl,rfl,rfl,trivial⟩,Sep.pickT [.blk g3 [.bool be,.slice pe ne ce] 28,.blk gb [.slice pt nt ct] 162] [.blk gb [.slice pt nt ct] 162] hS [1] (by decide) rfl,by omega,by rw [take_nx hle, ← List.append_assoc]; exact hI⟩,by omega⟩
   obtain ⟨rfl,Rc,hI,hS⟩:=hye7.resolve_left (fun h => he7 h.1)
   refine ⟨_,rfl,?_⟩
   refine rl rfl rfl (onot rfl rfl (ev rfl rfl) ?_)
   refine rnil (tNo ?_)
   refine wT (ev rfl rfl) ?_
   refine wLv ?_
   refine blkR ?_
   refine thenR ?_
   refine thenR ?_
   refine blkR ?_
   refine blkR ?_
   refine thenR ?_
   refine thenR ?_
   refine blkR ?_
   refine wret0 Tryz.results155 ?_
   exact ⟨⟨_,rfl⟩,.inr ⟨_,Rc,hpx,hI,Sep.behind [.blk g3 [.bool be,.slice pe ne ce] 28,.blk gb [.slice pt nt ct] 162] hS⟩⟩
  refine wbt rfl rfl rfl rfl (bLs (decide_eq_false (by omega))) ?_
  refine wn1 (wSq ?_)
  refine wF (ev rfl rfl) ?_
  refine wEx ?_
  refine tEx ?_
  refine tEx ?_
  refine blkE ?_
  refine blkN (tNo (wreg (wbc (z:=.int .i64 ((i + 1:Nat):Int)) rfl rfl (bAd (wI6 (by omega) (by omega))) ?_)))
  refine wmv rfl rfl ?_
  refine wn1 ?_
  exact ⟨(i + 1),⟨_,_,aSs ⟨rfl,rfl,rfl,rfl,trivial⟩,Sep.pickT [.blk gb [.slice pt nt ct] 162] [.blk gb [.slice pt nt ct] 162] hS [0] (by decide) rfl,by omega,by rw [flI_S hxr]; rwa [show xr.take j = xr from List.take_of_length_le (by omega)] at hI2⟩,by omega⟩
 refine wbt rfl rfl rfl rfl (bLs (decide_eq_false (by omega))) ?_
 refine wn1 (wSq ?_)
 refine wF (ev rfl rfl) ?_
 refine wEx ?_
 refine tEx ?_
 refine tEx ?_
 refine blkE ?_
 refine wret0n Tryz.results155 ?_
 exact ⟨⟨_,rfl⟩,.inl ⟨Rc,by rwa [List.take_of_length_le (by omega)] at hI,Sep.behind [.blk gb [.slice pt nt ct] 162] hS⟩⟩
theorem weachR {p:Option Addr} {n c:Nat} {w:World} :
  Calls Tryz.prog 124 #[.slice p n c] w (Ret (EAt 144 154 p n c) w):=by
 have hS:=Sep.init w
 refine went Tryz.func124 rfl (n:=4) rfl rfl ?_
 refine wsr (wl rfl (obox [.slice p n c] hS rfl rfl (ev rfl rfl) rfl ?_))
 clear hS; intro g1 w2 hS
 refine wavc ?_
 refine wn2 (wl rfl (omakeFunc (cs:=#[.pointer (some ⟨g1,0,none⟩)]) rfl rfl (ar1 (ev rfl rfl)) ?_))
 refine wav rfl rfl ?_
 refine wn1 ?_
 refine wLv ?_
 refine wr1 Tryz.results124 (tlT (v:=.func (.func 144) #[] #[.pointer (some ⟨g1,0,none⟩)]) rfl rfl) ?_
 exact ⟨_,_,rfl,⟨g1,rfl,rfl⟩,hS.newR 0 rfl rfl⟩
theorem each_iterR {w0:World} {gb nt ct K:Nat} {pt:Option Addr} {T:List (List (Int × Int))} (hT:RQb w0 pt nt T K) :
  Iter Tryz.prog 144 #[.pointer (some ⟨gb,0,none⟩)] (FA w0 K) T.flatten w0 [.blk gb [.slice pt nt ct] 154]:=by
 have hTl:=hT.1
 have hTb:=hT.2.1
 intro l I Ix Rc w hY hI0 hS
 have hS:=(show Sep w0 (.blk gb [.slice pt nt ct] 154 :: Rc) w from hS)
 show Calls Tryz.prog 144 #[.func (.yield l) #[] #[],.pointer (some ⟨gb,0,none⟩)] w _
 refine went Tryz.func144 rfl (n:=25) rfl rfl ?_
 refine wsr (wl rfl (oL1 ⟨Tryz.isAgg154,Tryz.sizeOf154⟩ hS 0 rfl rfl (ev rfl rfl) rfl rfl ?_))
 refine wl rfl (olen rfl rfl rfl Tryz.runUnderlying154 (p:=pt) (k:=nt) (m:=ct) (ev rfl rfl) ?_)
 refine wmvc ?_
 refine wn1 (wBk ?_)
 refine wLp (σ := Nat) (fun i a9 w' => ∃ (fb:Nat → Value) (Rc:List Res),a9 = act 25 (sets fb [(0,.func (.yield l) #[] #[]),(7,.slice pt nt ct),(8,.int .i64 (nt:Int)),(9,.int .i64 (i:Int))]) ∧ Sep w0 (.blk gb [.slice pt nt ct] 154 :: Rc) w' ∧ (i ≤ nt) ∧ (I ((T.take i).flatten) Rc)) (fun i => nt - i) (0) ⟨_,_,aSs ⟨rfl,rfl,rfl,rfl,trivial⟩,hS,Nat.zero_le _,by simpa using hI0⟩ ?_
 clear hS; rintro i _ w1 ⟨fb,Rc,rfl,hS,hi,hI⟩
 refine wsr ?_
 by_cases hli:i < nt
 ·
  refine wbt rfl rfl rfl rfl (bLs (decide_eq_true (by omega))) ?_
  refine wn1 (wSq ?_)
  refine wT (ev rfl rfl) ?_
  refine wk2 ?_
  obtain ⟨xr,hxr⟩:∃ r,T[i]? = some r:=⟨_,List.getElem?_eq_getElem (by omega)⟩
  obtain ⟨br,ofr,pr,cr,hpr,hcr,hsr⟩:=hT.2.2 i _ hxr
  have hxl:=hsr.2.1
  refine wl rfl (oIx (p:=pt) (g:=br) (off:=ofr) (m:=nt) (k:=i) (j:=(ofr + i * 1)) rfl rfl Tryz.runUnderlying154 Tryz.sizeOf39 (ev rfl rfl) hpr (ev rfl rfl) (by omega) rfl ?_)
  refine wl rfl (oLc ⟨Tryz.isAgg39,Tryz.sizeOf39⟩ rfl rfl (ev rfl rfl) (hS.cellAt (hcr 0 _ rfl)) ?_)
  refine wav rfl rfl ?_
  refine wn2 (wmv rfl rfl ?_)
  refine wl rfl (olen rfl rfl rfl Tryz.runUnderlying39 (p:=pr) (k:=xr.length) (m:=cr) (ev rfl rfl) ?_)
  refine wmvc ?_
  refine wn1 (wBk ?_)
  refine wLp (σ := Nat) (fun j a9 w' => ∃ (fb:Nat → Value) (Rc:List Res),a9 = act 25 (sets fb [(0,.func (.yield l) #[] #[]),(7,.slice pt nt ct),(8,.int .i64 (nt:Int)),(9,.int .i64 (i:Int)),(13,.slice pr xr.length cr),(14,.int .i64 (xr.length:Int)),(15,.int .i64 (j:Int))]) ∧ Sep w0 (.blk gb [.slice pt nt ct] 154 :: Rc) w' ∧ (j ≤ xr.length) ∧ (I ((T.take i).flatten ++ xr.take j) Rc)) (fun j => xr.length - j) (0) ⟨_,_,aSs ⟨rfl,rfl,rfl,rfl,rfl,rfl,rfl,trivial⟩,hS,Nat.zero_le _,by simpa using hI⟩ ?_
  clear hS; rintro j _ w2 ⟨fb,Rc,rfl,hS,hj,hI2⟩
  refine wsr ?_
  by_cases hlj:j < xr.length
  ·
   refine wbt rfl rfl rfl rfl (bLs (decide_eq_true (by omega))) ?_
   refine wn1 (wSq ?_)
   refine wT (ev rfl rfl) ?_
   refine wk2 ?_
   obtain ⟨ze,ge,oe,be,pe,ne,ce,b2e,qe,me,de,hle,hpe,hce,hze,hye⟩:=hsr.el hlj
   refine wl rfl (oIx (p:=pr) (g:=ge) (off:=oe) (m:=xr.length) (k:=j) (j:=(oe + j * 4)) rfl rfl Tryz.runUnderlying39 Tryz.sizeOf43 (ev rfl rfl) hpe (ev rfl rfl) hlj rfl ?_)
   refine wl rfl (oloadA aggR rfl rfl (ev rfl rfl) (fun j v hj => hS.cellAt (hce j v hj)) rfl ?_)
   refine wl rfl (oAl [.bool false,.slice none 0 0,.bool false,.slice none 0 0] hS rfl rfl Tryz.zeroValue43 rfl ?_)
   clear hS; intro g3 w4 hS
   refine wl rfl (oSt _ _ Tryz.sizeOf43 hS 0 rfl rfl (ev rfl rfl) (ev rfl rfl) rfl rfl rfl rfl rfl rfl ?_)
   clear hS; intro w5 hS
   refine wn1 (wSq ?_)
   refine cw_of_cr (m:=0) (rreg ?_)
   refine rl rfl rfl (omove rfl rfl (ev rfl rfl) ?_)
   refine rl rfl rfl (oLd aggR hS 0 rfl rfl (ev rfl rfl) rfl rfl rfl ?_)
   have hpx:=flat_pre hxr hle
   refine ryield rfl rfl rfl rfl (ev rfl rfl) (ar1 (ev rfl rfl)) (hY 0 _ _ _ [] [.blk g3 [.bool be,.slice pe ne ce,.bool b2e,.slice qe me de] 43,.blk gb [.slice pt nt ct] 154] Rc _ (hpx) hI2 (⟨be,pe,ne,ce,b2e,qe,me,de,rfl,hze,hye,rfl⟩) hS) ?_
   intro e7 w6 hye7
   by_cases he7:e7 = .returned (.bool true)
   ·
    obtain ⟨rfl,Rc,hI,hS⟩:=hye7.resolve_right (fun h => by have h1:=h.1; rw [he7] at h1; cases h1)
    refine ⟨_,rfl,?_⟩
    refine rl rfl rfl (onot rfl rfl (ev rfl rfl) ?_)
    refine rnil (tNo ?_)
    refine wF (ev rfl rfl) ?_
    refine wSk (blkN (tNo (wreg (wbc (z:=.int .i64 ((j + 1:Nat):Int)) rfl rfl (bAd (wI6 (by omega) (by omega))) ?_))))
    refine wmv rfl rfl ?_
    refine wn1 ?_
    exact ⟨(j + 1),⟨_,_,aSs ⟨rfl,rfl,rfl,rfl,rfl,rfl,rfl,trivial⟩,Sep.pickT [.blk g3 [.bool be,.slice pe ne ce,.bool b2e,.slice qe me de] 43,.blk gb [.slice pt nt ct] 154] [.blk gb [.slice pt nt ct] 154] hS [1] (by decide) rfl,by omega,by rw [take_nx hle, ← List.append_assoc]; exact hI⟩,by omega⟩
   obtain ⟨rfl,Rc,hI,hS⟩:=hye7.resolve_left (fun h => he7 h.1)
   refine ⟨_,rfl,?_⟩
   refine rl rfl rfl (onot rfl rfl (ev rfl rfl) ?_)
   refine rnil (tNo ?_)
   refine wT (ev rfl rfl) ?_
   refine wLv ?_
   refine blkR ?_
   refine thenR ?_
   refine thenR ?_
   refine blkR ?_
   refine blkR ?_
   refine thenR ?_
   refine thenR ?_
   refine blkR ?_
   refine wret0 Tryz.results144 ?_
   exact ⟨⟨_,rfl⟩,.inr ⟨_,Rc,hpx,hI,Sep.behind [.blk g3 [.bool be,.slice pe ne ce,.bool b2e,.slice qe me de] 43,.blk gb [.slice pt nt ct] 154] hS⟩⟩
  refine wbt rfl rfl rfl rfl (bLs (decide_eq_false (by omega))) ?_
  refine wn1 (wSq ?_)
  refine wF (ev rfl rfl) ?_
  refine wEx ?_
  refine tEx ?_
  refine tEx ?_
  refine blkE ?_
  refine blkN (tNo (wreg (wbc (z:=.int .i64 ((i + 1:Nat):Int)) rfl rfl (bAd (wI6 (by omega) (by omega))) ?_)))
  refine wmv rfl rfl ?_
  refine wn1 ?_
  exact ⟨(i + 1),⟨_,_,aSs ⟨rfl,rfl,rfl,rfl,trivial⟩,Sep.pickT [.blk gb [.slice pt nt ct] 154] [.blk gb [.slice pt nt ct] 154] hS [0] (by decide) rfl,by omega,by rw [flI_S hxr]; rwa [show xr.take j = xr from List.take_of_length_le (by omega)] at hI2⟩,by omega⟩
 refine wbt rfl rfl rfl rfl (bLs (decide_eq_false (by omega))) ?_
 refine wn1 (wSq ?_)
 refine wF (ev rfl rfl) ?_
 refine wEx ?_
 refine tEx ?_
 refine tEx ?_
 refine blkE ?_
 refine wret0n Tryz.results144 ?_
 exact ⟨⟨_,rfl⟩,.inl ⟨Rc,by rwa [List.take_of_length_le (by omega)] at hI,Sep.behind [.blk gb [.slice pt nt ct] 154] hS⟩⟩
theorem weven {pt:Option Addr} {nt ct K:Nat} {T:List (List Int)} {w:World} (hT:TB w pt nt T K) :
  Calls Tryz.prog 141 #[.slice pt nt ct] w (Ret (Is (.bool (evenB T))) w):=by
 have hTl:=hT.1
 have hTb:=hT.2.1
 have hS:=Sep.init w
 refine went Tryz.func141 rfl (n:=19) rfl rfl ?_
 refine wsr (wavc ?_)
 refine wn1 (wSq (wsr (wmv rfl rfl ?_)))
 refine wl rfl (olen rfl rfl rfl Tryz.runUnderlying162 (p:=pt) (k:=nt) (m:=ct) (ev rfl rfl) ?_)
 refine wmvc ?_
 refine wn1 (wBk ?_)
 refine wLp (σ := Nat) (fun i a9 w' => ∃ (fb:Nat → Value),a9 = act 19 (sets fb [(0,.slice pt nt ct),(5,.slice pt nt ct),(6,.int .i64 (nt:Int)),(7,.int .i64 (i:Int))]) ∧ Sep w [] w' ∧ (i ≤ nt) ∧ (∀ j L,j < i → T[j]? = some L → L.length = (T.getD 0 []).length)) (fun i => nt - i) (0) ⟨_,aSs ⟨rfl,rfl,rfl,rfl,trivial⟩,hS,Nat.zero_le _,fun j L h => absurd h (Nat.not_lt_zero _)⟩ ?_
 clear hS; rintro i _ w1 ⟨fb,rfl,hS,hi,he⟩
 refine wsr ?_
 by_cases hli:i < nt
 ·
  refine wbt rfl rfl rfl rfl (bLs (decide_eq_true (by omega))) ?_
  refine wn1 (wSq ?_)
  refine wT (ev rfl rfl) ?_
  refine wk2 ?_
  obtain ⟨xr,hxr⟩:∃ r,(T)[i]? = some r:=⟨_,List.getElem?_eq_getElem (by have:=hT.1; omega)⟩
  obtain ⟨br,ofr,pr,cr,hpr,hcr,hsr⟩:=hT.2.2 i _ hxr
  obtain ⟨xs0,hxs0⟩:∃ r,(T)[0]? = some r:=⟨_,List.getElem?_eq_getElem (by have:=hT.1; omega)⟩
  obtain ⟨bs0,ofs0,ps0,cs0,hps0,hcs0,hss0⟩:=hT.2.2 0 _ hxs0
  have hx0:T.getD 0 [] = xs0:=by simp [List.getD,hxs0]
  refine wl rfl (oIx (p:=pt) (g:=br) (off:=ofr) (m:=nt) (k:=i) (j:=(ofr + i * 1)) rfl rfl Tryz.runUnderlying162 Tryz.sizeOf32 (ev rfl rfl) hpr (ev rfl rfl) (by omega) rfl ?_)
  refine wl rfl (oLc ⟨Tryz.isAgg32,Tryz.sizeOf32⟩ rfl rfl (ev rfl rfl) (hS.cellAt (hcr 0 _ rfl)) ?_)
  refine wav rfl rfl ?_
  refine wn2 (wmv rfl rfl ?_)
  refine wl rfl (olen rfl rfl rfl Tryz.runUnderlying32 (p:=pr) (k:=xr.length) (m:=cr) (ev rfl rfl) ?_)
  refine wmv rfl rfl ?_
  refine wl rfl (oIx (p:=pt) (g:=bs0) (off:=ofs0) (m:=nt) (k:=0) (j:=(ofs0 + 0 * 1)) rfl rfl Tryz.runUnderlying162 Tryz.sizeOf32 (ev rfl rfl) hps0 evc (by omega) rfl ?_)
  refine wl rfl (oLc ⟨Tryz.isAgg32,Tryz.sizeOf32⟩ rfl rfl (ev rfl rfl) (hS.cellAt (hcs0 0 _ rfl)) ?_)
  refine wl rfl (olen rfl rfl rfl Tryz.runUnderlying32 (p:=ps0) (k:=xs0.length) (m:=cs0) (ev rfl rfl) ?_)
  by_cases hne:xr.length = xs0.length
  ·
   refine wbt rfl rfl rfl rfl (bNe (neF (by omega))) ?_
   refine wn1 ?_
   refine wF (ev rfl rfl) ?_
   refine wSk (blkN (tNo (wreg (wbc (z:=.int .i64 ((i + 1:Nat):Int)) rfl rfl (bAd (wI6 (by omega) (by omega))) ?_))))
   refine wmv rfl rfl ?_
   refine wn1 ?_
   exact ⟨(i + 1),⟨_,aSs ⟨rfl,rfl,rfl,rfl,trivial⟩,hS.pick [] (by decide) rfl,by omega,fun j L h hL => by
    by_cases e:j = i
    ·subst e; rw [hxr] at hL; cases hL; rw [hx0]; omega
    exact he j L (by omega) hL⟩,by omega⟩
  refine wbt rfl rfl rfl rfl (bNe (neT (by omega))) ?_
  refine wn1 ?_
  refine wT (ev rfl rfl) ?_
  refine wsr (wavc ?_)
  refine wn1 ?_
  refine wLv ?_
  refine blkR ?_
  refine thenR ?_
  refine thenR ?_
  refine blkR ?_
  refine thenR ?_
  have hno:=evenB_no hxr (by rw [hx0]; exact hne)
  refine wr1 Tryz.results141 (tlT (v:=.bool false) rfl rfl) ?_
  exact ⟨_,_,rfl,⟨by rw [hno],rfl⟩,hS.new0⟩
 refine wbt rfl rfl rfl rfl (bLs (decide_eq_false (by omega))) ?_
 refine wn1 (wSq ?_)
 refine wF (ev rfl rfl) ?_
 refine wEx ?_
 refine tEx ?_
 refine tEx ?_
 refine blkE ?_
 refine tNo (wsr (wavc ?_))
 refine wn1 ?_
 refine wLv ?_
 refine wr1 Tryz.results141 (tlT (v:=.bool true) rfl rfl) ?_
 have hev:evenB T = true:=evenB_of fun j L hL => he j L (by have:=(List.getElem?_eq_some_iff.1 hL).1; omega) hL
 exact ⟨_,_,rfl,⟨by rw [hev],rfl⟩,hS.new0⟩
theorem wcols {pt:Option Addr} {nt ct K:Nat} {T:List (List Int)} {w:World} (hT:TB w pt nt T K) :
  Calls Tryz.prog 143 #[.slice pt nt ct] w (Ret (Is (.int .i64 (((T.getD 0 []).length:Nat):Int))) w):=by
 have hTl:=hT.1
 have hTb:=hT.2.1
 have hS:=Sep.init w
 refine went Tryz.func143 rfl (n:=10) rfl rfl ?_
 refine wsr (wavc ?_)
 refine wn1 (wSq (wsr (wmv rfl rfl ?_)))
 refine wl rfl (olen rfl rfl rfl Tryz.runUnderlying162 (p:=pt) (k:=nt) (m:=ct) (ev rfl rfl) ?_)
 by_cases h0:nt = 0
 ·
  refine wbc rfl rfl (bEq (eqT (by omega))) ?_
  refine wn1 ?_
  refine wT (ev rfl rfl) ?_
  refine wsr (wavc ?_)
  refine wn1 ?_
  refine wLv ?_
  refine thenR ?_
  have hx0:(T.getD 0 []).length = 0:=by simp [List.getD,show T.length ≤ 0 by omega]
  refine wr1 Tryz.results143 (tlT (v:=.int .i64 0) rfl rfl) ?_
  exact ⟨_,_,rfl,⟨by rw [hx0]; try rfl,rfl⟩,hS.new0⟩
 refine wbc rfl rfl (bEq (eqF (by omega))) ?_
 refine wn1 ?_
 refine wF (ev rfl rfl) ?_
 refine wSk (tNo (wsr (wmv rfl rfl ?_)))
 obtain ⟨xs0,hxs0⟩:∃ r,(T)[0]? = some r:=⟨_,List.getElem?_eq_getElem (by have:=hT.1; omega)⟩
 obtain ⟨bs0,ofs0,ps0,cs0,hps0,hcs0,hss0⟩:=hT.2.2 0 _ hxs0
 have hx0:(T.getD 0 []).length = xs0.length:=by simp [List.getD,hxs0]
 refine wl rfl (oIx (p:=pt) (g:=bs0) (off:=ofs0) (m:=nt) (k:=0) (j:=(ofs0 + 0 * 1)) rfl rfl Tryz.runUnderlying162 Tryz.sizeOf32 (ev rfl rfl) hps0 evc (by omega) rfl ?_)
 refine wl rfl (oLc ⟨Tryz.isAgg32,Tryz.sizeOf32⟩ rfl rfl (ev rfl rfl) (hS.cellAt (hcs0 0 _ rfl)) ?_)
 refine wl rfl (olen rfl rfl rfl Tryz.runUnderlying32 (p:=ps0) (k:=xs0.length) (m:=cs0) (ev rfl rfl) ?_)
 refine wav rfl rfl ?_
 refine wn1 ?_
 refine wLv ?_
 refine wr1 Tryz.results143 (tlT (v:=.int .i64 (xs0.length:Int)) rfl rfl) ?_
 exact ⟨_,_,rfl,⟨by rw [hx0]; try rfl,rfl⟩,hS.new0⟩
def chkM (D:Int) (T:List (List Int)):Int:=if D = 0 then 6 else if evenB T = true then 0 else 2
theorem wqcheck {bd:Bool} {pd pt:Option Addr} {nd' cd nt ct:Nat} {D:Int} {T:List (List Int)} {w:World} (hd:Zr w bd pd nd' cd D 1048576) (hT:TB w pt nt T 1048576) :
  Calls Tryz.prog 121 #[.agg #[.bool bd,.slice pd nd' cd,.slice pt nt ct]] w (Ret (Is (.int .i64 (chkM D T))) w):=by
 have hS:=Sep.init w
 refine went Tryz.func121 rfl (n:=13) rfl rfl ?_
 refine wsr (wl rfl (obox [.bool bd,.slice pd nd' cd,.slice pt nt ct] hS rfl rfl (ev rfl rfl) rfl ?_))
 clear hS; intro g1 w2 hS
 refine wavc ?_
 refine wn1 (wSq (wBk (wsr (wl rfl (oFA (g:=g1) (off:=0) 0 rfl rfl (ev rfl rfl) Tryz.runUnderlying31 rfl Tryz.sizeOf28 rfl ?_)))))
 refine wl rfl (oLd aggZ hS 0 rfl rfl (ev rfl rfl) rfl rfl rfl ?_)
 obtain ⟨s1,hs1⟩:∃ z:Int,Hid ((D:Int).sign = z):=⟨_,rfl⟩
 refine wcl Tryz.call67 (wzsign ((hd.at hS).mono (by omega)) hs1) (ar1 (ev rfl rfl)) hS ?_
 clear hS; rintro _ _ w3 ⟨rfl,rfl⟩ hS
 by_cases h0:D = 0
 ·
  refine wbc rfl rfl (bEq (eqT (by have h9:=hs1.out; rw [h0] at h9; exact h9.symm))) ?_
  refine wav rfl rfl ?_
  refine wn1 ?_
  refine wT (ev rfl rfl) ?_
  refine wsr (wavc ?_)
  refine wn1 ?_
  refine wLv ?_
  refine blkR ?_
  refine thenR ?_
  have hk:chkM D T = 6:=if_pos h0
  refine wr1 Tryz.results121 (tlT (v:=.int .i64 6) rfl rfl) ?_
  exact ⟨_,_,rfl,⟨by rw [hk],rfl⟩,hS.new0⟩
 refine wbc rfl rfl (bEq (eqF (fun h => h0 (Int.sign_eq_zero_iff_zero.1 (hs1.out.trans h))))) ?_
 refine wav rfl rfl ?_
 refine wn1 ?_
 refine wF (ev rfl rfl) ?_
 refine wsr (wl rfl (oFA (g:=g1) (off:=0) 2 rfl rfl (ev rfl rfl) Tryz.runUnderlying31 rfl Tryz.sizeOf22 rfl ?_))
 refine wl rfl (oL1 ⟨Tryz.isAgg22,Tryz.sizeOf22⟩ hS 0 rfl rfl (ev rfl rfl) rfl rfl ?_)
 refine wcl Tryz.call141 (weven (hT.at hS)) (ar1 (ev rfl rfl)) hS ?_
 clear hS; rintro _ _ w4 ⟨rfl,rfl⟩ hS
 refine wl rfl (onot rfl rfl (ev rfl rfl) ?_)
 refine wav rfl rfl ?_
 refine wn1 ?_
 by_cases he:evenB T = true
 ·
  have hk:chkM D T = 0:=by unfold chkM; rw [if_neg h0,if_pos he]
  refine wF ((ev rfl rfl).trans (congrArg Value.bool (by rw [he]; rfl))) ?_
  refine wSk (blkN (tNo (wsr (wavc ?_))))
  refine wn1 ?_
  refine wLv ?_
  refine wr1 Tryz.results121 (tlT (v:=.int .i64 0) rfl rfl) ?_
  exact ⟨_,_,rfl,⟨by rw [hk],rfl⟩,hS.new0⟩
 have hk:chkM D T = 2:=by unfold chkM; rw [if_neg h0,if_neg he]
 refine wT ((ev rfl rfl).trans (congrArg Value.bool (by rw [Bool.eq_false_iff.2 he]; rfl))) ?_
 refine wsr (wavc ?_)
 refine wn1 ?_
 refine wLv ?_
 refine blkR ?_
 refine thenR ?_
 refine wr1 Tryz.results121 (tlT (v:=.int .i64 2) rfl rfl) ?_
 exact ⟨_,_,rfl,⟨by rw [hk],rfl⟩,hS.new0⟩
open Go.RowKit
theorem gz_app (g:Nat) (l:List Int) (x:Int):gz g (l ++ [x]) = Nat.gcd (gz g l) x.natAbs:=by
  induction l generalizing g with
  | nil => rfl
  | cons y l ih => exact ih _
theorem nD_nil {D:Int} (hD:D ≠ 0):mdD D [] = 1:=by
  rw [nD_nat hD]
  show ((D.natAbs / Nat.gcd 0 D.natAbs:Nat):Int) = 1
  rw [Nat.gcd_zero_left,Nat.div_self (by omega)]; rfl
theorem flat_none {T:List (List Int)} (h:evenB T = true) (h0:(T.getD 0 []).length = 0):T.flatten = []:=by
  refine List.flatten_eq_nil_iff.2 fun L hL => ?_
  have:=evenB_row h L hL
  exact List.eq_nil_of_length_eq_zero (by omega)
def GV (gG:Nat) (z:Int) (p:Option Addr) (n c:Nat) (FIX:List Res):List Res:=.blk gG [.bool (ng z),.slice p n c] 28 :: .row p n c (lim z.natAbs) :: FIX
def GJ (gG:Nat) (FIX:List Res) (pre:List Int) (Rc:List Res):Prop := ∃ p n c,Rc = GV gG ((gz 0 pre:Nat):Int) p n c FIX ∧ Wd ((gz 0 pre:Nat):Int) 1048576
def GA (w0:World) (gG:Nat) (FIX:List Res) (pre:List Int) (x:Int) (f':Nat → Value) (R':List Res):Prop :=
  ∃ fa gX b p n c Rc,f' = upd (upd fa 17 (.agg #[.bool b,.slice p n c])) 6 (.pointer (some ⟨gX,0,none⟩)) ∧ fa 5 = .pointer (some ⟨gG,0,none⟩) ∧ Zr w0 b p n c x 1048576 ∧ R' = .blk gX [.bool b,.slice p n c] 28 :: Rc ∧ GJ gG FIX pre Rc
theorem GV.mid {w0 w:World} {gG n c:Nat} {z:Int} {p:Option Addr} {Rf FIX:List Res} {x:Res} (h:Sep w0 (Rf ++ x :: GV gG z p n c FIX) w):Sep w0 (x :: .blk gG [.bool (ng z),.slice p n c] 28 :: .row p n c (lim z.natAbs) :: (Rf ++ FIX)) w:=Sep.front1 (r:=[x,.blk gG [.bool (ng z),.slice p n c] 28,.row p n c (lim z.natAbs)]) h
theorem GV.back {w0 w:World} {gG n c:Nat} {z:Int} {p:Option Addr} {Rf FIX:List Res} (h:Sep w0 (.blk gG [.bool (ng z),.slice p n c] 28 :: .row p n c (lim z.natAbs) :: (Rf ++ FIX)) w):Sep w0 (Rf ++ GV gG z p n c FIX) w:=Sep.front1 (R:=[.blk gG [.bool (ng z),.slice p n c] 28,.row p n c (lim z.natAbs)]) (S:=FIX) h
theorem made_r {k0_ k1_ k2_ k3_ cB:Code} {g_:Operand} {ps_:Array Nat} {as_:Code} (hc:(Tryz.f122).body = some (.seq k3_ (.seq k2_ (.seq (.seq k0_ (.block 0 (.rangeFunc g_ ps_ as_ cB))) k1_)))) {l m gG gX n c nz cz:Nat} {b:Bool} {p pz:Option Addr} {x z0:Int} {f:Nat → Value} {T Rf FIX:List Res} {w0 w:World} {I:List Int → List Res → Prop} {Ix:Code → List Int → List Res → Prop} {L:List Int} (hf:AllAt f [(5,.pointer (some ⟨gG,0,none⟩)),(6,.pointer (some ⟨gX,0,none⟩))]) (hx:Zr w0 b p n c x 1048576) (hkz:Wd z0 1048576) (hI:∀ z1 p n c,Hid ((Int.gcd z0 x:Int) = z1) → Wd z1 1048576 → I L (GV gG z1 p n c FIX)) (hT:T = Rf ++ FIX) (hS:Sep w0 (.blk gX [.bool b,.slice p n c] 28 :: .blk gG [.bool (ng z0),.slice pz nz cz] 28 :: .row pz nz cz (lim z0.natAbs) :: T) w) :
  CR (some l) m Tryz.prog cB (roundEnd w0 I Ix Rf L) (act 83 f) w:=by
 obtain rfl:=(Code.rangeFunc.inj (Code.block.inj (Code.seq.inj (Code.seq.inj (Code.seq.inj (Code.seq.inj (Option.some.inj hc)).2).2).1).2).2).2.2.2
 clear hc
 rw [aSs hf]
 refine rblock (rreg ?_)
 refine rl rfl rfl (oLd aggZ hS 1 rfl rfl (ev rfl rfl) rfl rfl rfl ?_)
 refine rl rfl rfl (oLd aggZ hS 0 rfl rfl (ev rfl rfl) rfl rfl rfl ?_)
 refine rl rfl rfl (obslice (ps:=#[(0,.agg #[.bool (ng z0),.slice pz nz cz]),(1,.agg #[.bool b,.slice p n c])]) (z:=.agg #[.bool false,.slice none 0 0]) [.bool (ng z0),.slice pz nz cz,.bool b,.slice p n c] hS rfl rfl Tryz.runUnderlying32 Tryz.sizeOf28 Tryz.zeroValue28 (parts2 (ev (v:=.agg #[.bool (ng z0),.slice pz nz cz]) rfl rfl) (ev (v:=.agg #[.bool b,.slice p n c]) rfl rfl)) rfl (by decide) fill2 ?_)
 clear hS; intro g1 w2 hS
 obtain ⟨z1,hz1⟩:∃ z:Int,Hid ((Int.gcd z0 x:Int) = z):=⟨_,rfl⟩
 have hk1:Wd z1 1048576:=Wd.gcd hkz hx.wd hz1 (by omega)
 refine rl rfl rfl (oCl rfl rfl Tryz.call101 rfl ((wzGcd_two (hS.blkAt 0 rfl) (((hS.sl 3 rfl).zr hkz).mono (by omega)) ((hx.at hS).mono (by omega)) hkz hx.wd hz1)) (ar1 (ev rfl rfl)) ?_)
 rintro _ w3 ⟨_,_,rfl,⟨p1,n1,c1,rfl,rfl⟩,hN⟩
 refine ⟨_,rfl,?_⟩
 replace hS:=hS.news hN; clear hN
 refine rl rfl rfl (oSt _ _ Tryz.sizeOf28 hS 3 rfl rfl (ev rfl rfl) (ev rfl rfl) rfl rfl rfl rfl rfl rfl ?_)
 clear hS; intro w4 hS
 refine rnil (blkN ?_)
 obtain hS:=(show Sep w0 (.blk gG [.bool (ng z1),.slice p1 n1 c1] 28 :: .row p1 n1 c1 (lim z1.natAbs) :: .blk g1 [.bool (ng z0),.slice pz nz cz,.bool b,.slice p n c] 28 :: .blk gX [.bool b,.slice p n c] 28 :: .row pz nz cz (lim z0.natAbs) :: T) w4 from Sep.pickT [.row p1 n1 c1 (lim z1.natAbs),.blk g1 [.bool (ng z0),.slice pz nz cz,.bool b,.slice p n c] 28,.blk gX [.bool b,.slice p n c] 28,.blk gG [.bool (ng z1),.slice p1 n1 c1] 28,.row pz nz cz (lim z0.natAbs)] [.blk gG [.bool (ng z1),.slice p1 n1 c1] 28,.row p1 n1 c1 (lim z1.natAbs),.blk g1 [.bool (ng z0),.slice pz nz cz,.bool b,.slice p n c] 28,.blk gX [.bool b,.slice p n c] 28,.row pz nz cz (lim z0.natAbs)] hS [3,0,1,2,4] (by decide) rfl)
 obtain hS:=(show Sep w0 (.blk gG [.bool (ng z1),.slice p1 n1 c1] 28 :: .row p1 n1 c1 (lim z1.natAbs) :: T) w4 from Sep.pickT [.blk gG [.bool (ng z1),.slice p1 n1 c1] 28,.row p1 n1 c1 (lim z1.natAbs),.blk g1 [.bool (ng z0),.slice pz nz cz,.bool b,.slice p n c] 28,.blk gX [.bool b,.slice p n c] 28,.row pz nz cz (lim z0.natAbs)] [.blk gG [.bool (ng z1),.slice p1 n1 c1] 28,.row p1 n1 c1 (lim z1.natAbs)] hS [0,1] (by decide) rfl)
 subst hT
 exact ⟨_,hI _ _ _ _ hz1 hk1,GV.back hS⟩
theorem made_rest {k0_ k1_ k2_ cB:Code} (hc:(Tryz.f122).body = some (.seq k2_ (.seq k1_ (.seq k0_ cB)))) {fb:Nat → Value} {gG gB gM E ng_ cg:Nat} {pg:Option Addr} {g:Int} {bd:Bool} {pd pt:Option Addr} {nd' cd nt ct:Nat} {D:Int} {T:List (List Int)} {w0 w:World} (hf:AllAt fb [(1,.slice pt nt ct),(2,.pointer (some ⟨gB,0,none⟩)),(4,.pointer (some ⟨gM,0,none⟩)),(5,.pointer (some ⟨gG,0,none⟩))]) (hd:Zr w0 bd pd nd' cd D 1048576) (hT:TB w0 pt nt T 1048576) (hD:D ≠ 0) (hev:evenB T = true) (hkg:Wd g 1048576) (hg:g = ((gz 0 T.flatten:Nat):Int)) (hb:∀ L ∈ T,L.length ≤ 1048576) (hS:Sep w0 [.obj E (.deferred (some [])),.blk gG [.bool (ng g),.slice pg ng_ cg] 28,.row pg ng_ cg (lim g.natAbs),.blk gB [.bool bd,.slice pd nd' cd] 28,.blk gM [.bool false,.slice none 0 0,.slice none 0 0] 31] w) :
  CW Tryz.prog cB (postM Tryz.prog Tryz.f122 (Ret (MAt (mdD D T.flatten) nt (mdT D T)) w0)) (marked E (act 83 fb)) w:=by
 have hTl:=hT.1
 have hTb:=hT.2.1
 obtain rfl:=(Code.seq.inj (Code.seq.inj (Code.seq.inj (Option.some.inj hc)).2).2).2
 clear hc
 rw [mact_sets hf]
 refine wjoin (I:=fun a9 w' => ∃ (fb:Nat → Value) (gg:Int) (pG:Option Addr) (nG:Nat) (cG:Nat),a9 = marked E (act 83 (sets fb [(1,.slice pt nt ct),(2,.pointer (some ⟨gB,0,none⟩)),(4,.pointer (some ⟨gM,0,none⟩)),(5,.pointer (some ⟨gG,0,none⟩))])) ∧ Sep w0 [.obj E (.deferred (some [])),.blk gG [.bool (ng gg),.slice pG nG cG] 28,.row pG nG cG (lim gg.natAbs),.blk gB [.bool bd,.slice pd nd' cd] 28,.blk gM [.bool false,.slice none 0 0,.slice none 0 0] 31] w' ∧ (gg = gI D T.flatten) ∧ (Wd gg 1048576)) ?_ ?_
 ·
  refine wSq ?_
  refine mreg ?_
  refine ml rfl (oLd aggZ hS 1 rfl rfl (ev rfl rfl) rfl rfl rfl ?_)
  obtain ⟨s1,hs1⟩:∃ z:Int,Hid ((g:Int).sign = z):=⟨_,rfl⟩
  refine ml rfl (oCl rfl rfl Tryz.call67 rfl (wzsign (((hS.sl 2 rfl).zr hkg).mono (by omega)) hs1) (ar1 (ev rfl rfl)) ?_)
  rintro _ w1 ⟨_,_,rfl,⟨rfl,rfl⟩,hN⟩
  refine ⟨_,rfl,?_⟩
  replace hS:=hS.news hN; clear hN
  by_cases hg0:g = 0
  ·
   refine ml rfl (obin rfl rfl (ev rfl rfl) evc (bEq (eqT (by have h9:=hs1.out; rw [hg0] at h9; exact h9.symm))) ?_)
   refine mnil ?_
   refine tNo ?_
   refine mwT (ev rfl rfl) ?_
   refine mreg ?_
   refine ml rfl (oLd aggZ hS 3 rfl rfl (ev rfl rfl) rfl rfl rfl ?_)
   obtain ⟨z2,hz2⟩:∃ z:Int,Hid ((Int.natAbs D:Int) = z):=⟨_,rfl⟩
   have hk2:Wd z2 1048576:=Wd.nabs hd.wd hz2
   refine ml rfl (oCl rfl rfl Tryz.call76 rfl (wzabs ((hd.at hS).mono (by omega)) hz2) (ar1 (ev rfl rfl)) ?_)
   rintro _ w2 ⟨_,_,rfl,⟨p2,n2,c2,rfl,rfl⟩,hN⟩
   refine ⟨_,rfl,?_⟩
   replace hS:=hS.news hN; clear hN
   refine ml rfl (oSt _ _ Tryz.sizeOf28 hS 2 rfl rfl (ev rfl rfl) (ev rfl rfl) rfl rfl rfl rfl rfl rfl ?_)
   clear hS; intro w3 hS
   refine mnil ?_
   refine tNo ?_
   exact ⟨_,z2,_,_,_,mact_sets ⟨rfl,rfl,rfl,rfl,trivial⟩,hS.pick [1,2,0,4,5] (by decide) rfl,by rw [← hz2.out]; unfold gI; rw [show gz 0 T.flatten = 0 by omega,Nat.gcd_zero_left],(hk2).mono (by omega)⟩
  refine ml rfl (obin rfl rfl (ev rfl rfl) evc (bEq (eqF (fun h => hg0 (Int.sign_eq_zero_iff_zero.1 (hs1.out.trans h))))) ?_)
  refine mnil ?_
  refine tNo ?_
  refine mwF (ev rfl rfl) ?_
  refine mreg ?_
  refine ml rfl (oLd aggZ hS 1 rfl rfl (ev rfl rfl) rfl rfl rfl ?_)
  refine ml rfl (oLd aggZ hS 3 rfl rfl (ev rfl rfl) rfl rfl rfl ?_)
  refine ml rfl (obslice (ps:=#[(0,.agg #[.bool (ng g),.slice pg ng_ cg]),(1,.agg #[.bool bd,.slice pd nd' cd])]) (z:=.agg #[.bool false,.slice none 0 0]) [.bool (ng g),.slice pg ng_ cg,.bool bd,.slice pd nd' cd] hS rfl rfl Tryz.runUnderlying32 Tryz.sizeOf28 Tryz.zeroValue28 (parts2 (ev (v:=.agg #[.bool (ng g),.slice pg ng_ cg]) rfl rfl) (ev (v:=.agg #[.bool bd,.slice pd nd' cd]) rfl rfl)) rfl (by decide) fill2 ?_)
  clear hS; intro g2 w3 hS
  obtain ⟨z2,hz2⟩:∃ z:Int,Hid ((Int.gcd g D:Int) = z):=⟨_,rfl⟩
  have hk2:Wd z2 1048576:=Wd.gcd hkg hd.wd hz2 (by omega)
  refine ml rfl (oCl rfl rfl Tryz.call101 rfl ((wzGcd_two (hS.blkAt 0 rfl) (((hS.sl 3 rfl).zr hkg).mono (by omega)) ((hd.at hS).mono (by omega)) hkg hd.wd hz2)) (ar1 (ev rfl rfl)) ?_)
  rintro _ w4 ⟨_,_,rfl,⟨p2,n2,c2,rfl,rfl⟩,hN⟩
  refine ⟨_,rfl,?_⟩
  replace hS:=hS.news hN; clear hN
  refine ml rfl (oSt _ _ Tryz.sizeOf28 hS 3 rfl rfl (ev rfl rfl) (ev rfl rfl) rfl rfl rfl rfl rfl rfl ?_)
  clear hS; intro w5 hS
  refine mnil ?_
  refine tNo ?_
  exact ⟨_,z2,_,_,_,mact_sets ⟨rfl,rfl,rfl,rfl,trivial⟩,hS.pick [2,3,0,5,6] (by decide) rfl,by rw [← hz2.out,hg]; rfl,(hk2).mono (by omega)⟩
 clear hS; rintro _ w1 ⟨fb,gg,pG,nG,cG,rfl,hS,hgg,hkG⟩
 refine wjoin (I:=fun a9 w' => ∃ (fb:Nat → Value) (gk:Int) (pK:Option Addr) (nK:Nat) (cK:Nat),a9 = marked E (act 83 (sets fb [(1,.slice pt nt ct),(2,.pointer (some ⟨gB,0,none⟩)),(4,.pointer (some ⟨gM,0,none⟩)),(5,.pointer (some ⟨gG,0,none⟩))])) ∧ Sep w0 [.obj E (.deferred (some [])),.blk gG [.bool (ng gk),.slice pK nK cK] 28,.row pK nK cK (lim gk.natAbs),.blk gB [.bool bd,.slice pd nd' cd] 28,.blk gM [.bool false,.slice none 0 0,.slice none 0 0] 31] w' ∧ (gk = gS D T.flatten) ∧ (Wd gk 1048576)) ?_ ?_
 ·
  refine wSq ?_
  refine mreg ?_
  refine ml rfl (oLd aggZ hS 3 rfl rfl (ev rfl rfl) rfl rfl rfl ?_)
  obtain ⟨s1,hs1⟩:∃ z:Int,Hid ((D:Int).sign = z):=⟨_,rfl⟩
  refine ml rfl (oCl rfl rfl Tryz.call67 rfl (wzsign ((hd.at hS).mono (by omega)) hs1) (ar1 (ev rfl rfl)) ?_)
  rintro _ w2 ⟨_,_,rfl,⟨rfl,rfl⟩,hN⟩
  refine ⟨_,rfl,?_⟩
  replace hS:=hS.news hN; clear hN
  by_cases hneg:D < 0
  ·
   refine ml rfl (obin rfl rfl (ev rfl rfl) evc (bLs (decide_eq_true ((sgn_ng hs1).2 hneg))) ?_)
   refine mnil ?_
   refine tNo ?_
   refine mwT (ev rfl rfl) ?_
   refine mreg ?_
   refine ml rfl (oLd aggZ hS 1 rfl rfl (ev rfl rfl) rfl rfl rfl ?_)
   obtain ⟨z2,hz2⟩:∃ z:Int,Hid (-gg = z):=⟨_,rfl⟩
   have hk2:Wd z2 1048576:=Wd.neg hkG hz2
   refine ml rfl (oCl rfl rfl Tryz.call102 rfl (wzneg (((hS.sl 2 rfl).zr hkG).mono (by omega)) hz2) (ar1 (ev rfl rfl)) ?_)
   rintro _ w3 ⟨_,_,rfl,⟨p2,n2,c2,rfl,rfl⟩,hN⟩
   refine ⟨_,rfl,?_⟩
   replace hS:=hS.news hN; clear hN
   refine ml rfl (oSt _ _ Tryz.sizeOf28 hS 2 rfl rfl (ev rfl rfl) (ev rfl rfl) rfl rfl rfl rfl rfl rfl ?_)
   clear hS; intro w4 hS
   refine mnil ?_
   refine tNo ?_
   exact ⟨_,z2,_,_,_,mact_sets ⟨rfl,rfl,rfl,rfl,trivial⟩,hS.pick [1,2,0,4,5] (by decide) rfl,by rw [← hz2.out,hgg]; unfold gS; rw [if_pos hneg],(hk2).mono (by omega)⟩
  refine ml rfl (obin rfl rfl (ev rfl rfl) evc (bLs (decide_eq_false (fun h => hneg ((sgn_ng hs1).1 h)))) ?_)
  refine mnil ?_
  refine tNo ?_
  refine mwF (ev rfl rfl) ?_
  refine wSk (tNo ?_)
  skip
  exact ⟨_,gg,_,_,_,mact_sets ⟨rfl,rfl,rfl,rfl,trivial⟩,hS.pick [0,1,2,3,4] (by decide) rfl,by rw [hgg]; unfold gS; rw [if_neg hneg],(hkG).mono (by omega)⟩
 clear hS; rintro _ w2 ⟨fb,gk,pK,nK,cK,rfl,hS,hgk,hkK⟩
 refine wSq ?_
 refine mreg ?_
 refine ml rfl (obuild (ps:=#[]) (v:=.agg #[.bool false,.slice none 0 0,.slice none 0 0]) rfl rfl (parts0) (fun w => by simp [go_sem,Instr.build,Instr.fill]) ?_)
 refine ml rfl (oAl [.bool false,.slice none 0 0,.slice none 0 0] hS rfl rfl Tryz.zeroValue31 rfl ?_)
 clear hS; intro g3 w4 hS
 refine ml rfl (oSt _ _ Tryz.sizeOf31 hS 0 rfl rfl (ev rfl rfl) (ev rfl rfl) rfl rfl rfl rfl rfl rfl ?_)
 clear hS; intro w5 hS
 refine mnil ?_
 refine tNo (wSq ?_)
 refine mreg ?_
 refine ml rfl (oLd aggZ hS 4 rfl rfl (ev rfl rfl) rfl rfl rfl ?_)
 refine ml rfl (oLd aggZ hS 2 rfl rfl (ev rfl rfl) rfl rfl rfl ?_)
 have hgn:gk ≠ 0:=by rw [hgk]; exact gS_ne hD
 obtain ⟨z1,hz1⟩:∃ z:Int,Hid (Int.tdiv D gk = z):=⟨_,rfl⟩
 have hk1:Wd z1 1048576:=Wd.tdiv hd.wd hz1
 refine ml rfl (oCl rfl rfl Tryz.call103 rfl (wzexact ((hd.at hS).mono (by omega)) (((hS.sl 3 rfl).zr hkK).mono (by omega)) hgn (by rw [hgk]; exact Int.tmod_eq_zero_of_dvd gS_dvdD) hz1) (ar2 (ev rfl rfl) (ev rfl rfl)) ?_)
 rintro _ w6 ⟨_,_,rfl,⟨p1,n1,c1,rfl,rfl⟩,hN⟩
 refine ⟨_,rfl,?_⟩
 replace hS:=hS.news hN; clear hN
 refine ml rfl (omove rfl rfl (ev rfl rfl) ?_)
 refine ml rfl (oEx rfl rfl (ev rfl rfl) rfl ?_)
 refine ml rfl (oEx rfl rfl (ev rfl rfl) rfl ?_)
 refine ml rfl (oFA (g:=g3) (off:=0) 0 rfl rfl (ev rfl rfl) Tryz.runUnderlying31 rfl Tryz.sizeOf28 rfl ?_)
 refine ml rfl (oSt _ _ Tryz.sizeOf28 hS 1 rfl rfl (ev rfl rfl) (ev rfl rfl) rfl rfl rfl rfl rfl rfl ?_)
 clear hS; intro w7 hS
 refine mnil ?_
 refine tNo ?_
 refine wjoin (I:=fun a9 w' => ∃ (fb:Nat → Value) (dd:Int) (pD:Option Addr) (nD:Nat) (cD:Nat),a9 = marked E (act 83 (sets fb [(1,.slice pt nt ct),(4,.pointer (some ⟨gM,0,none⟩)),(5,.pointer (some ⟨gG,0,none⟩)),(7,.pointer (some ⟨g3,0,none⟩))])) ∧ Sep w0 [.row pD nD cD (lim dd.natAbs),.blk g3 [.bool (ng dd),.slice pD nD cD,.slice none 0 0] 31,.obj E (.deferred (some [])),.blk gG [.bool (ng gk),.slice pK nK cK] 28,.row pK nK cK (lim gk.natAbs),.blk gB [.bool bd,.slice pd nd' cd] 28,.blk gM [.bool false,.slice none 0 0,.slice none 0 0] 31] w' ∧ (dd = mdD D T.flatten) ∧ (Wd dd 1048576)) ?_ ?_
 ·
  refine wSq ?_
  refine mreg ?_
  refine ml rfl (omove rfl rfl (ev rfl rfl) ?_)
  refine ml rfl (oCl rfl rfl Tryz.call143 rfl (wcols (hT.at hS)) (ar1 (ev rfl rfl)) ?_)
  rintro _ w8 ⟨_,_,rfl,⟨rfl,rfl⟩,hN⟩
  refine ⟨_,rfl,?_⟩
  replace hS:=hS.news hN; clear hN
  by_cases hc0:(T.getD 0 []).length = 0
  ·
   refine ml rfl (obin rfl rfl (ev rfl rfl) evc (bEq (eqT (by omega))) ?_)
   refine mnil ?_
   refine tNo ?_
   refine mwT (ev rfl rfl) ?_
   refine mreg ?_
   have hk2:Wd 1 2:=Wd.i64 (by omega) (by omega)
   refine ml rfl (oCl rfl rfl Tryz.call33 rfl (wzof (z:=1) (by omega) (by omega)) (ar1 evc) ?_)
   rintro _ w9 ⟨_,_,rfl,⟨p2,n2,c2,rfl,rfl⟩,hN⟩
   refine ⟨_,rfl,?_⟩
   replace hS:=hS.news hN; clear hN
   refine ml rfl (oFA (g:=g3) (off:=0) 0 rfl rfl (ev rfl rfl) Tryz.runUnderlying31 rfl Tryz.sizeOf28 rfl ?_)
   refine ml rfl (oSt _ _ Tryz.sizeOf28 hS 2 rfl rfl (ev rfl rfl) (ev rfl rfl) rfl rfl rfl rfl rfl rfl ?_)
   clear hS; intro w10 hS
   refine mnil ?_
   refine tNo ?_
   exact ⟨_,1,_,_,_,mact_sets ⟨rfl,rfl,rfl,rfl,trivial⟩,hS.pick [0,2,3,4,5,6,7] (by decide) rfl,by rw [flat_none hev hc0,nD_nil hD],(hk2).mono (by omega)⟩
  refine ml rfl (obin rfl rfl (ev rfl rfl) evc (bEq (eqF (by omega))) ?_)
  refine mnil ?_
  refine tNo ?_
  refine mwF (ev rfl rfl) ?_
  refine wSk (tNo ?_)
  skip
  exact ⟨_,z1,_,_,_,mact_sets ⟨rfl,rfl,rfl,rfl,trivial⟩,hS.pick [0,1,2,3,4,5,6] (by decide) rfl,by rw [← hz1.out,hgk]; rfl,(hk1).mono (by omega)⟩
 clear hS; rintro _ w8 ⟨fb,dd,pD,nD,cD,rfl,hS,hdd,hkD⟩
 refine wSq (wSq ?_)
 refine mreg ?_
 refine ml rfl (omove rfl rfl (ev rfl rfl) ?_)
 refine ml rfl (olen rfl rfl rfl Tryz.runUnderlying22 (p:=pt) (k:=nt) (m:=ct) (ev rfl rfl) ?_)
 refine ml rfl (omove rfl rfl evc ?_)
 refine mnil ?_
 refine tNo (wBk ?_)
 replace hS:=hS.nilLst 32 1
 refine wLp (σ := Nat) (fun i a9 w' => ∃ (fb:Nat → Value) (V:List Zu) (pX:Option Addr) (cX:Nat),a9 = marked E (act 83 (sets fb [(4,.pointer (some ⟨gM,0,none⟩)),(5,.pointer (some ⟨gG,0,none⟩)),(7,.pointer (some ⟨g3,0,none⟩)),(49,.slice pt nt ct),(50,.int .i64 (nt:Int)),(51,.int .i64 (i:Int))])) ∧ Sep w0 [.lst 32 1 pX i cX (zuT V),.row pD nD cD (lim dd.natAbs),.blk g3 [.bool (ng dd),.slice pD nD cD,.slice pX i cX] 31,.obj E (.deferred (some [])),.blk gG [.bool (ng gk),.slice pK nK cK] 28,.row pK nK cK (lim gk.natAbs),.blk gB [.bool bd,.slice pd nd' cd] 28,.blk gM [.bool false,.slice none 0 0,.slice none 0 0] 31] w' ∧ (i ≤ nt) ∧ (zuv V = (mdT D T).take i)) (fun i => nt - i) (0) ⟨_,[],none,0,mact_sets ⟨rfl,rfl,rfl,rfl,rfl,rfl,trivial⟩,hS,Nat.zero_le _,rfl⟩ ?_
 clear hS; rintro i _ w9 ⟨fb,V,pX,cX,rfl,hS,hi,hV⟩
 refine wSq ?_
 refine mreg ?_
 by_cases hli:i < nt
 ·
  obtain ⟨xr,hxr⟩:∃ r,(T)[i]? = some r:=⟨_,List.getElem?_eq_getElem (by have:=hT.1; omega)⟩
  obtain ⟨br,ofr,pr,cr,hpr,hcr,hsr⟩:=hT.2.2 i _ hxr
  have hbr:=hb xr (List.mem_of_getElem? hxr)
  refine ml rfl (obin rfl rfl (ev rfl rfl) (ev rfl rfl) (bLs (decide_eq_true (by omega))) ?_)
  refine mnil ?_
  refine tNo (wSq ?_)
  refine mwT (ev rfl rfl) ?_
  refine wSk (tNo (wSq (wBk (wSq ?_))))
  refine mreg ?_
  refine ml rfl (oIx (p:=pt) (g:=br) (off:=ofr) (m:=nt) (k:=i) (j:=(ofr + i * 1)) rfl rfl Tryz.runUnderlying22 Tryz.sizeOf32 (ev rfl rfl) hpr (ev rfl rfl) (by omega) rfl ?_)
  refine ml rfl (oLc ⟨Tryz.isAgg32,Tryz.sizeOf32⟩ rfl rfl (ev rfl rfl) (hS.cellAt (hcr 0 _ rfl)) ?_)
  refine ml rfl (oassign rfl rfl (ev rfl rfl) ?_)
  refine mnil ?_
  refine tNo (wSq ?_)
  refine mreg ?_
  refine ml rfl (omove rfl rfl (ev rfl rfl) ?_)
  refine ml rfl (olen rfl rfl rfl Tryz.runUnderlying32 (p:=pr) (k:=xr.length) (m:=cr) (ev rfl rfl) ?_)
  refine ml rfl (omakeL (zs:=[.bool false,.slice none 0 0]) (k:=0) (m:=xr.length) hS rfl rfl Tryz.underlying32 infoInt rfl rfl (by decide) rfl (evc (v:=.int .i64 ((0:Nat):Int))) (ev rfl rfl) (by omega) (by omega) (by omega) ?_)
  clear hS; intro g10 w11 hS
  refine ml rfl (oassign rfl rfl (ev rfl rfl) ?_)
  refine mnil ?_
  refine tNo (wSq (wSq ?_))
  refine mreg ?_
  refine ml rfl (omove rfl rfl (ev rfl rfl) ?_)
  refine ml rfl (olen rfl rfl rfl Tryz.runUnderlying32 (p:=pr) (k:=xr.length) (m:=cr) (ev rfl rfl) ?_)
  refine ml rfl (omove rfl rfl evc ?_)
  refine mnil ?_
  refine tNo (wBk ?_)
  rw [show List.replicate 0 (⟨[.bool false,.slice none 0 0],[]⟩:El) = zzE [] from rfl] at hS
  refine wLp (σ := Nat) (fun j a9 w' => ∃ (fb:Nat → Value) (Q:List Zw) (pY:Option Addr) (cY:Nat),a9 = marked E (act 83 (sets fb [(4,.pointer (some ⟨gM,0,none⟩)),(5,.pointer (some ⟨gG,0,none⟩)),(7,.pointer (some ⟨g3,0,none⟩)),(10,.slice pY j cY),(49,.slice pt nt ct),(50,.int .i64 (nt:Int)),(51,.int .i64 (i:Int)),(58,.slice pr xr.length cr),(59,.int .i64 (xr.length:Int)),(60,.int .i64 (j:Int))])) ∧ Sep w0 [.lst 28 2 pY j cY (zzE Q),.lst 32 1 pX i cX (zuT V),.row pD nD cD (lim dd.natAbs),.blk g3 [.bool (ng dd),.slice pD nD cD,.slice pX i cX] 31,.obj E (.deferred (some [])),.blk gG [.bool (ng gk),.slice pK nK cK] 28,.row pK nK cK (lim gk.natAbs),.blk gB [.bool bd,.slice pd nd' cd] 28,.blk gM [.bool false,.slice none 0 0,.slice none 0 0] 31] w' ∧ (j ≤ xr.length) ∧ (zsq Q = (xr.map (mdX D T.flatten)).take j)) (fun j => xr.length - j) (0) ⟨_,[],_,_,mact_sets ⟨rfl,rfl,rfl,rfl,rfl,rfl,rfl,rfl,rfl,rfl,trivial⟩,hS,Nat.zero_le _,rfl⟩ ?_
  clear hS; rintro j _ w12 ⟨fb,Q,pY,cY,rfl,hS,hj,hQ⟩
  refine wSq ?_
  refine mreg ?_
  by_cases hlj:j < xr.length
  ·
   refine ml rfl (obin rfl rfl (ev rfl rfl) (ev rfl rfl) (bLs (decide_eq_true (by omega))) ?_)
   refine mnil ?_
   refine tNo (wSq ?_)
   refine mwT (ev rfl rfl) ?_
   refine wSk (tNo (wSq (wBk (wSq ?_))))
   refine mreg ?_
   obtain ⟨ze,ge,oe,be,pe,ne,ce,hle,hpe,hce,hze⟩:=hsr.el hlj
   refine ml rfl (oIx (p:=pr) (g:=ge) (off:=oe) (m:=xr.length) (k:=j) (j:=(oe + j * 2)) rfl rfl Tryz.runUnderlying32 Tryz.sizeOf28 (ev rfl rfl) hpe (ev rfl rfl) hlj rfl ?_)
   refine ml rfl (oloadA aggZ rfl rfl (ev rfl rfl) (fun j v hj => hS.cellAt (hce j v hj)) rfl ?_)
   refine ml rfl (oAl [.bool false,.slice none 0 0] hS rfl rfl Tryz.zeroValue28 rfl ?_)
   clear hS; intro g13 w14 hS
   refine ml rfl (oSt _ _ Tryz.sizeOf28 hS 0 rfl rfl (ev rfl rfl) (ev rfl rfl) rfl rfl rfl rfl rfl rfl ?_)
   clear hS; intro w15 hS
   refine mnil ?_
   refine tNo (wSq ?_)
   refine mreg ?_
   refine ml rfl (oLd aggZ hS 0 rfl rfl (ev rfl rfl) rfl rfl rfl ?_)
   refine ml rfl (oLd aggZ hS 6 rfl rfl (ev rfl rfl) rfl rfl rfl ?_)
   have hme:ze ∈ T.flatten:=List.mem_flatten.2 ⟨xr,List.mem_of_getElem? hxr,List.mem_of_getElem? hle⟩
   obtain ⟨z2,hz2⟩:∃ z:Int,Hid (Int.tdiv ze gk = z):=⟨_,rfl⟩
   have hk2:Wd z2 1048576:=Wd.tdiv hze.wd hz2
   refine ml rfl (oCl rfl rfl Tryz.call103 rfl ((wzexact ((hze.at hS).mono (by omega)) (((hS.sl 7 rfl).zr hkK).mono (by omega)) hgn (by rw [hgk]; exact Int.tmod_eq_zero_of_dvd (gS_dvdX hme)) hz2).mono ZEt.m) (ar2 (ev rfl rfl) (ev rfl rfl)) ?_)
   rintro _ w16 ⟨_,_,rfl,⟨p2,n2,c2,rfl,rfl⟩,hN⟩
   refine ⟨_,rfl,?_⟩
   replace hS:=hS.news hN; clear hN
   refine ml rfl (omove rfl rfl (ev rfl rfl) ?_)
   refine ml rfl (oEx rfl rfl (ev rfl rfl) rfl ?_)
   refine ml rfl (oEx rfl rfl (ev rfl rfl) rfl ?_)
   refine ml rfl (oAl [.bool false,.slice none 0 0] hS rfl rfl Tryz.zeroValue28 rfl ?_)
   clear hS; intro g17 w18 hS
   refine ml rfl (oSt _ _ Tryz.sizeOf28 hS 0 rfl rfl (ev rfl rfl) (ev rfl rfl) rfl rfl rfl rfl rfl rfl ?_)
   clear hS; intro w19 hS
   refine ml rfl (oassign rfl rfl (ev rfl rfl) ?_)
   refine mnil ?_
   refine tNo ?_
   refine mreg ?_
   refine ml rfl (omove rfl rfl (ev rfl rfl) ?_)
   refine ml rfl (oLd aggZ hS 0 rfl rfl (ev rfl rfl) rfl rfl rfl ?_)
   refine ml rfl (obslice (ps:=#[(0,.agg #[.bool (ng z2),.slice p2 n2 c2])]) (z:=.agg #[.bool false,.slice none 0 0]) [.bool (ng z2),.slice p2 n2 c2] hS rfl rfl Tryz.runUnderlying32 Tryz.sizeOf28 Tryz.zeroValue28 (parts1 (ev (v:=.agg #[.bool (ng z2),.slice p2 n2 c2]) rfl rfl)) rfl (by decide) fill2_1 ?_)
   clear hS; intro g20 w21 hS
   obtain hS:=(show Sep w0 [.rowm p2 n2 c2 (lim z2.natAbs),.lst 28 2 pY j cY (zzE Q),.blk g20 [.bool (ng z2),.slice p2 n2 c2] 28,.blk g17 [.bool (ng z2),.slice p2 n2 c2] 28,.blk g13 [.bool be,.slice pe ne ce] 28,.lst 32 1 pX i cX (zuT V),.row pD nD cD (lim dd.natAbs),.blk g3 [.bool (ng dd),.slice pD nD cD,.slice pX i cX] 31,.obj E (.deferred (some [])),.blk gG [.bool (ng gk),.slice pK nK cK] 28,.row pK nK cK (lim gk.natAbs),.blk gB [.bool bd,.slice pd nd' cd] 28,.blk gM [.bool false,.slice none 0 0,.slice none 0 0] 31] w21 from hS.pick [2,4,0,1,3,5,6,7,8,9,10,11,12] (by decide) rfl)
   refine ml rfl (oappendL (p:=pY) (m:=j) (c:=cY) (g2:=g20) (c2:=1) (off:=0) [.bool (ng z2),.slice p2 n2 c2] [.rowm p2 n2 c2 (lim z2.natAbs)] hS rfl rfl Tryz.underlying32 infoInt rfl (by decide) (ev rfl rfl) (ev rfl rfl) (fun j v hj => by rw [Nat.zero_add]; exact (blk_cell (hS.blkAt 2 rfl) j).trans hj) rfl rfl rfl (by omega) (by omega) ?_)
   clear hS; intro p23 c24 w22 hS
   refine ml rfl (oassign rfl rfl (ev rfl rfl) ?_)
   refine mnil ?_
   refine blkN (tNo ?_)
   refine mreg ?_
   refine ml rfl (obin (z:=.int .i64 ((j + 1:Nat):Int)) rfl rfl (ev rfl rfl) evc (bAd (wI6 (by omega) (by omega))) ?_)
   refine ml rfl (omove rfl rfl (ev rfl rfl) ?_)
   refine mnil ?_
   refine tNo ?_
   rw [zz_snoc] at hS
   exact ⟨(j + 1),⟨_,_,_,_,mact_sets ⟨rfl,rfl,rfl,rfl,rfl,rfl,rfl,rfl,rfl,rfl,trivial⟩,hS.pick [0,4,5,6,7,8,9,10,11] (by decide) rfl,by omega,by rw [zsq_snoc,hQ,take_nx (show (xr.map (mdX D T.flatten))[j]? = some (mdX D T.flatten ze) by rw [List.getElem?_map,hle]; rfl), ← hz2.out,hgk]; rfl⟩,by omega⟩
  refine ml rfl (obin rfl rfl (ev rfl rfl) (ev rfl rfl) (bLs (decide_eq_false (by omega))) ?_)
  refine mnil ?_
  refine tNo (wSq ?_)
  refine mwF (ev rfl rfl) ?_
  refine wEx ?_
  refine tEx ?_
  refine tEx ?_
  refine blkE ?_
  refine tNo ?_
  refine mreg ?_
  refine ml rfl (oFA (g:=g3) (off:=0) 2 rfl rfl (ev rfl rfl) Tryz.runUnderlying31 rfl Tryz.sizeOf22 rfl ?_)
  refine ml rfl (oL1 ⟨Tryz.isAgg22,Tryz.sizeOf22⟩ hS 3 rfl rfl (ev rfl rfl) rfl rfl ?_)
  refine ml rfl (omove rfl rfl (ev rfl rfl) ?_)
  refine ml rfl (obslice (ps:=#[(0,.slice pY j cY)]) (z:=.slice none 0 0) [.slice pY j cY] hS rfl rfl Tryz.runUnderlying22 Tryz.sizeOf32 Tryz.zeroValue32 (parts1 (ev (v:=.slice pY j cY) rfl rfl)) rfl (by decide) (fill1_1s rfl rfl) ?_)
  clear hS; intro g13 w14 hS
  have hjl:j = xr.length:=by omega
  have hQl:Q.length = j:=by rw [← zsq_len,hQ,List.length_take,List.length_map]; omega
  obtain hS:=(show Sep w0 [.lst 28 2 pY j cY (zzE Q),.lst 32 1 pX i cX (zuT V),.blk g13 [.slice pY j cY] 32,.row pD nD cD (lim dd.natAbs),.blk g3 [.bool (ng dd),.slice pD nD cD,.slice pX i cX] 31,.obj E (.deferred (some [])),.blk gG [.bool (ng gk),.slice pK nK cK] 28,.row pK nK cK (lim gk.natAbs),.blk gB [.bool bd,.slice pd nd' cd] 28,.blk gM [.bool false,.slice none 0 0,.slice none 0 0] 31] w14 from hS.pick [1,2,0,3,4,5,6,7,8,9] (by decide) rfl)
  refine ml rfl (oappendL (p:=pX) (m:=i) (c:=cX) (g2:=g13) (c2:=1) (off:=0) [.slice pY j cY] [.lst 28 2 pY j cY (zzE Q)] hS rfl rfl Tryz.underlying22 infoIRo rfl (by decide) (ev rfl rfl) (ev rfl rfl) (fun j v hj => by rw [Nat.zero_add]; exact (blk_cell (hS.blkAt 2 rfl) j).trans hj) rfl rfl rfl (by omega) (by omega) ?_)
  clear hS; intro p16 c17 w15 hS
  refine ml rfl (oFA (g:=g3) (off:=0) 2 rfl rfl (ev rfl rfl) Tryz.runUnderlying31 rfl Tryz.sizeOf22 rfl ?_)
  refine ml rfl (oSt _ _ Tryz.sizeOf22 hS 3 rfl rfl (ev rfl rfl) (ev rfl rfl) rfl rfl rfl rfl rfl rfl ?_)
  clear hS; intro w18 hS
  refine mnil ?_
  refine blkN (tNo ?_)
  refine mreg ?_
  refine ml rfl (obin (z:=.int .i64 ((i + 1:Nat):Int)) rfl rfl (ev rfl rfl) evc (bAd (wI6 (by omega) (by omega))) ?_)
  refine ml rfl (omove rfl rfl (ev rfl rfl) ?_)
  refine mnil ?_
  refine tNo ?_
  rw [zu_snoc hQl] at hS
  exact ⟨(i + 1),⟨_,_,_,_,mact_sets ⟨rfl,rfl,rfl,rfl,rfl,rfl,trivial⟩,hS.pick [0,2,3,4,5,6,7,8] (by decide) rfl,by omega,by rw [zuv_snoc,hV,hQ,hjl,show (xr.map (mdX D T.flatten)).take xr.length = xr.map (mdX D T.flatten) from List.take_of_length_le (by rw [List.length_map]; omega),take_nx (show (mdT D T)[i]? = some (xr.map (mdX D T.flatten)) by unfold mdT; rw [List.getElem?_map,hxr]; rfl)]⟩,by omega⟩
 refine ml rfl (obin rfl rfl (ev rfl rfl) (ev rfl rfl) (bLs (decide_eq_false (by omega))) ?_)
 refine mnil ?_
 refine tNo (wSq ?_)
 refine mwF (ev rfl rfl) ?_
 refine wEx ?_
 refine tEx ?_
 refine tEx ?_
 refine blkE ?_
 refine tNo (wSq ?_)
 refine mreg ?_
 refine ml rfl (oLd ⟨Tryz.isAgg31,Tryz.sizeOf31⟩ hS 2 rfl rfl (ev rfl rfl) rfl rfl rfl ?_)
 refine ml rfl (oSt _ _ Tryz.sizeOf31 hS 7 rfl rfl (ev rfl rfl) (ev rfl rfl) rfl rfl rfl rfl rfl rfl ?_)
 clear hS; intro w10 hS
 refine mnil ?_
 refine tNo ?_
 refine wLv ?_
 obtain hS:=(show Sep w0 [.obj E (.deferred (some [])),.lst 32 1 pX i cX (zuT V),.row pD nD cD (lim dd.natAbs),.blk g3 [.bool (ng dd),.slice pD nD cD,.slice pX i cX] 31,.blk gG [.bool (ng gk),.slice pK nK cK] 28,.row pK nK cK (lim gk.natAbs),.blk gB [.bool bd,.slice pd nd' cd] 28,.blk gM [.bool (ng dd),.slice pD nD cD,.slice pX i cX] 31] w10 from hS.pick [3,0,1,2,4,5,6,7] (by decide) rfl)
 refine mret1 Tryz.results122 hS (fun w9 hS => (tellC (cs:=[.bool (ng dd),.slice pD nD cD,.slice pX i cX]) ⟨Tryz.isAgg31,Tryz.sizeOf31⟩ hS 6 rfl rfl rfl rfl)) (fun w9 hS => ?_)
 have hin:i = nt:=by omega
 rw [hin,hdd] at hS
 exact ⟨_,_,by rw [hin,hdd],⟨_,_,_,_,_,V,by rw [hV,List.take_of_length_le (show (mdT D T).length ≤ i by unfold mdT; rw [List.length_map]; omega)],rfl,rfl⟩,(hS.pick [1,0] (by decide) rfl).newA rfl⟩
theorem wmade {bd:Bool} {pd pt:Option Addr} {nd' cd nt ct:Nat} {D:Int} {T:List (List Int)} {w:World} (hd:Zr w bd pd nd' cd D 1048576) (hT:TB w pt nt T 1048576) (hD:D ≠ 0) (hev:evenB T = true) (hb:∀ L ∈ T,L.length ≤ 1048576) :
  Calls Tryz.prog 122 #[.agg #[.bool bd,.slice pd nd' cd],.slice pt nt ct] w (Ret (MAt (mdD D T.flatten) nt (mdT D T)) w):=by
 have hS:=Sep.init w
 refine wentM Tryz.func122 rfl (n:=83) rfl rfl ?_
 refine wsr (wl rfl (obox [.bool bd,.slice pd nd' cd] hS rfl rfl (ev rfl rfl) rfl ?_))
 clear hS; intro g1 w2 hS
 refine wl rfl (oAl [.bool false,.slice none 0 0,.slice none 0 0] hS rfl rfl Tryz.zeroValue31 rfl ?_)
 clear hS; intro g3 w4 hS
 refine wn2 (wl rfl (oAl [.bool false,.slice none 0 0] hS rfl rfl Tryz.zeroValue28 rfl ?_))
 clear hS; intro g5 w6 hS
 refine wn1 (wSq (wsr (wmv rfl rfl ?_)))
 refine wcl Tryz.call142 (weachI) (ar1 (ev rfl rfl)) hS ?_
 clear hS; rintro _ _ w7 ⟨git,rfl,rfl⟩ hS
 refine wn1 (wBk ?_)
 replace hS:=hS.nilRow
 obtain hS:=(show Sep w [.blk git [.slice pt nt ct] 162,.blk g5 [.bool false,.slice none 0 0] 28,.row none 0 0 ([]),.blk g1 [.bool bd,.slice pd nd' cd] 28,.blk g3 [.bool false,.slice none 0 0,.slice none 0 0] 31] w7 from hS.pick [1,2,0,4,3] (by decide) rfl)
 obtain hS:=hS.sub (List.take_sublist 5 _)
 obtain ⟨FIX,hFIX⟩:∃ F,F = ([.blk g1 [.bool bd,.slice pd nd' cd] 28,.blk g3 [.bool false,.slice none 0 0,.slice none 0 0] 31]:List Res):=⟨_,rfl⟩
 obtain hS:=(show Sep w ([.blk git [.slice pt nt ct] 162] ++ GV g5 0 none 0 0 FIX) w7 from by rw [hFIX]; exact hS)
 refine wrange (T:=ZA w 1048576) (xs:=T.flatten) (R:=[.blk git [.slice pt nt ct] 162]) (ev rfl rfl) Tryz.call155 (each_iterI hT) hS (GJ g5 FIX) (fun _ _ _ => False) ⟨none,0,0,rfl,Wd.zero _⟩ (GA w g5 FIX) ?_ ?_ ?_ (fun _ _ _ _ _ _ h _ => h.elim)
 ·intro l m pre q v9 r9 Rf Rc W hpx hI hT9 hS
  obtain ⟨b,p,n,c,rfl,hx,rfl⟩:=hT9
  refine rreg ?_
  refine rl rfl rfl (oAl [.bool false,.slice none 0 0] hS rfl rfl Tryz.zeroValue28 rfl ?_)
  clear hS; intro gX W2 hS
  refine rl rfl rfl (oSt _ _ Tryz.sizeOf28 hS 0 rfl rfl (ev rfl rfl) (ev rfl rfl) rfl rfl rfl rfl rfl rfl ?_)
  clear hS; intro W3 hS
  refine rnil (tNo ?_)
  exact ⟨_,_,rfl,⟨_,gX,b,p,n,c,Rc,rfl,rfl,hx,rfl,hI⟩,Sep.front1 (R:=[_]) hS⟩
 ·intro l m pre q f9 Rf R9 W hpx hA hS
  obtain ⟨fa,gX,b,p,n,c,_,rfl,hfa,hx,rfl,p2,n2,c2,rfl,hk2⟩:=hA
  refine made_r rfl ⟨hfa,rfl,trivial⟩ hx hk2 (fun z1 p n c hz hk => ⟨p,n,c,?_,?_⟩) rfl (GV.mid hS)
  ·rw [gz_app, ← hz.out]; rfl
  rw [gz_app]; rw [← hz.out] at hk; exact hk
 rintro D9 Rc W ⟨p2,n2,c2,rfl,hk2⟩ hS
 subst hFIX
 refine blkN (tNo ?_)
 exact made_rest rfl ⟨rfl,rfl,rfl,rfl,trivial⟩ hd hT hD hev hk2 rfl hb hS
theorem chkM_ok {D:Int} {T:List (List Int)} (hD:D ≠ 0) (h:evenB T = true):chkM D T = 0:=by unfold chkM; rw [if_neg hD,if_pos h]
theorem wqnormM {bd:Bool} {pd pt:Option Addr} {nd' cd nt ct:Nat} {D:Int} {T:List (List Int)} {w:World} (hd:Zr w bd pd nd' cd D 1048576) (hT:TB w pt nt T 1048576) (hD:D ≠ 0) (hev:evenB T = true) (hb:∀ L ∈ T,L.length ≤ 1048576) :
  Calls Tryz.prog 99 #[.agg #[.bool bd,.slice pd nd' cd,.slice pt nt ct]] w (Ret (MAe (mdD D T.flatten) nt (mdT D T) 0) w):=by
 have hS:=Sep.init w
 refine went Tryz.func99 rfl (n:=16) rfl rfl ?_
 refine wsr (wl rfl (obox [.bool bd,.slice pd nd' cd,.slice pt nt ct] hS rfl rfl (ev rfl rfl) rfl ?_))
 clear hS; intro g1 w2 hS
 refine wl rfl (oAl [.bool false,.slice none 0 0,.slice none 0 0] hS rfl rfl Tryz.zeroValue31 rfl ?_)
 clear hS; intro g3 w4 hS
 refine wavc ?_
 refine wn1 (wSq (wsr (wl rfl (oLd ⟨Tryz.isAgg31,Tryz.sizeOf31⟩ hS 1 rfl rfl (ev rfl rfl) rfl rfl rfl ?_))))
 refine wcl Tryz.call121 (wqcheck (hd.at hS) (hT.at hS)) (ar1 (ev rfl rfl)) hS ?_
 clear hS; rintro _ _ w5 ⟨rfl,rfl⟩ hS
 refine wav rfl rfl ?_
 refine wn2 (wmv rfl rfl ?_)
 refine wbc rfl rfl (bNe (neF (chkM_ok hD hev))) ?_
 refine wn1 ?_
 refine wF (ev rfl rfl) ?_
 refine wSk (tNo (wsr (wl rfl (oFA (g:=g1) (off:=0) 0 rfl rfl (ev rfl rfl) Tryz.runUnderlying31 rfl Tryz.sizeOf28 rfl ?_))))
 refine wl rfl (oLd aggZ hS 1 rfl rfl (ev rfl rfl) rfl rfl rfl ?_)
 refine wl rfl (oFA (g:=g1) (off:=0) 2 rfl rfl (ev rfl rfl) Tryz.runUnderlying31 rfl Tryz.sizeOf22 rfl ?_)
 refine wl rfl (oL1 ⟨Tryz.isAgg22,Tryz.sizeOf22⟩ hS 1 rfl rfl (ev rfl rfl) rfl rfl ?_)
 refine wcl Tryz.call122 (wmade (hd.at hS) (hT.at hS) hD hev hb) (ar2 (ev rfl rfl) (ev rfl rfl)) hS ?_
 clear hS; rintro _ _ w6 ⟨pDm,nDm,cDm,pm,cm,Vm,hVm,rfl,rfl⟩ hS
 refine wl rfl (oSt _ _ Tryz.sizeOf31 hS 2 rfl rfl (ev rfl rfl) (ev rfl rfl) rfl rfl rfl rfl rfl rfl ?_)
 clear hS; intro w7 hS
 refine wavc ?_
 refine wn1 ?_
 refine wLv ?_
 refine wret2 Tryz.results99 (tellC (cs:=[.bool (ng ((mdD D T.flatten))),.slice pDm nDm cDm,.slice pm nt cm]) ⟨Tryz.isAgg31,Tryz.sizeOf31⟩ hS 2 rfl rfl rfl rfl) (tlT (v:=.int .i64 0) rfl rfl) ?_
 exact ⟨_,_,rfl,⟨_,_,_,_,_,Vm,hVm,rfl,rfl⟩,(hS.pick [0,1] (by decide) rfl).newA rfl⟩
theorem wqnormE {bd:Bool} {pd pt:Option Addr} {nd' cd nt ct:Nat} {D:Int} {T:List (List Int)} {w:World} (hd:Zr w bd pd nd' cd D 1048576) (hT:TB w pt nt T 1048576) (he:chkM D T ≠ 0) :
  Calls Tryz.prog 99 #[.agg #[.bool bd,.slice pd nd' cd,.slice pt nt ct]] w (Ret (Is (.tuple #[.agg #[.bool false,.slice none 0 0,.slice none 0 0],.int .i64 (chkM D T)])) w):=by
 have hS:=Sep.init w
 refine went Tryz.func99 rfl (n:=16) rfl rfl ?_
 refine wsr (wl rfl (obox [.bool bd,.slice pd nd' cd,.slice pt nt ct] hS rfl rfl (ev rfl rfl) rfl ?_))
 clear hS; intro g1 w2 hS
 refine wl rfl (oAl [.bool false,.slice none 0 0,.slice none 0 0] hS rfl rfl Tryz.zeroValue31 rfl ?_)
 clear hS; intro g3 w4 hS
 refine wavc ?_
 refine wn1 (wSq (wsr (wl rfl (oLd ⟨Tryz.isAgg31,Tryz.sizeOf31⟩ hS 1 rfl rfl (ev rfl rfl) rfl rfl rfl ?_))))
 refine wcl Tryz.call121 (wqcheck (hd.at hS) (hT.at hS)) (ar1 (ev rfl rfl)) hS ?_
 clear hS; rintro _ _ w5 ⟨rfl,rfl⟩ hS
 refine wav rfl rfl ?_
 refine wn2 (wmv rfl rfl ?_)
 refine wbc rfl rfl (bNe (neT he)) ?_
 refine wn1 ?_
 refine wT (ev rfl rfl) ?_
 refine wsr (wl rfl (obuild (ps:=#[]) (v:=.agg #[.bool false,.slice none 0 0,.slice none 0 0]) rfl rfl (parts0) (fun w => by simp [go_sem,Instr.build,Instr.fill]) ?_))
 refine wmv rfl rfl ?_
 refine wl rfl (oSt _ _ Tryz.sizeOf31 hS 0 rfl rfl (ev rfl rfl) (ev rfl rfl) rfl rfl rfl rfl rfl rfl ?_)
 clear hS; intro w6 hS
 refine wav rfl rfl ?_
 refine wn1 ?_
 refine wLv ?_
 refine thenR ?_
 refine wret2 Tryz.results99 (tellC (cs:=[.bool false,.slice none 0 0,.slice none 0 0]) ⟨Tryz.isAgg31,Tryz.sizeOf31⟩ hS 0 rfl rfl rfl rfl) (tlT (v:=.int .i64 ((chkM D T))) rfl rfl) ?_
 exact ⟨_,_,rfl,isI,hS.new0⟩
end Go.Proofs.YtnlnibngpeempaaGreatDoor
