/-
  Contracts and lemmas, joined in one text.
-/
import Derived.Test.YtcfcdbeemhjhgaaDoorHB
set_option linter.unusedVariables false
set_option linter.unusedSimpArgs false
/-
  modpoly's Shift,Scale,Sub.
-/
set_option maxRecDepth 100000
set_option maxHeartbeats 16000000
namespace Go.Proofs.YtcfcdbeemhjhgaaDoor
open Go.RowKit
theorem wyShift {pa:Option Addr} {na ca p:Nat} {a:List Nat} {w:World} (ht:Tb w) (ha:Sl w pa na ca a) (hp:MR.Pr p) (hp2:p < 4294967296) (hn:na ≤ 100000)  :
  Calls Tryd.prog 24 #[.slice pa na ca,.int .i64 1,.int .u32 ((p:Nat):Int)] w (Ret (PEt (shiftP p a) 0) w):=by
 have hal:=ha.len
 have hp1:=hp.1
 have hp0:0 < p:=by omega
 have hS:=Sep.init w
 refine went Tryd.func24 rfl (n:=40) rfl rfl ?_
 refine wsr (wavc ?_)
 refine wavc ?_
 refine wn2 (wmv (v:=.int .u32 (p:Int)) rfl rfl ?_)
 refine wmv (v:=.slice pa na ca) rfl rfl ?_
 refine wl rfl (obslice (ps:=#[(0,.slice pa na ca)]) (z:=.slice none 0 0) [.slice pa na ca] hS rfl rfl Tryd.runUnderlying62 Tryd.sizeOf30 Tryd.zeroValue30 (parts1 (ev (v:=.slice pa na ca) rfl rfl)) rfl (by decide) (fill1_1s rfl rfl) ?_)
 clear hS; intro g1 w2 hS
 refine wcl Tryd.call40 (wyall (ht.at hS) (MS.of1 (hS.blkAt 0 rfl) (ha.below hS.below (Nat.le_refl _))) hp hp2 (by decide) (fun x hx => by rw [List.mem_singleton.1 hx]; omega)) (ar2 (ev rfl rfl) (ev rfl rfl)) hS ?_
 clear hS; rintro _ _ w3 ⟨pL,cL,QL,hQL,rfl,rfl⟩ hS
 refine wmv (v:=.tuple #[.agg #[.int .u64 (p:Int)],.slice pL 1 cL,.int .i64 0]) rfl rfl ?_
 refine wl rfl (oEx (vs:=[.agg #[.int .u64 (p:Int)],.slice pL 1 cL,.int .i64 0]) (v:=.agg #[.int .u64 (p:Int)]) rfl rfl (ev rfl rfl) rfl ?_)
 refine wl rfl (oEx (vs:=[.agg #[.int .u64 (p:Int)],.slice pL 1 cL,.int .i64 0]) (v:=.slice pL 1 cL) rfl rfl (ev rfl rfl) rfl ?_)
 refine wl rfl (oEx (vs:=[.agg #[.int .u64 (p:Int)],.slice pL 1 cL,.int .i64 0]) (v:=.int .i64 0) rfl rfl (ev rfl rfl) rfl ?_)
 refine wl rfl (oAl [.int .u64 0] hS rfl rfl Tryd.zeroValue84 rfl ?_)
 clear hS; intro g4 w5 hS
 refine wl rfl (oSt [.int .u64 (p:Int)] [.int .u64 (p:Int)] Tryd.sizeOf84 hS 0 rfl rfl (ev rfl rfl) (ev (v:=.agg #[.int .u64 (p:Int)]) rfl rfl) rfl rfl rfl rfl rfl rfl ?_)
 clear hS; intro w6 hS
 refine wav (v:=.slice pL 1 cL) rfl rfl ?_
 refine wav (v:=.int .i64 0) rfl rfl ?_
 refine wn1 (wSq (wsr (wmv (v:=.int .i64 0) rfl rfl ?_)))
 refine wbc (u:=.int .i64 0) (v:=.int .i64 0) (z:=.bool false) rfl rfl (bNe (by decide)) ?_
 refine wn1 ?_
 refine wF (ev rfl rfl) ?_
 refine wSk (tNo (wSq (wsr (wmv (v:=.int .i64 1) rfl rfl ?_))))
 refine wbc (u:=.int .i64 1) (v:=.int .i64 0) (z:=.bool false) rfl rfl (bLs (by decide)) ?_
 refine wmv (v:=.bool false) rfl rfl ?_
 refine wlOn (e:=24) rfl rfl rfl rfl (omove (v:=.int .i64 1) rfl rfl (ev rfl rfl) ?_)
 refine wlOn (e:=24) rfl rfl rfl rfl (obin (u:=.int .i64 1) (v:=.int .i64 10000) (z:=.bool false) rfl rfl (ev rfl rfl) evc (bin_gtr (by decide)) ?_)
 refine wl rfl (opick (b:=false) (v:=.bool false) rfl rfl (ev rfl rfl) (ev rfl rfl) ?_)
 refine wn1 ?_
 refine wF (ev rfl rfl) ?_
 refine wSk (tNo (wSq (wsr (wmv (v:=.slice pL 1 cL) rfl rfl ?_))))
 obtain ⟨⟨pn,cn,xn⟩,hqn⟩:∃ q,QL[0]? = some q:=⟨_,List.getElem?_eq_getElem (by have h9:=nums_len QL; rw [hQL] at h9; simp at h9; omega)⟩
 have hxn:xn = normP p a:=by have h9:=nums_get hqn; rw [hQL] at h9; simpa using h9.symm
 have hnn:=normP_len p a
 rw [← hxn] at hnn
 obtain ⟨gL,hgL⟩:=hS.lstPtr 1 rfl (by decide)
 refine wl rfl (oIx (p:=pL) (g:=gL) (off:=0) (m:=1) (k:=0) (j:=(0 + 0 * 1)) rfl rfl Tryd.runUnderlying22 Tryd.sizeOf29 (ev rfl rfl) hgL evc (by omega) rfl ?_)
 refine wl rfl (oLc (v:=.slice pn xn.length cn) ⟨Tryd.isAgg29,Tryd.sizeOf29⟩ rfl rfl (ev (v:=.pointer (some ⟨gL,(0 + 0 * 1),none⟩)) rfl rfl) (hS.mRow 1 rfl hqn rfl hgL) ?_)
 refine wl rfl (olen rfl rfl rfl Tryd.runUnderlying29 (p:=pn) (k:=xn.length) (m:=cn) (ev rfl rfl) ?_)
 by_cases h0:xn.length = 0
 ·
  refine wbc (u:=.int .i64 (xn.length:Int)) (v:=.int .i64 0) (z:=.bool true) rfl rfl (bEq (eqT (by omega))) ?_
  refine wn1 ?_
  refine wT (ev rfl rfl) ?_
  refine wsr (wavc ?_)
  refine wavc ?_
  refine wn1 ?_
  refine wLv ?_
  refine thenR ?_
  refine wret2 Tryd.results24 (tlT (v:=.slice none 0 0) rfl rfl) (tlT (v:=.int .i64 0) rfl rfl) ?_
  have hs0:shiftP p a = []:=if_pos (by rw [← hxn]; exact List.length_eq_zero_iff.1 h0)
  obtain hS:=hS.rdoN
  exact ⟨_,_,rfl,⟨none,0,by rw [hs0]; rfl,by rw [hs0]; rfl⟩,hS.newR 0 rfl rfl⟩
 refine wbc (u:=.int .i64 (xn.length:Int)) (v:=.int .i64 0) (z:=.bool false) rfl rfl (bEq (eqF (by omega))) ?_
 refine wn1 ?_
 refine wF (ev rfl rfl) ?_
 refine wSk (tNo (wSq ?_))
 refine wSg 5 [33,34,35,36,37] [[],[0],[],[2],[3,2]] [] [] [] (fun i9 => ([iSv (.int .i64 1),fun _ => Rwn 1 (List.replicate 1 0),iSv (.slice pL 1 cL),iSv (.pointer (some ⟨gL,(0 + 0 * 1),none⟩)),iSv (.slice pn xn.length cn)]:List (List Value → Tell)).getD i9 (fun _ _ _ => False)) hNi (fun d _ _ _ _ h => (by cases d <;> exact h)) (by kernel_rfl) (by kernel_rfl) (by kernel_rfl) hS ?_ ?_
 ·
  refine stM rfl rfl rfl rfl rfl (fun _=>isI) ?_
  refine stT rfl (fun hT hS=>?_) ?_
  ·obtain ⟨hv0,hr0⟩:=hT 0 33 rfl rfl
   obtain hS:=hS.flat1 hr0
   exact .inl ⟨wNo rfl,omakeL (zs:=[.int .u32 0]) (k:=1) (m:=1) (Sep.init _) rfl rfl Tryd.underlying29 infouint32 rfl rfl (by decide) rfl (ev (v:=.int .i64 1) rfl hv0) (ev (v:=.int .i64 1) rfl hv0) (by omega) (by omega) (by omega) fun _ _ h9 => ⟨_,_,rfl,⟨_,_,rfl,rfl⟩,((show Sep _ [.lst 24 1 _ 1 _ (u32E (List.replicate 1 0))] _ from by rw [u32E_rep]; exact h9).lstRow (lims_zeros _)).newH rfl⟩⟩
  refine stM rfl rfl rfl rfl rfl (fun _=>isI) ?_
  refine stT rfl (fun hT hS=>?_) ?_
  ·obtain ⟨hv2,hr2⟩:=hT 2 35 rfl rfl
   obtain hS:=hS.flat1 hr2
   exact inNo rfl (oIx (p:=pL) (g:=gL) (off:=0) (m:=1) (k:=0) (j:=(0 + 0 * 1)) rfl rfl Tryd.runUnderlying22 Tryd.sizeOf29 (ev rfl hv2) hgL evc (by omega) rfl (nSm rfl isI))
  refine stT rfl (fun hT hS=>?_) ?_
  ·obtain ⟨hv3,hr3⟩:=hT 3 36 rfl rfl
   obtain hS:=hS.flat1 hr3
   exact inNo rfl (oLc (v:=.slice pn xn.length cn) ⟨Tryd.isAgg29,Tryd.sizeOf29⟩ rfl rfl (ev (v:=.pointer (some ⟨gL,(0 + 0 * 1),none⟩)) rfl hv3) (hS.mRow 1 rfl hqn rfl hgL) (nSm rfl isI))
  exact sNi
 intro vs ρ w8 f' hf hT hS
 obtain ⟨hv0,hr0⟩:=hT 0 (by decide)
 obtain ⟨pz7,cpz7,hv1,hr1⟩:=(hT 1 (by decide):(Rwn 1 (List.replicate 1 0)) _ _)
 obtain ⟨hv2,hr2⟩:=hT 2 (by decide)
 obtain ⟨hv3,hr3⟩:=hT 3 (by decide)
 obtain ⟨hv4,hr4⟩:=hT 4 (by decide)
 simp only [pool,if_true,hr0,hr1,hr2,hr3,hr4,List.nil_append,List.cons_append,List.append_nil] at hS
 simp only [layf,hv0,hv1,hv2,hv3,hv4] at hf
 subst hf; clear hT hv0 hv1 hv2 hv3 hv4 hr0 hr1 hr2 hr3 hr4
 refine wLt 5 rfl (by kernel_rfl) (oappendR (p:=pz7) (m:=1) (c:=cpz7) (xs:=(List.replicate 1 0)) (k:=xn.length) (c2:=cn) (a:=pn) (ys:=xn) hS rfl rfl Tryd.underlying29 infouint32 (ev (v:=.slice pz7 1 cpz7) rfl rfl) (ev (v:=.slice pn xn.length cn) rfl rfl) ((hS.mFr 2 rfl hqn).sl) (by omega) (by omega) ?_)
 clear hS; intro p10 c11 w9 hS
 refine ⟨hNi,?_⟩
 refine wLt 6 rfl (by kernel_rfl) (oCl rfl rfl Tryd.call41 rfl (wytold (hS.slm 0 rfl)) (ar1 (ev rfl rfl)) ?_)
 rintro _ w12 ⟨_,_,rfl,⟨rfl,rfl⟩,hN⟩
 refine ⟨_,rfl,?_⟩
 replace hS:=hS.news hN; clear hN
 refine ⟨hNi,?_⟩
 refine wLt 7 rfl (by kernel_rfl) (oassign (v:=.slice ((if (1 + xn.length) = 0 then none else p10)) ((1 + xn.length)) ((1 + xn.length))) rfl rfl (ev rfl rfl) ?_)
 refine ⟨hNi,?_⟩
 refine wLt 8 rfl (by kernel_rfl) (oassign (v:=.int .i64 0) rfl rfl evc ?_)
 refine ⟨hNi,?_⟩
 refine wdone rfl ?_
 refine tNo ?_
 refine wLv ?_
 refine wret2 Tryd.results24 (tlT (v:=.slice ((if (1 + xn.length) = 0 then none else p10)) ((1 + xn.length)) ((1 + xn.length))) rfl rfl) (tlT (v:=.int .i64 0) rfl rfl) ?_
 obtain hS:=hS.toRdo
 have hre:List.replicate 1 0 ++ xn = shiftP p a:=by unfold shiftP; rw [← hxn,if_neg (fun h => h0 (by rw [h]; rfl))]; rfl
 have hrl:(1 + xn.length) = (shiftP p a).length:=by rw [← hre]; simp [Nat.add_comm]
 exact ⟨_,_,rfl,⟨_,_,by rw [hrl],by rw [hre,hrl]⟩,hS.newR 0 rfl rfl⟩
theorem wyScale {pa:Option Addr} {na ca p:Nat} {a:List Nat} {w:World} (ht:Tb w) (ha:Sl w pa na ca a) (hp:MR.Pr p) (hp2:p < 4294967296) (hn:na ≤ 100000) {c:Nat} (hc:c < 4294967296) :
  Calls Tryd.prog 25 #[.slice pa na ca,.int .u32 ((c:Nat):Int),.int .u32 ((p:Nat):Int)] w (Ret (PEt (scaleP p a c) 0) w):=by
 have hal:=ha.len
 have hp1:=hp.1
 have hp0:0 < p:=by omega
 have hm9:=Nat.mod_lt c hp0
 have hS:=Sep.init w
 refine went Tryd.func25 rfl (n:=34) rfl rfl ?_
 refine wsr (wavc ?_)
 refine wavc ?_
 refine wn2 (wmv (v:=.int .u32 (p:Int)) rfl rfl ?_)
 refine wmv (v:=.slice pa na ca) rfl rfl ?_
 refine wl rfl (obslice (ps:=#[(0,.slice pa na ca)]) (z:=.slice none 0 0) [.slice pa na ca] hS rfl rfl Tryd.runUnderlying62 Tryd.sizeOf30 Tryd.zeroValue30 (parts1 (ev (v:=.slice pa na ca) rfl rfl)) rfl (by decide) (fill1_1s rfl rfl) ?_)
 clear hS; intro g1 w2 hS
 refine wcl Tryd.call40 (wyall (ht.at hS) (MS.of1 (hS.blkAt 0 rfl) (ha.below hS.below (Nat.le_refl _))) hp hp2 (by decide) (fun x hx => by rw [List.mem_singleton.1 hx]; omega)) (ar2 (ev rfl rfl) (ev rfl rfl)) hS ?_
 clear hS; rintro _ _ w3 ⟨pL,cL,QL,hQL,rfl,rfl⟩ hS
 refine wmv (v:=.tuple #[.agg #[.int .u64 (p:Int)],.slice pL 1 cL,.int .i64 0]) rfl rfl ?_
 refine wl rfl (oEx (vs:=[.agg #[.int .u64 (p:Int)],.slice pL 1 cL,.int .i64 0]) (v:=.agg #[.int .u64 (p:Int)]) rfl rfl (ev rfl rfl) rfl ?_)
 refine wl rfl (oEx (vs:=[.agg #[.int .u64 (p:Int)],.slice pL 1 cL,.int .i64 0]) (v:=.slice pL 1 cL) rfl rfl (ev rfl rfl) rfl ?_)
 refine wl rfl (oEx (vs:=[.agg #[.int .u64 (p:Int)],.slice pL 1 cL,.int .i64 0]) (v:=.int .i64 0) rfl rfl (ev rfl rfl) rfl ?_)
 refine wl rfl (oAl [.int .u64 0] hS rfl rfl Tryd.zeroValue84 rfl ?_)
 clear hS; intro g4 w5 hS
 refine wl rfl (oSt [.int .u64 (p:Int)] [.int .u64 (p:Int)] Tryd.sizeOf84 hS 0 rfl rfl (ev rfl rfl) (ev (v:=.agg #[.int .u64 (p:Int)]) rfl rfl) rfl rfl rfl rfl rfl rfl ?_)
 clear hS; intro w6 hS
 refine wav (v:=.slice pL 1 cL) rfl rfl ?_
 refine wav (v:=.int .i64 0) rfl rfl ?_
 refine wn1 (wSq (wsr (wmv (v:=.int .i64 0) rfl rfl ?_)))
 refine wbc (u:=.int .i64 0) (v:=.int .i64 0) (z:=.bool false) rfl rfl (bNe (by decide)) ?_
 refine wn1 ?_
 refine wF (ev rfl rfl) ?_
 refine wSk (tNo (wSq ?_))
 obtain ⟨⟨pn,cn,xn⟩,hqn⟩:∃ q,QL[0]? = some q:=⟨_,List.getElem?_eq_getElem (by have h9:=nums_len QL; rw [hQL] at h9; simp at h9; omega)⟩
 have hxn:xn = normP p a:=by have h9:=nums_get hqn; rw [hQL] at h9; simpa using h9.symm
 have hnn:=normP_len p a
 rw [← hxn] at hnn
 obtain ⟨gL,hgL⟩:=hS.lstPtr 1 rfl (by decide)
 refine wSg 11 [22,23,24,25,26,27,28,29,30,31,32] [[],[],[1],[2,1],[],[4],[],[6],[5,7,4,6],[8,4,5,6,7],[0,3,9,1,2,4,5,6,7,8]] [] [] [] (fun i9 => ([iSv (.agg #[.int .u64 (p:Int)]),iSv (.slice pL 1 cL),iSv (.pointer (some ⟨gL,(0 + 0 * 1),none⟩)),iSv (.slice pn xn.length cn),iSv (.int .u32 (c:Int)),iSv (.int .u64 (c:Int)),iSv (.pointer (some ⟨g4,0,none⟩)),iSv (.int .u64 (p:Int)),iSv (.int .u64 ((c % p:Nat):Int)),iSv (.int .u32 ((c % p:Nat):Int)),fun _ => Rwt (trimL (xn.map (· * (c % p) % p)))]:List (List Value → Tell)).getD i9 (fun _ _ _ => False)) hNi (fun d _ _ _ _ h => (by cases d <;> exact h)) (by kernel_rfl) (by kernel_rfl) (by kernel_rfl) hS ?_ ?_
 ·
  refine stH rfl (fun ho hS=>?_) ?_
  ·exact inNo rfl (oLd (vs:=[.int .u64 (p:Int)]) ⟨Tryd.isAgg84,Tryd.sizeOf84⟩ hS 0 rfl rfl (ev rfl (ho 8 rfl)) rfl rfl rfl (nSm rfl isI))
  refine stM rfl rfl rfl rfl rfl (fun _=>isI) ?_
  refine stT rfl (fun hT hS=>?_) ?_
  ·obtain ⟨hv1,hr1⟩:=hT 1 23 rfl rfl
   obtain hS:=hS.flat1 hr1
   exact inNo rfl (oIx (p:=pL) (g:=gL) (off:=0) (m:=1) (k:=0) (j:=(0 + 0 * 1)) rfl rfl Tryd.runUnderlying22 Tryd.sizeOf29 (ev rfl hv1) hgL evc (by omega) rfl (nSm rfl isI))
  refine stT rfl (fun hT hS=>?_) ?_
  ·obtain ⟨hv2,hr2⟩:=hT 2 24 rfl rfl
   obtain hS:=hS.flat1 hr2
   exact inNo rfl (oLc (v:=.slice pn xn.length cn) ⟨Tryd.isAgg29,Tryd.sizeOf29⟩ rfl rfl (ev (v:=.pointer (some ⟨gL,(0 + 0 * 1),none⟩)) rfl hv2) (hS.mRow 1 rfl hqn rfl hgL) (nSm rfl isI))
  refine stM rfl rfl rfl rfl rfl (fun _=>isI) ?_
  refine stT rfl (fun hT hS=>?_) ?_
  ·obtain ⟨hv4,hr4⟩:=hT 4 26 rfl rfl
   obtain hS:=hS.flat1 hr4
   exact inNo rfl (oCv (u:=.int .u32 (c:Int)) (v:=.int .u64 (c:Int)) rfl rfl (ev rfl hv4) (cvI Tryd.runUnderlying24 Tryd.runUnderlying44 (wU6 (by omega) (by omega))) (nSm rfl isI))
  refine stH rfl (fun ho _=>?_) ?_
  ·exact inNo rfl (oFA (g:=g4) (off:=0) 0 rfl rfl (ev rfl (ho 8 rfl)) Tryd.runUnderlying84 rfl Tryd.sizeOf44 rfl (nSm rfl isI))
  refine stT rfl (fun hT hS=>?_) ?_
  ·obtain ⟨hv6,hr6⟩:=hT 6 28 rfl rfl
   obtain hS:=hS.flat1 hr6
   exact inNo rfl (oL1 (v:=.int .u64 (p:Int)) ⟨Tryd.isAgg44,Tryd.sizeOf44⟩ hS 0 rfl rfl (ev rfl hv6) rfl rfl (nSm rfl isI))
  refine stT rfl (fun hT hS=>?_) ?_
  ·obtain ⟨hv5,hr5⟩:=hT 5 27 rfl rfl
   obtain ⟨hv7,hr7⟩:=hT 7 29 rfl rfl
   obtain hS:=hS.flat2 hr5 hr7
   exact inNo rfl (obin (u:=.int .u64 (c:Int)) (v:=.int .u64 (p:Int)) (z:=.int .u64 ((c % p:Nat):Int)) rfl rfl (ev rfl hv5) (ev rfl hv7) (bin_rem (by omega) rfl) (nSm rfl isI))
  refine stT rfl (fun hT hS=>?_) ?_
  ·obtain ⟨hv8,hr8⟩:=hT 8 30 rfl rfl
   obtain hS:=hS.flat1 hr8
   exact inNo rfl (oCv (u:=.int .u64 ((c % p:Nat):Int)) (v:=.int .u32 ((c % p:Nat):Int)) rfl rfl (ev rfl hv8) (cvI Tryd.runUnderlying44 Tryd.runUnderlying24 (wrap_u32 (by omega) (by omega))) (nSm rfl isI))
  refine stT rfl (fun hT hS=>?_) ?_
  ·obtain ⟨hv0,hr0⟩:=hT 0 22 rfl rfl
   obtain ⟨hv3,hr3⟩:=hT 3 25 rfl rfl
   obtain ⟨hv9,hr9⟩:=hT 9 31 rfl rfl
   obtain hS:=hS.flat3 hr0 hr3 hr9
   exact .inl ⟨wNo rfl,oCl rfl rfl Tryd.call42 rfl (wyscale (hS.mFr 1 rfl hqn).sl hp0 hp2 (by omega) (by omega)) (args3 (ev rfl hv0) (ev rfl hv3) (ev rfl hv9)) cNw⟩
  exact sNi
 intro vs ρ w7 f' hf hT hS
 obtain ⟨hv0,hr0⟩:=hT 0 (by decide)
 obtain ⟨hv1,hr1⟩:=hT 1 (by decide)
 obtain ⟨hv2,hr2⟩:=hT 2 (by decide)
 obtain ⟨hv3,hr3⟩:=hT 3 (by decide)
 obtain ⟨hv4,hr4⟩:=hT 4 (by decide)
 obtain ⟨hv5,hr5⟩:=hT 5 (by decide)
 obtain ⟨hv6,hr6⟩:=hT 6 (by decide)
 obtain ⟨hv7,hr7⟩:=hT 7 (by decide)
 obtain ⟨hv8,hr8⟩:=hT 8 (by decide)
 obtain ⟨hv9,hr9⟩:=hT 9 (by decide)
 obtain ⟨pK,cK,hv10,hr10⟩:=(hT 10 (by decide):(Rwt (trimL (xn.map (· * (c % p) % p)))) _ _)
 simp only [pool,if_true,hr0,hr1,hr2,hr3,hr4,hr5,hr6,hr7,hr8,hr9,hr10,List.nil_append,List.cons_append,List.append_nil] at hS
 simp only [layf,hv0,hv1,hv2,hv3,hv4,hv5,hv6,hv7,hv8,hv9,hv10] at hf
 subst hf; clear hT hv0 hv1 hv2 hv3 hv4 hv5 hv6 hv7 hv8 hv9 hv10 hr0 hr1 hr2 hr3 hr4 hr5 hr6 hr7 hr8 hr9 hr10
 refine wLt 11 rfl (by kernel_rfl) (oCl rfl rfl Tryd.call41 rfl (wytold (hS.slm 0 rfl)) (ar1 (ev rfl rfl)) ?_)
 rintro _ w8 ⟨_,_,rfl,⟨rfl,rfl⟩,hN⟩
 refine ⟨_,rfl,?_⟩
 replace hS:=hS.news hN; clear hN
 refine ⟨hNi,?_⟩
 refine wLt 12 rfl (by kernel_rfl) (oassign (v:=.slice ((if (trimL (xn.map (· * (c % p) % p))).length = 0 then none else pK)) ((trimL (xn.map (· * (c % p) % p))).length) ((trimL (xn.map (· * (c % p) % p))).length)) rfl rfl (ev rfl rfl) ?_)
 refine ⟨hNi,?_⟩
 refine wLt 13 rfl (by kernel_rfl) (oassign (v:=.int .i64 0) rfl rfl evc ?_)
 refine ⟨hNi,?_⟩
 refine wdone rfl ?_
 refine tNo ?_
 refine wLv ?_
 refine wret2 Tryd.results25 (tlT (v:=.slice ((if (trimL (xn.map (· * (c % p) % p))).length = 0 then none else pK)) ((trimL (xn.map (· * (c % p) % p))).length) ((trimL (xn.map (· * (c % p) % p))).length)) rfl rfl) (tlT (v:=.int .i64 0) rfl rfl) ?_
 obtain hS:=hS.toRdo
 have hre:trimL (xn.map (· * (c % p) % p)) = scaleP p a c:=by rw [hxn]; rfl
 exact ⟨_,_,rfl,⟨_,_,by rw [hre],by rw [hre]⟩,hS.newR 0 rfl rfl⟩
theorem wySub {pa pb:Option Addr} {na ca nb cb p:Nat} {a b:List Nat} {w:World} (ht:Tb w) (ha:Sl w pa na ca a) (hb:Sl w pb nb cb b) (hp:MR.Pr p) (hp2:p < 4294967296) (hn:na ≤ 100000) (hnb2:nb ≤ 100000) :
  Calls Tryd.prog 26 #[.slice pa na ca,.slice pb nb cb,.int .u32 ((p:Nat):Int)] w (Ret (PEt (subP p a b) 0) w):=by
 have hal:=ha.len
 have hp1:=hp.1
 have hp0:0 < p:=by omega
 have hbl:=hb.len
 have hS:=Sep.init w
 refine went Tryd.func26 rfl (n:=34) rfl rfl ?_
 refine wsr (wavc ?_)
 refine wavc ?_
 refine wn2 (wmv (v:=.int .u32 (p:Int)) rfl rfl ?_)
 refine wmv (v:=.slice pa na ca) rfl rfl ?_
 refine wmv (v:=.slice pb nb cb) rfl rfl ?_
 refine wl rfl (obslice (ps:=#[(0,.slice pa na ca),(1,.slice pb nb cb)]) (z:=.slice none 0 0) [.slice pa na ca,.slice pb nb cb] hS rfl rfl Tryd.runUnderlying62 Tryd.sizeOf30 Tryd.zeroValue30 (parts2 (ev (v:=.slice pa na ca) rfl rfl) (ev (v:=.slice pb nb cb) rfl rfl)) rfl (by decide) fill1_2h ?_)
 clear hS; intro g1 w2 hS
 refine wcl Tryd.call40 (wyall (ht.at hS) (MS.of2 (hS.blkAt 0 rfl) (ha.below hS.below (Nat.le_refl _)) (hb.below hS.below (Nat.le_refl _))) hp hp2 (by decide) (fun x hx => (List.mem_cons.1 hx).elim (fun e => by rw [e]; omega) (fun h => by rw [List.mem_singleton.1 h]; omega))) (ar2 (ev rfl rfl) (ev rfl rfl)) hS ?_
 clear hS; rintro _ _ w3 ⟨pL,cL,QL,hQL,rfl,rfl⟩ hS
 refine wmv (v:=.tuple #[.agg #[.int .u64 (p:Int)],.slice pL 2 cL,.int .i64 0]) rfl rfl ?_
 refine wl rfl (oEx (vs:=[.agg #[.int .u64 (p:Int)],.slice pL 2 cL,.int .i64 0]) (v:=.agg #[.int .u64 (p:Int)]) rfl rfl (ev rfl rfl) rfl ?_)
 refine wl rfl (oEx (vs:=[.agg #[.int .u64 (p:Int)],.slice pL 2 cL,.int .i64 0]) (v:=.slice pL 2 cL) rfl rfl (ev rfl rfl) rfl ?_)
 refine wl rfl (oEx (vs:=[.agg #[.int .u64 (p:Int)],.slice pL 2 cL,.int .i64 0]) (v:=.int .i64 0) rfl rfl (ev rfl rfl) rfl ?_)
 refine wl rfl (oAl [.int .u64 0] hS rfl rfl Tryd.zeroValue84 rfl ?_)
 clear hS; intro g4 w5 hS
 refine wl rfl (oSt [.int .u64 (p:Int)] [.int .u64 (p:Int)] Tryd.sizeOf84 hS 0 rfl rfl (ev rfl rfl) (ev (v:=.agg #[.int .u64 (p:Int)]) rfl rfl) rfl rfl rfl rfl rfl rfl ?_)
 clear hS; intro w6 hS
 refine wav (v:=.slice pL 2 cL) rfl rfl ?_
 refine wav (v:=.int .i64 0) rfl rfl ?_
 refine wn1 (wSq (wsr (wmv (v:=.int .i64 0) rfl rfl ?_)))
 refine wbc (u:=.int .i64 0) (v:=.int .i64 0) (z:=.bool false) rfl rfl (bNe (by decide)) ?_
 refine wn1 ?_
 refine wF (ev rfl rfl) ?_
 refine wSk (tNo (wSq ?_))
 obtain ⟨⟨pn,cn,xn⟩,hqn⟩:∃ q,QL[0]? = some q:=⟨_,List.getElem?_eq_getElem (by have h9:=nums_len QL; rw [hQL] at h9; simp at h9; omega)⟩
 have hxn:xn = normP p a:=by have h9:=nums_get hqn; rw [hQL] at h9; simpa using h9.symm
 have hnn:=normP_len p a
 rw [← hxn] at hnn
 obtain ⟨⟨pm,cm,xm⟩,hqm⟩:∃ q,QL[1]? = some q:=⟨_,List.getElem?_eq_getElem (by have h9:=nums_len QL; rw [hQL] at h9; simp at h9; omega)⟩
 have hxm:xm = normP p b:=by have h9:=nums_get hqm; rw [hQL] at h9; simpa using h9.symm
 have hnm:=normP_len p b
 rw [← hxm] at hnm
 obtain ⟨gL,hgL⟩:=hS.lstPtr 1 rfl (by decide)
 refine wSg 10 [23,24,25,26,27,28,29,30,31,32] [[],[],[1],[2,1],[],[4],[5,4],[],[7],[0,3,6,8,1,2,4,5,7]] [] [] [] (fun i9 => ([iSv (.agg #[.int .u64 (p:Int)]),iSv (.slice pL 2 cL),iSv (.pointer (some ⟨gL,(0 + 0 * 1),none⟩)),iSv (.slice pn xn.length cn),iSv (.slice pL 2 cL),iSv (.pointer (some ⟨gL,(0 + 1 * 1),none⟩)),iSv (.slice pm xm.length cm),iSv (.agg #[.int .u64 (p:Int)]),iSv (.func (.func 44) #[.agg #[.int .u64 (p:Int)]] #[]),fun _ => Rwt (trimL (subL p xn xm))]:List (List Value → Tell)).getD i9 (fun _ _ _ => False)) hNi (fun d _ _ _ _ h => (by cases d <;> exact h)) (by kernel_rfl) (by kernel_rfl) (by kernel_rfl) hS ?_ ?_
 ·
  refine stH rfl (fun ho hS=>?_) ?_
  ·exact inNo rfl (oLd (vs:=[.int .u64 (p:Int)]) ⟨Tryd.isAgg84,Tryd.sizeOf84⟩ hS 0 rfl rfl (ev rfl (ho 8 rfl)) rfl rfl rfl (nSm rfl isI))
  refine stM rfl rfl rfl rfl rfl (fun _=>isI) ?_
  refine stT rfl (fun hT hS=>?_) ?_
  ·obtain ⟨hv1,hr1⟩:=hT 1 24 rfl rfl
   obtain hS:=hS.flat1 hr1
   exact inNo rfl (oIx (p:=pL) (g:=gL) (off:=0) (m:=2) (k:=0) (j:=(0 + 0 * 1)) rfl rfl Tryd.runUnderlying22 Tryd.sizeOf29 (ev rfl hv1) hgL evc (by omega) rfl (nSm rfl isI))
  refine stT rfl (fun hT hS=>?_) ?_
  ·obtain ⟨hv2,hr2⟩:=hT 2 25 rfl rfl
   obtain hS:=hS.flat1 hr2
   exact inNo rfl (oLc (v:=.slice pn xn.length cn) ⟨Tryd.isAgg29,Tryd.sizeOf29⟩ rfl rfl (ev (v:=.pointer (some ⟨gL,(0 + 0 * 1),none⟩)) rfl hv2) (hS.mRow 1 rfl hqn rfl hgL) (nSm rfl isI))
  refine stM rfl rfl rfl rfl rfl (fun _=>isI) ?_
  refine stT rfl (fun hT hS=>?_) ?_
  ·obtain ⟨hv4,hr4⟩:=hT 4 27 rfl rfl
   obtain hS:=hS.flat1 hr4
   exact inNo rfl (oIx (p:=pL) (g:=gL) (off:=0) (m:=2) (k:=1) (j:=(0 + 1 * 1)) rfl rfl Tryd.runUnderlying22 Tryd.sizeOf29 (ev rfl hv4) hgL evc (by omega) rfl (nSm rfl isI))
  refine stT rfl (fun hT hS=>?_) ?_
  ·obtain ⟨hv5,hr5⟩:=hT 5 28 rfl rfl
   obtain hS:=hS.flat1 hr5
   exact inNo rfl (oLc (v:=.slice pm xm.length cm) ⟨Tryd.isAgg29,Tryd.sizeOf29⟩ rfl rfl (ev (v:=.pointer (some ⟨gL,(0 + 1 * 1),none⟩)) rfl hv5) (hS.mRow 1 rfl hqm rfl hgL) (nSm rfl isI))
  refine stH rfl (fun ho hS=>?_) ?_
  ·exact inNo rfl (oLd (vs:=[.int .u64 (p:Int)]) ⟨Tryd.isAgg84,Tryd.sizeOf84⟩ hS 0 rfl rfl (ev rfl (ho 8 rfl)) rfl rfl rfl (nSm rfl isI))
  refine stT rfl (fun hT hS=>?_) ?_
  ·obtain ⟨hv7,hr7⟩:=hT 7 30 rfl rfl
   obtain hS:=hS.flat1 hr7
   exact inNo rfl (omakeFuncB (av:=#[.agg #[.int .u64 (p:Int)]]) (cs:=#[]) rfl rfl (ar1 (ev rfl hv7)) (args0) (nSm rfl isI))
  refine stT rfl (fun hT hS=>?_) ?_
  ·obtain ⟨hv0,hr0⟩:=hT 0 23 rfl rfl
   obtain ⟨hv3,hr3⟩:=hT 3 26 rfl rfl
   obtain ⟨hv6,hr6⟩:=hT 6 29 rfl rfl
   obtain ⟨hv8,hr8⟩:=hT 8 31 rfl rfl
   obtain hS:=hS.flat4 hr0 hr3 hr6 hr8
   exact .inl ⟨wNo rfl,oCl rfl rfl Tryd.call43 rfl (wyeach (hS.mFr 1 rfl hqn).sl (hS.mFr 1 rfl hqm).sl hp0 hp2 (by omega) (by omega) (by rw [hxm]; exact normP_lt hp0 b)) (args4 (ev rfl hv0) (ev rfl hv3) (ev rfl hv6) (ev rfl hv8)) cNw⟩
  exact sNi
 intro vs ρ w7 f' hf hT hS
 obtain ⟨hv0,hr0⟩:=hT 0 (by decide)
 obtain ⟨hv1,hr1⟩:=hT 1 (by decide)
 obtain ⟨hv2,hr2⟩:=hT 2 (by decide)
 obtain ⟨hv3,hr3⟩:=hT 3 (by decide)
 obtain ⟨hv4,hr4⟩:=hT 4 (by decide)
 obtain ⟨hv5,hr5⟩:=hT 5 (by decide)
 obtain ⟨hv6,hr6⟩:=hT 6 (by decide)
 obtain ⟨hv7,hr7⟩:=hT 7 (by decide)
 obtain ⟨hv8,hr8⟩:=hT 8 (by decide)
 obtain ⟨pK,cK,hv9,hr9⟩:=(hT 9 (by decide):(Rwt (trimL (subL p xn xm))) _ _)
 simp only [pool,if_true,hr0,hr1,hr2,hr3,hr4,hr5,hr6,hr7,hr8,hr9,List.nil_append,List.cons_append,List.append_nil] at hS
 simp only [layf,hv0,hv1,hv2,hv3,hv4,hv5,hv6,hv7,hv8,hv9] at hf
 subst hf; clear hT hv0 hv1 hv2 hv3 hv4 hv5 hv6 hv7 hv8 hv9 hr0 hr1 hr2 hr3 hr4 hr5 hr6 hr7 hr8 hr9
 refine wLt 10 rfl (by kernel_rfl) (oCl rfl rfl Tryd.call41 rfl (wytold (hS.slm 0 rfl)) (ar1 (ev rfl rfl)) ?_)
 rintro _ w8 ⟨_,_,rfl,⟨rfl,rfl⟩,hN⟩
 refine ⟨_,rfl,?_⟩
 replace hS:=hS.news hN; clear hN
 refine ⟨hNi,?_⟩
 refine wLt 11 rfl (by kernel_rfl) (oassign (v:=.slice ((if (trimL (subL p xn xm)).length = 0 then none else pK)) ((trimL (subL p xn xm)).length) ((trimL (subL p xn xm)).length)) rfl rfl (ev rfl rfl) ?_)
 refine ⟨hNi,?_⟩
 refine wLt 12 rfl (by kernel_rfl) (oassign (v:=.int .i64 0) rfl rfl evc ?_)
 refine ⟨hNi,?_⟩
 refine wdone rfl ?_
 refine tNo ?_
 refine wLv ?_
 refine wret2 Tryd.results26 (tlT (v:=.slice ((if (trimL (subL p xn xm)).length = 0 then none else pK)) ((trimL (subL p xn xm)).length) ((trimL (subL p xn xm)).length)) rfl rfl) (tlT (v:=.int .i64 0) rfl rfl) ?_
 obtain hS:=hS.toRdo
 have hre:trimL (subL p xn xm) = subP p a b:=by rw [hxn,hxm]; rfl
 exact ⟨_,_,rfl,⟨_,_,by rw [hre],by rw [hre]⟩,hS.newR 0 rfl rfl⟩
open Go.RowKit
theorem whCharE {pm:Option Addr} {nm cm p:Nat} {M:List (List Nat)} {w:World} (ht:Tb w) (hm:MS w pm nm M) (hp2:p < 4294967296) (hb1:nm ≤ 2097152) (hb2:∀ r ∈ M,r.length ≤ 1048576) {e:Nat} (hc:HFa p M e) (he:e ≠ 0) :
  Calls Tryd.prog 9 #[.slice pm nm cm,.int .u32 ((p:Nat):Int)] w (Ret (Is (.tuple #[.slice none 0 0,.int .i64 ((e:Nat):Int)])) w):=by
 have hS:=Sep.init w
 refine went Tryd.func9 rfl (n:=128) rfl rfl ?_
 refine wsr (wavc ?_)
 refine wavc ?_
 refine wn1 (wSq (wsr (wmv (v:=.slice pm nm cm) rfl rfl ?_)))
 refine wmv (v:=.int .u32 (p:Int)) rfl rfl ?_
 refine wcl Tryd.call22 (whfaults (ht.at hS) (hm.at hS) hp2 hb1 hb2 hc) (ar2 (ev rfl rfl) (ev rfl rfl)) hS ?_
 clear hS; rintro _ _ w1 ⟨rfl,rfl⟩ hS
 refine wav (v:=.int .i64 (e:Int)) rfl rfl ?_
 refine wn2 (wmv (v:=.int .i64 (e:Int)) rfl rfl ?_)
 refine wbc (u:=.int .i64 (e:Int)) (v:=.int .i64 0) (z:=.bool true) rfl rfl (bNe (neT (by omega))) ?_
 refine wn1 ?_
 refine wT (ev rfl rfl) ?_
 refine wsr (wmv (v:=.int .i64 (e:Int)) rfl rfl ?_)
 refine wavc ?_
 refine wav (v:=.int .i64 (e:Int)) rfl rfl ?_
 refine wn1 ?_
 refine wLv ?_
 refine thenR ?_
 refine wret2 Tryd.results9 (tlT (v:=.slice none 0 0) rfl rfl) (tlT (v:=.int .i64 (e:Int)) rfl rfl) ?_
 exact ⟨_,_,rfl,isI,hS.new0⟩
theorem whChar {pm:Option Addr} {nm cm p:Nat} {M:List (List Nat)} {w:World} (ht:Tb w) (hm:MS w pm nm M) (hp2:p < 4294967296) (hb1:nm ≤ 2097152) (hb2:∀ r ∈ M,r.length ≤ 1048576) (hp:MR.Pr p) (hr:RectM M) (h0:nm ≠ 0) (hq:M.length = colsM M) (hbig:nm ≤ 24) :
  Calls Tryd.prog 9 #[.slice pm nm cm,.int .u32 ((p:Nat):Int)] w (Ret (PEt (charL p M) 0) w):=by
 have hml:=hm.1
 have hp1:=hp.1
 have hp0:0 < p:=by omega
 have hrok:HOk p nm (HS.red p nm M (nm - 2)):=HOk.redk hp1 hr (by omega) hq (Nat.le_refl _)
 obtain ⟨HH,hHH⟩:∃ HH,(HS.red p nm M (nm - 2)).H = HH:=⟨_,rfl⟩
 have hHl:HH.length = nm:=by rw [← hHH]; exact hrok.hl
 have hHs:Shp p nm HH:=by rw [← hHH]; exact hrok.hs
 have hS:=Sep.init w
 refine went Tryd.func9 rfl (n:=128) rfl rfl ?_
 refine wsr (wavc ?_)
 refine wavc ?_
 refine wn1 (wSq (wsr (wmv (v:=.slice pm nm cm) rfl rfl ?_)))
 refine wmv (v:=.int .u32 (p:Int)) rfl rfl ?_
 refine wcl Tryd.call22 (whfaults (ht.at hS) (hm.at hS) hp2 hb1 hb2 (HFa.ok hp hr (by omega) hq (by omega))) (ar2 (ev rfl rfl) (ev rfl rfl)) hS ?_
 clear hS; rintro _ _ w1 ⟨rfl,rfl⟩ hS
 refine wav (v:=.int .i64 ((0:Nat):Int)) rfl rfl ?_
 refine wn2 (wmv (v:=.int .i64 ((0:Nat):Int)) rfl rfl ?_)
 refine wbc (u:=.int .i64 ((0:Nat):Int)) (v:=.int .i64 0) (z:=.bool false) rfl rfl (bNe (neF (by omega))) ?_
 refine wn1 ?_
 refine wF (ev rfl rfl) ?_
 refine wSk (tNo (wsr (wmv (v:=.slice pm nm cm) rfl rfl ?_)))
 refine wmv (v:=.int .u32 (p:Int)) rfl rfl ?_
 refine wcl Tryd.call23 (whreduce (ht.at hS) (hm.at hS) hp2 hb1 hb2 hp hr h0 hq hbig) (ar2 (ev rfl rfl) (ev rfl rfl)) hS ?_
 clear hS; rintro _ _ w2 ⟨gw,pH,cH,pS,cS,pR,cR,QH,QS,QR,hQH,hQS,hQR,rfl,rfl⟩ hS
 refine wl rfl (oNC (a:=⟨gw,0,none⟩) rfl rfl (ev rfl rfl) ?_)
 refine wl rfl (oFA (g:=gw) (off:=0) 1 rfl rfl (ev rfl rfl) Tryd.runUnderlying59 rfl Tryd.sizeOf23 rfl ?_)
 refine wl rfl (oL1 (v:=.slice pH nm cH) ⟨Tryd.isAgg23,Tryd.sizeOf23⟩ hS 0 rfl rfl (ev rfl rfl) rfl rfl ?_)
 refine wav (v:=.slice pH nm cH) rfl rfl ?_
 refine wn2 (wmv (v:=.int .u32 (p:Int)) rfl rfl ?_)
 have hQH2:nums QH = HH:=hQH.trans hHH
 have hQl:QH.length = nm:=by rw [nums_lenQ hQH2]; exact hHl
 have sH:Shp p nm (nums QH):=by rw [hQH2]; exact hHs
 refine wl rfl (oCv (u:=.int .u32 (p:Int)) (v:=.int .u64 (p:Int)) rfl rfl (ev rfl rfl) (cvI Tryd.runUnderlying24 Tryd.runUnderlying44 (wU6 (by omega) (by omega))) ?_)
 refine wl rfl (obuild (ps:=#[(0,.int .u64 (p:Int))]) (v:=.agg #[.int .u64 (p:Int)]) rfl rfl (parts1 (ev (v:=.int .u64 (p:Int)) rfl rfl)) (fun w => by simp [go_sem,Instr.build,Instr.fill]) ?_)
 refine wl rfl (oAl [.int .u64 0] hS rfl rfl Tryd.zeroValue57 rfl ?_)
 clear hS; intro g3 w4 hS
 refine wl rfl (oSt [.int .u64 (p:Int)] [.int .u64 (p:Int)] Tryd.sizeOf57 hS 0 rfl rfl (ev rfl rfl) (ev (v:=.agg #[.int .u64 (p:Int)]) rfl rfl) rfl rfl rfl rfl rfl rfl ?_)
 clear hS; intro w5 hS
 refine wn2 (wmv (v:=.int .u32 (p:Int)) rfl rfl ?_)
 have h1p:=Nat.mod_lt 1 hp0
 refine wl rfl (obin (u:=.int .u32 1) (v:=.int .u32 (p:Int)) (z:=.int .u32 ((1 % p:Nat):Int)) rfl rfl evc (ev rfl rfl) (bin_rem (by omega) rfl) ?_)
 refine wl rfl (obslice (ps:=#[(0,.int .u32 ((1 % p:Nat):Int))]) (z:=.int .u32 0) [.int .u32 ((1 % p:Nat):Int)] hS rfl rfl Tryd.runUnderlying30 Tryd.sizeOf24 Tryd.zeroValue24 (parts1 (ev (v:=.int .u32 ((1 % p:Nat):Int)) rfl rfl)) rfl (by decide) (fill1_1s rfl rfl) ?_)
 clear hS; intro g6 w7 hS
 refine wl rfl (obslice (ps:=#[(0,.slice (some ⟨g6,0,none⟩) 1 1)]) (z:=.slice none 0 0) [.slice (some ⟨g6,0,none⟩) 1 1] hS rfl rfl Tryd.runUnderlying62 Tryd.sizeOf30 Tryd.zeroValue30 (parts1 (ev (v:=.slice (some ⟨g6,0,none⟩) 1 1) rfl rfl)) rfl (by decide) (fill1_1s rfl rfl) ?_)
 clear hS; intro g8 w9 hS
 refine wav (v:=.slice (some ⟨g8,0,none⟩) 1 1) rfl rfl ?_
 refine wn1 (wSq (wsr (wmv (v:=.slice pH nm cH) rfl rfl ?_)))
 refine wl rfl (olen rfl rfl rfl Tryd.runUnderlying23 (p:=pH) (k:=nm) (m:=cH) (ev rfl rfl) ?_)
 refine wmvc ?_
 refine wn1 (wBk ?_)
 obtain hS:=(show Sep w [.blk g6 [.int .u32 (((1 % p:Nat):Int))] 24,.blk g8 [.slice (some ⟨g6,0,none⟩) 1 1] 30,.blk g3 [.int .u64 (((p:Nat):Int))] 57,.blk gw [.int .u64 (((p:Nat):Int)),.slice pH nm cH,.slice pS nm cS,.slice pR nm cR] 59,.lst 29 1 pH nm cH (mmE QH),.lst 29 1 pS nm cS (mmE QS),.lst 29 1 pR nm cR (mmE QR)] w9 from hS.pick [1,0,2,3,4,5,6] (by decide) rfl)
 obtain hS:=(hS.blkRowH (x:=1 % p) (by omega)).toRdo
 obtain hS:=(show Sep w [.blk g8 [.slice (some ⟨g6,0,none⟩) 1 1] 30,.rdo ((if 1 = 0 then none else some ⟨g6,0,none⟩)) 1 1 ([1 % p]),.blk g3 [.int .u64 (((p:Nat):Int))] 57,.blk gw [.int .u64 (((p:Nat):Int)),.slice pH nm cH,.slice pS nm cS,.slice pR nm cR] 59,.lst 29 1 pH nm cH (mmE QH),.lst 29 1 pS nm cS (mmE QS),.lst 29 1 pR nm cR (mmE QR)] w9 from hS.pick [1,0,2,3,4,5,6] (by decide) rfl)
 obtain hS:=hS.blkPP (xs:=[1 % p]) rfl
 refine wLp (σ := Nat) (fun k a9 w' => ∃ (fb:Nat → Value) (PQ:List Rw) (pP:Option Addr) (cP:Nat),a9 = act 128 (sets fb [(1,.int .u32 (p:Int)),(4,.slice none 0 0),(5,.int .i64 0),(7,.slice pH nm cH),(8,.pointer (some ⟨g3,0,none⟩)),(9,.slice pP ((k + 1)) cP),(39,.int .i64 (nm:Int)),(40,.int .i64 (k:Int))]) ∧ Sep w [.lst 30 1 pP ((k + 1)) cP (ppE PQ),.blk g3 [.int .u64 (p:Int)] 57,.blk gw [.int .u64 (p:Int),.slice pH nm cH,.slice pS nm cS,.slice pR nm cR] 59,.lst 29 1 pH nm cH (mmE QH),.lst 29 1 pS nm cS (mmE QS),.lst 29 1 pR nm cR (mmE QR)] w' ∧ (k ≤ nm) ∧ (nums PQ = polysL p HH k)) (fun k => nm - k) (0) ⟨_,[⟨some ⟨g6,0,none⟩,1,[1 % p]⟩],_,_,aSs ⟨rfl,rfl,rfl,rfl,rfl,rfl,rfl,rfl,trivial⟩,hS,Nat.zero_le _,rfl⟩ ?_
 clear hS; rintro k _ w10 ⟨fb,PQ,pP,cP,rfl,hS,hk,hPQ⟩
 refine wsr ?_
 by_cases hlk:k < nm
 ·
  obtain ⟨PP,hPP⟩:∃ PP,polysL p HH k = PP:=⟨_,rfl⟩
  have hPl:PQ.length = k + 1:=by rw [nums_lenQ hPQ]; exact polysL_len ..
  have hlen:∀ i,i ≤ k → ((nums PQ).getD i []).length ≤ i + 1:=fun i hi => by rw [hPQ]; exact polysL_lens k hi
  have hltP:∀ i,i ≤ k → (PP.getD i []).length ≤ i + 1:=fun i hi => by rw [← hPP]; exact polysL_lens k hi
  have hPQ2:nums PQ = PP:=hPQ.trans hPP
  refine wbt (u:=.int .i64 (k:Int)) (v:=.int .i64 (nm:Int)) rfl rfl rfl rfl (bLs (decide_eq_true (by omega))) ?_
  refine wn1 (wSq ?_)
  refine wT (ev rfl rfl) ?_
  refine wk2 (wmv (v:=.int .i64 (k:Int)) rfl rfl ?_)
  refine wav (v:=.int .i64 (k:Int)) rfl rfl ?_
  refine wn2 (wmv (v:=.slice pP ((k + 1)) cP) rfl rfl ?_)
  refine wmv (v:=.int .i64 (k:Int)) rfl rfl ?_
  obtain ⟨gp11,hgp11⟩:=hS.lstPtr 0 rfl (by omega)
  obtain ⟨gH,hgH⟩:=hS.lstPtr 3 rfl (by omega)
  obtain ⟨⟨pk,ck,xk⟩,hqk⟩:∃ q,(PQ)[k]? = some q:=⟨_,List.getElem?_eq_getElem (by omega)⟩
  have hdk:(nums (PQ)).getD k [] = xk:=getD_get (nums_get hqk)
  have hbk:xk.length ≤ 1000:=by have:=hlen k (Nat.le_refl _); rw [hdk] at this; omega
  obtain ⟨⟨ph,ch,xh⟩,hqh⟩:∃ q,(QH)[k]? = some q:=⟨_,List.getElem?_eq_getElem (by omega)⟩
  have hdh:(nums (QH)).getD k [] = xh:=getD_get (nums_get hqh)
  obtain ⟨hnh,hlth⟩:=sH.get (nums_get hqh)
  simp only at hnh hlth
  obtain ⟨gh,hgh⟩:=hS.mPtr 3 rfl hqh (by show 0 < xh.length; omega)
  have hhk:=lt_nd hlth hp0 k
  have hls:=shiftP_len p xk
  have hlt2:=scaleP_len p xk (nd xh k)
  refine wl rfl (oIx (p:=pP) (g:=gp11) (off:=0) (m:=(k + 1)) (k:=k) (j:=(0 + k * 1)) rfl rfl Tryd.runUnderlying62 Tryd.sizeOf30 (ev rfl rfl) hgp11 (ev rfl rfl) (by omega) rfl ?_)
  refine wl rfl (oLc (v:=.slice pk xk.length ck) ⟨Tryd.isAgg30,Tryd.sizeOf30⟩ rfl rfl (ev (v:=.pointer (some ⟨gp11,(0 + k * 1),none⟩)) rfl rfl) (hS.lstAt 0 rfl hgp11 k 0 (ppE_get hqk) rfl (by decide) (by omega)) ?_)
  refine wmv (v:=.int .u32 (p:Int)) rfl rfl ?_
  refine wcl Tryd.call24 (wyShift (ht.at hS) (hS.ppSl 0 rfl hqk) hp hp2 (by omega)) (args3 (ev rfl rfl) evc (ev rfl rfl)) hS ?_
  clear hS; rintro _ _ w12 ⟨pq0,cq0,rfl,rfl⟩ hS
  refine wmv (v:=.tuple #[.slice pq0 ((shiftP p xk).length) cq0,.int .i64 0]) rfl rfl ?_
  refine wl rfl (oEx (vs:=[.slice pq0 ((shiftP p xk).length) cq0,.int .i64 0]) (v:=.slice pq0 ((shiftP p xk).length) cq0) rfl rfl (ev rfl rfl) rfl ?_)
  refine wl rfl (oEx (vs:=[.slice pq0 ((shiftP p xk).length) cq0,.int .i64 0]) (v:=.int .i64 0) rfl rfl (ev rfl rfl) rfl ?_)
  refine wav (v:=.slice pq0 ((shiftP p xk).length) cq0) rfl rfl ?_
  refine wav (v:=.int .i64 0) rfl rfl ?_
  refine wn1 (wSq ?_)
  refine wSg 18 [53,54,55,56,57,58,59,60,61,62,63,64,65,52,66,67,13,14] [[],[],[0,1],[2,0,1],[],[],[4,5],[6,4,5],[],[7,8,4,5,6],[9,4,5,6,7,8],[],[3,10,11,0,1,2,4,5,6,7,8,9],[12,0,1,2,3,4,5,6,7,8,9,10,11],[12,13,0,1,2,3,4,5,6,7,8,9,10,11],[12,13,0,1,2,3,4,5,6,7,8,9,10,11],[12,14,0,1,2,3,4,5,6,7,8,9,10,11,13],[15,0,1,2,3,4,5,6,7,8,9,10,11,12,13,14,16]] [[],[],[],[],[],[],[],[],[],[],[],[],[],[12],[12],[],[12],[]] [] [] (fun i9 => ([iSv (.slice pP ((k + 1)) cP),iSv (.int .i64 (k:Int)),iSv (.pointer (some ⟨gp11,(0 + k * 1),none⟩)),iSv (.slice pk xk.length ck),iSv (.slice pH nm cH),iSv (.int .i64 (k:Int)),iSv (.pointer (some ⟨gH,(0 + k * 1),none⟩)),iSv (.slice ph nm ch),iSv (.int .i64 (k:Int)),iSv (.pointer (some ⟨gh,k,none⟩)),iSv (.int .u32 ((nd xh k:Nat):Int)),iSv (.int .u32 (p:Int)),fun _ => PEt (scaleP p xk (nd xh k)) 0,fun us => Is (.tuple #[(vat (us.getD 0 undef) [0]),.int .i64 0]),fun us => Is ((vat (us.getD 0 undef) [0])),iSv (.int .i64 0),fun us => Is ((vat (us.getD 0 undef) [0])),iSv (.int .i64 0)]:List (List Value → Tell)).getD i9 (fun _ _ _ => False)) hNi (fun d _ _ _ _ h => (by cases d <;> exact h)) (by kernel_rfl) (by kernel_rfl) (by kernel_rfl) hS ?_ ?_
  ·
   refine stM rfl rfl rfl rfl rfl (fun _=>isI) ?_
   refine stM rfl rfl rfl rfl rfl (fun _=>isI) ?_
   refine stT rfl (fun hT hS=>?_) ?_
   ·obtain ⟨hv0,hr0⟩:=hT 0 53 rfl rfl
    obtain ⟨hv1,hr1⟩:=hT 1 54 rfl rfl
    obtain hS:=hS.flat2 hr0 hr1
    exact inNo rfl (oIx (p:=pP) (g:=gp11) (off:=0) (m:=(k + 1)) (k:=k) (j:=(0 + k * 1)) rfl rfl Tryd.runUnderlying62 Tryd.sizeOf30 (ev rfl hv0) hgp11 (ev rfl hv1) (by omega) rfl (nSm rfl isI))
   refine stT rfl (fun hT hS=>?_) ?_
   ·obtain ⟨hv2,hr2⟩:=hT 2 55 rfl rfl
    obtain hS:=hS.flat1 hr2
    exact inNo rfl (oLc (v:=.slice pk xk.length ck) ⟨Tryd.isAgg30,Tryd.sizeOf30⟩ rfl rfl (ev (v:=.pointer (some ⟨gp11,(0 + k * 1),none⟩)) rfl hv2) (hS.lstAt 1 rfl hgp11 k 0 (ppE_get hqk) rfl (by decide) (by omega)) (nSm rfl isI))
   refine stM rfl rfl rfl rfl rfl (fun _=>isI) ?_
   refine stM rfl rfl rfl rfl rfl (fun _=>isI) ?_
   refine stT rfl (fun hT hS=>?_) ?_
   ·obtain ⟨hv4,hr4⟩:=hT 4 57 rfl rfl
    obtain ⟨hv5,hr5⟩:=hT 5 58 rfl rfl
    obtain hS:=hS.flat2 hr4 hr5
    exact inNo rfl (oIx (p:=pH) (g:=gH) (off:=0) (m:=nm) (k:=k) (j:=(0 + k * 1)) rfl rfl Tryd.runUnderlying23 Tryd.sizeOf29 (ev rfl hv4) hgH (ev rfl hv5) (by omega) rfl (nSm rfl isI))
   refine stT rfl (fun hT hS=>?_) ?_
   ·obtain ⟨hv6,hr6⟩:=hT 6 59 rfl rfl
    obtain hS:=hS.flat1 hr6
    exact inNo rfl (oLc (v:=.slice ph nm ch) ⟨Tryd.isAgg29,Tryd.sizeOf29⟩ rfl rfl (ev (v:=.pointer (some ⟨gH,(0 + k * 1),none⟩)) rfl hv6) (hS.mRow 4 rfl hqh hnh hgH) (nSm rfl isI))
   refine stM rfl rfl rfl rfl rfl (fun _=>isI) ?_
   refine stT rfl (fun hT hS=>?_) ?_
   ·obtain ⟨hv7,hr7⟩:=hT 7 60 rfl rfl
    obtain ⟨hv8,hr8⟩:=hT 8 61 rfl rfl
    obtain hS:=hS.flat2 hr7 hr8
    exact inNo rfl (oIx (p:=ph) (g:=gh) (off:=0) (m:=nm) (k:=k) (j:=k) rfl rfl Tryd.runUnderlying29 Tryd.sizeOf24 (ev rfl hv7) hgh (ev rfl hv8) (by omega) (by simp) (nSm rfl isI))
   refine stT rfl (fun hT hS=>?_) ?_
   ·obtain ⟨hv9,hr9⟩:=hT 9 62 rfl rfl
    obtain hS:=hS.flat1 hr9
    exact inNo rfl (oLc (v:=.int .u32 ((nd xh k:Nat):Int)) one32 rfl rfl (ev (v:=.pointer (some ⟨gh,k,none⟩)) rfl hv9) (hS.mCell 4 rfl hqh hgh (by omega)) (nSm rfl isI))
   refine stM rfl rfl rfl rfl rfl (fun _=>isI) ?_
   refine stT rfl (fun hT hS=>?_) ?_
   ·obtain ⟨hv3,hr3⟩:=hT 3 56 rfl rfl
    obtain ⟨hv10,hr10⟩:=hT 10 63 rfl rfl
    obtain ⟨hv11,hr11⟩:=hT 11 64 rfl rfl
    obtain hS:=hS.flat3 hr3 hr10 hr11
    exact .inl ⟨wNo rfl,oCl rfl rfl Tryd.call25 rfl (wyScale (ht.at hS) (hS.ppSl 1 rfl hqk) hp hp2 (by omega) (c:=(nd xh k)) (by omega)) (args3 (ev rfl hv3) (ev rfl hv10) (ev rfl hv11)) cNw⟩
   refine stC rfl (fun _ f' _ _ _ _ hT hS _=>?_) ?_
   ·obtain ⟨pt0,ct0,hv12,hr12⟩:=(hT 12 65 rfl rfl:(PEt (scaleP p xk (nd xh k)) 0) _ _)
    obtain hS:=hS.flat1 hr12
    have hQ:(.tuple #[.slice pt0 ((scaleP p xk (nd xh k)).length) ct0,.int .i64 0]:Value) = (fun (us:List Value) => (.tuple #[(vat (us.getD 0 undef) [0]),.int .i64 0]:Value)) [f' 65]:=by show _ = (.tuple #[(vat (f' 65) [0]),.int .i64 0]:Value); rw [hv12]; rfl
    exact .inl ⟨wNo rfl,omove (v:=.tuple #[.slice pt0 ((scaleP p xk (nd xh k)).length) ct0,.int .i64 0]) rfl rfl (ev rfl hv12) ⟨_,_,rfl,⟨hQ,rfl⟩,New.same _⟩⟩
   refine stC rfl (fun _ f' _ _ _ _ hT hS _=>?_) ?_
   ·obtain ⟨pt0,ct0,hv12,hr12⟩:=(hT 12 65 rfl rfl:(PEt (scaleP p xk (nd xh k)) 0) _ _)
    obtain ⟨hv13,hr13⟩:=(hT 13 52 rfl rfl:(fun (us:List Value) => Is (.tuple #[(vat (us.getD 0 undef) [0]),.int .i64 0])) [f' 65] _ _)
    replace hv13:f' 52 = .tuple #[.slice pt0 ((scaleP p xk (nd xh k)).length) ct0,.int .i64 0]:=hv13.trans (by show (.tuple #[(vat (f' 65) [0]),.int .i64 0]:Value) = _; rw [hv12]; rfl)
    obtain hS:=hS.flat2 hr12 hr13
    have hQ:(.slice pt0 ((scaleP p xk (nd xh k)).length) ct0:Value) = (fun (us:List Value) => ((vat (us.getD 0 undef) [0]):Value)) [f' 65]:=by show _ = ((vat (f' 65) [0]):Value); rw [hv12]; rfl
    exact .inl ⟨wNo rfl,oEx (vs:=[.slice pt0 ((scaleP p xk (nd xh k)).length) ct0,.int .i64 0]) (v:=.slice pt0 ((scaleP p xk (nd xh k)).length) ct0) rfl rfl (ev rfl hv13) rfl ⟨_,_,rfl,⟨hQ,rfl⟩,New.same _⟩⟩
   refine stC rfl (fun _ f' _ _ _ _ hT hS _=>?_) ?_
   ·obtain ⟨pt0,ct0,hv12,hr12⟩:=(hT 12 65 rfl rfl:(PEt (scaleP p xk (nd xh k)) 0) _ _)
    obtain ⟨hv13,hr13⟩:=(hT 13 52 rfl rfl:(fun (us:List Value) => Is (.tuple #[(vat (us.getD 0 undef) [0]),.int .i64 0])) [f' 65] _ _)
    replace hv13:f' 52 = .tuple #[.slice pt0 ((scaleP p xk (nd xh k)).length) ct0,.int .i64 0]:=hv13.trans (by show (.tuple #[(vat (f' 65) [0]),.int .i64 0]:Value) = _; rw [hv12]; rfl)
    obtain hS:=hS.flat2 hr12 hr13
    exact inNo rfl (oEx (vs:=[.slice pt0 ((scaleP p xk (nd xh k)).length) ct0,.int .i64 0]) (v:=.int .i64 0) rfl rfl (ev rfl hv13) rfl (nSm rfl isI))
   refine stC rfl (fun _ f' _ _ _ _ hT hS _=>?_) ?_
   ·obtain ⟨pt0,ct0,hv12,hr12⟩:=(hT 12 65 rfl rfl:(PEt (scaleP p xk (nd xh k)) 0) _ _)
    obtain ⟨hv14,hr14⟩:=(hT 14 66 rfl rfl:(fun (us:List Value) => Is ((vat (us.getD 0 undef) [0]))) [f' 65] _ _)
    replace hv14:f' 66 = .slice pt0 ((scaleP p xk (nd xh k)).length) ct0:=hv14.trans (by show ((vat (f' 65) [0]):Value) = _; rw [hv12]; rfl)
    obtain hS:=hS.flat2 hr12 hr14
    have hQ:(.slice pt0 ((scaleP p xk (nd xh k)).length) ct0:Value) = (fun (us:List Value) => ((vat (us.getD 0 undef) [0]):Value)) [f' 65]:=by show _ = ((vat (f' 65) [0]):Value); rw [hv12]; rfl
    exact .inl ⟨wNo rfl,oassign (v:=.slice pt0 ((scaleP p xk (nd xh k)).length) ct0) rfl rfl (ev rfl hv14) ⟨_,_,rfl,⟨hQ,rfl⟩,New.same _⟩⟩
   refine stT rfl (fun hT hS=>?_) ?_
   ·obtain ⟨hv15,hr15⟩:=hT 15 67 rfl rfl
    obtain hS:=hS.flat1 hr15
    exact inNo rfl (oassign (v:=.int .i64 0) rfl rfl (ev rfl hv15) (nSm rfl isI))
   exact sNi
  intro vs ρ w13 f' hf hT hS
  obtain ⟨hv0,hr0⟩:=hT 0 (by decide)
  obtain ⟨hv1,hr1⟩:=hT 1 (by decide)
  obtain ⟨hv2,hr2⟩:=hT 2 (by decide)
  obtain ⟨hv3,hr3⟩:=hT 3 (by decide)
  obtain ⟨hv4,hr4⟩:=hT 4 (by decide)
  obtain ⟨hv5,hr5⟩:=hT 5 (by decide)
  obtain ⟨hv6,hr6⟩:=hT 6 (by decide)
  obtain ⟨hv7,hr7⟩:=hT 7 (by decide)
  obtain ⟨hv8,hr8⟩:=hT 8 (by decide)
  obtain ⟨hv9,hr9⟩:=hT 9 (by decide)
  obtain ⟨hv10,hr10⟩:=hT 10 (by decide)
  obtain ⟨hv11,hr11⟩:=hT 11 (by decide)
  obtain ⟨pt0,ct0,hv12,hr12⟩:=(hT 12 (by decide):(PEt (scaleP p xk (nd xh k)) 0) _ _)
  obtain ⟨hv13,hr13⟩:=(hT 13 (by decide):(fun (us:List Value) => Is (.tuple #[(vat (us.getD 0 undef) [0]),.int .i64 0])) [vs 12] _ _)
  replace hv13:vs 13 = .tuple #[.slice pt0 ((scaleP p xk (nd xh k)).length) ct0,.int .i64 0]:=hv13.trans (by show (.tuple #[(vat (vs 12) [0]),.int .i64 0]:Value) = _; rw [hv12]; rfl)
  obtain ⟨hv14,hr14⟩:=(hT 14 (by decide):(fun (us:List Value) => Is ((vat (us.getD 0 undef) [0]))) [vs 12] _ _)
  replace hv14:vs 14 = .slice pt0 ((scaleP p xk (nd xh k)).length) ct0:=hv14.trans (by show ((vat (vs 12) [0]):Value) = _; rw [hv12]; rfl)
  obtain ⟨hv15,hr15⟩:=hT 15 (by decide)
  obtain ⟨hv16,hr16⟩:=(hT 16 (by decide):(fun (us:List Value) => Is ((vat (us.getD 0 undef) [0]))) [vs 12] _ _)
  replace hv16:vs 16 = .slice pt0 ((scaleP p xk (nd xh k)).length) ct0:=hv16.trans (by show ((vat (vs 12) [0]):Value) = _; rw [hv12]; rfl)
  obtain ⟨hv17,hr17⟩:=hT 17 (by decide)
  simp only [pool,if_true,hr0,hr1,hr2,hr3,hr4,hr5,hr6,hr7,hr8,hr9,hr10,hr11,hr12,hr13,hr14,hr15,hr16,hr17,List.nil_append,List.cons_append,List.append_nil] at hS
  simp only [layf,hv0,hv1,hv2,hv3,hv4,hv5,hv6,hv7,hv8,hv9,hv10,hv11,hv12,hv13,hv14,hv15,hv16,hv17] at hf
  subst hf; clear hT hv0 hv1 hv2 hv3 hv4 hv5 hv6 hv7 hv8 hv9 hv10 hv11 hv12 hv13 hv14 hv15 hv16 hv17 hr0 hr1 hr2 hr3 hr4 hr5 hr6 hr7 hr8 hr9 hr10 hr11 hr12 hr13 hr14 hr15 hr16 hr17
  refine wdone rfl ?_
  refine tNo (wsr (wmv (v:=.slice pq0 ((shiftP p xk).length) cq0) rfl rfl ?_))
  refine wmv (v:=.slice pt0 ((scaleP p xk (nd xh k)).length) ct0) rfl rfl ?_
  refine wmv (v:=.int .u32 (p:Int)) rfl rfl ?_
  refine wcl Tryd.call26 (wySub (ht.at hS) (hS.slo 1 rfl) (hS.slo 0 rfl) hp hp2 (by omega) (by omega)) (args3 (ev rfl rfl) (ev rfl rfl) (ev rfl rfl)) hS ?_
  clear hS; rintro _ _ w14 ⟨pq1,cq1,rfl,rfl⟩ hS
  refine wmv (v:=.tuple #[.slice pq1 ((subP p (shiftP p xk) (scaleP p xk (nd xh k))).length) cq1,.int .i64 0]) rfl rfl ?_
  refine wl rfl (oEx (vs:=[.slice pq1 ((subP p (shiftP p xk) (scaleP p xk (nd xh k))).length) cq1,.int .i64 0]) (v:=.slice pq1 ((subP p (shiftP p xk) (scaleP p xk (nd xh k))).length) cq1) rfl rfl (ev rfl rfl) rfl ?_)
  refine wl rfl (oEx (vs:=[.slice pq1 ((subP p (shiftP p xk) (scaleP p xk (nd xh k))).length) cq1,.int .i64 0]) (v:=.int .i64 0) rfl rfl (ev rfl rfl) rfl ?_)
  refine wav (v:=.slice pq1 ((subP p (shiftP p xk) (scaleP p xk (nd xh k))).length) cq1) rfl rfl ?_
  refine wn2 (wavc ?_)
  refine wn1 (wSq (wsr (wmv (v:=.int .i64 (k:Int)) rfl rfl ?_)))
  refine wbc (u:=.int .i64 (k:Int)) (v:=.int .i64 1) (z:=.int .i64 (((k:Int) - 1))) rfl rfl (bin_sub (wI6 (by omega) (by omega))) ?_
  refine wav (v:=.int .i64 (((k:Int) - 1))) rfl rfl ?_
  refine wn1 (wBk ?_)
  refine wLp (σ := Nat) (fun d a9 w' => ∃ (fb:Nat → Value) (jj:Int) (cc:Nat) (pq:Option Addr) (cq:Nat) (qx:List Nat),a9 = act 128 (sets fb [(1,.int .u32 (p:Int)),(4,.slice none 0 0),(5,.int .i64 0),(7,.slice pH nm cH),(8,.pointer (some ⟨g3,0,none⟩)),(9,.slice pP ((k + 1)) cP),(10,.int .i64 (k:Int)),(11,.slice pq qx.length cq),(15,.int .u32 (cc:Int)),(16,.int .i64 jj),(39,.int .i64 (nm:Int)),(40,.int .i64 (k:Int))]) ∧ Sep w [.rdo pq qx.length cq qx,.rdo pt0 ((scaleP p xk (nd xh k)).length) ct0 (scaleP p xk (nd xh k)),.rdo pq0 ((shiftP p xk).length) cq0 (shiftP p xk),.lst 30 1 pP ((k + 1)) cP (ppE PQ),.blk g3 [.int .u64 (p:Int)] 57,.blk gw [.int .u64 (p:Int),.slice pH nm cH,.slice pS nm cS,.slice pR nm cR] 59,.lst 29 1 pH nm cH (mmE QH),.lst 29 1 pS nm cS (mmE QS),.lst 29 1 pR nm cR (mmE QR)] w' ∧ (d ≤ k) ∧ (jj = (k:Int) - 1 - (d:Nat)) ∧ (cc = (inP p HH PP k d).2) ∧ (qx = (inP p HH PP k d).1)) (fun d => k - d) (0) ⟨_,_,1,_,_,_,aSs ⟨rfl,rfl,rfl,rfl,rfl,rfl,rfl,rfl,rfl,rfl,rfl,rfl,trivial⟩,hS,Nat.zero_le _,by omega,rfl,by rw [inP, ← hPQ2,hdk, ← hQH2,hdh]⟩ ?_
  clear hS; rintro d _ w15 ⟨fb,jj,cc,pq,cq,qx,rfl,hS,hd,hjj,hcc,hqx⟩
  refine wSq (wsr (wmv (v:=.int .i64 jj) rfl rfl ?_))
  by_cases hdk9:d < k
  ·
   refine wbc (u:=.int .i64 jj) (v:=.int .i64 0) rfl rfl (bin_geq (decide_eq_true (by omega))) ?_
   refine wn1 ?_
   refine wT (ev rfl rfl) ?_
   refine wSk (tNo (wSq (wBk (wSq ?_))))
   obtain ⟨j,rfl⟩:∃ j:Nat,jj = (j:Int):=⟨k - 1 - d,by omega⟩
   have hj:k - 1 - d = j:=by omega
   have hqb:qx.length ≤ 1000:=by rw [hqx]; have:=inP_len (p:=p) (H:=HH) hltP d (by omega); omega
   have hcb:cc < p:=by rw [hcc]; exact inP_c hp1 d
   obtain ⟨⟨pg,cg,xg⟩,hqg⟩:∃ q,(QH)[(j + 1)]? = some q:=⟨_,List.getElem?_eq_getElem (by omega)⟩
   have hdg:(nums (QH)).getD ((j + 1)) [] = xg:=getD_get (nums_get hqg)
   obtain ⟨hng,hltg⟩:=sH.get (nums_get hqg)
   simp only at hng hltg
   obtain ⟨gg,hgg⟩:=hS.mPtr 6 rfl hqg (by show 0 < xg.length; omega)
   obtain ⟨⟨pi,ci,xi⟩,hqi⟩:∃ q,(QH)[j]? = some q:=⟨_,List.getElem?_eq_getElem (by omega)⟩
   have hdi:(nums (QH)).getD j [] = xi:=getD_get (nums_get hqi)
   obtain ⟨hni,hlti⟩:=sH.get (nums_get hqi)
   simp only at hni hlti
   obtain ⟨gi,hgi⟩:=hS.mPtr 6 rfl hqi (by show 0 < xi.length; omega)
   obtain ⟨⟨pj,cj,xj⟩,hqj⟩:∃ q,(PQ)[j]? = some q:=⟨_,List.getElem?_eq_getElem (by omega)⟩
   have hdj:(nums (PQ)).getD j [] = xj:=getD_get (nums_get hqj)
   have hbj:xj.length ≤ 1000:=by have:=hlen j (by omega); rw [hdj] at this; omega
   have hgj:=lt_nd hltg hp0 j
   have hik:=lt_nd hlti hp0 k
   have hm9:=Nat.mod_lt (cc * nd xg j) hp0
   have hm8:=Nat.mod_lt (cc * nd xg j % p * nd xi k) hp0
   have hts:=scaleP_len p xj (cc * nd xg j % p * nd xi k % p)
   refine wSg 11 [81,82,83,84,85,86,87,88,89,90,91] [[],[],[],[],[3],[2,4,3],[5,2,3,4],[],[6,7,2,3,4,5],[8,2,3,4,5,6,7],[0,1,9,2,3,4,5,6,7,8]] [] [] [] (fun i9 => ([iSv (.agg #[.int .u64 (p:Int)]),iSv (.int .u32 (cc:Int)),iSv (.slice pH nm cH),iSv (.int .i64 (j:Int)),iSv (.int .i64 ((j + 1:Nat):Int)),iSv (.pointer (some ⟨gH,(0 + (j + 1) * 1),none⟩)),iSv (.slice pg nm cg),iSv (.int .i64 (j:Int)),iSv (.pointer (some ⟨gg,j,none⟩)),iSv (.int .u32 ((nd xg j:Nat):Int)),iSv (.int .u32 (((cc * (nd xg j) % p:Nat):Int)))]:List (List Value → Tell)).getD i9 (fun _ _ _ => False)) hNi (fun d _ _ _ _ h => (by cases d <;> exact h)) (by kernel_rfl) (by kernel_rfl) (by kernel_rfl) hS ?_ ?_
   ·
    refine stH rfl (fun ho hS=>?_) ?_
    ·exact inNo rfl (oLd (vs:=[.int .u64 (p:Int)]) ⟨Tryd.isAgg57,Tryd.sizeOf57⟩ hS 4 rfl rfl (ev rfl (ho 8 rfl)) rfl rfl rfl (nSm rfl isI))
    refine stM rfl rfl rfl rfl rfl (fun _=>isI) ?_
    refine stM rfl rfl rfl rfl rfl (fun _=>isI) ?_
    refine stM rfl rfl rfl rfl rfl (fun _=>isI) ?_
    refine stT rfl (fun hT hS=>?_) ?_
    ·obtain ⟨hv3,hr3⟩:=hT 3 84 rfl rfl
     obtain hS:=hS.flat1 hr3
     exact inNo rfl (obin (u:=.int .i64 (j:Int)) (v:=.int .i64 1) (z:=.int .i64 ((j + 1:Nat):Int)) rfl rfl (ev rfl hv3) evc (bAd (wI6 (by omega) (by omega))) (nSm rfl isI))
    refine stT rfl (fun hT hS=>?_) ?_
    ·obtain ⟨hv2,hr2⟩:=hT 2 83 rfl rfl
     obtain ⟨hv4,hr4⟩:=hT 4 85 rfl rfl
     obtain hS:=hS.flat2 hr2 hr4
     exact inNo rfl (oIx (p:=pH) (g:=gH) (off:=0) (m:=nm) (k:=j + 1) (j:=(0 + (j + 1) * 1)) rfl rfl Tryd.runUnderlying23 Tryd.sizeOf29 (ev rfl hv2) hgH (ev rfl hv4) (by omega) rfl (nSm rfl isI))
    refine stT rfl (fun hT hS=>?_) ?_
    ·obtain ⟨hv5,hr5⟩:=hT 5 86 rfl rfl
     obtain hS:=hS.flat1 hr5
     exact inNo rfl (oLc (v:=.slice pg nm cg) ⟨Tryd.isAgg29,Tryd.sizeOf29⟩ rfl rfl (ev (v:=.pointer (some ⟨gH,(0 + (j + 1) * 1),none⟩)) rfl hv5) (hS.mRow 6 rfl hqg hng hgH) (nSm rfl isI))
    refine stM rfl rfl rfl rfl rfl (fun _=>isI) ?_
    refine stT rfl (fun hT hS=>?_) ?_
    ·obtain ⟨hv6,hr6⟩:=hT 6 87 rfl rfl
     obtain ⟨hv7,hr7⟩:=hT 7 88 rfl rfl
     obtain hS:=hS.flat2 hr6 hr7
     exact inNo rfl (oIx (p:=pg) (g:=gg) (off:=0) (m:=nm) (k:=j) (j:=j) rfl rfl Tryd.runUnderlying29 Tryd.sizeOf24 (ev rfl hv6) hgg (ev rfl hv7) (by omega) (by simp) (nSm rfl isI))
    refine stT rfl (fun hT hS=>?_) ?_
    ·obtain ⟨hv8,hr8⟩:=hT 8 89 rfl rfl
     obtain hS:=hS.flat1 hr8
     exact inNo rfl (oLc (v:=.int .u32 ((nd xg j:Nat):Int)) one32 rfl rfl (ev (v:=.pointer (some ⟨gg,j,none⟩)) rfl hv8) (hS.mCell 6 rfl hqg hgg (by omega)) (nSm rfl isI))
    refine stT rfl (fun hT hS=>?_) ?_
    ·obtain ⟨hv0,hr0⟩:=hT 0 81 rfl rfl
     obtain ⟨hv1,hr1⟩:=hT 1 82 rfl rfl
     obtain ⟨hv9,hr9⟩:=hT 9 90 rfl rfl
     obtain hS:=hS.flat3 hr0 hr1 hr9
     exact .inl ⟨wNo rfl,oCl rfl rfl Tryd.call27 rfl (whmul (a:=cc) (b:=(nd xg j)) hp0 hp2 (by omega) (by omega)) (args3 (ev rfl hv0) (ev rfl hv1) (ev rfl hv9)) cNw⟩
    exact sNi
   intro vs ρ w16 f' hf hT hS
   obtain ⟨hv0,hr0⟩:=hT 0 (by decide)
   obtain ⟨hv1,hr1⟩:=hT 1 (by decide)
   obtain ⟨hv2,hr2⟩:=hT 2 (by decide)
   obtain ⟨hv3,hr3⟩:=hT 3 (by decide)
   obtain ⟨hv4,hr4⟩:=hT 4 (by decide)
   obtain ⟨hv5,hr5⟩:=hT 5 (by decide)
   obtain ⟨hv6,hr6⟩:=hT 6 (by decide)
   obtain ⟨hv7,hr7⟩:=hT 7 (by decide)
   obtain ⟨hv8,hr8⟩:=hT 8 (by decide)
   obtain ⟨hv9,hr9⟩:=hT 9 (by decide)
   obtain ⟨hv10,hr10⟩:=hT 10 (by decide)
   simp only [pool,if_true,hr0,hr1,hr2,hr3,hr4,hr5,hr6,hr7,hr8,hr9,hr10,List.nil_append,List.cons_append,List.append_nil] at hS
   simp only [layf,hv0,hv1,hv2,hv3,hv4,hv5,hv6,hv7,hv8,hv9,hv10] at hf
   subst hf; clear hT hv0 hv1 hv2 hv3 hv4 hv5 hv6 hv7 hv8 hv9 hv10 hr0 hr1 hr2 hr3 hr4 hr5 hr6 hr7 hr8 hr9 hr10
   refine wLt 11 rfl (by kernel_rfl) (oassign (v:=.int .u32 (((cc * (nd xg j) % p:Nat):Int))) rfl rfl (ev rfl rfl) ?_)
   refine ⟨hNi,?_⟩
   refine wdone rfl ?_
   refine tNo (wSq ?_)
   refine wSg 21 [93,94,95,96,97,98,99,100,101,102,103,104,105,106,107,108,92,109,110,17,18] [[],[],[0,1],[2,0,1],[],[],[],[],[6,7],[8,6,7],[],[9,10,6,7,8],[11,6,7,8,9,10],[4,5,12,6,7,8,9,10,11],[],[3,13,14,0,1,2,4,5,6,7,8,9,10,11,12],[15,0,1,2,3,4,5,6,7,8,9,10,11,12,13,14],[15,16,0,1,2,3,4,5,6,7,8,9,10,11,12,13,14],[15,16,0,1,2,3,4,5,6,7,8,9,10,11,12,13,14],[15,17,0,1,2,3,4,5,6,7,8,9,10,11,12,13,14,16],[18,0,1,2,3,4,5,6,7,8,9,10,11,12,13,14,15,16,17,19]] [[],[],[],[],[],[],[],[],[],[],[],[],[],[],[],[],[15],[15],[],[15],[]] [] [] (fun i9 => ([iSv (.slice pP ((k + 1)) cP),iSv (.int .i64 (j:Int)),iSv (.pointer (some ⟨gp11,(0 + j * 1),none⟩)),iSv (.slice pj xj.length cj),iSv (.agg #[.int .u64 (p:Int)]),iSv (.int .u32 (((cc * (nd xg j) % p:Nat):Int))),iSv (.slice pH nm cH),iSv (.int .i64 (j:Int)),iSv (.pointer (some ⟨gH,(0 + j * 1),none⟩)),iSv (.slice pi nm ci),iSv (.int .i64 (k:Int)),iSv (.pointer (some ⟨gi,k,none⟩)),iSv (.int .u32 ((nd xi k:Nat):Int)),iSv (.int .u32 ((((cc * (nd xg j) % p) * (nd xi k) % p:Nat):Int))),iSv (.int .u32 (p:Int)),fun _ => PEt (scaleP p xj ((cc * (nd xg j) % p) * (nd xi k) % p)) 0,fun us => Is (.tuple #[(vat (us.getD 0 undef) [0]),.int .i64 0]),fun us => Is ((vat (us.getD 0 undef) [0])),iSv (.int .i64 0),fun us => Is ((vat (us.getD 0 undef) [0])),iSv (.int .i64 0)]:List (List Value → Tell)).getD i9 (fun _ _ _ => False)) hNi (fun d _ _ _ _ h => (by cases d <;> exact h)) (by kernel_rfl) (by kernel_rfl) (by kernel_rfl) hS ?_ ?_
   ·
    refine stM rfl rfl rfl rfl rfl (fun _=>isI) ?_
    refine stM rfl rfl rfl rfl rfl (fun _=>isI) ?_
    refine stT rfl (fun hT hS=>?_) ?_
    ·obtain ⟨hv0,hr0⟩:=hT 0 93 rfl rfl
     obtain ⟨hv1,hr1⟩:=hT 1 94 rfl rfl
     obtain hS:=hS.flat2 hr0 hr1
     exact inNo rfl (oIx (p:=pP) (g:=gp11) (off:=0) (m:=(k + 1)) (k:=j) (j:=(0 + j * 1)) rfl rfl Tryd.runUnderlying62 Tryd.sizeOf30 (ev rfl hv0) hgp11 (ev rfl hv1) (by omega) rfl (nSm rfl isI))
    refine stT rfl (fun hT hS=>?_) ?_
    ·obtain ⟨hv2,hr2⟩:=hT 2 95 rfl rfl
     obtain hS:=hS.flat1 hr2
     exact inNo rfl (oLc (v:=.slice pj xj.length cj) ⟨Tryd.isAgg30,Tryd.sizeOf30⟩ rfl rfl (ev (v:=.pointer (some ⟨gp11,(0 + j * 1),none⟩)) rfl hv2) (hS.lstAt 3 rfl hgp11 j 0 (ppE_get hqj) rfl (by decide) (by omega)) (nSm rfl isI))
    refine stH rfl (fun ho hS=>?_) ?_
    ·exact inNo rfl (oLd (vs:=[.int .u64 (p:Int)]) ⟨Tryd.isAgg57,Tryd.sizeOf57⟩ hS 4 rfl rfl (ev rfl (ho 8 rfl)) rfl rfl rfl (nSm rfl isI))
    refine stM rfl rfl rfl rfl rfl (fun _=>isI) ?_
    refine stM rfl rfl rfl rfl rfl (fun _=>isI) ?_
    refine stM rfl rfl rfl rfl rfl (fun _=>isI) ?_
    refine stT rfl (fun hT hS=>?_) ?_
    ·obtain ⟨hv6,hr6⟩:=hT 6 99 rfl rfl
     obtain ⟨hv7,hr7⟩:=hT 7 100 rfl rfl
     obtain hS:=hS.flat2 hr6 hr7
     exact inNo rfl (oIx (p:=pH) (g:=gH) (off:=0) (m:=nm) (k:=j) (j:=(0 + j * 1)) rfl rfl Tryd.runUnderlying23 Tryd.sizeOf29 (ev rfl hv6) hgH (ev rfl hv7) (by omega) rfl (nSm rfl isI))
    refine stT rfl (fun hT hS=>?_) ?_
    ·obtain ⟨hv8,hr8⟩:=hT 8 101 rfl rfl
     obtain hS:=hS.flat1 hr8
     exact inNo rfl (oLc (v:=.slice pi nm ci) ⟨Tryd.isAgg29,Tryd.sizeOf29⟩ rfl rfl (ev (v:=.pointer (some ⟨gH,(0 + j * 1),none⟩)) rfl hv8) (hS.mRow 6 rfl hqi hni hgH) (nSm rfl isI))
    refine stM rfl rfl rfl rfl rfl (fun _=>isI) ?_
    refine stT rfl (fun hT hS=>?_) ?_
    ·obtain ⟨hv9,hr9⟩:=hT 9 102 rfl rfl
     obtain ⟨hv10,hr10⟩:=hT 10 103 rfl rfl
     obtain hS:=hS.flat2 hr9 hr10
     exact inNo rfl (oIx (p:=pi) (g:=gi) (off:=0) (m:=nm) (k:=k) (j:=k) rfl rfl Tryd.runUnderlying29 Tryd.sizeOf24 (ev rfl hv9) hgi (ev rfl hv10) (by omega) (by simp) (nSm rfl isI))
    refine stT rfl (fun hT hS=>?_) ?_
    ·obtain ⟨hv11,hr11⟩:=hT 11 104 rfl rfl
     obtain hS:=hS.flat1 hr11
     exact inNo rfl (oLc (v:=.int .u32 ((nd xi k:Nat):Int)) one32 rfl rfl (ev (v:=.pointer (some ⟨gi,k,none⟩)) rfl hv11) (hS.mCell 6 rfl hqi hgi (by omega)) (nSm rfl isI))
    refine stT rfl (fun hT hS=>?_) ?_
    ·obtain ⟨hv4,hr4⟩:=hT 4 97 rfl rfl
     obtain ⟨hv5,hr5⟩:=hT 5 98 rfl rfl
     obtain ⟨hv12,hr12⟩:=hT 12 105 rfl rfl
     obtain hS:=hS.flat3 hr4 hr5 hr12
     exact .inl ⟨wNo rfl,oCl rfl rfl Tryd.call27 rfl (whmul (a:=(cc * (nd xg j) % p)) (b:=(nd xi k)) hp0 hp2 (by omega) (by omega)) (args3 (ev rfl hv4) (ev rfl hv5) (ev rfl hv12)) cNw⟩
    refine stM rfl rfl rfl rfl rfl (fun _=>isI) ?_
    refine stT rfl (fun hT hS=>?_) ?_
    ·obtain ⟨hv3,hr3⟩:=hT 3 96 rfl rfl
     obtain ⟨hv13,hr13⟩:=hT 13 106 rfl rfl
     obtain ⟨hv14,hr14⟩:=hT 14 107 rfl rfl
     obtain hS:=hS.flat3 hr3 hr13 hr14
     exact .inl ⟨wNo rfl,oCl rfl rfl Tryd.call25 rfl (wyScale (ht.at hS) (hS.ppSl 3 rfl hqj) hp hp2 (by omega) (c:=((cc * (nd xg j) % p) * (nd xi k) % p)) (by omega)) (args3 (ev rfl hv3) (ev rfl hv13) (ev rfl hv14)) cNw⟩
    refine stC rfl (fun _ f' _ _ _ _ hT hS _=>?_) ?_
    ·obtain ⟨pt1,ct1,hv15,hr15⟩:=(hT 15 108 rfl rfl:(PEt (scaleP p xj ((cc * (nd xg j) % p) * (nd xi k) % p)) 0) _ _)
     obtain hS:=hS.flat1 hr15
     have hQ:(.tuple #[.slice pt1 ((scaleP p xj ((cc * (nd xg j) % p) * (nd xi k) % p)).length) ct1,.int .i64 0]:Value) = (fun (us:List Value) => (.tuple #[(vat (us.getD 0 undef) [0]),.int .i64 0]:Value)) [f' 108]:=by show _ = (.tuple #[(vat (f' 108) [0]),.int .i64 0]:Value); rw [hv15]; rfl
     exact .inl ⟨wNo rfl,omove (v:=.tuple #[.slice pt1 ((scaleP p xj ((cc * (nd xg j) % p) * (nd xi k) % p)).length) ct1,.int .i64 0]) rfl rfl (ev rfl hv15) ⟨_,_,rfl,⟨hQ,rfl⟩,New.same _⟩⟩
    refine stC rfl (fun _ f' _ _ _ _ hT hS _=>?_) ?_
    ·obtain ⟨pt1,ct1,hv15,hr15⟩:=(hT 15 108 rfl rfl:(PEt (scaleP p xj ((cc * (nd xg j) % p) * (nd xi k) % p)) 0) _ _)
     obtain ⟨hv16,hr16⟩:=(hT 16 92 rfl rfl:(fun (us:List Value) => Is (.tuple #[(vat (us.getD 0 undef) [0]),.int .i64 0])) [f' 108] _ _)
     replace hv16:f' 92 = .tuple #[.slice pt1 ((scaleP p xj ((cc * (nd xg j) % p) * (nd xi k) % p)).length) ct1,.int .i64 0]:=hv16.trans (by show (.tuple #[(vat (f' 108) [0]),.int .i64 0]:Value) = _; rw [hv15]; rfl)
     obtain hS:=hS.flat2 hr15 hr16
     have hQ:(.slice pt1 ((scaleP p xj ((cc * (nd xg j) % p) * (nd xi k) % p)).length) ct1:Value) = (fun (us:List Value) => ((vat (us.getD 0 undef) [0]):Value)) [f' 108]:=by show _ = ((vat (f' 108) [0]):Value); rw [hv15]; rfl
     exact .inl ⟨wNo rfl,oEx (vs:=[.slice pt1 ((scaleP p xj ((cc * (nd xg j) % p) * (nd xi k) % p)).length) ct1,.int .i64 0]) (v:=.slice pt1 ((scaleP p xj ((cc * (nd xg j) % p) * (nd xi k) % p)).length) ct1) rfl rfl (ev rfl hv16) rfl ⟨_,_,rfl,⟨hQ,rfl⟩,New.same _⟩⟩
    refine stC rfl (fun _ f' _ _ _ _ hT hS _=>?_) ?_
    ·obtain ⟨pt1,ct1,hv15,hr15⟩:=(hT 15 108 rfl rfl:(PEt (scaleP p xj ((cc * (nd xg j) % p) * (nd xi k) % p)) 0) _ _)
     obtain ⟨hv16,hr16⟩:=(hT 16 92 rfl rfl:(fun (us:List Value) => Is (.tuple #[(vat (us.getD 0 undef) [0]),.int .i64 0])) [f' 108] _ _)
     replace hv16:f' 92 = .tuple #[.slice pt1 ((scaleP p xj ((cc * (nd xg j) % p) * (nd xi k) % p)).length) ct1,.int .i64 0]:=hv16.trans (by show (.tuple #[(vat (f' 108) [0]),.int .i64 0]:Value) = _; rw [hv15]; rfl)
     obtain hS:=hS.flat2 hr15 hr16
     exact inNo rfl (oEx (vs:=[.slice pt1 ((scaleP p xj ((cc * (nd xg j) % p) * (nd xi k) % p)).length) ct1,.int .i64 0]) (v:=.int .i64 0) rfl rfl (ev rfl hv16) rfl (nSm rfl isI))
    refine stC rfl (fun _ f' _ _ _ _ hT hS _=>?_) ?_
    ·obtain ⟨pt1,ct1,hv15,hr15⟩:=(hT 15 108 rfl rfl:(PEt (scaleP p xj ((cc * (nd xg j) % p) * (nd xi k) % p)) 0) _ _)
     obtain ⟨hv17,hr17⟩:=(hT 17 109 rfl rfl:(fun (us:List Value) => Is ((vat (us.getD 0 undef) [0]))) [f' 108] _ _)
     replace hv17:f' 109 = .slice pt1 ((scaleP p xj ((cc * (nd xg j) % p) * (nd xi k) % p)).length) ct1:=hv17.trans (by show ((vat (f' 108) [0]):Value) = _; rw [hv15]; rfl)
     obtain hS:=hS.flat2 hr15 hr17
     have hQ:(.slice pt1 ((scaleP p xj ((cc * (nd xg j) % p) * (nd xi k) % p)).length) ct1:Value) = (fun (us:List Value) => ((vat (us.getD 0 undef) [0]):Value)) [f' 108]:=by show _ = ((vat (f' 108) [0]):Value); rw [hv15]; rfl
     exact .inl ⟨wNo rfl,oassign (v:=.slice pt1 ((scaleP p xj ((cc * (nd xg j) % p) * (nd xi k) % p)).length) ct1) rfl rfl (ev rfl hv17) ⟨_,_,rfl,⟨hQ,rfl⟩,New.same _⟩⟩
    refine stT rfl (fun hT hS=>?_) ?_
    ·obtain ⟨hv18,hr18⟩:=hT 18 110 rfl rfl
     obtain hS:=hS.flat1 hr18
     exact inNo rfl (oassign (v:=.int .i64 0) rfl rfl (ev rfl hv18) (nSm rfl isI))
    exact sNi
   intro vs ρ w17 f' hf hT hS
   obtain ⟨hv0,hr0⟩:=hT 0 (by decide)
   obtain ⟨hv1,hr1⟩:=hT 1 (by decide)
   obtain ⟨hv2,hr2⟩:=hT 2 (by decide)
   obtain ⟨hv3,hr3⟩:=hT 3 (by decide)
   obtain ⟨hv4,hr4⟩:=hT 4 (by decide)
   obtain ⟨hv5,hr5⟩:=hT 5 (by decide)
   obtain ⟨hv6,hr6⟩:=hT 6 (by decide)
   obtain ⟨hv7,hr7⟩:=hT 7 (by decide)
   obtain ⟨hv8,hr8⟩:=hT 8 (by decide)
   obtain ⟨hv9,hr9⟩:=hT 9 (by decide)
   obtain ⟨hv10,hr10⟩:=hT 10 (by decide)
   obtain ⟨hv11,hr11⟩:=hT 11 (by decide)
   obtain ⟨hv12,hr12⟩:=hT 12 (by decide)
   obtain ⟨hv13,hr13⟩:=hT 13 (by decide)
   obtain ⟨hv14,hr14⟩:=hT 14 (by decide)
   obtain ⟨pt1,ct1,hv15,hr15⟩:=(hT 15 (by decide):(PEt (scaleP p xj ((cc * (nd xg j) % p) * (nd xi k) % p)) 0) _ _)
   obtain ⟨hv16,hr16⟩:=(hT 16 (by decide):(fun (us:List Value) => Is (.tuple #[(vat (us.getD 0 undef) [0]),.int .i64 0])) [vs 15] _ _)
   replace hv16:vs 16 = .tuple #[.slice pt1 ((scaleP p xj ((cc * (nd xg j) % p) * (nd xi k) % p)).length) ct1,.int .i64 0]:=hv16.trans (by show (.tuple #[(vat (vs 15) [0]),.int .i64 0]:Value) = _; rw [hv15]; rfl)
   obtain ⟨hv17,hr17⟩:=(hT 17 (by decide):(fun (us:List Value) => Is ((vat (us.getD 0 undef) [0]))) [vs 15] _ _)
   replace hv17:vs 17 = .slice pt1 ((scaleP p xj ((cc * (nd xg j) % p) * (nd xi k) % p)).length) ct1:=hv17.trans (by show ((vat (vs 15) [0]):Value) = _; rw [hv15]; rfl)
   obtain ⟨hv18,hr18⟩:=hT 18 (by decide)
   obtain ⟨hv19,hr19⟩:=(hT 19 (by decide):(fun (us:List Value) => Is ((vat (us.getD 0 undef) [0]))) [vs 15] _ _)
   replace hv19:vs 19 = .slice pt1 ((scaleP p xj ((cc * (nd xg j) % p) * (nd xi k) % p)).length) ct1:=hv19.trans (by show ((vat (vs 15) [0]):Value) = _; rw [hv15]; rfl)
   obtain ⟨hv20,hr20⟩:=hT 20 (by decide)
   simp only [pool,if_true,hr0,hr1,hr2,hr3,hr4,hr5,hr6,hr7,hr8,hr9,hr10,hr11,hr12,hr13,hr14,hr15,hr16,hr17,hr18,hr19,hr20,List.nil_append,List.cons_append,List.append_nil] at hS
   simp only [layf,hv0,hv1,hv2,hv3,hv4,hv5,hv6,hv7,hv8,hv9,hv10,hv11,hv12,hv13,hv14,hv15,hv16,hv17,hv18,hv19,hv20] at hf
   subst hf; clear hT hv0 hv1 hv2 hv3 hv4 hv5 hv6 hv7 hv8 hv9 hv10 hv11 hv12 hv13 hv14 hv15 hv16 hv17 hv18 hv19 hv20 hr0 hr1 hr2 hr3 hr4 hr5 hr6 hr7 hr8 hr9 hr10 hr11 hr12 hr13 hr14 hr15 hr16 hr17 hr18 hr19 hr20
   refine wdone rfl ?_
   refine tNo (wreg (wmv (v:=.slice pq qx.length cq) rfl rfl ?_))
   refine wmv (v:=.slice pt1 ((scaleP p xj ((cc * (nd xg j) % p) * (nd xi k) % p)).length) ct1) rfl rfl ?_
   refine wmv (v:=.int .u32 (p:Int)) rfl rfl ?_
   refine wcl Tryd.call26 (wySub (ht.at hS) (hS.slo 1 rfl) (hS.slo 0 rfl) hp hp2 (by omega) (by omega)) (args3 (ev rfl rfl) (ev rfl rfl) (ev rfl rfl)) hS ?_
   clear hS; rintro _ _ w18 ⟨pq2,cq2,rfl,rfl⟩ hS
   refine wmv (v:=.tuple #[.slice pq2 ((subP p qx (scaleP p xj ((cc * (nd xg j) % p) * (nd xi k) % p))).length) cq2,.int .i64 0]) rfl rfl ?_
   refine wl rfl (oEx (vs:=[.slice pq2 ((subP p qx (scaleP p xj ((cc * (nd xg j) % p) * (nd xi k) % p))).length) cq2,.int .i64 0]) (v:=.slice pq2 ((subP p qx (scaleP p xj ((cc * (nd xg j) % p) * (nd xi k) % p))).length) cq2) rfl rfl (ev rfl rfl) rfl ?_)
   refine wl rfl (oEx (vs:=[.slice pq2 ((subP p qx (scaleP p xj ((cc * (nd xg j) % p) * (nd xi k) % p))).length) cq2,.int .i64 0]) (v:=.int .i64 0) rfl rfl (ev rfl rfl) rfl ?_)
   refine wav (v:=.slice pq2 ((subP p qx (scaleP p xj ((cc * (nd xg j) % p) * (nd xi k) % p))).length) cq2) rfl rfl ?_
   refine wnil (blkN (tNo (wreg (wmv (v:=.int .i64 (j:Int)) rfl rfl ?_))))
   refine wbc (u:=.int .i64 (j:Int)) (v:=.int .i64 1) (z:=.int .i64 (((j:Int) - 1))) rfl rfl (bin_sub (wI6 (by omega) (by omega))) ?_
   refine wav (v:=.int .i64 (((j:Int) - 1))) rfl rfl ?_
   refine wn1 ?_
   exact ⟨(d + 1),⟨_,_,_,_,_,_,aSs ⟨rfl,rfl,rfl,rfl,rfl,rfl,rfl,rfl,rfl,rfl,rfl,rfl,trivial⟩,hS.pick [0,3,4,5,6,7,8,9,10] (by decide) rfl,by omega,by omega,by rw [inP]; simp only; rw [hj, ← hcc, ← hQH2,hdg],by rw [inP]; simp only; rw [hj, ← hqx, ← hcc, ← hQH2,hdg,hdi, ← hPQ2,hdj]⟩,by omega⟩
  refine wbc (u:=.int .i64 jj) (v:=.int .i64 0) rfl rfl (bin_geq (decide_eq_false (by omega))) ?_
  refine wn1 ?_
  refine wF (ev rfl rfl) ?_
  refine wEx ?_
  refine tEx ?_
  refine tEx ?_
  refine blkE ?_
  refine tNo (wreg (wmv (v:=.slice pP ((k + 1)) cP) rfl rfl ?_))
  refine wmv (v:=.slice pq qx.length cq) rfl rfl ?_
  refine wl rfl (obslice (ps:=#[(0,.slice pq qx.length cq)]) (z:=.slice none 0 0) [.slice pq qx.length cq] hS rfl rfl Tryd.runUnderlying62 Tryd.sizeOf30 Tryd.zeroValue30 (parts1 (ev (v:=.slice pq qx.length cq) rfl rfl)) rfl (by decide) (fill1_1s rfl rfl) ?_)
  clear hS; intro g16 w17 hS
  have hde:d = k:=by omega
  obtain hS:=(show Sep w [.rdo pq qx.length cq qx,.lst 30 1 pP ((k + 1)) cP (ppE PQ),.blk g16 [.slice pq qx.length cq] 30,.rdo pt0 ((scaleP p xk (nd xh k)).length) ct0 (scaleP p xk (nd xh k)),.rdo pq0 ((shiftP p xk).length) cq0 (shiftP p xk),.blk g3 [.int .u64 (((p:Nat):Int))] 57,.blk gw [.int .u64 (((p:Nat):Int)),.slice pH nm cH,.slice pS nm cS,.slice pR nm cR] 59,.lst 29 1 pH nm cH (mmE QH),.lst 29 1 pS nm cS (mmE QS),.lst 29 1 pR nm cR (mmE QR)] w17 from hS.pick [1,4,0,2,3,5,6,7,8,9] (by decide) rfl)
  refine wl rfl (oappendL (p:=pP) (m:=(k + 1)) (c:=cP) (g2:=g16) (c2:=1) (off:=0) [.slice pq qx.length cq] [.rdo pq qx.length cq qx] hS rfl rfl Tryd.underlying62 infoModPoly rfl (by decide) (ev (v:=.slice pP ((k + 1)) cP) rfl rfl) (ev (v:=.slice (some ⟨g16,0,none⟩) 1 1) rfl rfl) (fun j v hj => by rw [Nat.zero_add]; exact (blk_cell (hS.blkAt 2 rfl) j).trans hj) rfl rfl rfl (by omega) (by omega) ?_)
  clear hS; intro p19 c20 w18 hS
  refine wav (v:=.slice p19 (((k + 1) + 1)) c20) rfl rfl ?_
  refine wnil (blkN (tNo (wreg (wbc (u:=.int .i64 (k:Int)) (v:=.int .i64 1) (z:=.int .i64 ((k + 1:Nat):Int)) rfl rfl (bAd (wI6 (by omega) (by omega))) ?_))))
  refine wmv (v:=.int .i64 ((k + 1:Nat):Int)) rfl rfl ?_
  refine wn1 ?_
  rw [pp_snoc (xs:=qx) rfl] at hS
  exact ⟨(k + 1),⟨_,_,_,_,aSs ⟨rfl,rfl,rfl,rfl,rfl,rfl,rfl,rfl,trivial⟩,hS.pick [0,4,5,6,7,8] (by decide) rfl,by omega,by rw [nums_app,hPQ,polysL,hPP,hqx,hde]⟩,by omega⟩
 refine wbt (u:=.int .i64 (k:Int)) (v:=.int .i64 (nm:Int)) rfl rfl rfl rfl (bLs (decide_eq_false (by omega))) ?_
 refine wn1 (wSq ?_)
 refine wF (ev rfl rfl) ?_
 refine wEx ?_
 refine tEx ?_
 refine tEx ?_
 refine blkE ?_
 refine tNo (wsr (wmv (v:=.slice pP ((k + 1)) cP) rfl rfl ?_))
 refine wmv (v:=.slice pH nm cH) rfl rfl ?_
 refine wl rfl (olen rfl rfl rfl Tryd.runUnderlying23 (p:=pH) (k:=nm) (m:=cH) (ev rfl rfl) ?_)
 have hkn:k = nm:=by omega
 have hPl:PQ.length = nm + 1:=by rw [nums_lenQ hPQ,hkn]; exact polysL_len ..
 obtain ⟨gp11,hgp11⟩:=hS.lstPtr 0 rfl (by omega)
 obtain ⟨⟨pz,cz,xz⟩,hqz⟩:∃ q,(PQ)[nm]? = some q:=⟨_,List.getElem?_eq_getElem (by omega)⟩
 have hdz:(nums (PQ)).getD nm [] = xz:=getD_get (nums_get hqz)
 have hbz:xz.length ≤ 1000:=by have h9:((nums PQ).getD nm []).length ≤ nm + 1:=(by rw [hPQ,hkn]; exact polysL_lens nm (Nat.le_refl _)); rw [hdz] at h9; omega
 refine wl rfl (oIx (p:=pP) (g:=gp11) (off:=0) (m:=(k + 1)) (k:=nm) (j:=(0 + nm * 1)) rfl rfl Tryd.runUnderlying62 Tryd.sizeOf30 (ev rfl rfl) hgp11 (ev rfl rfl) (by omega) rfl ?_)
 refine wl rfl (oLc (v:=.slice pz xz.length cz) ⟨Tryd.isAgg30,Tryd.sizeOf30⟩ rfl rfl (ev (v:=.pointer (some ⟨gp11,(0 + nm * 1),none⟩)) rfl rfl) (hS.lstAt 0 rfl hgp11 nm 0 (ppE_get hqz) rfl (by decide) (by omega)) ?_)
 refine wav (v:=.slice pz xz.length cz) rfl rfl ?_
 refine wavc ?_
 refine wn1 ?_
 refine wLv ?_
 refine wret2 Tryd.results9 (tlT (v:=.slice pz xz.length cz) rfl rfl) (tlT (v:=.int .i64 0) rfl rfl) ?_
 have hre:xz = charL p M:=by rw [← hdz,hPQ,hkn]; unfold charL; rw [hml,hHH]
 subst hre
 obtain hS:=hS.takeEl (ppE_get hqz)
 exact ⟨_,_,rfl,⟨_,_,rfl,rfl⟩,hS.newR 0 rfl rfl⟩
end Go.Proofs.YtcfcdbeemhjhgaaDoor
