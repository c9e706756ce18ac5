/-
  Contracts and lemmas, joined in one text.
-/
import Derived.Test.YtcfcdbeemhjhgaaDoorHB
set_option linter.unusedVariables false
set_option linter.unusedSimpArgs false
/-
  modpoly's Shift,Scale,Sub.
-/
set_option maxRecDepth 100000
set_option maxHeartbeats 16000000
namespace Go.Proofs.YtcfcdbeemhjhgaaDoor
open Go.RowKit
theorem wyShift {pa:Option Addr} {na ca p:Nat} {a:List Nat} {w:World} (ht:Tb w) (ha:Sl w pa na ca a) (hp:MR.Pr p) (hp2:p < 4294967296) (hn:na ≤ 100000)  :
  Calls Tryd.prog 24 #[.slice pa na ca,.int .i64 1,.int .u32 ((p:Nat):Int)] w (Ret (PEt (shiftP p a) 0) w):=by
 have hal:=ha.len
 have hp1:=hp.1
 have hp0:0 < p:=by omega
 have hS:=Sep.init w
 refine went Tryd.func24 rfl (n:=40) rfl rfl ?_
 refine wseq (wreg (wl rfl (oassign (v:=.slice none 0 0) rfl rfl evc ?_)))
 refine wl rfl (oassign (v:=.int .i64 0) rfl rfl evc ?_)
 refine wnil (thenN (wseq (wreg (wl rfl (omove (v:=.int .u32 (p:Int)) rfl rfl (ev rfl rfl) ?_)))))
 refine wl rfl (omove (v:=.slice pa na ca) rfl rfl (ev rfl rfl) ?_)
 refine wl rfl (obslice (ps:=#[(0,.slice pa na ca)]) (z:=.slice none 0 0) [.slice pa na ca] hS rfl rfl Tryd.runUnderlying62 Tryd.sizeOf30 Tryd.zeroValue30 (parts1 (ev (v:=.slice pa na ca) rfl rfl)) rfl (by decide) (fill1_1s rfl rfl) ?_)
 clear hS; intro g1 w2 hS
 refine wl rfl (ocall rfl rfl Tryd.call40 rfl (wyall (ht.at hS) (MS.of1 (hS.blkAt 0 rfl) (ha.below hS.below (Nat.le_refl _))) hp hp2 (by decide) (fun x hx => by rw [List.mem_singleton.1 hx]; omega)) (args2 (ev rfl rfl) (ev rfl rfl)) ?_)
 rintro _ w3 ⟨_,_,rfl,⟨pL,cL,QL,hQL,rfl,rfl⟩,hN⟩
 refine ⟨_,rfl,?_⟩
 replace hS:=hS.news hN; clear hN
 refine wl rfl (omove (v:=.tuple #[.agg #[.int .u64 (p:Int)],.slice pL 1 cL,.int .i64 0]) rfl rfl (ev rfl rfl) ?_)
 refine wl rfl (oextract (vs:=[.agg #[.int .u64 (p:Int)],.slice pL 1 cL,.int .i64 0]) (v:=.agg #[.int .u64 (p:Int)]) rfl rfl (ev rfl rfl) rfl ?_)
 refine wl rfl (oextract (vs:=[.agg #[.int .u64 (p:Int)],.slice pL 1 cL,.int .i64 0]) (v:=.slice pL 1 cL) rfl rfl (ev rfl rfl) rfl ?_)
 refine wl rfl (oextract (vs:=[.agg #[.int .u64 (p:Int)],.slice pL 1 cL,.int .i64 0]) (v:=.int .i64 0) rfl rfl (ev rfl rfl) rfl ?_)
 refine wl rfl (oalloc [.int .u64 0] hS rfl rfl Tryd.zeroValue84 rfl ?_)
 clear hS; intro g4 w5 hS
 refine wl rfl (ostore [.int .u64 (p:Int)] [.int .u64 (p:Int)] Tryd.sizeOf84 hS 0 rfl rfl (ev rfl rfl) (ev (v:=.agg #[.int .u64 (p:Int)]) rfl rfl) rfl rfl rfl rfl rfl rfl ?_)
 clear hS; intro w6 hS
 refine wl rfl (oassign (v:=.slice pL 1 cL) rfl rfl (ev rfl rfl) ?_)
 refine wl rfl (oassign (v:=.int .i64 0) rfl rfl (ev rfl rfl) ?_)
 refine wnil (thenN (wseq (wseq (wreg (wl rfl (omove (v:=.int .i64 0) rfl rfl (ev rfl rfl) ?_))))))
 refine wl rfl (obin (u:=.int .i64 0) (v:=.int .i64 0) (z:=.bool false) rfl rfl (ev rfl rfl) evc (bin_neq (by decide)) ?_)
 refine wnil (thenN ?_)
 refine wF (ev rfl rfl) ?_
 refine wskip (thenN (wseq (wseq (wreg (wl rfl (omove (v:=.int .i64 1) rfl rfl (ev rfl rfl) ?_))))))
 refine wl rfl (obin (u:=.int .i64 1) (v:=.int .i64 0) (z:=.bool false) rfl rfl (ev rfl rfl) evc (bin_lss (by decide)) ?_)
 refine wl rfl (omove (v:=.bool false) rfl rfl (ev rfl rfl) ?_)
 refine wlOn (e:=24) rfl rfl rfl rfl (omove (v:=.int .i64 1) rfl rfl (ev rfl rfl) ?_)
 refine wlOn (e:=24) rfl rfl rfl rfl (obin (u:=.int .i64 1) (v:=.int .i64 10000) (z:=.bool false) rfl rfl (ev rfl rfl) evc (bin_gtr (by decide)) ?_)
 refine wl rfl (opick (b:=false) (v:=.bool false) rfl rfl (ev rfl rfl) (ev rfl rfl) ?_)
 refine wnil (thenN ?_)
 refine wF (ev rfl rfl) ?_
 refine wskip (thenN (wseq (wseq (wreg (wl rfl (omove (v:=.slice pL 1 cL) rfl rfl (ev rfl rfl) ?_))))))
 obtain ⟨⟨pn,cn,xn⟩,hqn⟩:∃ q,QL[0]? = some q:=⟨_,List.getElem?_eq_getElem (by have h9:=nums_len QL; rw [hQL] at h9; simp at h9; omega)⟩
 have hxn:xn = normP p a:=by have h9:=nums_get hqn; rw [hQL] at h9; simpa using h9.symm
 have hnn:=normP_len p a
 rw [← hxn] at hnn
 obtain ⟨gL,hgL⟩:=hS.lstPtr 1 rfl (by decide)
 refine wl rfl (oindex (p:=pL) (g:=gL) (off:=0) (m:=1) (k:=0) (j:=(0 + 0 * 1)) rfl rfl Tryd.runUnderlying22 Tryd.sizeOf29 (ev rfl rfl) (hgL) evc (by omega) rfl ?_)
 refine wl rfl (oloadc (v:=.slice pn xn.length cn) (show One Tryd.prog 29 from ⟨Tryd.isAgg29,Tryd.sizeOf29⟩) rfl rfl (ev (v:=.pointer (some ⟨gL,(0 + 0 * 1),none⟩)) rfl rfl) (hS.mRow 1 rfl hqn rfl hgL) ?_)
 refine wl rfl (olen rfl rfl rfl Tryd.runUnderlying29 (p:=pn) (k:=xn.length) (m:=cn) (ev rfl rfl) ?_)
 by_cases h0:xn.length = 0
 ·
  refine wl rfl (obin (u:=.int .i64 (xn.length:Int)) (v:=.int .i64 0) (z:=.bool true) rfl rfl (ev rfl rfl) evc (bin_eql (eqT (by omega))) ?_)
  refine wnil (thenN ?_)
  refine wT (ev rfl rfl) ?_
  refine wseq (wreg (wl rfl (oassign (v:=.slice none 0 0) rfl rfl evc ?_)))
  refine wl rfl (oassign (v:=.int .i64 0) rfl rfl evc ?_)
  refine wnil (thenN ?_)
  refine wleave ?_
  refine thenR ?_
  refine wret2 Tryd.results24 (tellT (v:=.slice none 0 0) rfl rfl) (tellT (v:=.int .i64 0) rfl rfl) ?_
  have hs0:shiftP p a = []:=if_pos (by rw [← hxn]; exact List.length_eq_zero_iff.1 h0)
  obtain hS:=hS.rdoN
  exact ⟨_,_,rfl,⟨none,0,by rw [hs0]; rfl,by rw [hs0]; rfl⟩,hS.newR 0 rfl rfl⟩
 ·
  refine wl rfl (obin (u:=.int .i64 (xn.length:Int)) (v:=.int .i64 0) (z:=.bool false) rfl rfl (ev rfl rfl) evc (bin_eql (eqF (by omega))) ?_)
  refine wnil (thenN ?_)
  refine wF (ev rfl rfl) ?_
  refine wskip (thenN (wseq ?_))
  refine wstage 5 [33,34,35,36,37] [[],[0],[],[2],[3,2]] [[],[],[],[],[]] [] [] (fun i9 => ([fun _ => Is (.int .i64 1),fun _ => Rwn 1 (List.replicate 1 0),fun _ => Is (.slice pL 1 cL),fun _ => Is (.pointer (some ⟨gL,(0 + 0 * 1),none⟩)),fun _ => Is (.slice pn xn.length cn)]:List (List Value → Tell)).getD i9 (fun _ _ _ => False)) (heldNil) (fun d _ _ _ _ h => (by cases d <;> exact h)) (by kernel_rfl) (by kernel_rfl) (by kernel_rfl) hS ?_ ?_
  ·
   refine stepsCons rfl (fun Q f' w' ρ S ho hT hS hB => ?_) ?_
   ·exact .inl ⟨want_none rfl,omove (v:=.int .i64 1) rfl rfl (ev rfl (ho 1 rfl)) ⟨_,_,rfl,isI,New.same _⟩⟩
   refine stepsCons rfl (fun Q f' w' ρ S ho hT hS hB => ?_) ?_
   ·obtain ⟨hv0,hr0⟩:=(hT 0 33 rfl rfl:(Is (.int .i64 1)) _ _)
    obtain hS:=hS.flat1 hr0
    exact .inl ⟨want_none rfl,omakeL (zs:=[.int .u32 0]) (k:=1) (m:=1) (Sep.init _) rfl rfl Tryd.underlying29 infouint32 rfl rfl (by decide) rfl (ev (v:=.int .i64 1) rfl hv0) (ev (v:=.int .i64 1) rfl hv0) (by omega) (by omega) (by omega) fun _ _ h9 => ⟨_,_,rfl,⟨_,_,rfl,rfl⟩,((show Sep _ [.lst 24 1 _ 1 _ (u32E (List.replicate 1 0))] _ from by rw [u32E_rep]; exact h9).lstRow (lims_zeros _)).newH rfl⟩⟩
   refine stepsCons rfl (fun Q f' w' ρ S ho hT hS hB => ?_) ?_
   ·exact .inl ⟨want_none rfl,omove (v:=.slice pL 1 cL) rfl rfl (ev rfl (ho 9 rfl)) ⟨_,_,rfl,isI,New.same _⟩⟩
   refine stepsCons rfl (fun Q f' w' ρ S ho hT hS hB => ?_) ?_
   ·obtain ⟨hv2,hr2⟩:=(hT 2 35 rfl rfl:(Is (.slice pL 1 cL)) _ _)
    obtain hS:=hS.flat1 hr2
    exact .inl ⟨want_none rfl,oindex (p:=pL) (g:=gL) (off:=0) (m:=1) (k:=0) (j:=(0 + 0 * 1)) rfl rfl Tryd.runUnderlying22 Tryd.sizeOf29 (ev rfl hv2) (hgL) evc (by omega) rfl ⟨_,_,rfl,isI,New.same _⟩⟩
   refine stepsCons rfl (fun Q f' w' ρ S ho hT hS hB => ?_) ?_
   ·obtain ⟨hv3,hr3⟩:=(hT 3 36 rfl rfl:(Is (.pointer (some ⟨gL,(0 + 0 * 1),none⟩))) _ _)
    obtain hS:=hS.flat1 hr3
    exact .inl ⟨want_none rfl,oloadc (v:=.slice pn xn.length cn) (show One Tryd.prog 29 from ⟨Tryd.isAgg29,Tryd.sizeOf29⟩) rfl rfl (ev (v:=.pointer (some ⟨gL,(0 + 0 * 1),none⟩)) rfl hv3) (hS.mRow 1 rfl hqn rfl hgL) ⟨_,_,rfl,isI,New.same _⟩⟩
   exact stepsNil
  ·
   intro vs ρ w8 f' hf hT hS
   obtain ⟨hv0,hr0⟩:=(hT 0 (by decide):(Is (.int .i64 1)) _ _)
   obtain ⟨pz7,cpz7,hv1,hr1⟩:=(hT 1 (by decide):(Rwn 1 (List.replicate 1 0)) _ _)
   obtain ⟨hv2,hr2⟩:=(hT 2 (by decide):(Is (.slice pL 1 cL)) _ _)
   obtain ⟨hv3,hr3⟩:=(hT 3 (by decide):(Is (.pointer (some ⟨gL,(0 + 0 * 1),none⟩))) _ _)
   obtain ⟨hv4,hr4⟩:=(hT 4 (by decide):(Is (.slice pn xn.length cn)) _ _)
   simp only [pool,if_true,hr0,hr1,hr2,hr3,hr4,List.nil_append,List.cons_append,List.append_nil] at hS
   simp only [layf,hv0,hv1,hv2,hv3,hv4] at hf
   subst hf; clear hT hv0 hv1 hv2 hv3 hv4 hr0 hr1 hr2 hr3 hr4
   refine wlate 5 rfl (by kernel_rfl) (oappendR (p:=pz7) (m:=1) (c:=cpz7) (xs:=(List.replicate 1 0)) (k:=xn.length) (c2:=cn) (a:=pn) (ys:=xn) hS rfl rfl Tryd.underlying29 infouint32 (ev (v:=.slice pz7 1 cpz7) rfl rfl) (ev (v:=.slice pn xn.length cn) rfl rfl) ((hS.mFr 2 rfl hqn).sl) (by omega) (by omega) ?_)
   clear hS; intro p10 c11 w9 hS
   refine ⟨heldNil,?_⟩
   refine wlate 6 rfl (by kernel_rfl) (ocall rfl rfl Tryd.call41 rfl (wytold (hS.slm 0 rfl)) (args1 (ev rfl rfl)) ?_)
   rintro _ w12 ⟨_,_,rfl,⟨rfl,rfl⟩,hN⟩
   refine ⟨_,rfl,?_⟩
   replace hS:=hS.news hN; clear hN
   refine ⟨heldNil,?_⟩
   refine wlate 7 rfl (by kernel_rfl) (oassign (v:=.slice ((if (1 + xn.length) = 0 then none else p10)) ((1 + xn.length)) ((1 + xn.length))) rfl rfl (ev rfl rfl) ?_)
   refine ⟨heldNil,?_⟩
   refine wlate 8 rfl (by kernel_rfl) (oassign (v:=.int .i64 0) rfl rfl evc ?_)
   refine ⟨heldNil,?_⟩
   refine wdone rfl ?_
   refine thenN ?_
   refine wleave ?_
   refine wret2 Tryd.results24 (tellT (v:=.slice ((if (1 + xn.length) = 0 then none else p10)) ((1 + xn.length)) ((1 + xn.length))) rfl rfl) (tellT (v:=.int .i64 0) rfl rfl) ?_
   obtain hS:=hS.toRdo
   have hre:List.replicate 1 0 ++ xn = shiftP p a:=by unfold shiftP; rw [← hxn,if_neg (fun h => h0 (by rw [h]; rfl))]; rfl
   have hrl:(1 + xn.length) = (shiftP p a).length:=by rw [← hre]; simp [Nat.add_comm]
   exact ⟨_,_,rfl,⟨_,_,by rw [hrl],by rw [hre,hrl]⟩,hS.newR 0 rfl rfl⟩
theorem wyScale {pa:Option Addr} {na ca p:Nat} {a:List Nat} {w:World} (ht:Tb w) (ha:Sl w pa na ca a) (hp:MR.Pr p) (hp2:p < 4294967296) (hn:na ≤ 100000) {c:Nat} (hc:c < 4294967296) :
  Calls Tryd.prog 25 #[.slice pa na ca,.int .u32 ((c:Nat):Int),.int .u32 ((p:Nat):Int)] w (Ret (PEt (scaleP p a c) 0) w):=by
 have hal:=ha.len
 have hp1:=hp.1
 have hp0:0 < p:=by omega
 have hm9:=Nat.mod_lt c hp0
 have hS:=Sep.init w
 refine went Tryd.func25 rfl (n:=34) rfl rfl ?_
 refine wseq (wreg (wl rfl (oassign (v:=.slice none 0 0) rfl rfl evc ?_)))
 refine wl rfl (oassign (v:=.int .i64 0) rfl rfl evc ?_)
 refine wnil (thenN (wseq (wreg (wl rfl (omove (v:=.int .u32 (p:Int)) rfl rfl (ev rfl rfl) ?_)))))
 refine wl rfl (omove (v:=.slice pa na ca) rfl rfl (ev rfl rfl) ?_)
 refine wl rfl (obslice (ps:=#[(0,.slice pa na ca)]) (z:=.slice none 0 0) [.slice pa na ca] hS rfl rfl Tryd.runUnderlying62 Tryd.sizeOf30 Tryd.zeroValue30 (parts1 (ev (v:=.slice pa na ca) rfl rfl)) rfl (by decide) (fill1_1s rfl rfl) ?_)
 clear hS; intro g1 w2 hS
 refine wl rfl (ocall rfl rfl Tryd.call40 rfl (wyall (ht.at hS) (MS.of1 (hS.blkAt 0 rfl) (ha.below hS.below (Nat.le_refl _))) hp hp2 (by decide) (fun x hx => by rw [List.mem_singleton.1 hx]; omega)) (args2 (ev rfl rfl) (ev rfl rfl)) ?_)
 rintro _ w3 ⟨_,_,rfl,⟨pL,cL,QL,hQL,rfl,rfl⟩,hN⟩
 refine ⟨_,rfl,?_⟩
 replace hS:=hS.news hN; clear hN
 refine wl rfl (omove (v:=.tuple #[.agg #[.int .u64 (p:Int)],.slice pL 1 cL,.int .i64 0]) rfl rfl (ev rfl rfl) ?_)
 refine wl rfl (oextract (vs:=[.agg #[.int .u64 (p:Int)],.slice pL 1 cL,.int .i64 0]) (v:=.agg #[.int .u64 (p:Int)]) rfl rfl (ev rfl rfl) rfl ?_)
 refine wl rfl (oextract (vs:=[.agg #[.int .u64 (p:Int)],.slice pL 1 cL,.int .i64 0]) (v:=.slice pL 1 cL) rfl rfl (ev rfl rfl) rfl ?_)
 refine wl rfl (oextract (vs:=[.agg #[.int .u64 (p:Int)],.slice pL 1 cL,.int .i64 0]) (v:=.int .i64 0) rfl rfl (ev rfl rfl) rfl ?_)
 refine wl rfl (oalloc [.int .u64 0] hS rfl rfl Tryd.zeroValue84 rfl ?_)
 clear hS; intro g4 w5 hS
 refine wl rfl (ostore [.int .u64 (p:Int)] [.int .u64 (p:Int)] Tryd.sizeOf84 hS 0 rfl rfl (ev rfl rfl) (ev (v:=.agg #[.int .u64 (p:Int)]) rfl rfl) rfl rfl rfl rfl rfl rfl ?_)
 clear hS; intro w6 hS
 refine wl rfl (oassign (v:=.slice pL 1 cL) rfl rfl (ev rfl rfl) ?_)
 refine wl rfl (oassign (v:=.int .i64 0) rfl rfl (ev rfl rfl) ?_)
 refine wnil (thenN (wseq (wseq (wreg (wl rfl (omove (v:=.int .i64 0) rfl rfl (ev rfl rfl) ?_))))))
 refine wl rfl (obin (u:=.int .i64 0) (v:=.int .i64 0) (z:=.bool false) rfl rfl (ev rfl rfl) evc (bin_neq (by decide)) ?_)
 refine wnil (thenN ?_)
 refine wF (ev rfl rfl) ?_
 refine wskip (thenN (wseq ?_))
 obtain ⟨⟨pn,cn,xn⟩,hqn⟩:∃ q,QL[0]? = some q:=⟨_,List.getElem?_eq_getElem (by have h9:=nums_len QL; rw [hQL] at h9; simp at h9; omega)⟩
 have hxn:xn = normP p a:=by have h9:=nums_get hqn; rw [hQL] at h9; simpa using h9.symm
 have hnn:=normP_len p a
 rw [← hxn] at hnn
 obtain ⟨gL,hgL⟩:=hS.lstPtr 1 rfl (by decide)
 refine wstage 11 [22,23,24,25,26,27,28,29,30,31,32] [[],[],[1],[2,1],[],[4],[],[6],[5,7,4,6],[8,4,5,6,7],[0,3,9,1,2,4,5,6,7,8]] [[],[],[],[],[],[],[],[],[],[],[]] [] [] (fun i9 => ([fun _ => Is (.agg #[.int .u64 (p:Int)]),fun _ => Is (.slice pL 1 cL),fun _ => Is (.pointer (some ⟨gL,(0 + 0 * 1),none⟩)),fun _ => Is (.slice pn xn.length cn),fun _ => Is (.int .u32 (c:Int)),fun _ => Is (.int .u64 (c:Int)),fun _ => Is (.pointer (some ⟨g4,0,none⟩)),fun _ => Is (.int .u64 (p:Int)),fun _ => Is (.int .u64 (((c % p:Nat):Int))),fun _ => Is (.int .u32 (((c % p:Nat):Int))),fun _ => Rwt (trimL (xn.map (· * (c % p) % p)))]:List (List Value → Tell)).getD i9 (fun _ _ _ => False)) (heldNil) (fun d _ _ _ _ h => (by cases d <;> exact h)) (by kernel_rfl) (by kernel_rfl) (by kernel_rfl) hS ?_ ?_
 ·
  refine stepsCons rfl (fun Q f' w' ρ S ho hT hS hB => ?_) ?_
  ·exact .inl ⟨want_none rfl,oload (vs:=[.int .u64 (p:Int)]) (show Agg Tryd.prog 84 1 from ⟨Tryd.isAgg84,Tryd.sizeOf84⟩) hS 0 rfl rfl (ev rfl (ho 8 rfl)) rfl rfl rfl ⟨_,_,rfl,isI,New.same _⟩⟩
  refine stepsCons rfl (fun Q f' w' ρ S ho hT hS hB => ?_) ?_
  ·exact .inl ⟨want_none rfl,omove (v:=.slice pL 1 cL) rfl rfl (ev rfl (ho 9 rfl)) ⟨_,_,rfl,isI,New.same _⟩⟩
  refine stepsCons rfl (fun Q f' w' ρ S ho hT hS hB => ?_) ?_
  ·obtain ⟨hv1,hr1⟩:=(hT 1 23 rfl rfl:(Is (.slice pL 1 cL)) _ _)
   obtain hS:=hS.flat1 hr1
   exact .inl ⟨want_none rfl,oindex (p:=pL) (g:=gL) (off:=0) (m:=1) (k:=0) (j:=(0 + 0 * 1)) rfl rfl Tryd.runUnderlying22 Tryd.sizeOf29 (ev rfl hv1) (hgL) evc (by omega) rfl ⟨_,_,rfl,isI,New.same _⟩⟩
  refine stepsCons rfl (fun Q f' w' ρ S ho hT hS hB => ?_) ?_
  ·obtain ⟨hv2,hr2⟩:=(hT 2 24 rfl rfl:(Is (.pointer (some ⟨gL,(0 + 0 * 1),none⟩))) _ _)
   obtain hS:=hS.flat1 hr2
   exact .inl ⟨want_none rfl,oloadc (v:=.slice pn xn.length cn) (show One Tryd.prog 29 from ⟨Tryd.isAgg29,Tryd.sizeOf29⟩) rfl rfl (ev (v:=.pointer (some ⟨gL,(0 + 0 * 1),none⟩)) rfl hv2) (hS.mRow 1 rfl hqn rfl hgL) ⟨_,_,rfl,isI,New.same _⟩⟩
  refine stepsCons rfl (fun Q f' w' ρ S ho hT hS hB => ?_) ?_
  ·exact .inl ⟨want_none rfl,omove (v:=.int .u32 (c:Int)) rfl rfl (ev rfl (ho 1 rfl)) ⟨_,_,rfl,isI,New.same _⟩⟩
  refine stepsCons rfl (fun Q f' w' ρ S ho hT hS hB => ?_) ?_
  ·obtain ⟨hv4,hr4⟩:=(hT 4 26 rfl rfl:(Is (.int .u32 (((c:Nat):Int)))) _ _)
   obtain hS:=hS.flat1 hr4
   exact .inl ⟨want_none rfl,oconvert (u:=.int .u32 (c:Int)) (v:=.int .u64 (c:Int)) rfl rfl (ev rfl hv4) (convert_int Tryd.runUnderlying24 Tryd.runUnderlying44 (wrap_u64 (by omega) (by omega))) ⟨_,_,rfl,isI,New.same _⟩⟩
  refine stepsCons rfl (fun Q f' w' ρ S ho hT hS hB => ?_) ?_
  ·exact .inl ⟨want_none rfl,ofieldAddr (g:=g4) (off:=0) 0 rfl rfl (ev rfl (ho 8 rfl)) Tryd.runUnderlying84 rfl Tryd.sizeOf44 rfl ⟨_,_,rfl,isI,New.same _⟩⟩
  refine stepsCons rfl (fun Q f' w' ρ S ho hT hS hB => ?_) ?_
  ·obtain ⟨hv6,hr6⟩:=(hT 6 28 rfl rfl:(Is (.pointer (some ⟨g4,0,none⟩))) _ _)
   obtain hS:=hS.flat1 hr6
   exact .inl ⟨want_none rfl,oload1 (v:=.int .u64 (p:Int)) (show One Tryd.prog 44 from ⟨Tryd.isAgg44,Tryd.sizeOf44⟩) hS 0 rfl rfl (ev rfl hv6) rfl rfl ⟨_,_,rfl,isI,New.same _⟩⟩
  refine stepsCons rfl (fun Q f' w' ρ S ho hT hS hB => ?_) ?_
  ·obtain ⟨hv5,hr5⟩:=(hT 5 27 rfl rfl:(Is (.int .u64 (((c:Nat):Int)))) _ _)
   obtain ⟨hv7,hr7⟩:=(hT 7 29 rfl rfl:(Is (.int .u64 (((p:Nat):Int)))) _ _)
   obtain hS:=hS.flat2 hr5 hr7
   exact .inl ⟨want_none rfl,obin (u:=.int .u64 (c:Int)) (v:=.int .u64 (p:Int)) (z:=.int .u64 (((c % p:Nat):Int))) rfl rfl (ev rfl hv5) (ev rfl hv7) (bin_rem (by omega) rfl) ⟨_,_,rfl,isI,New.same _⟩⟩
  refine stepsCons rfl (fun Q f' w' ρ S ho hT hS hB => ?_) ?_
  ·obtain ⟨hv8,hr8⟩:=(hT 8 30 rfl rfl:(Is (.int .u64 (((c % p:Nat):Int)))) _ _)
   obtain hS:=hS.flat1 hr8
   exact .inl ⟨want_none rfl,oconvert (u:=.int .u64 (((c % p:Nat):Int))) (v:=.int .u32 (((c % p:Nat):Int))) rfl rfl (ev rfl hv8) (convert_int Tryd.runUnderlying44 Tryd.runUnderlying24 (wrap_u32 (by omega) (by omega))) ⟨_,_,rfl,isI,New.same _⟩⟩
  refine stepsCons rfl (fun Q f' w' ρ S ho hT hS hB => ?_) ?_
  ·obtain ⟨hv0,hr0⟩:=(hT 0 22 rfl rfl:(Is (.agg #[.int .u64 (((p:Nat):Int))])) _ _)
   obtain ⟨hv3,hr3⟩:=(hT 3 25 rfl rfl:(Is (.slice pn xn.length cn)) _ _)
   obtain ⟨hv9,hr9⟩:=(hT 9 31 rfl rfl:(Is (.int .u32 (((c % p:Nat):Int)))) _ _)
   obtain hS:=hS.flat3 hr0 hr3 hr9
   exact .inl ⟨want_none rfl,ocall rfl rfl Tryd.call42 rfl (wyscale (hS.mFr 1 rfl hqn).sl hp0 hp2 (by omega) (by omega)) (args3 (ev rfl hv0) (ev rfl hv3) (ev rfl hv9)) callN⟩
  exact stepsNil
 ·
  intro vs ρ w7 f' hf hT hS
  obtain ⟨hv0,hr0⟩:=(hT 0 (by decide):(Is (.agg #[.int .u64 (((p:Nat):Int))])) _ _)
  obtain ⟨hv1,hr1⟩:=(hT 1 (by decide):(Is (.slice pL 1 cL)) _ _)
  obtain ⟨hv2,hr2⟩:=(hT 2 (by decide):(Is (.pointer (some ⟨gL,(0 + 0 * 1),none⟩))) _ _)
  obtain ⟨hv3,hr3⟩:=(hT 3 (by decide):(Is (.slice pn xn.length cn)) _ _)
  obtain ⟨hv4,hr4⟩:=(hT 4 (by decide):(Is (.int .u32 (((c:Nat):Int)))) _ _)
  obtain ⟨hv5,hr5⟩:=(hT 5 (by decide):(Is (.int .u64 (((c:Nat):Int)))) _ _)
  obtain ⟨hv6,hr6⟩:=(hT 6 (by decide):(Is (.pointer (some ⟨g4,0,none⟩))) _ _)
  obtain ⟨hv7,hr7⟩:=(hT 7 (by decide):(Is (.int .u64 (((p:Nat):Int)))) _ _)
  obtain ⟨hv8,hr8⟩:=(hT 8 (by decide):(Is (.int .u64 (((c % p:Nat):Int)))) _ _)
  obtain ⟨hv9,hr9⟩:=(hT 9 (by decide):(Is (.int .u32 (((c % p:Nat):Int)))) _ _)
  obtain ⟨pK,cK,hv10,hr10⟩:=(hT 10 (by decide):(Rwt (trimL (xn.map (· * (c % p) % p)))) _ _)
  simp only [pool,if_true,hr0,hr1,hr2,hr3,hr4,hr5,hr6,hr7,hr8,hr9,hr10,List.nil_append,List.cons_append,List.append_nil] at hS
  simp only [layf,hv0,hv1,hv2,hv3,hv4,hv5,hv6,hv7,hv8,hv9,hv10] at hf
  subst hf; clear hT hv0 hv1 hv2 hv3 hv4 hv5 hv6 hv7 hv8 hv9 hv10 hr0 hr1 hr2 hr3 hr4 hr5 hr6 hr7 hr8 hr9 hr10
  refine wlate 11 rfl (by kernel_rfl) (ocall rfl rfl Tryd.call41 rfl (wytold (hS.slm 0 rfl)) (args1 (ev rfl rfl)) ?_)
  rintro _ w8 ⟨_,_,rfl,⟨rfl,rfl⟩,hN⟩
  refine ⟨_,rfl,?_⟩
  replace hS:=hS.news hN; clear hN
  refine ⟨heldNil,?_⟩
  refine wlate 12 rfl (by kernel_rfl) (oassign (v:=.slice ((if (trimL (xn.map (· * (c % p) % p))).length = 0 then none else pK)) ((trimL (xn.map (· * (c % p) % p))).length) ((trimL (xn.map (· * (c % p) % p))).length)) rfl rfl (ev rfl rfl) ?_)
  refine ⟨heldNil,?_⟩
  refine wlate 13 rfl (by kernel_rfl) (oassign (v:=.int .i64 0) rfl rfl evc ?_)
  refine ⟨heldNil,?_⟩
  refine wdone rfl ?_
  refine thenN ?_
  refine wleave ?_
  refine wret2 Tryd.results25 (tellT (v:=.slice ((if (trimL (xn.map (· * (c % p) % p))).length = 0 then none else pK)) ((trimL (xn.map (· * (c % p) % p))).length) ((trimL (xn.map (· * (c % p) % p))).length)) rfl rfl) (tellT (v:=.int .i64 0) rfl rfl) ?_
  obtain hS:=hS.toRdo
  have hre:trimL (xn.map (· * (c % p) % p)) = scaleP p a c:=by rw [hxn]; rfl
  exact ⟨_,_,rfl,⟨_,_,by rw [hre],by rw [hre]⟩,hS.newR 0 rfl rfl⟩
theorem wySub {pa pb:Option Addr} {na ca nb cb p:Nat} {a b:List Nat} {w:World} (ht:Tb w) (ha:Sl w pa na ca a) (hb:Sl w pb nb cb b) (hp:MR.Pr p) (hp2:p < 4294967296) (hn:na ≤ 100000) (hnb2:nb ≤ 100000) :
  Calls Tryd.prog 26 #[.slice pa na ca,.slice pb nb cb,.int .u32 ((p:Nat):Int)] w (Ret (PEt (subP p a b) 0) w):=by
 have hal:=ha.len
 have hp1:=hp.1
 have hp0:0 < p:=by omega
 have hbl:=hb.len
 have hS:=Sep.init w
 refine went Tryd.func26 rfl (n:=34) rfl rfl ?_
 refine wseq (wreg (wl rfl (oassign (v:=.slice none 0 0) rfl rfl evc ?_)))
 refine wl rfl (oassign (v:=.int .i64 0) rfl rfl evc ?_)
 refine wnil (thenN (wseq (wreg (wl rfl (omove (v:=.int .u32 (p:Int)) rfl rfl (ev rfl rfl) ?_)))))
 refine wl rfl (omove (v:=.slice pa na ca) rfl rfl (ev rfl rfl) ?_)
 refine wl rfl (omove (v:=.slice pb nb cb) rfl rfl (ev rfl rfl) ?_)
 refine wl rfl (obslice (ps:=#[(0,.slice pa na ca),(1,.slice pb nb cb)]) (z:=.slice none 0 0) [.slice pa na ca,.slice pb nb cb] hS rfl rfl Tryd.runUnderlying62 Tryd.sizeOf30 Tryd.zeroValue30 (parts2 (ev (v:=.slice pa na ca) rfl rfl) (ev (v:=.slice pb nb cb) rfl rfl)) rfl (by decide) fill1_2h ?_)
 clear hS; intro g1 w2 hS
 refine wl rfl (ocall rfl rfl Tryd.call40 rfl (wyall (ht.at hS) (MS.of2 (hS.blkAt 0 rfl) (ha.below hS.below (Nat.le_refl _)) (hb.below hS.below (Nat.le_refl _))) hp hp2 (by decide) (fun x hx => (List.mem_cons.1 hx).elim (fun e => by rw [e]; omega) (fun h => by rw [List.mem_singleton.1 h]; omega))) (args2 (ev rfl rfl) (ev rfl rfl)) ?_)
 rintro _ w3 ⟨_,_,rfl,⟨pL,cL,QL,hQL,rfl,rfl⟩,hN⟩
 refine ⟨_,rfl,?_⟩
 replace hS:=hS.news hN; clear hN
 refine wl rfl (omove (v:=.tuple #[.agg #[.int .u64 (p:Int)],.slice pL 2 cL,.int .i64 0]) rfl rfl (ev rfl rfl) ?_)
 refine wl rfl (oextract (vs:=[.agg #[.int .u64 (p:Int)],.slice pL 2 cL,.int .i64 0]) (v:=.agg #[.int .u64 (p:Int)]) rfl rfl (ev rfl rfl) rfl ?_)
 refine wl rfl (oextract (vs:=[.agg #[.int .u64 (p:Int)],.slice pL 2 cL,.int .i64 0]) (v:=.slice pL 2 cL) rfl rfl (ev rfl rfl) rfl ?_)
 refine wl rfl (oextract (vs:=[.agg #[.int .u64 (p:Int)],.slice pL 2 cL,.int .i64 0]) (v:=.int .i64 0) rfl rfl (ev rfl rfl) rfl ?_)
 refine wl rfl (oalloc [.int .u64 0] hS rfl rfl Tryd.zeroValue84 rfl ?_)
 clear hS; intro g4 w5 hS
 refine wl rfl (ostore [.int .u64 (p:Int)] [.int .u64 (p:Int)] Tryd.sizeOf84 hS 0 rfl rfl (ev rfl rfl) (ev (v:=.agg #[.int .u64 (p:Int)]) rfl rfl) rfl rfl rfl rfl rfl rfl ?_)
 clear hS; intro w6 hS
 refine wl rfl (oassign (v:=.slice pL 2 cL) rfl rfl (ev rfl rfl) ?_)
 refine wl rfl (oassign (v:=.int .i64 0) rfl rfl (ev rfl rfl) ?_)
 refine wnil (thenN (wseq (wseq (wreg (wl rfl (omove (v:=.int .i64 0) rfl rfl (ev rfl rfl) ?_))))))
 refine wl rfl (obin (u:=.int .i64 0) (v:=.int .i64 0) (z:=.bool false) rfl rfl (ev rfl rfl) evc (bin_neq (by decide)) ?_)
 refine wnil (thenN ?_)
 refine wF (ev rfl rfl) ?_
 refine wskip (thenN (wseq ?_))
 obtain ⟨⟨pn,cn,xn⟩,hqn⟩:∃ q,QL[0]? = some q:=⟨_,List.getElem?_eq_getElem (by have h9:=nums_len QL; rw [hQL] at h9; simp at h9; omega)⟩
 have hxn:xn = normP p a:=by have h9:=nums_get hqn; rw [hQL] at h9; simpa using h9.symm
 have hnn:=normP_len p a
 rw [← hxn] at hnn
 obtain ⟨⟨pm,cm,xm⟩,hqm⟩:∃ q,QL[1]? = some q:=⟨_,List.getElem?_eq_getElem (by have h9:=nums_len QL; rw [hQL] at h9; simp at h9; omega)⟩
 have hxm:xm = normP p b:=by have h9:=nums_get hqm; rw [hQL] at h9; simpa using h9.symm
 have hnm:=normP_len p b
 rw [← hxm] at hnm
 obtain ⟨gL,hgL⟩:=hS.lstPtr 1 rfl (by decide)
 refine wstage 10 [23,24,25,26,27,28,29,30,31,32] [[],[],[1],[2,1],[],[4],[5,4],[],[7],[0,3,6,8,1,2,4,5,7]] [[],[],[],[],[],[],[],[],[],[]] [] [] (fun i9 => ([fun _ => Is (.agg #[.int .u64 (p:Int)]),fun _ => Is (.slice pL 2 cL),fun _ => Is (.pointer (some ⟨gL,(0 + 0 * 1),none⟩)),fun _ => Is (.slice pn xn.length cn),fun _ => Is (.slice pL 2 cL),fun _ => Is (.pointer (some ⟨gL,(0 + 1 * 1),none⟩)),fun _ => Is (.slice pm xm.length cm),fun _ => Is (.agg #[.int .u64 (p:Int)]),fun _ => Is (.func (.func 44) #[.agg #[.int .u64 (p:Int)]] #[]),fun _ => Rwt (trimL (subL p xn xm))]:List (List Value → Tell)).getD i9 (fun _ _ _ => False)) (heldNil) (fun d _ _ _ _ h => (by cases d <;> exact h)) (by kernel_rfl) (by kernel_rfl) (by kernel_rfl) hS ?_ ?_
 ·
  refine stepsCons rfl (fun Q f' w' ρ S ho hT hS hB => ?_) ?_
  ·exact .inl ⟨want_none rfl,oload (vs:=[.int .u64 (p:Int)]) (show Agg Tryd.prog 84 1 from ⟨Tryd.isAgg84,Tryd.sizeOf84⟩) hS 0 rfl rfl (ev rfl (ho 8 rfl)) rfl rfl rfl ⟨_,_,rfl,isI,New.same _⟩⟩
  refine stepsCons rfl (fun Q f' w' ρ S ho hT hS hB => ?_) ?_
  ·exact .inl ⟨want_none rfl,omove (v:=.slice pL 2 cL) rfl rfl (ev rfl (ho 9 rfl)) ⟨_,_,rfl,isI,New.same _⟩⟩
  refine stepsCons rfl (fun Q f' w' ρ S ho hT hS hB => ?_) ?_
  ·obtain ⟨hv1,hr1⟩:=(hT 1 24 rfl rfl:(Is (.slice pL 2 cL)) _ _)
   obtain hS:=hS.flat1 hr1
   exact .inl ⟨want_none rfl,oindex (p:=pL) (g:=gL) (off:=0) (m:=2) (k:=0) (j:=(0 + 0 * 1)) rfl rfl Tryd.runUnderlying22 Tryd.sizeOf29 (ev rfl hv1) (hgL) evc (by omega) rfl ⟨_,_,rfl,isI,New.same _⟩⟩
  refine stepsCons rfl (fun Q f' w' ρ S ho hT hS hB => ?_) ?_
  ·obtain ⟨hv2,hr2⟩:=(hT 2 25 rfl rfl:(Is (.pointer (some ⟨gL,(0 + 0 * 1),none⟩))) _ _)
   obtain hS:=hS.flat1 hr2
   exact .inl ⟨want_none rfl,oloadc (v:=.slice pn xn.length cn) (show One Tryd.prog 29 from ⟨Tryd.isAgg29,Tryd.sizeOf29⟩) rfl rfl (ev (v:=.pointer (some ⟨gL,(0 + 0 * 1),none⟩)) rfl hv2) (hS.mRow 1 rfl hqn rfl hgL) ⟨_,_,rfl,isI,New.same _⟩⟩
  refine stepsCons rfl (fun Q f' w' ρ S ho hT hS hB => ?_) ?_
  ·exact .inl ⟨want_none rfl,omove (v:=.slice pL 2 cL) rfl rfl (ev rfl (ho 9 rfl)) ⟨_,_,rfl,isI,New.same _⟩⟩
  refine stepsCons rfl (fun Q f' w' ρ S ho hT hS hB => ?_) ?_
  ·obtain ⟨hv4,hr4⟩:=(hT 4 27 rfl rfl:(Is (.slice pL 2 cL)) _ _)
   obtain hS:=hS.flat1 hr4
   exact .inl ⟨want_none rfl,oindex (p:=pL) (g:=gL) (off:=0) (m:=2) (k:=1) (j:=(0 + 1 * 1)) rfl rfl Tryd.runUnderlying22 Tryd.sizeOf29 (ev rfl hv4) (hgL) evc (by omega) rfl ⟨_,_,rfl,isI,New.same _⟩⟩
  refine stepsCons rfl (fun Q f' w' ρ S ho hT hS hB => ?_) ?_
  ·obtain ⟨hv5,hr5⟩:=(hT 5 28 rfl rfl:(Is (.pointer (some ⟨gL,(0 + 1 * 1),none⟩))) _ _)
   obtain hS:=hS.flat1 hr5
   exact .inl ⟨want_none rfl,oloadc (v:=.slice pm xm.length cm) (show One Tryd.prog 29 from ⟨Tryd.isAgg29,Tryd.sizeOf29⟩) rfl rfl (ev (v:=.pointer (some ⟨gL,(0 + 1 * 1),none⟩)) rfl hv5) (hS.mRow 1 rfl hqm rfl hgL) ⟨_,_,rfl,isI,New.same _⟩⟩
  refine stepsCons rfl (fun Q f' w' ρ S ho hT hS hB => ?_) ?_
  ·exact .inl ⟨want_none rfl,oload (vs:=[.int .u64 (p:Int)]) (show Agg Tryd.prog 84 1 from ⟨Tryd.isAgg84,Tryd.sizeOf84⟩) hS 0 rfl rfl (ev rfl (ho 8 rfl)) rfl rfl rfl ⟨_,_,rfl,isI,New.same _⟩⟩
  refine stepsCons rfl (fun Q f' w' ρ S ho hT hS hB => ?_) ?_
  ·obtain ⟨hv7,hr7⟩:=(hT 7 30 rfl rfl:(Is (.agg #[.int .u64 (((p:Nat):Int))])) _ _)
   obtain hS:=hS.flat1 hr7
   exact .inl ⟨want_none rfl,omakeFuncB (av:=#[.agg #[.int .u64 (p:Int)]]) (cs:=#[]) rfl rfl (args1 (ev rfl hv7)) (args0) ⟨_,_,rfl,isI,New.same _⟩⟩
  refine stepsCons rfl (fun Q f' w' ρ S ho hT hS hB => ?_) ?_
  ·obtain ⟨hv0,hr0⟩:=(hT 0 23 rfl rfl:(Is (.agg #[.int .u64 (((p:Nat):Int))])) _ _)
   obtain ⟨hv3,hr3⟩:=(hT 3 26 rfl rfl:(Is (.slice pn xn.length cn)) _ _)
   obtain ⟨hv6,hr6⟩:=(hT 6 29 rfl rfl:(Is (.slice pm xm.length cm)) _ _)
   obtain ⟨hv8,hr8⟩:=(hT 8 31 rfl rfl:(Is (.func (.func 44) #[.agg #[.int .u64 (((p:Nat):Int))]] #[])) _ _)
   obtain hS:=hS.flat4 hr0 hr3 hr6 hr8
   exact .inl ⟨want_none rfl,ocall rfl rfl Tryd.call43 rfl (wyeach (hS.mFr 1 rfl hqn).sl (hS.mFr 1 rfl hqm).sl hp0 hp2 (by omega) (by omega) (by rw [hxm]; exact normP_lt hp0 b)) (args4 (ev rfl hv0) (ev rfl hv3) (ev rfl hv6) (ev rfl hv8)) callN⟩
  exact stepsNil
 ·
  intro vs ρ w7 f' hf hT hS
  obtain ⟨hv0,hr0⟩:=(hT 0 (by decide):(Is (.agg #[.int .u64 (((p:Nat):Int))])) _ _)
  obtain ⟨hv1,hr1⟩:=(hT 1 (by decide):(Is (.slice pL 2 cL)) _ _)
  obtain ⟨hv2,hr2⟩:=(hT 2 (by decide):(Is (.pointer (some ⟨gL,(0 + 0 * 1),none⟩))) _ _)
  obtain ⟨hv3,hr3⟩:=(hT 3 (by decide):(Is (.slice pn xn.length cn)) _ _)
  obtain ⟨hv4,hr4⟩:=(hT 4 (by decide):(Is (.slice pL 2 cL)) _ _)
  obtain ⟨hv5,hr5⟩:=(hT 5 (by decide):(Is (.pointer (some ⟨gL,(0 + 1 * 1),none⟩))) _ _)
  obtain ⟨hv6,hr6⟩:=(hT 6 (by decide):(Is (.slice pm xm.length cm)) _ _)
  obtain ⟨hv7,hr7⟩:=(hT 7 (by decide):(Is (.agg #[.int .u64 (((p:Nat):Int))])) _ _)
  obtain ⟨hv8,hr8⟩:=(hT 8 (by decide):(Is (.func (.func 44) #[.agg #[.int .u64 (((p:Nat):Int))]] #[])) _ _)
  obtain ⟨pK,cK,hv9,hr9⟩:=(hT 9 (by decide):(Rwt (trimL (subL p xn xm))) _ _)
  simp only [pool,if_true,hr0,hr1,hr2,hr3,hr4,hr5,hr6,hr7,hr8,hr9,List.nil_append,List.cons_append,List.append_nil] at hS
  simp only [layf,hv0,hv1,hv2,hv3,hv4,hv5,hv6,hv7,hv8,hv9] at hf
  subst hf; clear hT hv0 hv1 hv2 hv3 hv4 hv5 hv6 hv7 hv8 hv9 hr0 hr1 hr2 hr3 hr4 hr5 hr6 hr7 hr8 hr9
  refine wlate 10 rfl (by kernel_rfl) (ocall rfl rfl Tryd.call41 rfl (wytold (hS.slm 0 rfl)) (args1 (ev rfl rfl)) ?_)
  rintro _ w8 ⟨_,_,rfl,⟨rfl,rfl⟩,hN⟩
  refine ⟨_,rfl,?_⟩
  replace hS:=hS.news hN; clear hN
  refine ⟨heldNil,?_⟩
  refine wlate 11 rfl (by kernel_rfl) (oassign (v:=.slice ((if (trimL (subL p xn xm)).length = 0 then none else pK)) ((trimL (subL p xn xm)).length) ((trimL (subL p xn xm)).length)) rfl rfl (ev rfl rfl) ?_)
  refine ⟨heldNil,?_⟩
  refine wlate 12 rfl (by kernel_rfl) (oassign (v:=.int .i64 0) rfl rfl evc ?_)
  refine ⟨heldNil,?_⟩
  refine wdone rfl ?_
  refine thenN ?_
  refine wleave ?_
  refine wret2 Tryd.results26 (tellT (v:=.slice ((if (trimL (subL p xn xm)).length = 0 then none else pK)) ((trimL (subL p xn xm)).length) ((trimL (subL p xn xm)).length)) rfl rfl) (tellT (v:=.int .i64 0) rfl rfl) ?_
  obtain hS:=hS.toRdo
  have hre:trimL (subL p xn xm) = subP p a b:=by rw [hxn,hxm]; rfl
  exact ⟨_,_,rfl,⟨_,_,by rw [hre],by rw [hre]⟩,hS.newR 0 rfl rfl⟩
end Go.Proofs.YtcfcdbeemhjhgaaDoor
/-
  hess's Char of at most two rows (what the law runs each time).
-/
namespace Go.Proofs.YtcfcdbeemhjhgaaDoor
open Go.RowKit
theorem whreduceS {pm:Option Addr} {nm cm p:Nat} {M:List (List Nat)} {w:World} (ht:Tb w) (hm:MS w pm nm M) (hp2:p < 4294967296) (hb1:nm ≤ 2097152) (hb2:∀ r ∈ M,r.length ≤ 1048576) (hp:MR.Pr p) (hr:RectM M) (h0:nm ≠ 0) (hq:M.length = colsM M) (hbig:nm ≤ 2) :
  Calls Tryd.prog 23 #[.slice pm nm cm,.int .u32 ((p:Nat):Int)] w (Ret (wkP p nm (HS.red p nm M (nm - 2))) w):=by
 have hml:=hm.1
 have hp1:=hp.1
 have hp0:0 < p:=by omega
 have hn0:nm - 2 = 0:=by omega
 have hS:=Sep.init w
 refine went Tryd.func23 rfl (n:=139) rfl rfl ?_
 refine wseq (wreg (wl rfl (oassign (v:=.pointer none) rfl rfl evc ?_)))
 refine wnil (thenN (wseq (wreg (wl rfl (omove (v:=.int .u32 (p:Int)) rfl rfl (ev rfl rfl) ?_)))))
 refine wl rfl (oconvert (u:=.int .u32 (p:Int)) (v:=.int .u64 (p:Int)) rfl rfl (ev rfl rfl) (convert_int Tryd.runUnderlying24 Tryd.runUnderlying44 (wrap_u64 (by omega) (by omega))) ?_)
 refine wl rfl (obuild (ps:=#[(0,.int .u64 (p:Int))]) (v:=.agg #[.int .u64 (p:Int)]) rfl rfl (parts1 (ev (v:=.int .u64 (p:Int)) rfl rfl)) (fun w => by simp [go_sem,Instr.build,Instr.fill]) ?_)
 refine wl rfl (obuild (ps:=#[(0,.agg #[.int .u64 (p:Int)])]) (v:=.agg #[.int .u64 (p:Int),.slice none 0 0,.slice none 0 0,.slice none 0 0]) rfl rfl (parts1 (ev (v:=.agg #[.int .u64 (p:Int)]) rfl rfl)) (fun w => by simp [go_sem,Instr.build,Instr.fill]) ?_)
 refine wl rfl (obox [.int .u64 (p:Int),.slice none 0 0,.slice none 0 0,.slice none 0 0] hS rfl rfl (ev (v:=.agg #[.int .u64 (p:Int),.slice none 0 0,.slice none 0 0,.slice none 0 0]) rfl rfl) rfl ?_)
 clear hS; intro g1 w2 hS
 refine wl rfl (oassign (v:=.pointer (some ⟨g1,0,none⟩)) rfl rfl (ev rfl rfl) ?_)
 refine wnil (thenN (wseq (wreg (wl rfl (omove (v:=.pointer (some ⟨g1,0,none⟩)) rfl rfl (ev rfl rfl) ?_)))))
 refine wl rfl (omove (v:=.pointer (some ⟨g1,0,none⟩)) rfl rfl (ev rfl rfl) ?_)
 refine wl rfl (omove (v:=.pointer (some ⟨g1,0,none⟩)) rfl rfl (ev rfl rfl) ?_)
 refine wl rfl (omove (v:=.pointer (some ⟨g1,0,none⟩)) rfl rfl (ev rfl rfl) ?_)
 refine wl rfl (onilCheck (a:=⟨g1,0,none⟩) rfl rfl (ev rfl rfl) ?_)
 refine wl rfl (ofieldAddr (g:=g1) (off:=0) 0 rfl rfl (ev rfl rfl) Tryd.runUnderlying59 rfl Tryd.sizeOf57 rfl ?_)
 refine wl rfl (oload (vs:=[.int .u64 (p:Int)]) (show Agg Tryd.prog 57 1 from ⟨Tryd.isAgg57,Tryd.sizeOf57⟩) hS 0 rfl rfl (ev rfl rfl) rfl rfl rfl ?_)
 refine wl rfl (omove (v:=.slice pm nm cm) rfl rfl (ev rfl rfl) ?_)
 refine wl rfl (ocall rfl rfl Tryd.call35 rfl (whcopied (hm.at hS) hp0 hp2 hb1 hb2) (args2 (ev rfl rfl) (ev rfl rfl)) ?_)
 rintro _ w3 ⟨_,_,rfl,⟨pH,cH,QH,hQH,rfl,rfl⟩,hN⟩
 refine ⟨_,rfl,?_⟩
 replace hS:=hS.news hN; clear hN
 refine wl rfl (omove (v:=.slice pm nm cm) rfl rfl (ev rfl rfl) ?_)
 refine wl rfl (olen rfl rfl rfl Tryd.runUnderlying23 (p:=pm) (k:=nm) (m:=cm) (ev rfl rfl) ?_)
 refine wl rfl (ocall rfl rfl Tryd.call36 rfl (whidentity (by omega)) (args1 (ev rfl rfl)) ?_)
 rintro _ w4 ⟨_,_,rfl,⟨pS,cS,QS,hQS,rfl,rfl⟩,hN⟩
 refine ⟨_,rfl,?_⟩
 replace hS:=hS.news hN; clear hN
 refine wl rfl (omove (v:=.slice pm nm cm) rfl rfl (ev rfl rfl) ?_)
 refine wl rfl (olen rfl rfl rfl Tryd.runUnderlying23 (p:=pm) (k:=nm) (m:=cm) (ev rfl rfl) ?_)
 refine wl rfl (ocall rfl rfl Tryd.call36 rfl (whidentity (by omega)) (args1 (ev rfl rfl)) ?_)
 rintro _ w5 ⟨_,_,rfl,⟨pR,cR,QR,hQR,rfl,rfl⟩,hN⟩
 refine ⟨_,rfl,?_⟩
 replace hS:=hS.news hN; clear hN
 refine wl rfl (onilCheck (a:=⟨g1,0,none⟩) rfl rfl (ev rfl rfl) ?_)
 refine wl rfl (ofieldAddr (g:=g1) (off:=0) 1 rfl rfl (ev rfl rfl) Tryd.runUnderlying59 rfl Tryd.sizeOf23 rfl ?_)
 refine wl rfl (ostore [.slice pH nm cH] [.int .u64 (p:Int),.slice pH nm cH,.slice none 0 0,.slice none 0 0] Tryd.sizeOf23 hS 3 rfl rfl (ev rfl rfl) (ev (v:=.slice pH nm cH) rfl rfl) rfl rfl rfl rfl rfl rfl ?_)
 clear hS; intro w6 hS
 refine wl rfl (onilCheck (a:=⟨g1,0,none⟩) rfl rfl (ev rfl rfl) ?_)
 refine wl rfl (ofieldAddr (g:=g1) (off:=0) 2 rfl rfl (ev rfl rfl) Tryd.runUnderlying59 rfl Tryd.sizeOf23 rfl ?_)
 refine wl rfl (ostore [.slice pS nm cS] [.int .u64 (p:Int),.slice pH nm cH,.slice pS nm cS,.slice none 0 0] Tryd.sizeOf23 hS 3 rfl rfl (ev rfl rfl) (ev (v:=.slice pS nm cS) rfl rfl) rfl rfl rfl rfl rfl rfl ?_)
 clear hS; intro w7 hS
 refine wl rfl (onilCheck (a:=⟨g1,0,none⟩) rfl rfl (ev rfl rfl) ?_)
 refine wl rfl (ofieldAddr (g:=g1) (off:=0) 3 rfl rfl (ev rfl rfl) Tryd.runUnderlying59 rfl Tryd.sizeOf23 rfl ?_)
 refine wl rfl (ostore [.slice pR nm cR] [.int .u64 (p:Int),.slice pH nm cH,.slice pS nm cS,.slice pR nm cR] Tryd.sizeOf23 hS 3 rfl rfl (ev rfl rfl) (ev (v:=.slice pR nm cR) rfl rfl) rfl rfl rfl rfl rfl rfl ?_)
 clear hS; intro w8 hS
 refine wnil (thenN (wseq (wreg (wl rfl (omove (v:=.pointer (some ⟨g1,0,none⟩)) rfl rfl (ev rfl rfl) ?_)))))
 refine wl rfl (omakeFuncB (av:=#[.pointer (some ⟨g1,0,none⟩)]) (cs:=#[]) rfl rfl (args1 (ev rfl rfl)) (args0) ?_)
 refine wl rfl (oassign (v:=.func (.func 37) #[.pointer (some ⟨g1,0,none⟩)] #[]) rfl rfl (ev rfl rfl) ?_)
 refine wnil (thenN (wseq (wseq (wreg (wl rfl (omove (v:=.slice pm nm cm) rfl rfl (ev rfl rfl) ?_))))))
 refine wl rfl (olen rfl rfl rfl Tryd.runUnderlying23 (p:=pm) (k:=nm) (m:=cm) (ev rfl rfl) ?_)
 refine wl rfl (obin (u:=.int .i64 (nm:Int)) (v:=.int .i64 2) (z:=.int .i64 (((nm:Int) - 2))) rfl rfl (ev rfl rfl) evc (bin_sub (wrap_i64 (by omega) (by omega))) ?_)
 refine wl rfl (omax2 (a:=((nm:Int) - 2)) (b:=0) (r:=((nm - 2:Nat):Int)) rfl rfl rfl (ev (v:=.int .i64 (((nm:Int) - 2))) rfl rfl) (evc (v:=.int .i64 0)) (by split <;> omega) ?_)
 refine wl rfl (omove (v:=.int .i64 0) rfl rfl evc ?_)
 refine wnil (thenN (wblock ?_))
 refine wloop (σ := Nat) (fun k a9 w' => ∃ (fb:Nat → Value),a9 = act 139 (sets fb [(0,.slice pm nm cm),(1,.int .u32 (p:Int)),(4,.pointer none),(5,.pointer (some ⟨g1,0,none⟩)),(6,.func (.func 37) #[.pointer (some ⟨g1,0,none⟩)] #[]),(43,.int .i64 (((nm - 2:Nat):Int))),(44,.int .i64 (k:Int))]) ∧ Sep w [.lst 29 1 pR nm cR (mmE QR),.lst 29 1 pS nm cS (mmE QS),.lst 29 1 pH nm cH (mmE QH),.blk g1 [.int .u64 (p:Int),.slice pH nm cH,.slice pS nm cS,.slice pR nm cR] 59] w' ∧ (k ≤ nm - 2)) (fun k => nm - 2 - k) (0) ⟨_,act_sets (l:=[(0,.slice pm nm cm),(1,.int .u32 (p:Int)),(4,.pointer none),(5,.pointer (some ⟨g1,0,none⟩)),(6,.func (.func 37) #[.pointer (some ⟨g1,0,none⟩)] #[]),(43,.int .i64 (((nm - 2:Nat):Int))),(44,.int .i64 0)]) ⟨rfl,rfl,rfl,rfl,rfl,rfl,rfl,trivial⟩,hS,Nat.zero_le _⟩ ?_
 clear hS; rintro k _ w9 ⟨fb,rfl,hS,hk⟩
 refine wseq (wreg ?_)
 by_cases hlk:k < nm - 2
 ·
  exact absurd hlk (by omega)
 ·
  refine wl rfl (obin (u:=.int .i64 (k:Int)) (v:=.int .i64 (((nm - 2:Nat):Int))) (z:=.bool false) rfl rfl (ev rfl rfl) (ev rfl rfl) (bin_lss (decide_eq_false (by omega))) ?_)
  refine wnil (thenN (wseq ?_))
  refine wF (ev rfl rfl) ?_
  refine wexit ?_
  refine thenE ?_
  refine thenE ?_
  refine blkE ?_
  refine thenN (wseq (wreg (wl rfl (omove (v:=.pointer (some ⟨g1,0,none⟩)) rfl rfl (ev rfl rfl) ?_))))
  refine wl rfl (oassign (v:=.pointer (some ⟨g1,0,none⟩)) rfl rfl (ev rfl rfl) ?_)
  refine wnil (thenN ?_)
  refine wleave ?_
  refine wret1 Tryd.results23 (tellT (v:=.pointer (some ⟨g1,0,none⟩)) rfl rfl) ?_
  exact ⟨_,_,rfl,⟨_,_,_,_,_,_,_,_,_,_,by rw [hn0]; exact hQH,by rw [hn0]; exact hQS,by rw [hn0]; exact hQR,rfl,rfl⟩,(show Sep w [.blk g1 [.int .u64 (p:Int),.slice pH nm cH,.slice pS nm cS,.slice pR nm cR] 59,.lst 29 1 pH nm cH (mmE QH),.lst 29 1 pS nm cS (mmE QS),.lst 29 1 pR nm cR (mmE QR)] _ from hS.pick [3,2,1,0] (by decide) rfl).newH rfl⟩
theorem whCharS {pm:Option Addr} {nm cm p:Nat} {M:List (List Nat)} {w:World} (ht:Tb w) (hm:MS w pm nm M) (hp2:p < 4294967296) (hb1:nm ≤ 2097152) (hb2:∀ r ∈ M,r.length ≤ 1048576) (hp:MR.Pr p) (hr:RectM M) (h0:nm ≠ 0) (hq:M.length = colsM M) (hbig:nm ≤ 2) :
  Calls Tryd.prog 9 #[.slice pm nm cm,.int .u32 ((p:Nat):Int)] w (Ret (PEt (charL p M) 0) w):=by
 have hml:=hm.1
 have hp1:=hp.1
 have hp0:0 < p:=by omega
 have hrok:HOk p nm (HS.red p nm M (nm - 2)):=HOk.redk hp1 hr (by omega) hq (Nat.le_refl _)
 obtain ⟨HH,hHH⟩:∃ HH,(HS.red p nm M (nm - 2)).H = HH:=⟨_,rfl⟩
 have hHl:HH.length = nm:=by rw [← hHH]; exact hrok.hl
 have hHs:Shp p nm HH:=by rw [← hHH]; exact hrok.hs
 have hS:=Sep.init w
 refine went Tryd.func9 rfl (n:=128) rfl rfl ?_
 refine wseq (wreg (wl rfl (oassign (v:=.slice none 0 0) rfl rfl evc ?_)))
 refine wl rfl (oassign (v:=.int .i64 0) rfl rfl evc ?_)
 refine wnil (thenN (wseq (wseq (wreg (wl rfl (omove (v:=.slice pm nm cm) rfl rfl (ev rfl rfl) ?_))))))
 refine wl rfl (omove (v:=.int .u32 (p:Int)) rfl rfl (ev rfl rfl) ?_)
 refine wl rfl (ocall rfl rfl Tryd.call22 rfl (whfaults (ht.at hS) (hm.at hS) hp2 hb1 hb2 (HFa.ok hp hr (by omega) hq (by omega))) (args2 (ev rfl rfl) (ev rfl rfl)) ?_)
 rintro _ w1 ⟨_,_,rfl,⟨rfl,rfl⟩,hN⟩
 refine ⟨_,rfl,?_⟩
 replace hS:=hS.news hN; clear hN
 refine wl rfl (oassign (v:=.int .i64 (((0:Nat):Int))) rfl rfl (ev rfl rfl) ?_)
 refine wnil (thenN (wseq (wreg (wl rfl (omove (v:=.int .i64 (((0:Nat):Int))) rfl rfl (ev rfl rfl) ?_)))))
 refine wl rfl (obin (u:=.int .i64 (((0:Nat):Int))) (v:=.int .i64 0) (z:=.bool false) rfl rfl (ev rfl rfl) evc (bin_neq (neF (by omega))) ?_)
 refine wnil (thenN ?_)
 refine wF (ev rfl rfl) ?_
 refine wskip (thenN (wseq (wreg (wl rfl (omove (v:=.slice pm nm cm) rfl rfl (ev rfl rfl) ?_)))))
 refine wl rfl (omove (v:=.int .u32 (p:Int)) rfl rfl (ev rfl rfl) ?_)
 refine wl rfl (ocall rfl rfl Tryd.call23 rfl (whreduceS (ht.at hS) (hm.at hS) hp2 hb1 hb2 hp hr h0 hq hbig) (args2 (ev rfl rfl) (ev rfl rfl)) ?_)
 rintro _ w2 ⟨_,_,rfl,⟨gw,pH,cH,pS,cS,pR,cR,QH,QS,QR,hQH,hQS,hQR,rfl,rfl⟩,hN⟩
 refine ⟨_,rfl,?_⟩
 replace hS:=hS.news hN; clear hN
 refine wl rfl (onilCheck (a:=⟨gw,0,none⟩) rfl rfl (ev rfl rfl) ?_)
 refine wl rfl (ofieldAddr (g:=gw) (off:=0) 1 rfl rfl (ev rfl rfl) Tryd.runUnderlying59 rfl Tryd.sizeOf23 rfl ?_)
 refine wl rfl (oload1 (v:=.slice pH nm cH) (show One Tryd.prog 23 from ⟨Tryd.isAgg23,Tryd.sizeOf23⟩) hS 0 rfl rfl (ev rfl rfl) rfl rfl ?_)
 refine wl rfl (oassign (v:=.slice pH nm cH) rfl rfl (ev rfl rfl) ?_)
 refine wnil (thenN (wseq (wreg (wl rfl (omove (v:=.int .u32 (p:Int)) rfl rfl (ev rfl rfl) ?_)))))
 have hQH2:nums QH = HH:=hQH.trans hHH
 have hQl:QH.length = nm:=by rw [nums_lenQ hQH2]; exact hHl
 have sH:Shp p nm (nums QH):=by rw [hQH2]; exact hHs
 refine wl rfl (oconvert (u:=.int .u32 (p:Int)) (v:=.int .u64 (p:Int)) rfl rfl (ev rfl rfl) (convert_int Tryd.runUnderlying24 Tryd.runUnderlying44 (wrap_u64 (by omega) (by omega))) ?_)
 refine wl rfl (obuild (ps:=#[(0,.int .u64 (p:Int))]) (v:=.agg #[.int .u64 (p:Int)]) rfl rfl (parts1 (ev (v:=.int .u64 (p:Int)) rfl rfl)) (fun w => by simp [go_sem,Instr.build,Instr.fill]) ?_)
 refine wl rfl (oalloc [.int .u64 0] hS rfl rfl Tryd.zeroValue57 rfl ?_)
 clear hS; intro g3 w4 hS
 refine wl rfl (ostore [.int .u64 (p:Int)] [.int .u64 (p:Int)] Tryd.sizeOf57 hS 0 rfl rfl (ev rfl rfl) (ev (v:=.agg #[.int .u64 (p:Int)]) rfl rfl) rfl rfl rfl rfl rfl rfl ?_)
 clear hS; intro w5 hS
 refine wnil (thenN (wseq (wreg (wl rfl (omove (v:=.int .u32 (p:Int)) rfl rfl (ev rfl rfl) ?_)))))
 have h1p:=Nat.mod_lt 1 hp0
 refine wl rfl (obin (u:=.int .u32 1) (v:=.int .u32 (p:Int)) (z:=.int .u32 (((1 % p:Nat):Int))) rfl rfl evc (ev rfl rfl) (bin_rem (by omega) rfl) ?_)
 refine wl rfl (obslice (ps:=#[(0,.int .u32 (((1 % p:Nat):Int)))]) (z:=.int .u32 0) [.int .u32 (((1 % p:Nat):Int))] hS rfl rfl Tryd.runUnderlying30 Tryd.sizeOf24 Tryd.zeroValue24 (parts1 (ev (v:=.int .u32 (((1 % p:Nat):Int))) rfl rfl)) rfl (by decide) (fill1_1s rfl rfl) ?_)
 clear hS; intro g6 w7 hS
 refine wl rfl (obslice (ps:=#[(0,.slice (some ⟨g6,0,none⟩) 1 1)]) (z:=.slice none 0 0) [.slice (some ⟨g6,0,none⟩) 1 1] hS rfl rfl Tryd.runUnderlying62 Tryd.sizeOf30 Tryd.zeroValue30 (parts1 (ev (v:=.slice (some ⟨g6,0,none⟩) 1 1) rfl rfl)) rfl (by decide) (fill1_1s rfl rfl) ?_)
 clear hS; intro g8 w9 hS
 refine wl rfl (oassign (v:=.slice (some ⟨g8,0,none⟩) 1 1) rfl rfl (ev rfl rfl) ?_)
 refine wnil (thenN (wseq (wseq (wreg (wl rfl (omove (v:=.slice pH nm cH) rfl rfl (ev rfl rfl) ?_))))))
 refine wl rfl (olen rfl rfl rfl Tryd.runUnderlying23 (p:=pH) (k:=nm) (m:=cH) (ev rfl rfl) ?_)
 refine wl rfl (omove (v:=.int .i64 0) rfl rfl evc ?_)
 refine wnil (thenN (wblock ?_))
 obtain hS:=(show Sep w [.blk g6 [.int .u32 (((1 % p:Nat):Int))] 24,.blk g8 [.slice (some ⟨g6,0,none⟩) 1 1] 30,.blk g3 [.int .u64 (((p:Nat):Int))] 57,.blk gw [.int .u64 (((p:Nat):Int)),.slice pH nm cH,.slice pS nm cS,.slice pR nm cR] 59,.lst 29 1 pH nm cH (mmE QH),.lst 29 1 pS nm cS (mmE QS),.lst 29 1 pR nm cR (mmE QR)] w9 from hS.pick [1,0,2,3,4,5,6] (by decide) rfl)
 obtain hS:=(hS.blkRowH (x:=1 % p) (by omega)).toRdo
 obtain hS:=(show Sep w [.blk g8 [.slice (some ⟨g6,0,none⟩) 1 1] 30,.rdo ((if 1 = 0 then none else some ⟨g6,0,none⟩)) 1 1 ([1 % p]),.blk g3 [.int .u64 (((p:Nat):Int))] 57,.blk gw [.int .u64 (((p:Nat):Int)),.slice pH nm cH,.slice pS nm cS,.slice pR nm cR] 59,.lst 29 1 pH nm cH (mmE QH),.lst 29 1 pS nm cS (mmE QS),.lst 29 1 pR nm cR (mmE QR)] w9 from hS.pick [1,0,2,3,4,5,6] (by decide) rfl)
 obtain hS:=hS.blkPP (xs:=[1 % p]) rfl
 refine wloop (σ := Nat) (fun k a9 w' => ∃ (fb:Nat → Value) (PQ:List Rw) (pP:Option Addr) (cP:Nat),a9 = act 128 (sets fb [(1,.int .u32 (p:Int)),(4,.slice none 0 0),(5,.int .i64 0),(7,.slice pH nm cH),(8,.pointer (some ⟨g3,0,none⟩)),(9,.slice pP ((k + 1)) cP),(39,.int .i64 (nm:Int)),(40,.int .i64 (k:Int))]) ∧ Sep w [.lst 30 1 pP ((k + 1)) cP (ppE PQ),.blk g3 [.int .u64 (p:Int)] 57,.blk gw [.int .u64 (p:Int),.slice pH nm cH,.slice pS nm cS,.slice pR nm cR] 59,.lst 29 1 pH nm cH (mmE QH),.lst 29 1 pS nm cS (mmE QS),.lst 29 1 pR nm cR (mmE QR)] w' ∧ (k ≤ nm) ∧ (nums PQ = polysL p HH k)) (fun k => nm - k) (0) ⟨_,[⟨some ⟨g6,0,none⟩,1,[1 % p]⟩],_,_,act_sets (l:=[(1,.int .u32 (p:Int)),(4,.slice none 0 0),(5,.int .i64 0),(7,.slice pH nm cH),(8,.pointer (some ⟨g3,0,none⟩)),(9,.slice (some ⟨g8,0,none⟩) 1 1),(39,.int .i64 (nm:Int)),(40,.int .i64 0)]) ⟨rfl,rfl,rfl,rfl,rfl,rfl,rfl,rfl,trivial⟩,hS,Nat.zero_le _,rfl⟩ ?_
 clear hS; rintro k _ w10 ⟨fb,PQ,pP,cP,rfl,hS,hk,hPQ⟩
 refine wseq (wreg ?_)
 by_cases hlk:k < nm
 ·
  obtain ⟨PP,hPP⟩:∃ PP,polysL p HH k = PP:=⟨_,rfl⟩
  have hPl:PQ.length = k + 1:=by rw [nums_lenQ hPQ]; exact polysL_len ..
  have hlen:∀ i,i ≤ k → ((nums PQ).getD i []).length ≤ i + 1:=fun i hi => by rw [hPQ]; exact polysL_lens k hi
  have hltP:∀ i,i ≤ k → (PP.getD i []).length ≤ i + 1:=fun i hi => by rw [← hPP]; exact polysL_lens k hi
  have hPQ2:nums PQ = PP:=hPQ.trans hPP
  refine wl rfl (obin (u:=.int .i64 (k:Int)) (v:=.int .i64 (nm:Int)) (z:=.bool true) rfl rfl (ev rfl rfl) (ev rfl rfl) (bin_lss (decide_eq_true (by omega))) ?_)
  refine wnil (thenN (wseq ?_))
  refine wT (ev rfl rfl) ?_
  refine wskip (thenN (wseq (wblock (wseq (wreg (wl rfl (omove (v:=.int .i64 (k:Int)) rfl rfl (ev rfl rfl) ?_)))))))
  refine wl rfl (oassign (v:=.int .i64 (k:Int)) rfl rfl (ev rfl rfl) ?_)
  refine wnil (thenN (wseq (wreg (wl rfl (omove (v:=.slice pP ((k + 1)) cP) rfl rfl (ev rfl rfl) ?_)))))
  refine wl rfl (omove (v:=.int .i64 (k:Int)) rfl rfl (ev rfl rfl) ?_)
  obtain ⟨gp11,hgp11⟩:=hS.lstPtr 0 rfl (by omega)
  obtain ⟨gH,hgH⟩:=hS.lstPtr 3 rfl (by omega)
  obtain ⟨⟨pk,ck,xk⟩,hqk⟩:∃ q,(PQ)[k]? = some q:=⟨_,List.getElem?_eq_getElem (by omega)⟩
  have hdk:(nums (PQ)).getD k [] = xk:=getD_get (nums_get hqk)
  have hbk:xk.length ≤ 1000:=by have:=hlen k (Nat.le_refl _); rw [hdk] at this; omega
  obtain ⟨⟨ph,ch,xh⟩,hqh⟩:∃ q,(QH)[k]? = some q:=⟨_,List.getElem?_eq_getElem (by omega)⟩
  have hdh:(nums (QH)).getD k [] = xh:=getD_get (nums_get hqh)
  obtain ⟨hnh,hlth⟩:=sH.get (nums_get hqh)
  simp only at hnh hlth
  obtain ⟨gh,hgh⟩:=hS.mPtr 3 rfl hqh (by show 0 < xh.length; omega)
  have hhk:=lt_nd hlth hp0 k
  have hls:=shiftP_len p xk
  have hlt2:=scaleP_len p xk (nd xh k)
  refine wl rfl (oindex (p:=pP) (g:=gp11) (off:=0) (m:=(k + 1)) (k:=k) (j:=(0 + k * 1)) rfl rfl Tryd.runUnderlying62 Tryd.sizeOf30 (ev rfl rfl) (hgp11) (ev rfl rfl) (by omega) rfl ?_)
  refine wl rfl (oloadc (v:=.slice pk xk.length ck) (show One Tryd.prog 30 from ⟨Tryd.isAgg30,Tryd.sizeOf30⟩) rfl rfl (ev (v:=.pointer (some ⟨gp11,(0 + k * 1),none⟩)) rfl rfl) (hS.lstAt 0 rfl hgp11 k 0 (ppE_get hqk) rfl (by decide) (by omega)) ?_)
  refine wl rfl (omove (v:=.int .u32 (p:Int)) rfl rfl (ev rfl rfl) ?_)
  refine wl rfl (ocall rfl rfl Tryd.call24 rfl (wyShift (ht.at hS) (hS.ppSl 0 rfl hqk) hp hp2 (by omega)) (args3 (ev rfl rfl) evc (ev rfl rfl)) ?_)
  rintro _ w12 ⟨_,_,rfl,⟨pq0,cq0,rfl,rfl⟩,hN⟩
  refine ⟨_,rfl,?_⟩
  replace hS:=hS.news hN; clear hN
  refine wl rfl (omove (v:=.tuple #[.slice pq0 ((shiftP p xk).length) cq0,.int .i64 0]) rfl rfl (ev rfl rfl) ?_)
  refine wl rfl (oextract (vs:=[.slice pq0 ((shiftP p xk).length) cq0,.int .i64 0]) (v:=.slice pq0 ((shiftP p xk).length) cq0) rfl rfl (ev rfl rfl) rfl ?_)
  refine wl rfl (oextract (vs:=[.slice pq0 ((shiftP p xk).length) cq0,.int .i64 0]) (v:=.int .i64 0) rfl rfl (ev rfl rfl) rfl ?_)
  refine wl rfl (oassign (v:=.slice pq0 ((shiftP p xk).length) cq0) rfl rfl (ev rfl rfl) ?_)
  refine wl rfl (oassign (v:=.int .i64 0) rfl rfl (ev rfl rfl) ?_)
  refine wnil (thenN (wseq ?_))
  refine wstage 18 [53,54,55,56,57,58,59,60,61,62,63,64,65,52,66,67,13,14] [[],[],[0,1],[2,0,1],[],[],[4,5],[6,4,5],[],[7,8,4,5,6],[9,4,5,6,7,8],[],[3,10,11,0,1,2,4,5,6,7,8,9],[12,0,1,2,3,4,5,6,7,8,9,10,11],[12,13,0,1,2,3,4,5,6,7,8,9,10,11],[12,13,0,1,2,3,4,5,6,7,8,9,10,11],[12,14,0,1,2,3,4,5,6,7,8,9,10,11,13],[15,0,1,2,3,4,5,6,7,8,9,10,11,12,13,14,16]] [[],[],[],[],[],[],[],[],[],[],[],[],[],[12],[12],[],[12],[]] [] [] (fun i9 => ([fun _ => Is (.slice pP ((k + 1)) cP),fun _ => Is (.int .i64 (k:Int)),fun _ => Is (.pointer (some ⟨gp11,(0 + k * 1),none⟩)),fun _ => Is (.slice pk xk.length ck),fun _ => Is (.slice pH nm cH),fun _ => Is (.int .i64 (k:Int)),fun _ => Is (.pointer (some ⟨gH,(0 + k * 1),none⟩)),fun _ => Is (.slice ph nm ch),fun _ => Is (.int .i64 (k:Int)),fun _ => Is (.pointer (some ⟨gh,k,none⟩)),fun _ => Is (.int .u32 (((nd xh k:Nat):Int))),fun _ => Is (.int .u32 (p:Int)),fun _ => PEt (scaleP p xk (nd xh k)) 0,fun us => Is (.tuple #[(vat (us.getD 0 undef) [0]),.int .i64 0]),fun us => Is ((vat (us.getD 0 undef) [0])),fun _ => Is (.int .i64 0),fun us => Is ((vat (us.getD 0 undef) [0])),fun _ => Is (.int .i64 0)]:List (List Value → Tell)).getD i9 (fun _ _ _ => False)) (heldNil) (fun d _ _ _ _ h => (by cases d <;> exact h)) (by kernel_rfl) (by kernel_rfl) (by kernel_rfl) hS ?_ ?_
  ·
   refine stepsCons rfl (fun Q f' w' ρ S ho hT hS hB => ?_) ?_
   ·exact .inl ⟨want_none rfl,omove (v:=.slice pP ((k + 1)) cP) rfl rfl (ev rfl (ho 9 rfl)) ⟨_,_,rfl,isI,New.same _⟩⟩
   refine stepsCons rfl (fun Q f' w' ρ S ho hT hS hB => ?_) ?_
   ·exact .inl ⟨want_none rfl,omove (v:=.int .i64 (k:Int)) rfl rfl (ev rfl (ho 10 rfl)) ⟨_,_,rfl,isI,New.same _⟩⟩
   refine stepsCons rfl (fun Q f' w' ρ S ho hT hS hB => ?_) ?_
   ·obtain ⟨hv0,hr0⟩:=(hT 0 53 rfl rfl:(Is (.slice pP ((k + 1)) cP)) _ _)
    obtain ⟨hv1,hr1⟩:=(hT 1 54 rfl rfl:(Is (.int .i64 (((k:Nat):Int)))) _ _)
    obtain hS:=hS.flat2 hr0 hr1
    exact .inl ⟨want_none rfl,oindex (p:=pP) (g:=gp11) (off:=0) (m:=(k + 1)) (k:=k) (j:=(0 + k * 1)) rfl rfl Tryd.runUnderlying62 Tryd.sizeOf30 (ev rfl hv0) (hgp11) (ev rfl hv1) (by omega) rfl ⟨_,_,rfl,isI,New.same _⟩⟩
   refine stepsCons rfl (fun Q f' w' ρ S ho hT hS hB => ?_) ?_
   ·obtain ⟨hv2,hr2⟩:=(hT 2 55 rfl rfl:(Is (.pointer (some ⟨gp11,(0 + k * 1),none⟩))) _ _)
    obtain hS:=hS.flat1 hr2
    exact .inl ⟨want_none rfl,oloadc (v:=.slice pk xk.length ck) (show One Tryd.prog 30 from ⟨Tryd.isAgg30,Tryd.sizeOf30⟩) rfl rfl (ev (v:=.pointer (some ⟨gp11,(0 + k * 1),none⟩)) rfl hv2) (hS.lstAt 1 rfl hgp11 k 0 (ppE_get hqk) rfl (by decide) (by omega)) ⟨_,_,rfl,isI,New.same _⟩⟩
   refine stepsCons rfl (fun Q f' w' ρ S ho hT hS hB => ?_) ?_
   ·exact .inl ⟨want_none rfl,omove (v:=.slice pH nm cH) rfl rfl (ev rfl (ho 7 rfl)) ⟨_,_,rfl,isI,New.same _⟩⟩
   refine stepsCons rfl (fun Q f' w' ρ S ho hT hS hB => ?_) ?_
   ·exact .inl ⟨want_none rfl,omove (v:=.int .i64 (k:Int)) rfl rfl (ev rfl (ho 10 rfl)) ⟨_,_,rfl,isI,New.same _⟩⟩
   refine stepsCons rfl (fun Q f' w' ρ S ho hT hS hB => ?_) ?_
   ·obtain ⟨hv4,hr4⟩:=(hT 4 57 rfl rfl:(Is (.slice pH nm cH)) _ _)
    obtain ⟨hv5,hr5⟩:=(hT 5 58 rfl rfl:(Is (.int .i64 (((k:Nat):Int)))) _ _)
    obtain hS:=hS.flat2 hr4 hr5
    exact .inl ⟨want_none rfl,oindex (p:=pH) (g:=gH) (off:=0) (m:=nm) (k:=k) (j:=(0 + k * 1)) rfl rfl Tryd.runUnderlying23 Tryd.sizeOf29 (ev rfl hv4) (hgH) (ev rfl hv5) (by omega) rfl ⟨_,_,rfl,isI,New.same _⟩⟩
   refine stepsCons rfl (fun Q f' w' ρ S ho hT hS hB => ?_) ?_
   ·obtain ⟨hv6,hr6⟩:=(hT 6 59 rfl rfl:(Is (.pointer (some ⟨gH,(0 + k * 1),none⟩))) _ _)
    obtain hS:=hS.flat1 hr6
    exact .inl ⟨want_none rfl,oloadc (v:=.slice ph nm ch) (show One Tryd.prog 29 from ⟨Tryd.isAgg29,Tryd.sizeOf29⟩) rfl rfl (ev (v:=.pointer (some ⟨gH,(0 + k * 1),none⟩)) rfl hv6) (hS.mRow 4 rfl hqh hnh hgH) ⟨_,_,rfl,isI,New.same _⟩⟩
   refine stepsCons rfl (fun Q f' w' ρ S ho hT hS hB => ?_) ?_
   ·exact .inl ⟨want_none rfl,omove (v:=.int .i64 (k:Int)) rfl rfl (ev rfl (ho 10 rfl)) ⟨_,_,rfl,isI,New.same _⟩⟩
   refine stepsCons rfl (fun Q f' w' ρ S ho hT hS hB => ?_) ?_
   ·obtain ⟨hv7,hr7⟩:=(hT 7 60 rfl rfl:(Is (.slice ph nm ch)) _ _)
    obtain ⟨hv8,hr8⟩:=(hT 8 61 rfl rfl:(Is (.int .i64 (((k:Nat):Int)))) _ _)
    obtain hS:=hS.flat2 hr7 hr8
    exact .inl ⟨want_none rfl,oindex (p:=ph) (g:=gh) (off:=0) (m:=nm) (k:=k) (j:=k) rfl rfl Tryd.runUnderlying29 Tryd.sizeOf24 (ev rfl hv7) (hgh) (ev rfl hv8) (by omega) (by simp) ⟨_,_,rfl,isI,New.same _⟩⟩
   refine stepsCons rfl (fun Q f' w' ρ S ho hT hS hB => ?_) ?_
   ·obtain ⟨hv9,hr9⟩:=(hT 9 62 rfl rfl:(Is (.pointer (some ⟨gh,k,none⟩))) _ _)
    obtain hS:=hS.flat1 hr9
    exact .inl ⟨want_none rfl,oloadc (v:=.int .u32 (((nd xh k:Nat):Int))) one32 rfl rfl (ev (v:=.pointer (some ⟨gh,k,none⟩)) rfl hv9) (hS.mCell 4 rfl hqh hgh (by omega)) ⟨_,_,rfl,isI,New.same _⟩⟩
   refine stepsCons rfl (fun Q f' w' ρ S ho hT hS hB => ?_) ?_
   ·exact .inl ⟨want_none rfl,omove (v:=.int .u32 (p:Int)) rfl rfl (ev rfl (ho 1 rfl)) ⟨_,_,rfl,isI,New.same _⟩⟩
   refine stepsCons rfl (fun Q f' w' ρ S ho hT hS hB => ?_) ?_
   ·obtain ⟨hv3,hr3⟩:=(hT 3 56 rfl rfl:(Is (.slice pk xk.length ck)) _ _)
    obtain ⟨hv10,hr10⟩:=(hT 10 63 rfl rfl:(Is (.int .u32 (((nd xh k:Nat):Int)))) _ _)
    obtain ⟨hv11,hr11⟩:=(hT 11 64 rfl rfl:(Is (.int .u32 (((p:Nat):Int)))) _ _)
    obtain hS:=hS.flat3 hr3 hr10 hr11
    exact .inl ⟨want_none rfl,ocall rfl rfl Tryd.call25 rfl (wyScale (ht.at hS) (hS.ppSl 1 rfl hqk) hp hp2 (by omega) (c:=(nd xh k)) (by omega)) (args3 (ev rfl hv3) (ev rfl hv10) (ev rfl hv11)) callN⟩
   refine stepsCons rfl (fun Q f' w' ρ S ho hT hS hB => ?_) ?_
   ·obtain ⟨pt0,ct0,hv12,hr12⟩:=(hT 12 65 rfl rfl:(PEt (scaleP p xk (nd xh k)) 0) _ _)
    obtain hS:=hS.flat1 hr12
    have hQ:(.tuple #[.slice pt0 ((scaleP p xk (nd xh k)).length) ct0,.int .i64 0]:Value) = (fun (us:List Value) => (.tuple #[(vat (us.getD 0 undef) [0]),.int .i64 0]:Value)) [f' 65]:=by show _ = (.tuple #[(vat (f' 65) [0]),.int .i64 0]:Value); rw [hv12]; rfl
    exact .inl ⟨want_none rfl,omove (v:=.tuple #[.slice pt0 ((scaleP p xk (nd xh k)).length) ct0,.int .i64 0]) rfl rfl (ev rfl hv12) ⟨_,_,rfl,⟨hQ,rfl⟩,New.same _⟩⟩
   refine stepsCons rfl (fun Q f' w' ρ S ho hT hS hB => ?_) ?_
   ·obtain ⟨pt0,ct0,hv12,hr12⟩:=(hT 12 65 rfl rfl:(PEt (scaleP p xk (nd xh k)) 0) _ _)
    obtain ⟨hv13,hr13⟩:=(hT 13 52 rfl rfl:(fun (us:List Value) => Is (.tuple #[(vat (us.getD 0 undef) [0]),.int .i64 0])) [f' 65] _ _)
    replace hv13:f' 52 = .tuple #[.slice pt0 ((scaleP p xk (nd xh k)).length) ct0,.int .i64 0]:=hv13.trans (by show (.tuple #[(vat (f' 65) [0]),.int .i64 0]:Value) = _; rw [hv12]; rfl)
    obtain hS:=hS.flat2 hr12 hr13
    have hQ:(.slice pt0 ((scaleP p xk (nd xh k)).length) ct0:Value) = (fun (us:List Value) => ((vat (us.getD 0 undef) [0]):Value)) [f' 65]:=by show _ = ((vat (f' 65) [0]):Value); rw [hv12]; rfl
    exact .inl ⟨want_none rfl,oextract (vs:=[.slice pt0 ((scaleP p xk (nd xh k)).length) ct0,.int .i64 0]) (v:=.slice pt0 ((scaleP p xk (nd xh k)).length) ct0) rfl rfl (ev rfl hv13) rfl ⟨_,_,rfl,⟨hQ,rfl⟩,New.same _⟩⟩
   refine stepsCons rfl (fun Q f' w' ρ S ho hT hS hB => ?_) ?_
   ·obtain ⟨pt0,ct0,hv12,hr12⟩:=(hT 12 65 rfl rfl:(PEt (scaleP p xk (nd xh k)) 0) _ _)
    obtain ⟨hv13,hr13⟩:=(hT 13 52 rfl rfl:(fun (us:List Value) => Is (.tuple #[(vat (us.getD 0 undef) [0]),.int .i64 0])) [f' 65] _ _)
    replace hv13:f' 52 = .tuple #[.slice pt0 ((scaleP p xk (nd xh k)).length) ct0,.int .i64 0]:=hv13.trans (by show (.tuple #[(vat (f' 65) [0]),.int .i64 0]:Value) = _; rw [hv12]; rfl)
    obtain hS:=hS.flat2 hr12 hr13
    exact .inl ⟨want_none rfl,oextract (vs:=[.slice pt0 ((scaleP p xk (nd xh k)).length) ct0,.int .i64 0]) (v:=.int .i64 0) rfl rfl (ev rfl hv13) rfl ⟨_,_,rfl,isI,New.same _⟩⟩
   refine stepsCons rfl (fun Q f' w' ρ S ho hT hS hB => ?_) ?_
   ·obtain ⟨pt0,ct0,hv12,hr12⟩:=(hT 12 65 rfl rfl:(PEt (scaleP p xk (nd xh k)) 0) _ _)
    obtain ⟨hv14,hr14⟩:=(hT 14 66 rfl rfl:(fun (us:List Value) => Is ((vat (us.getD 0 undef) [0]))) [f' 65] _ _)
    replace hv14:f' 66 = .slice pt0 ((scaleP p xk (nd xh k)).length) ct0:=hv14.trans (by show ((vat (f' 65) [0]):Value) = _; rw [hv12]; rfl)
    obtain hS:=hS.flat2 hr12 hr14
    have hQ:(.slice pt0 ((scaleP p xk (nd xh k)).length) ct0:Value) = (fun (us:List Value) => ((vat (us.getD 0 undef) [0]):Value)) [f' 65]:=by show _ = ((vat (f' 65) [0]):Value); rw [hv12]; rfl
    exact .inl ⟨want_none rfl,oassign (v:=.slice pt0 ((scaleP p xk (nd xh k)).length) ct0) rfl rfl (ev rfl hv14) ⟨_,_,rfl,⟨hQ,rfl⟩,New.same _⟩⟩
   refine stepsCons rfl (fun Q f' w' ρ S ho hT hS hB => ?_) ?_
   ·obtain ⟨hv15,hr15⟩:=(hT 15 67 rfl rfl:(Is (.int .i64 0)) _ _)
    obtain hS:=hS.flat1 hr15
    exact .inl ⟨want_none rfl,oassign (v:=.int .i64 0) rfl rfl (ev rfl hv15) ⟨_,_,rfl,isI,New.same _⟩⟩
   exact stepsNil
  ·
   intro vs ρ w13 f' hf hT hS
   obtain ⟨hv0,hr0⟩:=(hT 0 (by decide):(Is (.slice pP ((k + 1)) cP)) _ _)
   obtain ⟨hv1,hr1⟩:=(hT 1 (by decide):(Is (.int .i64 (((k:Nat):Int)))) _ _)
   obtain ⟨hv2,hr2⟩:=(hT 2 (by decide):(Is (.pointer (some ⟨gp11,(0 + k * 1),none⟩))) _ _)
   obtain ⟨hv3,hr3⟩:=(hT 3 (by decide):(Is (.slice pk xk.length ck)) _ _)
   obtain ⟨hv4,hr4⟩:=(hT 4 (by decide):(Is (.slice pH nm cH)) _ _)
   obtain ⟨hv5,hr5⟩:=(hT 5 (by decide):(Is (.int .i64 (((k:Nat):Int)))) _ _)
   obtain ⟨hv6,hr6⟩:=(hT 6 (by decide):(Is (.pointer (some ⟨gH,(0 + k * 1),none⟩))) _ _)
   obtain ⟨hv7,hr7⟩:=(hT 7 (by decide):(Is (.slice ph nm ch)) _ _)
   obtain ⟨hv8,hr8⟩:=(hT 8 (by decide):(Is (.int .i64 (((k:Nat):Int)))) _ _)
   obtain ⟨hv9,hr9⟩:=(hT 9 (by decide):(Is (.pointer (some ⟨gh,k,none⟩))) _ _)
   obtain ⟨hv10,hr10⟩:=(hT 10 (by decide):(Is (.int .u32 (((nd xh k:Nat):Int)))) _ _)
   obtain ⟨hv11,hr11⟩:=(hT 11 (by decide):(Is (.int .u32 (((p:Nat):Int)))) _ _)
   obtain ⟨pt0,ct0,hv12,hr12⟩:=(hT 12 (by decide):(PEt (scaleP p xk (nd xh k)) 0) _ _)
   obtain ⟨hv13,hr13⟩:=(hT 13 (by decide):(fun (us:List Value) => Is (.tuple #[(vat (us.getD 0 undef) [0]),.int .i64 0])) [vs 12] _ _)
   replace hv13:vs 13 = .tuple #[.slice pt0 ((scaleP p xk (nd xh k)).length) ct0,.int .i64 0]:=hv13.trans (by show (.tuple #[(vat (vs 12) [0]),.int .i64 0]:Value) = _; rw [hv12]; rfl)
   obtain ⟨hv14,hr14⟩:=(hT 14 (by decide):(fun (us:List Value) => Is ((vat (us.getD 0 undef) [0]))) [vs 12] _ _)
   replace hv14:vs 14 = .slice pt0 ((scaleP p xk (nd xh k)).length) ct0:=hv14.trans (by show ((vat (vs 12) [0]):Value) = _; rw [hv12]; rfl)
   obtain ⟨hv15,hr15⟩:=(hT 15 (by decide):(Is (.int .i64 0)) _ _)
   obtain ⟨hv16,hr16⟩:=(hT 16 (by decide):(fun (us:List Value) => Is ((vat (us.getD 0 undef) [0]))) [vs 12] _ _)
   replace hv16:vs 16 = .slice pt0 ((scaleP p xk (nd xh k)).length) ct0:=hv16.trans (by show ((vat (vs 12) [0]):Value) = _; rw [hv12]; rfl)
   obtain ⟨hv17,hr17⟩:=(hT 17 (by decide):(Is (.int .i64 0)) _ _)
   simp only [pool,if_true,hr0,hr1,hr2,hr3,hr4,hr5,hr6,hr7,hr8,hr9,hr10,hr11,hr12,hr13,hr14,hr15,hr16,hr17,List.nil_append,List.cons_append,List.append_nil] at hS
   simp only [layf,hv0,hv1,hv2,hv3,hv4,hv5,hv6,hv7,hv8,hv9,hv10,hv11,hv12,hv13,hv14,hv15,hv16,hv17] at hf
   subst hf; clear hT hv0 hv1 hv2 hv3 hv4 hv5 hv6 hv7 hv8 hv9 hv10 hv11 hv12 hv13 hv14 hv15 hv16 hv17 hr0 hr1 hr2 hr3 hr4 hr5 hr6 hr7 hr8 hr9 hr10 hr11 hr12 hr13 hr14 hr15 hr16 hr17
   refine wdone rfl ?_
   refine thenN (wseq (wreg (wl rfl (omove (v:=.slice pq0 ((shiftP p xk).length) cq0) rfl rfl (ev rfl rfl) ?_))))
   refine wl rfl (omove (v:=.slice pt0 ((scaleP p xk (nd xh k)).length) ct0) rfl rfl (ev rfl rfl) ?_)
   refine wl rfl (omove (v:=.int .u32 (p:Int)) rfl rfl (ev rfl rfl) ?_)
   refine wl rfl (ocall rfl rfl Tryd.call26 rfl (wySub (ht.at hS) (hS.slo 1 rfl) (hS.slo 0 rfl) hp hp2 (by omega) (by omega)) (args3 (ev rfl rfl) (ev rfl rfl) (ev rfl rfl)) ?_)
   rintro _ w14 ⟨_,_,rfl,⟨pq1,cq1,rfl,rfl⟩,hN⟩
   refine ⟨_,rfl,?_⟩
   replace hS:=hS.news hN; clear hN
   refine wl rfl (omove (v:=.tuple #[.slice pq1 ((subP p (shiftP p xk) (scaleP p xk (nd xh k))).length) cq1,.int .i64 0]) rfl rfl (ev rfl rfl) ?_)
   refine wl rfl (oextract (vs:=[.slice pq1 ((subP p (shiftP p xk) (scaleP p xk (nd xh k))).length) cq1,.int .i64 0]) (v:=.slice pq1 ((subP p (shiftP p xk) (scaleP p xk (nd xh k))).length) cq1) rfl rfl (ev rfl rfl) rfl ?_)
   refine wl rfl (oextract (vs:=[.slice pq1 ((subP p (shiftP p xk) (scaleP p xk (nd xh k))).length) cq1,.int .i64 0]) (v:=.int .i64 0) rfl rfl (ev rfl rfl) rfl ?_)
   refine wl rfl (oassign (v:=.slice pq1 ((subP p (shiftP p xk) (scaleP p xk (nd xh k))).length) cq1) rfl rfl (ev rfl rfl) ?_)
   refine wnil (thenN (wseq (wreg (wl rfl (oassign (v:=.int .u32 1) rfl rfl evc ?_)))))
   refine wnil (thenN (wseq (wseq (wreg (wl rfl (omove (v:=.int .i64 (k:Int)) rfl rfl (ev rfl rfl) ?_))))))
   refine wl rfl (obin (u:=.int .i64 (k:Int)) (v:=.int .i64 1) (z:=.int .i64 (((k:Int) - 1))) rfl rfl (ev rfl rfl) evc (bin_sub (wrap_i64 (by omega) (by omega))) ?_)
   refine wl rfl (oassign (v:=.int .i64 (((k:Int) - 1))) rfl rfl (ev rfl rfl) ?_)
   refine wnil (thenN (wblock ?_))
   refine wloop (σ := Nat) (fun d a9 w' => ∃ (fb:Nat → Value) (jj:Int) (cc:Nat) (pq:Option Addr) (cq:Nat) (qx:List Nat),a9 = act 128 (sets fb [(1,.int .u32 (p:Int)),(4,.slice none 0 0),(5,.int .i64 0),(7,.slice pH nm cH),(8,.pointer (some ⟨g3,0,none⟩)),(9,.slice pP ((k + 1)) cP),(10,.int .i64 (k:Int)),(11,.slice pq qx.length cq),(15,.int .u32 (cc:Int)),(16,.int .i64 jj),(39,.int .i64 (nm:Int)),(40,.int .i64 (k:Int))]) ∧ Sep w [.rdo pq qx.length cq qx,.rdo pt0 ((scaleP p xk (nd xh k)).length) ct0 (scaleP p xk (nd xh k)),.rdo pq0 ((shiftP p xk).length) cq0 (shiftP p xk),.lst 30 1 pP ((k + 1)) cP (ppE PQ),.blk g3 [.int .u64 (p:Int)] 57,.blk gw [.int .u64 (p:Int),.slice pH nm cH,.slice pS nm cS,.slice pR nm cR] 59,.lst 29 1 pH nm cH (mmE QH),.lst 29 1 pS nm cS (mmE QS),.lst 29 1 pR nm cR (mmE QR)] w' ∧ (d ≤ k) ∧ (jj = (k:Int) - 1 - (d:Nat)) ∧ (cc = (inP p HH PP k d).2) ∧ (qx = (inP p HH PP k d).1)) (fun d => k - d) (0) ⟨_,_,1,_,_,_,act_sets (l:=[(1,.int .u32 (p:Int)),(4,.slice none 0 0),(5,.int .i64 0),(7,.slice pH nm cH),(8,.pointer (some ⟨g3,0,none⟩)),(9,.slice pP ((k + 1)) cP),(10,.int .i64 (k:Int)),(11,.slice pq1 ((subP p (shiftP p xk) (scaleP p xk (nd xh k))).length) cq1),(15,.int .u32 1),(16,.int .i64 (((k:Int) - 1))),(39,.int .i64 (nm:Int)),(40,.int .i64 (k:Int))]) ⟨rfl,rfl,rfl,rfl,rfl,rfl,rfl,rfl,rfl,rfl,rfl,rfl,trivial⟩,hS,Nat.zero_le _,by omega,rfl,by rw [inP, ← hPQ2,hdk, ← hQH2,hdh]⟩ ?_
   clear hS; rintro d _ w15 ⟨fb,jj,cc,pq,cq,qx,rfl,hS,hd,hjj,hcc,hqx⟩
   refine wseq (wseq (wreg (wl rfl (omove (v:=.int .i64 jj) rfl rfl (ev rfl rfl) ?_))))
   by_cases hdk9:d < k
   ·
    refine wl rfl (obin (u:=.int .i64 jj) (v:=.int .i64 0) (z:=.bool true) rfl rfl (ev rfl rfl) evc (bin_geq (decide_eq_true (by omega))) ?_)
    refine wnil (thenN ?_)
    refine wT (ev rfl rfl) ?_
    refine wskip (thenN (wseq (wblock (wseq ?_))))
    obtain ⟨j,rfl⟩:∃ j:Nat,jj = (j:Int):=⟨k - 1 - d,by omega⟩
    have hj:k - 1 - d = j:=by omega
    have hqb:qx.length ≤ 1000:=by rw [hqx]; have:=inP_len (p:=p) (H:=HH) hltP d (by omega); omega
    have hcb:cc < p:=by rw [hcc]; exact inP_c hp1 d
    obtain ⟨⟨pg,cg,xg⟩,hqg⟩:∃ q,(QH)[(j + 1)]? = some q:=⟨_,List.getElem?_eq_getElem (by omega)⟩
    have hdg:(nums (QH)).getD ((j + 1)) [] = xg:=getD_get (nums_get hqg)
    obtain ⟨hng,hltg⟩:=sH.get (nums_get hqg)
    simp only at hng hltg
    obtain ⟨gg,hgg⟩:=hS.mPtr 6 rfl hqg (by show 0 < xg.length; omega)
    obtain ⟨⟨pi,ci,xi⟩,hqi⟩:∃ q,(QH)[j]? = some q:=⟨_,List.getElem?_eq_getElem (by omega)⟩
    have hdi:(nums (QH)).getD j [] = xi:=getD_get (nums_get hqi)
    obtain ⟨hni,hlti⟩:=sH.get (nums_get hqi)
    simp only at hni hlti
    obtain ⟨gi,hgi⟩:=hS.mPtr 6 rfl hqi (by show 0 < xi.length; omega)
    obtain ⟨⟨pj,cj,xj⟩,hqj⟩:∃ q,(PQ)[j]? = some q:=⟨_,List.getElem?_eq_getElem (by omega)⟩
    have hdj:(nums (PQ)).getD j [] = xj:=getD_get (nums_get hqj)
    have hbj:xj.length ≤ 1000:=by have:=hlen j (by omega); rw [hdj] at this; omega
    have hgj:=lt_nd hltg hp0 j
    have hik:=lt_nd hlti hp0 k
    have hm9:=Nat.mod_lt (cc * nd xg j) hp0
    have hm8:=Nat.mod_lt (cc * nd xg j % p * nd xi k) hp0
    have hts:=scaleP_len p xj (cc * nd xg j % p * nd xi k % p)
    refine wstage 11 [81,82,83,84,85,86,87,88,89,90,91] [[],[],[],[],[3],[2,4,3],[5,2,3,4],[],[6,7,2,3,4,5],[8,2,3,4,5,6,7],[0,1,9,2,3,4,5,6,7,8]] [[],[],[],[],[],[],[],[],[],[],[]] [] [] (fun i9 => ([fun _ => Is (.agg #[.int .u64 (p:Int)]),fun _ => Is (.int .u32 (cc:Int)),fun _ => Is (.slice pH nm cH),fun _ => Is (.int .i64 (j:Int)),fun _ => Is (.int .i64 (((j + 1:Nat):Int))),fun _ => Is (.pointer (some ⟨gH,(0 + (j + 1) * 1),none⟩)),fun _ => Is (.slice pg nm cg),fun _ => Is (.int .i64 (j:Int)),fun _ => Is (.pointer (some ⟨gg,j,none⟩)),fun _ => Is (.int .u32 (((nd xg j:Nat):Int))),fun _ => Is (.int .u32 (((cc * (nd xg j) % p:Nat):Int)))]:List (List Value → Tell)).getD i9 (fun _ _ _ => False)) (heldNil) (fun d _ _ _ _ h => (by cases d <;> exact h)) (by kernel_rfl) (by kernel_rfl) (by kernel_rfl) hS ?_ ?_
    ·
     refine stepsCons rfl (fun Q f' w' ρ S ho hT hS hB => ?_) ?_
     ·exact .inl ⟨want_none rfl,oload (vs:=[.int .u64 (p:Int)]) (show Agg Tryd.prog 57 1 from ⟨Tryd.isAgg57,Tryd.sizeOf57⟩) hS 4 rfl rfl (ev rfl (ho 8 rfl)) rfl rfl rfl ⟨_,_,rfl,isI,New.same _⟩⟩
     refine stepsCons rfl (fun Q f' w' ρ S ho hT hS hB => ?_) ?_
     ·exact .inl ⟨want_none rfl,omove (v:=.int .u32 (cc:Int)) rfl rfl (ev rfl (ho 15 rfl)) ⟨_,_,rfl,isI,New.same _⟩⟩
     refine stepsCons rfl (fun Q f' w' ρ S ho hT hS hB => ?_) ?_
     ·exact .inl ⟨want_none rfl,omove (v:=.slice pH nm cH) rfl rfl (ev rfl (ho 7 rfl)) ⟨_,_,rfl,isI,New.same _⟩⟩
     refine stepsCons rfl (fun Q f' w' ρ S ho hT hS hB => ?_) ?_
     ·exact .inl ⟨want_none rfl,omove (v:=.int .i64 (j:Int)) rfl rfl (ev rfl (ho 16 rfl)) ⟨_,_,rfl,isI,New.same _⟩⟩
     refine stepsCons rfl (fun Q f' w' ρ S ho hT hS hB => ?_) ?_
     ·obtain ⟨hv3,hr3⟩:=(hT 3 84 rfl rfl:(Is (.int .i64 (((j:Nat):Int)))) _ _)
      obtain hS:=hS.flat1 hr3
      exact .inl ⟨want_none rfl,obin (u:=.int .i64 (j:Int)) (v:=.int .i64 1) (z:=.int .i64 (((j + 1:Nat):Int))) rfl rfl (ev rfl hv3) evc (bin_add (wrap_i64 (by omega) (by omega))) ⟨_,_,rfl,isI,New.same _⟩⟩
     refine stepsCons rfl (fun Q f' w' ρ S ho hT hS hB => ?_) ?_
     ·obtain ⟨hv2,hr2⟩:=(hT 2 83 rfl rfl:(Is (.slice pH nm cH)) _ _)
      obtain ⟨hv4,hr4⟩:=(hT 4 85 rfl rfl:(Is (.int .i64 (((j + 1:Nat):Int)))) _ _)
      obtain hS:=hS.flat2 hr2 hr4
      exact .inl ⟨want_none rfl,oindex (p:=pH) (g:=gH) (off:=0) (m:=nm) (k:=j + 1) (j:=(0 + (j + 1) * 1)) rfl rfl Tryd.runUnderlying23 Tryd.sizeOf29 (ev rfl hv2) (hgH) (ev rfl hv4) (by omega) rfl ⟨_,_,rfl,isI,New.same _⟩⟩
     refine stepsCons rfl (fun Q f' w' ρ S ho hT hS hB => ?_) ?_
     ·obtain ⟨hv5,hr5⟩:=(hT 5 86 rfl rfl:(Is (.pointer (some ⟨gH,(0 + (j + 1) * 1),none⟩))) _ _)
      obtain hS:=hS.flat1 hr5
      exact .inl ⟨want_none rfl,oloadc (v:=.slice pg nm cg) (show One Tryd.prog 29 from ⟨Tryd.isAgg29,Tryd.sizeOf29⟩) rfl rfl (ev (v:=.pointer (some ⟨gH,(0 + (j + 1) * 1),none⟩)) rfl hv5) (hS.mRow 6 rfl hqg hng hgH) ⟨_,_,rfl,isI,New.same _⟩⟩
     refine stepsCons rfl (fun Q f' w' ρ S ho hT hS hB => ?_) ?_
     ·exact .inl ⟨want_none rfl,omove (v:=.int .i64 (j:Int)) rfl rfl (ev rfl (ho 16 rfl)) ⟨_,_,rfl,isI,New.same _⟩⟩
     refine stepsCons rfl (fun Q f' w' ρ S ho hT hS hB => ?_) ?_
     ·obtain ⟨hv6,hr6⟩:=(hT 6 87 rfl rfl:(Is (.slice pg nm cg)) _ _)
      obtain ⟨hv7,hr7⟩:=(hT 7 88 rfl rfl:(Is (.int .i64 (((j:Nat):Int)))) _ _)
      obtain hS:=hS.flat2 hr6 hr7
      exact .inl ⟨want_none rfl,oindex (p:=pg) (g:=gg) (off:=0) (m:=nm) (k:=j) (j:=j) rfl rfl Tryd.runUnderlying29 Tryd.sizeOf24 (ev rfl hv6) (hgg) (ev rfl hv7) (by omega) (by simp) ⟨_,_,rfl,isI,New.same _⟩⟩
     refine stepsCons rfl (fun Q f' w' ρ S ho hT hS hB => ?_) ?_
     ·obtain ⟨hv8,hr8⟩:=(hT 8 89 rfl rfl:(Is (.pointer (some ⟨gg,j,none⟩))) _ _)
      obtain hS:=hS.flat1 hr8
      exact .inl ⟨want_none rfl,oloadc (v:=.int .u32 (((nd xg j:Nat):Int))) one32 rfl rfl (ev (v:=.pointer (some ⟨gg,j,none⟩)) rfl hv8) (hS.mCell 6 rfl hqg hgg (by omega)) ⟨_,_,rfl,isI,New.same _⟩⟩
     refine stepsCons rfl (fun Q f' w' ρ S ho hT hS hB => ?_) ?_
     ·obtain ⟨hv0,hr0⟩:=(hT 0 81 rfl rfl:(Is (.agg #[.int .u64 (((p:Nat):Int))])) _ _)
      obtain ⟨hv1,hr1⟩:=(hT 1 82 rfl rfl:(Is (.int .u32 (((cc:Nat):Int)))) _ _)
      obtain ⟨hv9,hr9⟩:=(hT 9 90 rfl rfl:(Is (.int .u32 (((nd xg j:Nat):Int)))) _ _)
      obtain hS:=hS.flat3 hr0 hr1 hr9
      exact .inl ⟨want_none rfl,ocall rfl rfl Tryd.call27 rfl (whmul (a:=cc) (b:=(nd xg j)) hp0 hp2 (by omega) (by omega)) (args3 (ev rfl hv0) (ev rfl hv1) (ev rfl hv9)) callN⟩
     exact stepsNil
    ·
     intro vs ρ w16 f' hf hT hS
     obtain ⟨hv0,hr0⟩:=(hT 0 (by decide):(Is (.agg #[.int .u64 (((p:Nat):Int))])) _ _)
     obtain ⟨hv1,hr1⟩:=(hT 1 (by decide):(Is (.int .u32 (((cc:Nat):Int)))) _ _)
     obtain ⟨hv2,hr2⟩:=(hT 2 (by decide):(Is (.slice pH nm cH)) _ _)
     obtain ⟨hv3,hr3⟩:=(hT 3 (by decide):(Is (.int .i64 (((j:Nat):Int)))) _ _)
     obtain ⟨hv4,hr4⟩:=(hT 4 (by decide):(Is (.int .i64 (((j + 1:Nat):Int)))) _ _)
     obtain ⟨hv5,hr5⟩:=(hT 5 (by decide):(Is (.pointer (some ⟨gH,(0 + (j + 1) * 1),none⟩))) _ _)
     obtain ⟨hv6,hr6⟩:=(hT 6 (by decide):(Is (.slice pg nm cg)) _ _)
     obtain ⟨hv7,hr7⟩:=(hT 7 (by decide):(Is (.int .i64 (((j:Nat):Int)))) _ _)
     obtain ⟨hv8,hr8⟩:=(hT 8 (by decide):(Is (.pointer (some ⟨gg,j,none⟩))) _ _)
     obtain ⟨hv9,hr9⟩:=(hT 9 (by decide):(Is (.int .u32 (((nd xg j:Nat):Int)))) _ _)
     obtain ⟨hv10,hr10⟩:=(hT 10 (by decide):(Is (.int .u32 (((cc * (nd xg j) % p:Nat):Int)))) _ _)
     simp only [pool,if_true,hr0,hr1,hr2,hr3,hr4,hr5,hr6,hr7,hr8,hr9,hr10,List.nil_append,List.cons_append,List.append_nil] at hS
     simp only [layf,hv0,hv1,hv2,hv3,hv4,hv5,hv6,hv7,hv8,hv9,hv10] at hf
     subst hf; clear hT hv0 hv1 hv2 hv3 hv4 hv5 hv6 hv7 hv8 hv9 hv10 hr0 hr1 hr2 hr3 hr4 hr5 hr6 hr7 hr8 hr9 hr10
     refine wlate 11 rfl (by kernel_rfl) (oassign (v:=.int .u32 (((cc * (nd xg j) % p:Nat):Int))) rfl rfl (ev rfl rfl) ?_)
     refine ⟨heldNil,?_⟩
     refine wdone rfl ?_
     refine thenN (wseq ?_)
     refine wstage 21 [93,94,95,96,97,98,99,100,101,102,103,104,105,106,107,108,92,109,110,17,18] [[],[],[0,1],[2,0,1],[],[],[],[],[6,7],[8,6,7],[],[9,10,6,7,8],[11,6,7,8,9,10],[4,5,12,6,7,8,9,10,11],[],[3,13,14,0,1,2,4,5,6,7,8,9,10,11,12],[15,0,1,2,3,4,5,6,7,8,9,10,11,12,13,14],[15,16,0,1,2,3,4,5,6,7,8,9,10,11,12,13,14],[15,16,0,1,2,3,4,5,6,7,8,9,10,11,12,13,14],[15,17,0,1,2,3,4,5,6,7,8,9,10,11,12,13,14,16],[18,0,1,2,3,4,5,6,7,8,9,10,11,12,13,14,15,16,17,19]] [[],[],[],[],[],[],[],[],[],[],[],[],[],[],[],[],[15],[15],[],[15],[]] [] [] (fun i9 => ([fun _ => Is (.slice pP ((k + 1)) cP),fun _ => Is (.int .i64 (j:Int)),fun _ => Is (.pointer (some ⟨gp11,(0 + j * 1),none⟩)),fun _ => Is (.slice pj xj.length cj),fun _ => Is (.agg #[.int .u64 (p:Int)]),fun _ => Is (.int .u32 (((cc * (nd xg j) % p:Nat):Int))),fun _ => Is (.slice pH nm cH),fun _ => Is (.int .i64 (j:Int)),fun _ => Is (.pointer (some ⟨gH,(0 + j * 1),none⟩)),fun _ => Is (.slice pi nm ci),fun _ => Is (.int .i64 (k:Int)),fun _ => Is (.pointer (some ⟨gi,k,none⟩)),fun _ => Is (.int .u32 (((nd xi k:Nat):Int))),fun _ => Is (.int .u32 ((((cc * (nd xg j) % p) * (nd xi k) % p:Nat):Int))),fun _ => Is (.int .u32 (p:Int)),fun _ => PEt (scaleP p xj ((cc * (nd xg j) % p) * (nd xi k) % p)) 0,fun us => Is (.tuple #[(vat (us.getD 0 undef) [0]),.int .i64 0]),fun us => Is ((vat (us.getD 0 undef) [0])),fun _ => Is (.int .i64 0),fun us => Is ((vat (us.getD 0 undef) [0])),fun _ => Is (.int .i64 0)]:List (List Value → Tell)).getD i9 (fun _ _ _ => False)) (heldNil) (fun d _ _ _ _ h => (by cases d <;> exact h)) (by kernel_rfl) (by kernel_rfl) (by kernel_rfl) hS ?_ ?_
     ·
      refine stepsCons rfl (fun Q f' w' ρ S ho hT hS hB => ?_) ?_
      ·exact .inl ⟨want_none rfl,omove (v:=.slice pP ((k + 1)) cP) rfl rfl (ev rfl (ho 9 rfl)) ⟨_,_,rfl,isI,New.same _⟩⟩
      refine stepsCons rfl (fun Q f' w' ρ S ho hT hS hB => ?_) ?_
      ·exact .inl ⟨want_none rfl,omove (v:=.int .i64 (j:Int)) rfl rfl (ev rfl (ho 16 rfl)) ⟨_,_,rfl,isI,New.same _⟩⟩
      refine stepsCons rfl (fun Q f' w' ρ S ho hT hS hB => ?_) ?_
      ·obtain ⟨hv0,hr0⟩:=(hT 0 93 rfl rfl:(Is (.slice pP ((k + 1)) cP)) _ _)
       obtain ⟨hv1,hr1⟩:=(hT 1 94 rfl rfl:(Is (.int .i64 (((j:Nat):Int)))) _ _)
       obtain hS:=hS.flat2 hr0 hr1
       exact .inl ⟨want_none rfl,oindex (p:=pP) (g:=gp11) (off:=0) (m:=(k + 1)) (k:=j) (j:=(0 + j * 1)) rfl rfl Tryd.runUnderlying62 Tryd.sizeOf30 (ev rfl hv0) (hgp11) (ev rfl hv1) (by omega) rfl ⟨_,_,rfl,isI,New.same _⟩⟩
      refine stepsCons rfl (fun Q f' w' ρ S ho hT hS hB => ?_) ?_
      ·obtain ⟨hv2,hr2⟩:=(hT 2 95 rfl rfl:(Is (.pointer (some ⟨gp11,(0 + j * 1),none⟩))) _ _)
       obtain hS:=hS.flat1 hr2
       exact .inl ⟨want_none rfl,oloadc (v:=.slice pj xj.length cj) (show One Tryd.prog 30 from ⟨Tryd.isAgg30,Tryd.sizeOf30⟩) rfl rfl (ev (v:=.pointer (some ⟨gp11,(0 + j * 1),none⟩)) rfl hv2) (hS.lstAt 3 rfl hgp11 j 0 (ppE_get hqj) rfl (by decide) (by omega)) ⟨_,_,rfl,isI,New.same _⟩⟩
      refine stepsCons rfl (fun Q f' w' ρ S ho hT hS hB => ?_) ?_
      ·exact .inl ⟨want_none rfl,oload (vs:=[.int .u64 (p:Int)]) (show Agg Tryd.prog 57 1 from ⟨Tryd.isAgg57,Tryd.sizeOf57⟩) hS 4 rfl rfl (ev rfl (ho 8 rfl)) rfl rfl rfl ⟨_,_,rfl,isI,New.same _⟩⟩
      refine stepsCons rfl (fun Q f' w' ρ S ho hT hS hB => ?_) ?_
      ·exact .inl ⟨want_none rfl,omove (v:=.int .u32 (((cc * (nd xg j) % p:Nat):Int))) rfl rfl (ev rfl (ho 15 rfl)) ⟨_,_,rfl,isI,New.same _⟩⟩
      refine stepsCons rfl (fun Q f' w' ρ S ho hT hS hB => ?_) ?_
      ·exact .inl ⟨want_none rfl,omove (v:=.slice pH nm cH) rfl rfl (ev rfl (ho 7 rfl)) ⟨_,_,rfl,isI,New.same _⟩⟩
      refine stepsCons rfl (fun Q f' w' ρ S ho hT hS hB => ?_) ?_
      ·exact .inl ⟨want_none rfl,omove (v:=.int .i64 (j:Int)) rfl rfl (ev rfl (ho 16 rfl)) ⟨_,_,rfl,isI,New.same _⟩⟩
      refine stepsCons rfl (fun Q f' w' ρ S ho hT hS hB => ?_) ?_
      ·obtain ⟨hv6,hr6⟩:=(hT 6 99 rfl rfl:(Is (.slice pH nm cH)) _ _)
       obtain ⟨hv7,hr7⟩:=(hT 7 100 rfl rfl:(Is (.int .i64 (((j:Nat):Int)))) _ _)
       obtain hS:=hS.flat2 hr6 hr7
       exact .inl ⟨want_none rfl,oindex (p:=pH) (g:=gH) (off:=0) (m:=nm) (k:=j) (j:=(0 + j * 1)) rfl rfl Tryd.runUnderlying23 Tryd.sizeOf29 (ev rfl hv6) (hgH) (ev rfl hv7) (by omega) rfl ⟨_,_,rfl,isI,New.same _⟩⟩
      refine stepsCons rfl (fun Q f' w' ρ S ho hT hS hB => ?_) ?_
      ·obtain ⟨hv8,hr8⟩:=(hT 8 101 rfl rfl:(Is (.pointer (some ⟨gH,(0 + j * 1),none⟩))) _ _)
       obtain hS:=hS.flat1 hr8
       exact .inl ⟨want_none rfl,oloadc (v:=.slice pi nm ci) (show One Tryd.prog 29 from ⟨Tryd.isAgg29,Tryd.sizeOf29⟩) rfl rfl (ev (v:=.pointer (some ⟨gH,(0 + j * 1),none⟩)) rfl hv8) (hS.mRow 6 rfl hqi hni hgH) ⟨_,_,rfl,isI,New.same _⟩⟩
      refine stepsCons rfl (fun Q f' w' ρ S ho hT hS hB => ?_) ?_
      ·exact .inl ⟨want_none rfl,omove (v:=.int .i64 (k:Int)) rfl rfl (ev rfl (ho 10 rfl)) ⟨_,_,rfl,isI,New.same _⟩⟩
      refine stepsCons rfl (fun Q f' w' ρ S ho hT hS hB => ?_) ?_
      ·obtain ⟨hv9,hr9⟩:=(hT 9 102 rfl rfl:(Is (.slice pi nm ci)) _ _)
       obtain ⟨hv10,hr10⟩:=(hT 10 103 rfl rfl:(Is (.int .i64 (((k:Nat):Int)))) _ _)
       obtain hS:=hS.flat2 hr9 hr10
       exact .inl ⟨want_none rfl,oindex (p:=pi) (g:=gi) (off:=0) (m:=nm) (k:=k) (j:=k) rfl rfl Tryd.runUnderlying29 Tryd.sizeOf24 (ev rfl hv9) (hgi) (ev rfl hv10) (by omega) (by simp) ⟨_,_,rfl,isI,New.same _⟩⟩
      refine stepsCons rfl (fun Q f' w' ρ S ho hT hS hB => ?_) ?_
      ·obtain ⟨hv11,hr11⟩:=(hT 11 104 rfl rfl:(Is (.pointer (some ⟨gi,k,none⟩))) _ _)
       obtain hS:=hS.flat1 hr11
       exact .inl ⟨want_none rfl,oloadc (v:=.int .u32 (((nd xi k:Nat):Int))) one32 rfl rfl (ev (v:=.pointer (some ⟨gi,k,none⟩)) rfl hv11) (hS.mCell 6 rfl hqi hgi (by omega)) ⟨_,_,rfl,isI,New.same _⟩⟩
      refine stepsCons rfl (fun Q f' w' ρ S ho hT hS hB => ?_) ?_
      ·obtain ⟨hv4,hr4⟩:=(hT 4 97 rfl rfl:(Is (.agg #[.int .u64 (((p:Nat):Int))])) _ _)
       obtain ⟨hv5,hr5⟩:=(hT 5 98 rfl rfl:(Is (.int .u32 (((cc * (nd xg j) % p:Nat):Int)))) _ _)
       obtain ⟨hv12,hr12⟩:=(hT 12 105 rfl rfl:(Is (.int .u32 (((nd xi k:Nat):Int)))) _ _)
       obtain hS:=hS.flat3 hr4 hr5 hr12
       exact .inl ⟨want_none rfl,ocall rfl rfl Tryd.call27 rfl (whmul (a:=(cc * (nd xg j) % p)) (b:=(nd xi k)) hp0 hp2 (by omega) (by omega)) (args3 (ev rfl hv4) (ev rfl hv5) (ev rfl hv12)) callN⟩
      refine stepsCons rfl (fun Q f' w' ρ S ho hT hS hB => ?_) ?_
      ·exact .inl ⟨want_none rfl,omove (v:=.int .u32 (p:Int)) rfl rfl (ev rfl (ho 1 rfl)) ⟨_,_,rfl,isI,New.same _⟩⟩
      refine stepsCons rfl (fun Q f' w' ρ S ho hT hS hB => ?_) ?_
      ·obtain ⟨hv3,hr3⟩:=(hT 3 96 rfl rfl:(Is (.slice pj xj.length cj)) _ _)
       obtain ⟨hv13,hr13⟩:=(hT 13 106 rfl rfl:(Is (.int .u32 ((((cc * (nd xg j) % p) * (nd xi k) % p:Nat):Int)))) _ _)
       obtain ⟨hv14,hr14⟩:=(hT 14 107 rfl rfl:(Is (.int .u32 (((p:Nat):Int)))) _ _)
       obtain hS:=hS.flat3 hr3 hr13 hr14
       exact .inl ⟨want_none rfl,ocall rfl rfl Tryd.call25 rfl (wyScale (ht.at hS) (hS.ppSl 3 rfl hqj) hp hp2 (by omega) (c:=((cc * (nd xg j) % p) * (nd xi k) % p)) (by omega)) (args3 (ev rfl hv3) (ev rfl hv13) (ev rfl hv14)) callN⟩
      refine stepsCons rfl (fun Q f' w' ρ S ho hT hS hB => ?_) ?_
      ·obtain ⟨pt1,ct1,hv15,hr15⟩:=(hT 15 108 rfl rfl:(PEt (scaleP p xj ((cc * (nd xg j) % p) * (nd xi k) % p)) 0) _ _)
       obtain hS:=hS.flat1 hr15
       have hQ:(.tuple #[.slice pt1 ((scaleP p xj ((cc * (nd xg j) % p) * (nd xi k) % p)).length) ct1,.int .i64 0]:Value) = (fun (us:List Value) => (.tuple #[(vat (us.getD 0 undef) [0]),.int .i64 0]:Value)) [f' 108]:=by show _ = (.tuple #[(vat (f' 108) [0]),.int .i64 0]:Value); rw [hv15]; rfl
       exact .inl ⟨want_none rfl,omove (v:=.tuple #[.slice pt1 ((scaleP p xj ((cc * (nd xg j) % p) * (nd xi k) % p)).length) ct1,.int .i64 0]) rfl rfl (ev rfl hv15) ⟨_,_,rfl,⟨hQ,rfl⟩,New.same _⟩⟩
      refine stepsCons rfl (fun Q f' w' ρ S ho hT hS hB => ?_) ?_
      ·obtain ⟨pt1,ct1,hv15,hr15⟩:=(hT 15 108 rfl rfl:(PEt (scaleP p xj ((cc * (nd xg j) % p) * (nd xi k) % p)) 0) _ _)
       obtain ⟨hv16,hr16⟩:=(hT 16 92 rfl rfl:(fun (us:List Value) => Is (.tuple #[(vat (us.getD 0 undef) [0]),.int .i64 0])) [f' 108] _ _)
       replace hv16:f' 92 = .tuple #[.slice pt1 ((scaleP p xj ((cc * (nd xg j) % p) * (nd xi k) % p)).length) ct1,.int .i64 0]:=hv16.trans (by show (.tuple #[(vat (f' 108) [0]),.int .i64 0]:Value) = _; rw [hv15]; rfl)
       obtain hS:=hS.flat2 hr15 hr16
       have hQ:(.slice pt1 ((scaleP p xj ((cc * (nd xg j) % p) * (nd xi k) % p)).length) ct1:Value) = (fun (us:List Value) => ((vat (us.getD 0 undef) [0]):Value)) [f' 108]:=by show _ = ((vat (f' 108) [0]):Value); rw [hv15]; rfl
       exact .inl ⟨want_none rfl,oextract (vs:=[.slice pt1 ((scaleP p xj ((cc * (nd xg j) % p) * (nd xi k) % p)).length) ct1,.int .i64 0]) (v:=.slice pt1 ((scaleP p xj ((cc * (nd xg j) % p) * (nd xi k) % p)).length) ct1) rfl rfl (ev rfl hv16) rfl ⟨_,_,rfl,⟨hQ,rfl⟩,New.same _⟩⟩
      refine stepsCons rfl (fun Q f' w' ρ S ho hT hS hB => ?_) ?_
      ·obtain ⟨pt1,ct1,hv15,hr15⟩:=(hT 15 108 rfl rfl:(PEt (scaleP p xj ((cc * (nd xg j) % p) * (nd xi k) % p)) 0) _ _)
       obtain ⟨hv16,hr16⟩:=(hT 16 92 rfl rfl:(fun (us:List Value) => Is (.tuple #[(vat (us.getD 0 undef) [0]),.int .i64 0])) [f' 108] _ _)
       replace hv16:f' 92 = .tuple #[.slice pt1 ((scaleP p xj ((cc * (nd xg j) % p) * (nd xi k) % p)).length) ct1,.int .i64 0]:=hv16.trans (by show (.tuple #[(vat (f' 108) [0]),.int .i64 0]:Value) = _; rw [hv15]; rfl)
       obtain hS:=hS.flat2 hr15 hr16
       exact .inl ⟨want_none rfl,oextract (vs:=[.slice pt1 ((scaleP p xj ((cc * (nd xg j) % p) * (nd xi k) % p)).length) ct1,.int .i64 0]) (v:=.int .i64 0) rfl rfl (ev rfl hv16) rfl ⟨_,_,rfl,isI,New.same _⟩⟩
      refine stepsCons rfl (fun Q f' w' ρ S ho hT hS hB => ?_) ?_
      ·obtain ⟨pt1,ct1,hv15,hr15⟩:=(hT 15 108 rfl rfl:(PEt (scaleP p xj ((cc * (nd xg j) % p) * (nd xi k) % p)) 0) _ _)
       obtain ⟨hv17,hr17⟩:=(hT 17 109 rfl rfl:(fun (us:List Value) => Is ((vat (us.getD 0 undef) [0]))) [f' 108] _ _)
       replace hv17:f' 109 = .slice pt1 ((scaleP p xj ((cc * (nd xg j) % p) * (nd xi k) % p)).length) ct1:=hv17.trans (by show ((vat (f' 108) [0]):Value) = _; rw [hv15]; rfl)
       obtain hS:=hS.flat2 hr15 hr17
       have hQ:(.slice pt1 ((scaleP p xj ((cc * (nd xg j) % p) * (nd xi k) % p)).length) ct1:Value) = (fun (us:List Value) => ((vat (us.getD 0 undef) [0]):Value)) [f' 108]:=by show _ = ((vat (f' 108) [0]):Value); rw [hv15]; rfl
       exact .inl ⟨want_none rfl,oassign (v:=.slice pt1 ((scaleP p xj ((cc * (nd xg j) % p) * (nd xi k) % p)).length) ct1) rfl rfl (ev rfl hv17) ⟨_,_,rfl,⟨hQ,rfl⟩,New.same _⟩⟩
      refine stepsCons rfl (fun Q f' w' ρ S ho hT hS hB => ?_) ?_
      ·obtain ⟨hv18,hr18⟩:=(hT 18 110 rfl rfl:(Is (.int .i64 0)) _ _)
       obtain hS:=hS.flat1 hr18
       exact .inl ⟨want_none rfl,oassign (v:=.int .i64 0) rfl rfl (ev rfl hv18) ⟨_,_,rfl,isI,New.same _⟩⟩
      exact stepsNil
     ·
      intro vs ρ w17 f' hf hT hS
      obtain ⟨hv0,hr0⟩:=(hT 0 (by decide):(Is (.slice pP ((k + 1)) cP)) _ _)
      obtain ⟨hv1,hr1⟩:=(hT 1 (by decide):(Is (.int .i64 (((j:Nat):Int)))) _ _)
      obtain ⟨hv2,hr2⟩:=(hT 2 (by decide):(Is (.pointer (some ⟨gp11,(0 + j * 1),none⟩))) _ _)
      obtain ⟨hv3,hr3⟩:=(hT 3 (by decide):(Is (.slice pj xj.length cj)) _ _)
      obtain ⟨hv4,hr4⟩:=(hT 4 (by decide):(Is (.agg #[.int .u64 (((p:Nat):Int))])) _ _)
      obtain ⟨hv5,hr5⟩:=(hT 5 (by decide):(Is (.int .u32 (((cc * (nd xg j) % p:Nat):Int)))) _ _)
      obtain ⟨hv6,hr6⟩:=(hT 6 (by decide):(Is (.slice pH nm cH)) _ _)
      obtain ⟨hv7,hr7⟩:=(hT 7 (by decide):(Is (.int .i64 (((j:Nat):Int)))) _ _)
      obtain ⟨hv8,hr8⟩:=(hT 8 (by decide):(Is (.pointer (some ⟨gH,(0 + j * 1),none⟩))) _ _)
      obtain ⟨hv9,hr9⟩:=(hT 9 (by decide):(Is (.slice pi nm ci)) _ _)
      obtain ⟨hv10,hr10⟩:=(hT 10 (by decide):(Is (.int .i64 (((k:Nat):Int)))) _ _)
      obtain ⟨hv11,hr11⟩:=(hT 11 (by decide):(Is (.pointer (some ⟨gi,k,none⟩))) _ _)
      obtain ⟨hv12,hr12⟩:=(hT 12 (by decide):(Is (.int .u32 (((nd xi k:Nat):Int)))) _ _)
      obtain ⟨hv13,hr13⟩:=(hT 13 (by decide):(Is (.int .u32 ((((cc * (nd xg j) % p) * (nd xi k) % p:Nat):Int)))) _ _)
      obtain ⟨hv14,hr14⟩:=(hT 14 (by decide):(Is (.int .u32 (((p:Nat):Int)))) _ _)
      obtain ⟨pt1,ct1,hv15,hr15⟩:=(hT 15 (by decide):(PEt (scaleP p xj ((cc * (nd xg j) % p) * (nd xi k) % p)) 0) _ _)
      obtain ⟨hv16,hr16⟩:=(hT 16 (by decide):(fun (us:List Value) => Is (.tuple #[(vat (us.getD 0 undef) [0]),.int .i64 0])) [vs 15] _ _)
      replace hv16:vs 16 = .tuple #[.slice pt1 ((scaleP p xj ((cc * (nd xg j) % p) * (nd xi k) % p)).length) ct1,.int .i64 0]:=hv16.trans (by show (.tuple #[(vat (vs 15) [0]),.int .i64 0]:Value) = _; rw [hv15]; rfl)
      obtain ⟨hv17,hr17⟩:=(hT 17 (by decide):(fun (us:List Value) => Is ((vat (us.getD 0 undef) [0]))) [vs 15] _ _)
      replace hv17:vs 17 = .slice pt1 ((scaleP p xj ((cc * (nd xg j) % p) * (nd xi k) % p)).length) ct1:=hv17.trans (by show ((vat (vs 15) [0]):Value) = _; rw [hv15]; rfl)
      obtain ⟨hv18,hr18⟩:=(hT 18 (by decide):(Is (.int .i64 0)) _ _)
      obtain ⟨hv19,hr19⟩:=(hT 19 (by decide):(fun (us:List Value) => Is ((vat (us.getD 0 undef) [0]))) [vs 15] _ _)
      replace hv19:vs 19 = .slice pt1 ((scaleP p xj ((cc * (nd xg j) % p) * (nd xi k) % p)).length) ct1:=hv19.trans (by show ((vat (vs 15) [0]):Value) = _; rw [hv15]; rfl)
      obtain ⟨hv20,hr20⟩:=(hT 20 (by decide):(Is (.int .i64 0)) _ _)
      simp only [pool,if_true,hr0,hr1,hr2,hr3,hr4,hr5,hr6,hr7,hr8,hr9,hr10,hr11,hr12,hr13,hr14,hr15,hr16,hr17,hr18,hr19,hr20,List.nil_append,List.cons_append,List.append_nil] at hS
      simp only [layf,hv0,hv1,hv2,hv3,hv4,hv5,hv6,hv7,hv8,hv9,hv10,hv11,hv12,hv13,hv14,hv15,hv16,hv17,hv18,hv19,hv20] at hf
      subst hf; clear hT hv0 hv1 hv2 hv3 hv4 hv5 hv6 hv7 hv8 hv9 hv10 hv11 hv12 hv13 hv14 hv15 hv16 hv17 hv18 hv19 hv20 hr0 hr1 hr2 hr3 hr4 hr5 hr6 hr7 hr8 hr9 hr10 hr11 hr12 hr13 hr14 hr15 hr16 hr17 hr18 hr19 hr20
      refine wdone rfl ?_
      refine thenN (wreg (wl rfl (omove (v:=.slice pq qx.length cq) rfl rfl (ev rfl rfl) ?_)))
      refine wl rfl (omove (v:=.slice pt1 ((scaleP p xj ((cc * (nd xg j) % p) * (nd xi k) % p)).length) ct1) rfl rfl (ev rfl rfl) ?_)
      refine wl rfl (omove (v:=.int .u32 (p:Int)) rfl rfl (ev rfl rfl) ?_)
      refine wl rfl (ocall rfl rfl Tryd.call26 rfl (wySub (ht.at hS) (hS.slo 1 rfl) (hS.slo 0 rfl) hp hp2 (by omega) (by omega)) (args3 (ev rfl rfl) (ev rfl rfl) (ev rfl rfl)) ?_)
      rintro _ w18 ⟨_,_,rfl,⟨pq2,cq2,rfl,rfl⟩,hN⟩
      refine ⟨_,rfl,?_⟩
      replace hS:=hS.news hN; clear hN
      refine wl rfl (omove (v:=.tuple #[.slice pq2 ((subP p qx (scaleP p xj ((cc * (nd xg j) % p) * (nd xi k) % p))).length) cq2,.int .i64 0]) rfl rfl (ev rfl rfl) ?_)
      refine wl rfl (oextract (vs:=[.slice pq2 ((subP p qx (scaleP p xj ((cc * (nd xg j) % p) * (nd xi k) % p))).length) cq2,.int .i64 0]) (v:=.slice pq2 ((subP p qx (scaleP p xj ((cc * (nd xg j) % p) * (nd xi k) % p))).length) cq2) rfl rfl (ev rfl rfl) rfl ?_)
      refine wl rfl (oextract (vs:=[.slice pq2 ((subP p qx (scaleP p xj ((cc * (nd xg j) % p) * (nd xi k) % p))).length) cq2,.int .i64 0]) (v:=.int .i64 0) rfl rfl (ev rfl rfl) rfl ?_)
      refine wl rfl (oassign (v:=.slice pq2 ((subP p qx (scaleP p xj ((cc * (nd xg j) % p) * (nd xi k) % p))).length) cq2) rfl rfl (ev rfl rfl) ?_)
      refine wnil (blkN (thenN (wreg (wl rfl (omove (v:=.int .i64 (j:Int)) rfl rfl (ev rfl rfl) ?_)))))
      refine wl rfl (obin (u:=.int .i64 (j:Int)) (v:=.int .i64 1) (z:=.int .i64 (((j:Int) - 1))) rfl rfl (ev rfl rfl) evc (bin_sub (wrap_i64 (by omega) (by omega))) ?_)
      refine wl rfl (oassign (v:=.int .i64 (((j:Int) - 1))) rfl rfl (ev rfl rfl) ?_)
      refine wnil (thenN ?_)
      exact ⟨(d + 1),⟨_,_,_,_,_,_,act_sets (l:=[(1,.int .u32 (p:Int)),(4,.slice none 0 0),(5,.int .i64 0),(7,.slice pH nm cH),(8,.pointer (some ⟨g3,0,none⟩)),(9,.slice pP ((k + 1)) cP),(10,.int .i64 (k:Int)),(11,.slice pq2 ((subP p qx (scaleP p xj ((cc * (nd xg j) % p) * (nd xi k) % p))).length) cq2),(15,.int .u32 (((cc * (nd xg j) % p:Nat):Int))),(16,.int .i64 (((j:Int) - 1))),(39,.int .i64 (nm:Int)),(40,.int .i64 (k:Int))]) ⟨rfl,rfl,rfl,rfl,rfl,rfl,rfl,rfl,rfl,rfl,rfl,rfl,trivial⟩,hS.pick [0,3,4,5,6,7,8,9,10] (by decide) rfl,by omega,by omega,by rw [inP]; simp only; rw [hj, ← hcc, ← hQH2,hdg],by rw [inP]; simp only; rw [hj, ← hqx, ← hcc, ← hQH2,hdg,hdi, ← hPQ2,hdj]⟩,by omega⟩
   ·
    refine wl rfl (obin (u:=.int .i64 jj) (v:=.int .i64 0) (z:=.bool false) rfl rfl (ev rfl rfl) evc (bin_geq (decide_eq_false (by omega))) ?_)
    refine wnil (thenN ?_)
    refine wF (ev rfl rfl) ?_
    refine wexit ?_
    refine thenE ?_
    refine thenE ?_
    refine blkE ?_
    refine thenN (wreg (wl rfl (omove (v:=.slice pP ((k + 1)) cP) rfl rfl (ev rfl rfl) ?_)))
    refine wl rfl (omove (v:=.slice pq qx.length cq) rfl rfl (ev rfl rfl) ?_)
    refine wl rfl (obslice (ps:=#[(0,.slice pq qx.length cq)]) (z:=.slice none 0 0) [.slice pq qx.length cq] hS rfl rfl Tryd.runUnderlying62 Tryd.sizeOf30 Tryd.zeroValue30 (parts1 (ev (v:=.slice pq qx.length cq) rfl rfl)) rfl (by decide) (fill1_1s rfl rfl) ?_)
    clear hS; intro g16 w17 hS
    have hde:d = k:=by omega
    obtain hS:=(show Sep w [.rdo pq qx.length cq qx,.lst 30 1 pP ((k + 1)) cP (ppE PQ),.blk g16 [.slice pq qx.length cq] 30,.rdo pt0 ((scaleP p xk (nd xh k)).length) ct0 (scaleP p xk (nd xh k)),.rdo pq0 ((shiftP p xk).length) cq0 (shiftP p xk),.blk g3 [.int .u64 (((p:Nat):Int))] 57,.blk gw [.int .u64 (((p:Nat):Int)),.slice pH nm cH,.slice pS nm cS,.slice pR nm cR] 59,.lst 29 1 pH nm cH (mmE QH),.lst 29 1 pS nm cS (mmE QS),.lst 29 1 pR nm cR (mmE QR)] w17 from hS.pick [1,4,0,2,3,5,6,7,8,9] (by decide) rfl)
    refine wl rfl (oappendL (p:=pP) (m:=(k + 1)) (c:=cP) (g2:=g16) (c2:=1) (off:=0) [.slice pq qx.length cq] [.rdo pq qx.length cq qx] hS rfl rfl Tryd.underlying62 infoModPoly rfl (by decide) (ev (v:=.slice pP ((k + 1)) cP) rfl rfl) (ev (v:=.slice (some ⟨g16,0,none⟩) 1 1) rfl rfl) (fun j v hj => by rw [Nat.zero_add]; exact (blk_cell (hS.blkAt 2 rfl) j).trans hj) rfl rfl rfl (by omega) (by omega) ?_)
    clear hS; intro p19 c20 w18 hS
    refine wl rfl (oassign (v:=.slice p19 (((k + 1) + 1)) c20) rfl rfl (ev rfl rfl) ?_)
    refine wnil (blkN (thenN (wreg (wl rfl (obin (u:=.int .i64 (k:Int)) (v:=.int .i64 1) (z:=.int .i64 (((k + 1:Nat):Int))) rfl rfl (ev rfl rfl) evc (bin_add (wrap_i64 (by omega) (by omega))) ?_)))))
    refine wl rfl (omove (v:=.int .i64 (((k + 1:Nat):Int))) rfl rfl (ev rfl rfl) ?_)
    refine wnil (thenN ?_)
    rw [pp_snoc (xs:=qx) rfl] at hS
    exact ⟨(k + 1),⟨_,_,_,_,act_sets (l:=[(1,.int .u32 (p:Int)),(4,.slice none 0 0),(5,.int .i64 0),(7,.slice pH nm cH),(8,.pointer (some ⟨g3,0,none⟩)),(9,.slice p19 (((k + 1) + 1)) c20),(39,.int .i64 (nm:Int)),(40,.int .i64 (((k + 1:Nat):Int)))]) ⟨rfl,rfl,rfl,rfl,rfl,rfl,rfl,rfl,trivial⟩,hS.pick [0,4,5,6,7,8] (by decide) rfl,by omega,by rw [nums_app,hPQ,polysL,hPP,hqx,hde]⟩,by omega⟩
 ·
  refine wl rfl (obin (u:=.int .i64 (k:Int)) (v:=.int .i64 (nm:Int)) (z:=.bool false) rfl rfl (ev rfl rfl) (ev rfl rfl) (bin_lss (decide_eq_false (by omega))) ?_)
  refine wnil (thenN (wseq ?_))
  refine wF (ev rfl rfl) ?_
  refine wexit ?_
  refine thenE ?_
  refine thenE ?_
  refine blkE ?_
  refine thenN (wseq (wreg (wl rfl (omove (v:=.slice pP ((k + 1)) cP) rfl rfl (ev rfl rfl) ?_))))
  refine wl rfl (omove (v:=.slice pH nm cH) rfl rfl (ev rfl rfl) ?_)
  refine wl rfl (olen rfl rfl rfl Tryd.runUnderlying23 (p:=pH) (k:=nm) (m:=cH) (ev rfl rfl) ?_)
  have hkn:k = nm:=by omega
  have hPl:PQ.length = nm + 1:=by rw [nums_lenQ hPQ,hkn]; exact polysL_len ..
  obtain ⟨gp11,hgp11⟩:=hS.lstPtr 0 rfl (by omega)
  obtain ⟨⟨pz,cz,xz⟩,hqz⟩:∃ q,(PQ)[nm]? = some q:=⟨_,List.getElem?_eq_getElem (by omega)⟩
  have hdz:(nums (PQ)).getD nm [] = xz:=getD_get (nums_get hqz)
  have hbz:xz.length ≤ 1000:=by have h9:((nums PQ).getD nm []).length ≤ nm + 1:=(by rw [hPQ,hkn]; exact polysL_lens nm (Nat.le_refl _)); rw [hdz] at h9; omega
  refine wl rfl (oindex (p:=pP) (g:=gp11) (off:=0) (m:=(k + 1)) (k:=nm) (j:=(0 + nm * 1)) rfl rfl Tryd.runUnderlying62 Tryd.sizeOf30 (ev rfl rfl) (hgp11) (ev rfl rfl) (by omega) rfl ?_)
  refine wl rfl (oloadc (v:=.slice pz xz.length cz) (show One Tryd.prog 30 from ⟨Tryd.isAgg30,Tryd.sizeOf30⟩) rfl rfl (ev (v:=.pointer (some ⟨gp11,(0 + nm * 1),none⟩)) rfl rfl) (hS.lstAt 0 rfl hgp11 nm 0 (ppE_get hqz) rfl (by decide) (by omega)) ?_)
  refine wl rfl (oassign (v:=.slice pz xz.length cz) rfl rfl (ev rfl rfl) ?_)
  refine wl rfl (oassign (v:=.int .i64 0) rfl rfl evc ?_)
  refine wnil (thenN ?_)
  refine wleave ?_
  refine wret2 Tryd.results9 (tellT (v:=.slice pz xz.length cz) rfl rfl) (tellT (v:=.int .i64 0) rfl rfl) ?_
  have hre:xz = charL p M:=by rw [← hdz,hPQ,hkn]; unfold charL; rw [hml,hHH]
  subst hre
  obtain hS:=hS.takeEl (ppE_get hqz)
  exact ⟨_,_,rfl,⟨_,_,rfl,rfl⟩,hS.newR 0 rfl rfl⟩
end Go.Proofs.YtcfcdbeemhjhgaaDoor
