
/-
  The walk of similelaw21.HessOf.
-/
import Derived.Test.YtcfcdbeemhjhgaaDoorHO
import Derived.Test.YtcfcdbeemhjhgaaDoorZtOpen
import Derived.Test.YtcfcdbeemhjhgaaDoorLT
set_option linter.unusedVariables false
set_option linter.unusedSimpArgs false
set_option maxRecDepth 100000
set_option maxHeartbeats 16000000
namespace Go.Proofs.YtcfcdbeemhjhgaaDoor
open Go.RowKit
theorem hessOf_40 {pt:Option Addr} {nt ct p:Nat} {T:List (List Int)} {w:World} (ht:Tb w) (hT:TB w pt nt T 67108864) (hp2:p < 4294967296) (hb2:∀ L ∈ T,L.length ≤ 1048576) (hp:¬ MR.Pr p) :
  Calls Tryd.prog 6 #[.slice pt nt ct,.int .u32 ((p:Nat):Int)] w (Ret (Is (.bool true)) w):=by
 have hTl:=hT.1
 have hTb:=hT.2.1
 have hS:=Sep.init w
 refine went Tryd.func6 rfl (n:=118) rfl rfl ?_
 refine wseq (wreg (wl rfl (oassign (v:=.bool false) rfl rfl evc ?_)))
 refine wnil (thenN (wseq (wreg (wl rfl (omove (v:=.slice pt nt ct) rfl rfl (ev rfl rfl) ?_)))))
 refine wl rfl (omove (v:=.int .u32 (p:Int)) rfl rfl (ev rfl rfl) ?_)
 refine wl rfl (ocall rfl rfl Tryd.call19 rfl (whOf40 (ht.at hS) (hT.atH hS) hp2 hb2 hp) (args2 (ev rfl rfl) (ev rfl rfl)) ?_)
 rintro _ w1 ⟨_,_,rfl,⟨rfl,rfl⟩,hN⟩
 refine ⟨_,rfl,?_⟩
 replace hS:=hS.news hN; clear hN
 refine wl rfl (omove (v:=.tuple #[.slice none 0 0,.int .i64 40]) rfl rfl (ev rfl rfl) ?_)
 refine wl rfl (oextract (vs:=[.slice none 0 0,.int .i64 40]) (v:=.slice none 0 0) rfl rfl (ev rfl rfl) rfl ?_)
 refine wl rfl (oextract (vs:=[.slice none 0 0,.int .i64 40]) (v:=.int .i64 40) rfl rfl (ev rfl rfl) rfl ?_)
 refine wl rfl (oassign (v:=.slice none 0 0) rfl rfl (ev rfl rfl) ?_)
 refine wl rfl (oassign (v:=.int .i64 40) rfl rfl (ev rfl rfl) ?_)
 refine wnil (thenN (wseq (wreg (wl rfl (oassign (v:=.int .i64 0) rfl rfl evc ?_)))))
 refine wnil (thenN (wseq (wseq (wreg (wl rfl (omove (v:=.int .u32 (p:Int)) rfl rfl (ev rfl rfl) ?_))))))
 refine wl rfl (ocall rfl rfl Tryd.call20 rfl (wqprimeF hp2 (hp)) (args1 (ev rfl rfl)) ?_)
 rintro _ w2 ⟨_,_,rfl,⟨rfl,rfl⟩,hN⟩
 refine ⟨_,rfl,?_⟩
 replace hS:=hS.news hN; clear hN
 refine wl rfl (onot (b:=false) rfl rfl (ev rfl rfl) ?_)
 refine wnil (thenN ?_)
 refine wT (ev rfl rfl) ?_
 refine wreg (wl rfl (oassign (v:=.int .i64 40) rfl rfl evc ?_))
 refine wnil (thenN (wseq (wseq (wreg (wl rfl (omove (v:=.slice pt nt ct) rfl rfl (ev rfl rfl) ?_))))))
 refine wl rfl (olen rfl rfl rfl Tryd.runUnderlying45 (p:=pt) (k:=nt) (m:=ct) (ev rfl rfl) ?_)
 refine wl rfl (omove (v:=.int .i64 0) rfl rfl evc ?_)
 refine wnil (thenN (wblock ?_))
 refine wloop (σ := Nat) (fun i a9 w' => ∃ (fb:Nat → Value),a9 = act 118 (sets fb [(0,.slice pt nt ct),(1,.int .u32 (p:Int)),(4,.bool false),(5,.slice none 0 0),(6,.int .i64 40),(7,.int .i64 40),(23,.slice pt nt ct),(24,.int .i64 (nt:Int)),(25,.int .i64 (i:Int))]) ∧ Sep w [] w' ∧ (i ≤ nt)) (fun i => nt - i) (0) ⟨_,act_sets (l:=[(0,.slice pt nt ct),(1,.int .u32 (p:Int)),(4,.bool false),(5,.slice none 0 0),(6,.int .i64 40),(7,.int .i64 40),(23,.slice pt nt ct),(24,.int .i64 (nt:Int)),(25,.int .i64 0)]) ⟨rfl,rfl,rfl,rfl,rfl,rfl,rfl,rfl,rfl,trivial⟩,hS,Nat.zero_le _⟩ ?_
 clear hS; rintro i _ w3 ⟨fb,rfl,hS,hi⟩
 refine wseq (wreg ?_)
 by_cases hli:i < nt
 ·
  obtain ⟨xr,hxr⟩:∃ r,(T)[i]? = some r:=⟨_,List.getElem?_eq_getElem (by have:=hT.1; omega)⟩
  obtain ⟨br,ofr,pr,cr,hpr,hcr,hsr⟩:=hT.2.2 i _ hxr
  refine wl rfl (obin (u:=.int .i64 (i:Int)) (v:=.int .i64 (nt:Int)) (z:=.bool true) rfl rfl (ev rfl rfl) (ev rfl rfl) (bin_lss (decide_eq_true (by omega))) ?_)
  refine wnil (thenN (wseq ?_))
  refine wT (ev rfl rfl) ?_
  refine wskip (thenN (wseq (wblock (wseq (wreg (wl rfl (oindex (p:=pt) (g:=br) (off:=ofr) (m:=nt) (k:=i) (j:=(ofr + i * 1)) rfl rfl Tryd.runUnderlying45 Tryd.sizeOf49 (ev rfl rfl) (hpr) (ev rfl rfl) (by omega) rfl ?_)))))))
  refine wl rfl (oloadc (v:=.slice pr xr.length cr) (show One Tryd.prog 49 from ⟨Tryd.isAgg49,Tryd.sizeOf49⟩) rfl rfl (ev (v:=.pointer (some ⟨br,(ofr + i * 1),none⟩)) rfl rfl) (hS.cellAt (hcr 0 _ rfl)) ?_)
  refine wl rfl (oassign (v:=.slice pr xr.length cr) rfl rfl (ev rfl rfl) ?_)
  refine wnil (thenN (wseq (wreg (wl rfl (omove (v:=.int .i64 40) rfl rfl (ev rfl rfl) ?_)))))
  refine wl rfl (obin (u:=.int .i64 40) (v:=.int .i64 0) (z:=.bool false) rfl rfl (ev rfl rfl) evc (bin_eql (by decide)) ?_)
  refine wl rfl (omove (v:=.bool false) rfl rfl (ev rfl rfl) ?_)
  refine wlOff (e:=31) (d:=32) (b':=false) rfl rfl rfl rfl rfl rfl ?_
  refine wlOff (e:=31) (d:=33) (b':=false) rfl rfl rfl rfl rfl rfl ?_
  refine wlOff (e:=31) (d:=34) (b':=false) rfl rfl rfl rfl rfl rfl ?_
  refine wlOff (e:=31) (d:=35) (b':=false) rfl rfl rfl rfl rfl rfl ?_
  refine wlOff (e:=31) (d:=36) (b':=false) rfl rfl rfl rfl rfl rfl ?_
  refine wlOff (e:=31) (d:=37) (b':=false) rfl rfl rfl rfl rfl rfl ?_
  refine wlOff (e:=31) (d:=38) (b':=false) rfl rfl rfl rfl rfl rfl ?_
  refine wl rfl (opick (b:=false) (v:=.bool false) rfl rfl (ev rfl rfl) evc ?_)
  refine wnil (thenN ?_)
  refine wF (ev rfl rfl) ?_
  refine wskip (blkN (thenN (wreg (wl rfl (obin (u:=.int .i64 (i:Int)) (v:=.int .i64 1) (z:=.int .i64 (((i + 1:Nat):Int))) rfl rfl (ev rfl rfl) evc (bin_add (wrap_i64 (by omega) (by omega))) ?_)))))
  refine wl rfl (omove (v:=.int .i64 (((i + 1:Nat):Int))) rfl rfl (ev rfl rfl) ?_)
  refine wnil (thenN ?_)
  exact ⟨(i + 1),⟨_,act_sets (l:=[(0,.slice pt nt ct),(1,.int .u32 (p:Int)),(4,.bool false),(5,.slice none 0 0),(6,.int .i64 40),(7,.int .i64 40),(23,.slice pt nt ct),(24,.int .i64 (nt:Int)),(25,.int .i64 (((i + 1:Nat):Int)))]) ⟨rfl,rfl,rfl,rfl,rfl,rfl,rfl,rfl,rfl,trivial⟩,hS.pick [] (by decide) rfl,by omega⟩,by omega⟩
 ·
  refine wl rfl (obin (u:=.int .i64 (i:Int)) (v:=.int .i64 (nt:Int)) (z:=.bool false) rfl rfl (ev rfl rfl) (ev rfl rfl) (bin_lss (decide_eq_false (by omega))) ?_)
  refine wnil (thenN (wseq ?_))
  refine wF (ev rfl rfl) ?_
  refine wexit ?_
  refine thenE ?_
  refine thenE ?_
  refine blkE ?_
  refine thenN (wseq (wseq (wreg (wl rfl (omove (v:=.int .i64 40) rfl rfl (ev rfl rfl) ?_)))))
  refine wl rfl (obin (u:=.int .i64 40) (v:=.int .i64 0) (z:=.bool false) rfl rfl (ev rfl rfl) evc (bin_eql (by decide)) ?_)
  refine wl rfl (omove (v:=.bool false) rfl rfl (ev rfl rfl) ?_)
  refine wlOff (e:=43) (d:=44) (b':=false) rfl rfl rfl rfl rfl rfl ?_
  refine wlOff (e:=43) (d:=45) (b':=false) rfl rfl rfl rfl rfl rfl ?_
  refine wlOff (e:=43) (d:=46) (b':=false) rfl rfl rfl rfl rfl rfl ?_
  refine wl rfl (opick (b:=false) (v:=.bool false) rfl rfl (ev rfl rfl) evc ?_)
  refine wl rfl (omove (v:=.bool false) rfl rfl (ev rfl rfl) ?_)
  refine wlOff (e:=48) (d:=49) (b':=false) rfl rfl rfl rfl rfl rfl ?_
  refine wlOff (e:=48) (d:=50) (b':=false) rfl rfl rfl rfl rfl rfl ?_
  refine wlOff (e:=48) (d:=51) (b':=false) rfl rfl rfl rfl rfl rfl ?_
  refine wlOff (e:=48) (d:=52) (b':=false) rfl rfl rfl rfl rfl rfl ?_
  refine wlUndef (e:=52) (d:=53) rfl rfl rfl rfl rfl ?_
  refine wlUndef (e:=52) (d:=54) rfl rfl rfl rfl rfl ?_
  refine wlUndef (e:=52) (d:=55) rfl rfl rfl rfl rfl ?_
  refine wlUndef (e:=52) (d:=56) rfl rfl rfl rfl rfl ?_
  refine wlUndef (e:=52) (d:=57) rfl rfl rfl rfl rfl ?_
  refine wlOff (e:=48) (d:=58) (b':=false) rfl rfl rfl rfl rfl rfl ?_
  refine wl rfl (opick (b:=false) (v:=.bool false) rfl rfl (ev rfl rfl) evc ?_)
  refine wnil (thenN ?_)
  refine wF (ev rfl rfl) ?_
  refine wskip (thenN (wseq (wseq (wreg (wl rfl (omove (v:=.int .i64 40) rfl rfl (ev rfl rfl) ?_))))))
  refine wl rfl (obin (u:=.int .i64 40) (v:=.int .i64 0) (z:=.bool true) rfl rfl (ev rfl rfl) evc (bin_neq (by decide)) ?_)
  refine wnil (thenN ?_)
  refine wT (ev rfl rfl) ?_
  refine wseq (wreg (wl rfl (omove (v:=.int .i64 40) rfl rfl (ev rfl rfl) ?_)))
  refine wl rfl (omove (v:=.int .i64 40) rfl rfl (ev rfl rfl) ?_)
  refine wl rfl (obin (u:=.int .i64 40) (v:=.int .i64 40) (z:=.bool true) rfl rfl (ev rfl rfl) (ev rfl rfl) (bin_eql (by decide)) ?_)
  refine wl rfl (omove (v:=.bool true) rfl rfl (ev rfl rfl) ?_)
  refine wlOn (e:=65) rfl rfl rfl rfl (omove (v:=.slice none 0 0) rfl rfl (ev rfl rfl) ?_)
  refine wlOn (e:=65) rfl rfl rfl rfl (olen rfl rfl rfl Tryd.runUnderlying23 (p:=none) (k:=0) (m:=0) (ev rfl rfl) ?_)
  refine wlOn (e:=65) rfl rfl rfl rfl (obin (u:=.int .i64 (((0:Nat):Int))) (v:=.int .i64 0) (z:=.bool true) rfl rfl (ev rfl rfl) evc (bin_eql (eqT rfl)) ?_)
  refine wl rfl (opick (b:=true) (v:=.bool true) rfl rfl (ev rfl rfl) (ev rfl rfl) ?_)
  refine wl rfl (omove (v:=.bool true) rfl rfl (ev rfl rfl) ?_)
  refine wlOn (e:=70) rfl rfl rfl rfl (ocall rfl rfl Tryd.call12 rfl (wllives (ht.at hS)) (args0 ) ?_)
  rintro _ w4 ⟨_,_,rfl,⟨rfl,rfl⟩,hN⟩
  refine ⟨_,rfl,?_⟩
  replace hS:=hS.news hN; clear hN
  refine wl rfl (opick (b:=true) (v:=.bool true) rfl rfl (ev rfl rfl) (ev rfl rfl) ?_)
  refine wl rfl (oassign (v:=.bool true) rfl rfl (ev rfl rfl) ?_)
  refine wnil (thenN ?_)
  refine wleave ?_
  refine thenR ?_
  refine wret1 Tryd.results6 (tellT (v:=.bool true) rfl rfl) ?_
  exact ⟨_,_,rfl,isI,hS.new0⟩
theorem hessOf_2 {pt:Option Addr} {nt ct p:Nat} {T:List (List Int)} {w:World} (ht:Tb w) (hT:TB w pt nt T 67108864) (hp2:p < 4294967296) (hb2:∀ L ∈ T,L.length ≤ 1048576) (hp:MR.Pr p) (hr:¬ RectT T) :
  Calls Tryd.prog 6 #[.slice pt nt ct,.int .u32 ((p:Nat):Int)] w (Ret (Is (.bool true)) w):=by
 have hTl:=hT.1
 have hTb:=hT.2.1
 have hS:=Sep.init w
 refine went Tryd.func6 rfl (n:=118) rfl rfl ?_
 refine wseq (wreg (wl rfl (oassign (v:=.bool false) rfl rfl evc ?_)))
 refine wnil (thenN (wseq (wreg (wl rfl (omove (v:=.slice pt nt ct) rfl rfl (ev rfl rfl) ?_)))))
 refine wl rfl (omove (v:=.int .u32 (p:Int)) rfl rfl (ev rfl rfl) ?_)
 refine wl rfl (ocall rfl rfl Tryd.call19 rfl (whOf2 (ht.at hS) (hT.atH hS) hp2 hb2 hp hr) (args2 (ev rfl rfl) (ev rfl rfl)) ?_)
 rintro _ w1 ⟨_,_,rfl,⟨rfl,rfl⟩,hN⟩
 refine ⟨_,rfl,?_⟩
 replace hS:=hS.news hN; clear hN
 refine wl rfl (omove (v:=.tuple #[.slice none 0 0,.int .i64 2]) rfl rfl (ev rfl rfl) ?_)
 refine wl rfl (oextract (vs:=[.slice none 0 0,.int .i64 2]) (v:=.slice none 0 0) rfl rfl (ev rfl rfl) rfl ?_)
 refine wl rfl (oextract (vs:=[.slice none 0 0,.int .i64 2]) (v:=.int .i64 2) rfl rfl (ev rfl rfl) rfl ?_)
 refine wl rfl (oassign (v:=.slice none 0 0) rfl rfl (ev rfl rfl) ?_)
 refine wl rfl (oassign (v:=.int .i64 2) rfl rfl (ev rfl rfl) ?_)
 refine wnil (thenN (wseq (wreg (wl rfl (oassign (v:=.int .i64 0) rfl rfl evc ?_)))))
 refine wnil (thenN (wseq (wseq (wreg (wl rfl (omove (v:=.int .u32 (p:Int)) rfl rfl (ev rfl rfl) ?_))))))
 refine wl rfl (ocall rfl rfl Tryd.call20 rfl (wqprimeT hp2 (hp)) (args1 (ev rfl rfl)) ?_)
 rintro _ w2 ⟨_,_,rfl,⟨rfl,rfl⟩,hN⟩
 refine ⟨_,rfl,?_⟩
 replace hS:=hS.news hN; clear hN
 refine wl rfl (onot (b:=true) rfl rfl (ev rfl rfl) ?_)
 refine wnil (thenN ?_)
 refine wF (ev rfl rfl) ?_
 refine wskip (thenN (wseq (wseq (wreg (wl rfl (omove (v:=.slice pt nt ct) rfl rfl (ev rfl rfl) ?_))))))
 refine wl rfl (olen rfl rfl rfl Tryd.runUnderlying45 (p:=pt) (k:=nt) (m:=ct) (ev rfl rfl) ?_)
 refine wl rfl (omove (v:=.int .i64 0) rfl rfl evc ?_)
 refine wnil (thenN (wblock ?_))
 refine wloop (σ := Nat) (fun i a9 w' => ∃ (fb:Nat → Value) (cv:Int),a9 = act 118 (sets fb [(0,.slice pt nt ct),(1,.int .u32 (p:Int)),(4,.bool false),(5,.slice none 0 0),(6,.int .i64 2),(7,.int .i64 cv),(23,.slice pt nt ct),(24,.int .i64 (nt:Int)),(25,.int .i64 (i:Int))]) ∧ Sep w [] w' ∧ (i ≤ nt) ∧ ((cv = 0 ∧ ∀ r ∈ T.take i,r.length = colsT T) ∨ cv = 2)) (fun i => nt - i) (0) ⟨_,0,act_sets (l:=[(0,.slice pt nt ct),(1,.int .u32 (p:Int)),(4,.bool false),(5,.slice none 0 0),(6,.int .i64 2),(7,.int .i64 0),(23,.slice pt nt ct),(24,.int .i64 (nt:Int)),(25,.int .i64 0)]) ⟨rfl,rfl,rfl,rfl,rfl,rfl,rfl,rfl,rfl,trivial⟩,hS,Nat.zero_le _,.inl ⟨rfl,by simp⟩⟩ ?_
 clear hS; rintro i _ w3 ⟨fb,cv,rfl,hS,hi,hcv⟩
 refine wseq (wreg ?_)
 by_cases hli:i < nt
 ·
  refine wl rfl (obin (u:=.int .i64 (i:Int)) (v:=.int .i64 (nt:Int)) (z:=.bool true) rfl rfl (ev rfl rfl) (ev rfl rfl) (bin_lss (decide_eq_true (by omega))) ?_)
  refine wnil (thenN (wseq ?_))
  refine wT (ev rfl rfl) ?_
  refine wskip (thenN (wseq (wblock (wseq (wreg ?_)))))
  obtain ⟨xr,hxr⟩:∃ r,(T)[i]? = some r:=⟨_,List.getElem?_eq_getElem (by have:=hT.1; omega)⟩
  obtain ⟨br,ofr,pr,cr,hpr,hcr,hsr⟩:=hT.2.2 i _ hxr
  obtain ⟨xz,hxz⟩:∃ r,(T)[0]? = some r:=⟨_,List.getElem?_eq_getElem (by have:=hT.1; omega)⟩
  obtain ⟨bz,ofz,pz,cz,hpz,hcz,hsz⟩:=hT.2.2 0 _ hxz
  have hcol:=colsT_zero hxz
  refine wl rfl (oindex (p:=pt) (g:=br) (off:=ofr) (m:=nt) (k:=i) (j:=(ofr + i * 1)) rfl rfl Tryd.runUnderlying45 Tryd.sizeOf49 (ev rfl rfl) (hpr) (ev rfl rfl) (by omega) rfl ?_)
  refine wl rfl (oloadc (v:=.slice pr xr.length cr) (show One Tryd.prog 49 from ⟨Tryd.isAgg49,Tryd.sizeOf49⟩) rfl rfl (ev (v:=.pointer (some ⟨br,(ofr + i * 1),none⟩)) rfl rfl) (hS.cellAt (hcr 0 _ rfl)) ?_)
  refine wl rfl (oassign (v:=.slice pr xr.length cr) rfl rfl (ev rfl rfl) ?_)
  refine wnil (thenN (wseq (wreg (wl rfl (omove (v:=.int .i64 cv) rfl rfl (ev rfl rfl) ?_)))))
  by_cases hc0:cv = 0
  ·
   have hrc:∀ r ∈ T.take i,r.length = colsT T:=by rcases hcv with h | h; exact h.2; omega
   obtain rfl:cv = 0:=by omega
   by_cases hrl:xr.length = colsT T
   ·
    refine wl rfl (obin (u:=.int .i64 0) (v:=.int .i64 0) (z:=.bool true) rfl rfl (ev rfl rfl) evc (bin_eql (by decide)) ?_)
    refine wl rfl (omove (v:=.bool true) rfl rfl (ev rfl rfl) ?_)
    refine wlOn (e:=31) rfl rfl rfl rfl (omove (v:=.slice pr xr.length cr) rfl rfl (ev rfl rfl) ?_)
    refine wlOn (e:=31) rfl rfl rfl rfl (olen rfl rfl rfl Tryd.runUnderlying49 (p:=pr) (k:=xr.length) (m:=cr) (ev rfl rfl) ?_)
    refine wlOn (e:=31) rfl rfl rfl rfl (omove (v:=.slice pt nt ct) rfl rfl (ev rfl rfl) ?_)
    refine wlOn (e:=31) rfl rfl rfl rfl (oindex (p:=pt) (g:=bz) (off:=ofz) (m:=nt) (k:=0) (j:=(ofz + 0 * 1)) rfl rfl Tryd.runUnderlying45 Tryd.sizeOf49 (ev rfl rfl) (hpz) evc (by omega) rfl ?_)
    refine wlOn (e:=31) rfl rfl rfl rfl (oloadc (v:=.slice pz xz.length cz) (show One Tryd.prog 49 from ⟨Tryd.isAgg49,Tryd.sizeOf49⟩) rfl rfl (ev (v:=.pointer (some ⟨bz,(ofz + 0 * 1),none⟩)) rfl rfl) (hS.cellAt (hcz 0 _ rfl)) ?_)
    refine wlOn (e:=31) rfl rfl rfl rfl (olen rfl rfl rfl Tryd.runUnderlying49 (p:=pz) (k:=xz.length) (m:=cz) (ev rfl rfl) ?_)
    refine wlOn (e:=31) rfl rfl rfl rfl (obin (u:=.int .i64 (xr.length:Int)) (v:=.int .i64 (xz.length:Int)) (z:=.bool false) rfl rfl (ev rfl rfl) (ev rfl rfl) (bin_neq (neF (by rw [← hcol]; omega))) ?_)
    refine wl rfl (opick (b:=true) (v:=.bool false) rfl rfl (ev rfl rfl) (ev rfl rfl) ?_)
    refine wnil (thenN ?_)
    refine wF (ev rfl rfl) ?_
    refine wskip (blkN (thenN (wreg (wl rfl (obin (u:=.int .i64 (i:Int)) (v:=.int .i64 1) (z:=.int .i64 (((i + 1:Nat):Int))) rfl rfl (ev rfl rfl) evc (bin_add (wrap_i64 (by omega) (by omega))) ?_)))))
    refine wl rfl (omove (v:=.int .i64 (((i + 1:Nat):Int))) rfl rfl (ev rfl rfl) ?_)
    refine wnil (thenN ?_)
    exact ⟨(i + 1),⟨_,_,act_sets (l:=[(0,.slice pt nt ct),(1,.int .u32 (p:Int)),(4,.bool false),(5,.slice none 0 0),(6,.int .i64 2),(7,.int .i64 0),(23,.slice pt nt ct),(24,.int .i64 (nt:Int)),(25,.int .i64 (((i + 1:Nat):Int)))]) ⟨rfl,rfl,rfl,rfl,rfl,rfl,rfl,rfl,rfl,trivial⟩,hS.pick [] (by decide) rfl,by omega,.inl ⟨rfl,by rw [take_next hxr]; intro u hu; exact (List.mem_append.1 hu).elim (hrc u) (fun h => by rw [List.mem_singleton.1 h]; exact hrl)⟩⟩,by omega⟩
   ·
    refine wl rfl (obin (u:=.int .i64 0) (v:=.int .i64 0) (z:=.bool true) rfl rfl (ev rfl rfl) evc (bin_eql (by decide)) ?_)
    refine wl rfl (omove (v:=.bool true) rfl rfl (ev rfl rfl) ?_)
    refine wlOn (e:=31) rfl rfl rfl rfl (omove (v:=.slice pr xr.length cr) rfl rfl (ev rfl rfl) ?_)
    refine wlOn (e:=31) rfl rfl rfl rfl (olen rfl rfl rfl Tryd.runUnderlying49 (p:=pr) (k:=xr.length) (m:=cr) (ev rfl rfl) ?_)
    refine wlOn (e:=31) rfl rfl rfl rfl (omove (v:=.slice pt nt ct) rfl rfl (ev rfl rfl) ?_)
    refine wlOn (e:=31) rfl rfl rfl rfl (oindex (p:=pt) (g:=bz) (off:=ofz) (m:=nt) (k:=0) (j:=(ofz + 0 * 1)) rfl rfl Tryd.runUnderlying45 Tryd.sizeOf49 (ev rfl rfl) (hpz) evc (by omega) rfl ?_)
    refine wlOn (e:=31) rfl rfl rfl rfl (oloadc (v:=.slice pz xz.length cz) (show One Tryd.prog 49 from ⟨Tryd.isAgg49,Tryd.sizeOf49⟩) rfl rfl (ev (v:=.pointer (some ⟨bz,(ofz + 0 * 1),none⟩)) rfl rfl) (hS.cellAt (hcz 0 _ rfl)) ?_)
    refine wlOn (e:=31) rfl rfl rfl rfl (olen rfl rfl rfl Tryd.runUnderlying49 (p:=pz) (k:=xz.length) (m:=cz) (ev rfl rfl) ?_)
    refine wlOn (e:=31) rfl rfl rfl rfl (obin (u:=.int .i64 (xr.length:Int)) (v:=.int .i64 (xz.length:Int)) (z:=.bool true) rfl rfl (ev rfl rfl) (ev rfl rfl) (bin_neq (neT (by rw [← hcol]; omega))) ?_)
    refine wl rfl (opick (b:=true) (v:=.bool true) rfl rfl (ev rfl rfl) (ev rfl rfl) ?_)
    refine wnil (thenN ?_)
    refine wT (ev rfl rfl) ?_
    refine wreg (wl rfl (oassign (v:=.int .i64 2) rfl rfl evc ?_))
    refine wnil (blkN (thenN (wreg (wl rfl (obin (u:=.int .i64 (i:Int)) (v:=.int .i64 1) (z:=.int .i64 (((i + 1:Nat):Int))) rfl rfl (ev rfl rfl) evc (bin_add (wrap_i64 (by omega) (by omega))) ?_)))))
    refine wl rfl (omove (v:=.int .i64 (((i + 1:Nat):Int))) rfl rfl (ev rfl rfl) ?_)
    refine wnil (thenN ?_)
    exact ⟨(i + 1),⟨_,_,act_sets (l:=[(0,.slice pt nt ct),(1,.int .u32 (p:Int)),(4,.bool false),(5,.slice none 0 0),(6,.int .i64 2),(7,.int .i64 2),(23,.slice pt nt ct),(24,.int .i64 (nt:Int)),(25,.int .i64 (((i + 1:Nat):Int)))]) ⟨rfl,rfl,rfl,rfl,rfl,rfl,rfl,rfl,rfl,trivial⟩,hS.pick [] (by decide) rfl,by omega,.inr rfl⟩,by omega⟩
  ·
   obtain rfl:cv = 2:=by omega
   refine wl rfl (obin (u:=.int .i64 2) (v:=.int .i64 0) (z:=.bool false) rfl rfl (ev rfl rfl) evc (bin_eql (by decide)) ?_)
   refine wl rfl (omove (v:=.bool false) rfl rfl (ev rfl rfl) ?_)
   refine wlOff (e:=31) (d:=32) (b':=false) rfl rfl rfl rfl rfl rfl ?_
   refine wlOff (e:=31) (d:=33) (b':=false) rfl rfl rfl rfl rfl rfl ?_
   refine wlOff (e:=31) (d:=34) (b':=false) rfl rfl rfl rfl rfl rfl ?_
   refine wlOff (e:=31) (d:=35) (b':=false) rfl rfl rfl rfl rfl rfl ?_
   refine wlOff (e:=31) (d:=36) (b':=false) rfl rfl rfl rfl rfl rfl ?_
   refine wlOff (e:=31) (d:=37) (b':=false) rfl rfl rfl rfl rfl rfl ?_
   refine wlOff (e:=31) (d:=38) (b':=false) rfl rfl rfl rfl rfl rfl ?_
   refine wl rfl (opick (b:=false) (v:=.bool false) rfl rfl (ev rfl rfl) evc ?_)
   refine wnil (thenN ?_)
   refine wF (ev rfl rfl) ?_
   refine wskip (blkN (thenN (wreg (wl rfl (obin (u:=.int .i64 (i:Int)) (v:=.int .i64 1) (z:=.int .i64 (((i + 1:Nat):Int))) rfl rfl (ev rfl rfl) evc (bin_add (wrap_i64 (by omega) (by omega))) ?_)))))
   refine wl rfl (omove (v:=.int .i64 (((i + 1:Nat):Int))) rfl rfl (ev rfl rfl) ?_)
   refine wnil (thenN ?_)
   exact ⟨(i + 1),⟨_,_,act_sets (l:=[(0,.slice pt nt ct),(1,.int .u32 (p:Int)),(4,.bool false),(5,.slice none 0 0),(6,.int .i64 2),(7,.int .i64 2),(23,.slice pt nt ct),(24,.int .i64 (nt:Int)),(25,.int .i64 (((i + 1:Nat):Int)))]) ⟨rfl,rfl,rfl,rfl,rfl,rfl,rfl,rfl,rfl,trivial⟩,hS.pick [] (by decide) rfl,by omega,.inr rfl⟩,by omega⟩
 ·
  refine wl rfl (obin (u:=.int .i64 (i:Int)) (v:=.int .i64 (nt:Int)) (z:=.bool false) rfl rfl (ev rfl rfl) (ev rfl rfl) (bin_lss (decide_eq_false (by omega))) ?_)
  refine wnil (thenN (wseq ?_))
  refine wF (ev rfl rfl) ?_
  refine wexit ?_
  refine thenE ?_
  refine thenE ?_
  refine blkE ?_
  refine thenN (wseq (wseq (wreg (wl rfl (omove (v:=.int .i64 cv) rfl rfl (ev rfl rfl) ?_)))))
  have hc2:cv = 2:=hcv.elim (fun h => absurd (fun r hr => h.2 r (by rw [List.take_of_length_le (by omega)]; exact hr)) hr) id
  obtain rfl:cv = 2:=by omega
  refine wl rfl (obin (u:=.int .i64 2) (v:=.int .i64 0) (z:=.bool false) rfl rfl (ev rfl rfl) evc (bin_eql (by decide)) ?_)
  refine wl rfl (omove (v:=.bool false) rfl rfl (ev rfl rfl) ?_)
  refine wlOff (e:=43) (d:=44) (b':=false) rfl rfl rfl rfl rfl rfl ?_
  refine wlOff (e:=43) (d:=45) (b':=false) rfl rfl rfl rfl rfl rfl ?_
  refine wlOff (e:=43) (d:=46) (b':=false) rfl rfl rfl rfl rfl rfl ?_
  refine wl rfl (opick (b:=false) (v:=.bool false) rfl rfl (ev rfl rfl) evc ?_)
  refine wl rfl (omove (v:=.bool false) rfl rfl (ev rfl rfl) ?_)
  refine wlOff (e:=48) (d:=49) (b':=false) rfl rfl rfl rfl rfl rfl ?_
  refine wlOff (e:=48) (d:=50) (b':=false) rfl rfl rfl rfl rfl rfl ?_
  refine wlOff (e:=48) (d:=51) (b':=false) rfl rfl rfl rfl rfl rfl ?_
  refine wlOff (e:=48) (d:=52) (b':=false) rfl rfl rfl rfl rfl rfl ?_
  refine wlUndef (e:=52) (d:=53) rfl rfl rfl rfl rfl ?_
  refine wlUndef (e:=52) (d:=54) rfl rfl rfl rfl rfl ?_
  refine wlUndef (e:=52) (d:=55) rfl rfl rfl rfl rfl ?_
  refine wlUndef (e:=52) (d:=56) rfl rfl rfl rfl rfl ?_
  refine wlUndef (e:=52) (d:=57) rfl rfl rfl rfl rfl ?_
  refine wlOff (e:=48) (d:=58) (b':=false) rfl rfl rfl rfl rfl rfl ?_
  refine wl rfl (opick (b:=false) (v:=.bool false) rfl rfl (ev rfl rfl) evc ?_)
  refine wnil (thenN ?_)
  refine wF (ev rfl rfl) ?_
  refine wskip (thenN (wseq (wseq (wreg (wl rfl (omove (v:=.int .i64 2) rfl rfl (ev rfl rfl) ?_))))))
  refine wl rfl (obin (u:=.int .i64 2) (v:=.int .i64 0) (z:=.bool true) rfl rfl (ev rfl rfl) evc (bin_neq (by decide)) ?_)
  refine wnil (thenN ?_)
  refine wT (ev rfl rfl) ?_
  refine wseq (wreg (wl rfl (omove (v:=.int .i64 2) rfl rfl (ev rfl rfl) ?_)))
  refine wl rfl (omove (v:=.int .i64 2) rfl rfl (ev rfl rfl) ?_)
  refine wl rfl (obin (u:=.int .i64 2) (v:=.int .i64 2) (z:=.bool true) rfl rfl (ev rfl rfl) (ev rfl rfl) (bin_eql (by decide)) ?_)
  refine wl rfl (omove (v:=.bool true) rfl rfl (ev rfl rfl) ?_)
  refine wlOn (e:=65) rfl rfl rfl rfl (omove (v:=.slice none 0 0) rfl rfl (ev rfl rfl) ?_)
  refine wlOn (e:=65) rfl rfl rfl rfl (olen rfl rfl rfl Tryd.runUnderlying23 (p:=none) (k:=0) (m:=0) (ev rfl rfl) ?_)
  refine wlOn (e:=65) rfl rfl rfl rfl (obin (u:=.int .i64 (((0:Nat):Int))) (v:=.int .i64 0) (z:=.bool true) rfl rfl (ev rfl rfl) evc (bin_eql (eqT rfl)) ?_)
  refine wl rfl (opick (b:=true) (v:=.bool true) rfl rfl (ev rfl rfl) (ev rfl rfl) ?_)
  refine wl rfl (omove (v:=.bool true) rfl rfl (ev rfl rfl) ?_)
  refine wlOn (e:=70) rfl rfl rfl rfl (ocall rfl rfl Tryd.call12 rfl (wllives (ht.at hS)) (args0 ) ?_)
  rintro _ w4 ⟨_,_,rfl,⟨rfl,rfl⟩,hN⟩
  refine ⟨_,rfl,?_⟩
  replace hS:=hS.news hN; clear hN
  refine wl rfl (opick (b:=true) (v:=.bool true) rfl rfl (ev rfl rfl) (ev rfl rfl) ?_)
  refine wl rfl (oassign (v:=.bool true) rfl rfl (ev rfl rfl) ?_)
  refine wnil (thenN ?_)
  refine wleave ?_
  refine thenR ?_
  refine wret1 Tryd.results6 (tellT (v:=.bool true) rfl rfl) ?_
  exact ⟨_,_,rfl,isI,hS.new0⟩
theorem hessOf_4a {pt:Option Addr} {nt ct p:Nat} {T:List (List Int)} {w:World} (ht:Tb w) (hT:TB w pt nt T 67108864) (hp2:p < 4294967296) (hb2:∀ L ∈ T,L.length ≤ 1048576) (hp:MR.Pr p) (hr:RectT T) (hbig:24 < T.length) :
  Calls Tryd.prog 6 #[.slice pt nt ct,.int .u32 ((p:Nat):Int)] w (Ret (Is (.bool true)) w):=by
 have hTl:=hT.1
 have hTb:=hT.2.1
 have hS:=Sep.init w
 refine went Tryd.func6 rfl (n:=118) rfl rfl ?_
 refine wseq (wreg (wl rfl (oassign (v:=.bool false) rfl rfl evc ?_)))
 refine wnil (thenN (wseq (wreg (wl rfl (omove (v:=.slice pt nt ct) rfl rfl (ev rfl rfl) ?_)))))
 refine wl rfl (omove (v:=.int .u32 (p:Int)) rfl rfl (ev rfl rfl) ?_)
 refine wl rfl (ocall rfl rfl Tryd.call19 rfl (whOf4a (ht.at hS) (hT.atH hS) hp2 hb2 hp hr hbig) (args2 (ev rfl rfl) (ev rfl rfl)) ?_)
 rintro _ w1 ⟨_,_,rfl,⟨rfl,rfl⟩,hN⟩
 refine ⟨_,rfl,?_⟩
 replace hS:=hS.news hN; clear hN
 refine wl rfl (omove (v:=.tuple #[.slice none 0 0,.int .i64 4]) rfl rfl (ev rfl rfl) ?_)
 refine wl rfl (oextract (vs:=[.slice none 0 0,.int .i64 4]) (v:=.slice none 0 0) rfl rfl (ev rfl rfl) rfl ?_)
 refine wl rfl (oextract (vs:=[.slice none 0 0,.int .i64 4]) (v:=.int .i64 4) rfl rfl (ev rfl rfl) rfl ?_)
 refine wl rfl (oassign (v:=.slice none 0 0) rfl rfl (ev rfl rfl) ?_)
 refine wl rfl (oassign (v:=.int .i64 4) rfl rfl (ev rfl rfl) ?_)
 refine wnil (thenN (wseq (wreg (wl rfl (oassign (v:=.int .i64 0) rfl rfl evc ?_)))))
 refine wnil (thenN (wseq (wseq (wreg (wl rfl (omove (v:=.int .u32 (p:Int)) rfl rfl (ev rfl rfl) ?_))))))
 refine wl rfl (ocall rfl rfl Tryd.call20 rfl (wqprimeT hp2 (hp)) (args1 (ev rfl rfl)) ?_)
 rintro _ w2 ⟨_,_,rfl,⟨rfl,rfl⟩,hN⟩
 refine ⟨_,rfl,?_⟩
 replace hS:=hS.news hN; clear hN
 refine wl rfl (onot (b:=true) rfl rfl (ev rfl rfl) ?_)
 refine wnil (thenN ?_)
 refine wF (ev rfl rfl) ?_
 refine wskip (thenN (wseq (wseq (wreg (wl rfl (omove (v:=.slice pt nt ct) rfl rfl (ev rfl rfl) ?_))))))
 refine wl rfl (olen rfl rfl rfl Tryd.runUnderlying45 (p:=pt) (k:=nt) (m:=ct) (ev rfl rfl) ?_)
 refine wl rfl (omove (v:=.int .i64 0) rfl rfl evc ?_)
 refine wnil (thenN (wblock ?_))
 refine wloop (σ := Nat) (fun i a9 w' => ∃ (fb:Nat → Value),a9 = act 118 (sets fb [(0,.slice pt nt ct),(1,.int .u32 (p:Int)),(4,.bool false),(5,.slice none 0 0),(6,.int .i64 4),(7,.int .i64 0),(23,.slice pt nt ct),(24,.int .i64 (nt:Int)),(25,.int .i64 (i:Int))]) ∧ Sep w [] w' ∧ (i ≤ nt)) (fun i => nt - i) (0) ⟨_,act_sets (l:=[(0,.slice pt nt ct),(1,.int .u32 (p:Int)),(4,.bool false),(5,.slice none 0 0),(6,.int .i64 4),(7,.int .i64 0),(23,.slice pt nt ct),(24,.int .i64 (nt:Int)),(25,.int .i64 0)]) ⟨rfl,rfl,rfl,rfl,rfl,rfl,rfl,rfl,rfl,trivial⟩,hS,Nat.zero_le _⟩ ?_
 clear hS; rintro i _ w3 ⟨fb,rfl,hS,hi⟩
 refine wseq (wreg ?_)
 by_cases hli:i < nt
 ·
  obtain ⟨xr,hxr⟩:∃ r,(T)[i]? = some r:=⟨_,List.getElem?_eq_getElem (by have:=hT.1; omega)⟩
  obtain ⟨br,ofr,pr,cr,hpr,hcr,hsr⟩:=hT.2.2 i _ hxr
  obtain ⟨xz,hxz⟩:∃ r,(T)[0]? = some r:=⟨_,List.getElem?_eq_getElem (by have:=hT.1; omega)⟩
  obtain ⟨bz,ofz,pz,cz,hpz,hcz,hsz⟩:=hT.2.2 0 _ hxz
  have hcol:=colsT_zero hxz
  have hrl:=hr xr (List.mem_of_getElem? hxr)
  refine wl rfl (obin (u:=.int .i64 (i:Int)) (v:=.int .i64 (nt:Int)) (z:=.bool true) rfl rfl (ev rfl rfl) (ev rfl rfl) (bin_lss (decide_eq_true (by omega))) ?_)
  refine wnil (thenN (wseq ?_))
  refine wT (ev rfl rfl) ?_
  refine wskip (thenN (wseq (wblock (wseq (wreg (wl rfl (oindex (p:=pt) (g:=br) (off:=ofr) (m:=nt) (k:=i) (j:=(ofr + i * 1)) rfl rfl Tryd.runUnderlying45 Tryd.sizeOf49 (ev rfl rfl) (hpr) (ev rfl rfl) (by omega) rfl ?_)))))))
  refine wl rfl (oloadc (v:=.slice pr xr.length cr) (show One Tryd.prog 49 from ⟨Tryd.isAgg49,Tryd.sizeOf49⟩) rfl rfl (ev (v:=.pointer (some ⟨br,(ofr + i * 1),none⟩)) rfl rfl) (hS.cellAt (hcr 0 _ rfl)) ?_)
  refine wl rfl (oassign (v:=.slice pr xr.length cr) rfl rfl (ev rfl rfl) ?_)
  refine wnil (thenN (wseq (wreg (wl rfl (omove (v:=.int .i64 0) rfl rfl (ev rfl rfl) ?_)))))
  refine wl rfl (obin (u:=.int .i64 0) (v:=.int .i64 0) (z:=.bool true) rfl rfl (ev rfl rfl) evc (bin_eql (by decide)) ?_)
  refine wl rfl (omove (v:=.bool true) rfl rfl (ev rfl rfl) ?_)
  refine wlOn (e:=31) rfl rfl rfl rfl (omove (v:=.slice pr xr.length cr) rfl rfl (ev rfl rfl) ?_)
  refine wlOn (e:=31) rfl rfl rfl rfl (olen rfl rfl rfl Tryd.runUnderlying49 (p:=pr) (k:=xr.length) (m:=cr) (ev rfl rfl) ?_)
  refine wlOn (e:=31) rfl rfl rfl rfl (omove (v:=.slice pt nt ct) rfl rfl (ev rfl rfl) ?_)
  refine wlOn (e:=31) rfl rfl rfl rfl (oindex (p:=pt) (g:=bz) (off:=ofz) (m:=nt) (k:=0) (j:=(ofz + 0 * 1)) rfl rfl Tryd.runUnderlying45 Tryd.sizeOf49 (ev rfl rfl) (hpz) evc (by omega) rfl ?_)
  refine wlOn (e:=31) rfl rfl rfl rfl (oloadc (v:=.slice pz xz.length cz) (show One Tryd.prog 49 from ⟨Tryd.isAgg49,Tryd.sizeOf49⟩) rfl rfl (ev (v:=.pointer (some ⟨bz,(ofz + 0 * 1),none⟩)) rfl rfl) (hS.cellAt (hcz 0 _ rfl)) ?_)
  refine wlOn (e:=31) rfl rfl rfl rfl (olen rfl rfl rfl Tryd.runUnderlying49 (p:=pz) (k:=xz.length) (m:=cz) (ev rfl rfl) ?_)
  refine wlOn (e:=31) rfl rfl rfl rfl (obin (u:=.int .i64 (xr.length:Int)) (v:=.int .i64 (xz.length:Int)) (z:=.bool false) rfl rfl (ev rfl rfl) (ev rfl rfl) (bin_neq (neF (by rw [← hcol]; omega))) ?_)
  refine wl rfl (opick (b:=true) (v:=.bool false) rfl rfl (ev rfl rfl) (ev rfl rfl) ?_)
  refine wnil (thenN ?_)
  refine wF (ev rfl rfl) ?_
  refine wskip (blkN (thenN (wreg (wl rfl (obin (u:=.int .i64 (i:Int)) (v:=.int .i64 1) (z:=.int .i64 (((i + 1:Nat):Int))) rfl rfl (ev rfl rfl) evc (bin_add (wrap_i64 (by omega) (by omega))) ?_)))))
  refine wl rfl (omove (v:=.int .i64 (((i + 1:Nat):Int))) rfl rfl (ev rfl rfl) ?_)
  refine wnil (thenN ?_)
  exact ⟨(i + 1),⟨_,act_sets (l:=[(0,.slice pt nt ct),(1,.int .u32 (p:Int)),(4,.bool false),(5,.slice none 0 0),(6,.int .i64 4),(7,.int .i64 0),(23,.slice pt nt ct),(24,.int .i64 (nt:Int)),(25,.int .i64 (((i + 1:Nat):Int)))]) ⟨rfl,rfl,rfl,rfl,rfl,rfl,rfl,rfl,rfl,trivial⟩,hS.pick [] (by decide) rfl,by omega⟩,by omega⟩
 ·
  refine wl rfl (obin (u:=.int .i64 (i:Int)) (v:=.int .i64 (nt:Int)) (z:=.bool false) rfl rfl (ev rfl rfl) (ev rfl rfl) (bin_lss (decide_eq_false (by omega))) ?_)
  refine wnil (thenN (wseq ?_))
  refine wF (ev rfl rfl) ?_
  refine wexit ?_
  refine thenE ?_
  refine thenE ?_
  refine blkE ?_
  refine thenN (wseq (wseq (wreg (wl rfl (omove (v:=.int .i64 0) rfl rfl (ev rfl rfl) ?_)))))
  refine wl rfl (obin (u:=.int .i64 0) (v:=.int .i64 0) (z:=.bool true) rfl rfl (ev rfl rfl) evc (bin_eql (by decide)) ?_)
  refine wl rfl (omove (v:=.bool true) rfl rfl (ev rfl rfl) ?_)
  refine wlOn (e:=43) rfl rfl rfl rfl (omove (v:=.slice pt nt ct) rfl rfl (ev rfl rfl) ?_)
  refine wlOn (e:=43) rfl rfl rfl rfl (olen rfl rfl rfl Tryd.runUnderlying45 (p:=pt) (k:=nt) (m:=ct) (ev rfl rfl) ?_)
  refine wlOn (e:=43) rfl rfl rfl rfl (obin (u:=.int .i64 (nt:Int)) (v:=.int .i64 0) (z:=.bool true) rfl rfl (ev rfl rfl) evc (bin_gtr (decide_eq_true (by omega))) ?_)
  refine wl rfl (opick (b:=true) (v:=.bool true) rfl rfl (ev rfl rfl) (ev rfl rfl) ?_)
  refine wl rfl (omove (v:=.bool true) rfl rfl (ev rfl rfl) ?_)
  refine wlOn (e:=48) rfl rfl rfl rfl (omove (v:=.slice pt nt ct) rfl rfl (ev rfl rfl) ?_)
  refine wlOn (e:=48) rfl rfl rfl rfl (olen rfl rfl rfl Tryd.runUnderlying45 (p:=pt) (k:=nt) (m:=ct) (ev rfl rfl) ?_)
  refine wlOn (e:=48) rfl rfl rfl rfl (obin (u:=.int .i64 (nt:Int)) (v:=.int .i64 24) (z:=.bool true) rfl rfl (ev rfl rfl) evc (bin_gtr (decide_eq_true (by omega))) ?_)
  refine wlOn (e:=48) rfl rfl rfl rfl (omove (v:=.bool true) rfl rfl (ev rfl rfl) ?_)
  refine wlOff (e:=52) (d:=53) (b':=true) rfl rfl rfl rfl rfl rfl ?_
  refine wlOff (e:=52) (d:=54) (b':=true) rfl rfl rfl rfl rfl rfl ?_
  refine wlOff (e:=52) (d:=55) (b':=true) rfl rfl rfl rfl rfl rfl ?_
  refine wlOff (e:=52) (d:=56) (b':=true) rfl rfl rfl rfl rfl rfl ?_
  refine wlOff (e:=52) (d:=57) (b':=true) rfl rfl rfl rfl rfl rfl ?_
  refine wlOn (e:=48) rfl rfl rfl rfl (opick (b:=true) (v:=.bool true) rfl rfl (ev rfl rfl) evc ?_)
  refine wl rfl (opick (b:=true) (v:=.bool true) rfl rfl (ev rfl rfl) (ev rfl rfl) ?_)
  refine wnil (thenN ?_)
  refine wT (ev rfl rfl) ?_
  refine wreg (wl rfl (oassign (v:=.int .i64 4) rfl rfl evc ?_))
  refine wnil (thenN (wseq (wseq (wreg (wl rfl (omove (v:=.int .i64 4) rfl rfl (ev rfl rfl) ?_))))))
  refine wl rfl (obin (u:=.int .i64 4) (v:=.int .i64 0) (z:=.bool true) rfl rfl (ev rfl rfl) evc (bin_neq (by decide)) ?_)
  refine wnil (thenN ?_)
  refine wT (ev rfl rfl) ?_
  refine wseq (wreg (wl rfl (omove (v:=.int .i64 4) rfl rfl (ev rfl rfl) ?_)))
  refine wl rfl (omove (v:=.int .i64 4) rfl rfl (ev rfl rfl) ?_)
  refine wl rfl (obin (u:=.int .i64 4) (v:=.int .i64 4) (z:=.bool true) rfl rfl (ev rfl rfl) (ev rfl rfl) (bin_eql (by decide)) ?_)
  refine wl rfl (omove (v:=.bool true) rfl rfl (ev rfl rfl) ?_)
  refine wlOn (e:=65) rfl rfl rfl rfl (omove (v:=.slice none 0 0) rfl rfl (ev rfl rfl) ?_)
  refine wlOn (e:=65) rfl rfl rfl rfl (olen rfl rfl rfl Tryd.runUnderlying23 (p:=none) (k:=0) (m:=0) (ev rfl rfl) ?_)
  refine wlOn (e:=65) rfl rfl rfl rfl (obin (u:=.int .i64 (((0:Nat):Int))) (v:=.int .i64 0) (z:=.bool true) rfl rfl (ev rfl rfl) evc (bin_eql (eqT rfl)) ?_)
  refine wl rfl (opick (b:=true) (v:=.bool true) rfl rfl (ev rfl rfl) (ev rfl rfl) ?_)
  refine wl rfl (omove (v:=.bool true) rfl rfl (ev rfl rfl) ?_)
  refine wlOn (e:=70) rfl rfl rfl rfl (ocall rfl rfl Tryd.call12 rfl (wllives (ht.at hS)) (args0 ) ?_)
  rintro _ w4 ⟨_,_,rfl,⟨rfl,rfl⟩,hN⟩
  refine ⟨_,rfl,?_⟩
  replace hS:=hS.news hN; clear hN
  refine wl rfl (opick (b:=true) (v:=.bool true) rfl rfl (ev rfl rfl) (ev rfl rfl) ?_)
  refine wl rfl (oassign (v:=.bool true) rfl rfl (ev rfl rfl) ?_)
  refine wnil (thenN ?_)
  refine wleave ?_
  refine thenR ?_
  refine wret1 Tryd.results6 (tellT (v:=.bool true) rfl rfl) ?_
  exact ⟨_,_,rfl,isI,hS.new0⟩
theorem hessOf_4b {pt:Option Addr} {nt ct p:Nat} {T:List (List Int)} {w:World} (ht:Tb w) (hT:TB w pt nt T 67108864) (hp2:p < 4294967296) (hb2:∀ L ∈ T,L.length ≤ 1048576) (hp:MR.Pr p) (hr:RectT T) (hl:T.length ≤ 24) (h0:0 < T.length) (hw:24 < colsT T) :
  Calls Tryd.prog 6 #[.slice pt nt ct,.int .u32 ((p:Nat):Int)] w (Ret (Is (.bool true)) w):=by
 have hTl:=hT.1
 have hTb:=hT.2.1
 have hS:=Sep.init w
 refine went Tryd.func6 rfl (n:=118) rfl rfl ?_
 refine wseq (wreg (wl rfl (oassign (v:=.bool false) rfl rfl evc ?_)))
 refine wnil (thenN (wseq (wreg (wl rfl (omove (v:=.slice pt nt ct) rfl rfl (ev rfl rfl) ?_)))))
 refine wl rfl (omove (v:=.int .u32 (p:Int)) rfl rfl (ev rfl rfl) ?_)
 refine wl rfl (ocall rfl rfl Tryd.call19 rfl (whOf4b (ht.at hS) (hT.atH hS) hp2 hb2 hp hr hl h0 hw) (args2 (ev rfl rfl) (ev rfl rfl)) ?_)
 rintro _ w1 ⟨_,_,rfl,⟨rfl,rfl⟩,hN⟩
 refine ⟨_,rfl,?_⟩
 replace hS:=hS.news hN; clear hN
 refine wl rfl (omove (v:=.tuple #[.slice none 0 0,.int .i64 4]) rfl rfl (ev rfl rfl) ?_)
 refine wl rfl (oextract (vs:=[.slice none 0 0,.int .i64 4]) (v:=.slice none 0 0) rfl rfl (ev rfl rfl) rfl ?_)
 refine wl rfl (oextract (vs:=[.slice none 0 0,.int .i64 4]) (v:=.int .i64 4) rfl rfl (ev rfl rfl) rfl ?_)
 refine wl rfl (oassign (v:=.slice none 0 0) rfl rfl (ev rfl rfl) ?_)
 refine wl rfl (oassign (v:=.int .i64 4) rfl rfl (ev rfl rfl) ?_)
 refine wnil (thenN (wseq (wreg (wl rfl (oassign (v:=.int .i64 0) rfl rfl evc ?_)))))
 refine wnil (thenN (wseq (wseq (wreg (wl rfl (omove (v:=.int .u32 (p:Int)) rfl rfl (ev rfl rfl) ?_))))))
 refine wl rfl (ocall rfl rfl Tryd.call20 rfl (wqprimeT hp2 (hp)) (args1 (ev rfl rfl)) ?_)
 rintro _ w2 ⟨_,_,rfl,⟨rfl,rfl⟩,hN⟩
 refine ⟨_,rfl,?_⟩
 replace hS:=hS.news hN; clear hN
 refine wl rfl (onot (b:=true) rfl rfl (ev rfl rfl) ?_)
 refine wnil (thenN ?_)
 refine wF (ev rfl rfl) ?_
 refine wskip (thenN (wseq (wseq (wreg (wl rfl (omove (v:=.slice pt nt ct) rfl rfl (ev rfl rfl) ?_))))))
 refine wl rfl (olen rfl rfl rfl Tryd.runUnderlying45 (p:=pt) (k:=nt) (m:=ct) (ev rfl rfl) ?_)
 refine wl rfl (omove (v:=.int .i64 0) rfl rfl evc ?_)
 refine wnil (thenN (wblock ?_))
 refine wloop (σ := Nat) (fun i a9 w' => ∃ (fb:Nat → Value),a9 = act 118 (sets fb [(0,.slice pt nt ct),(1,.int .u32 (p:Int)),(4,.bool false),(5,.slice none 0 0),(6,.int .i64 4),(7,.int .i64 0),(23,.slice pt nt ct),(24,.int .i64 (nt:Int)),(25,.int .i64 (i:Int))]) ∧ Sep w [] w' ∧ (i ≤ nt)) (fun i => nt - i) (0) ⟨_,act_sets (l:=[(0,.slice pt nt ct),(1,.int .u32 (p:Int)),(4,.bool false),(5,.slice none 0 0),(6,.int .i64 4),(7,.int .i64 0),(23,.slice pt nt ct),(24,.int .i64 (nt:Int)),(25,.int .i64 0)]) ⟨rfl,rfl,rfl,rfl,rfl,rfl,rfl,rfl,rfl,trivial⟩,hS,Nat.zero_le _⟩ ?_
 clear hS; rintro i _ w3 ⟨fb,rfl,hS,hi⟩
 refine wseq (wreg ?_)
 by_cases hli:i < nt
 ·
  obtain ⟨xr,hxr⟩:∃ r,(T)[i]? = some r:=⟨_,List.getElem?_eq_getElem (by have:=hT.1; omega)⟩
  obtain ⟨br,ofr,pr,cr,hpr,hcr,hsr⟩:=hT.2.2 i _ hxr
  obtain ⟨xz,hxz⟩:∃ r,(T)[0]? = some r:=⟨_,List.getElem?_eq_getElem (by have:=hT.1; omega)⟩
  obtain ⟨bz,ofz,pz,cz,hpz,hcz,hsz⟩:=hT.2.2 0 _ hxz
  have hcol:=colsT_zero hxz
  have hrl:=hr xr (List.mem_of_getElem? hxr)
  refine wl rfl (obin (u:=.int .i64 (i:Int)) (v:=.int .i64 (nt:Int)) (z:=.bool true) rfl rfl (ev rfl rfl) (ev rfl rfl) (bin_lss (decide_eq_true (by omega))) ?_)
  refine wnil (thenN (wseq ?_))
  refine wT (ev rfl rfl) ?_
  refine wskip (thenN (wseq (wblock (wseq (wreg (wl rfl (oindex (p:=pt) (g:=br) (off:=ofr) (m:=nt) (k:=i) (j:=(ofr + i * 1)) rfl rfl Tryd.runUnderlying45 Tryd.sizeOf49 (ev rfl rfl) (hpr) (ev rfl rfl) (by omega) rfl ?_)))))))
  refine wl rfl (oloadc (v:=.slice pr xr.length cr) (show One Tryd.prog 49 from ⟨Tryd.isAgg49,Tryd.sizeOf49⟩) rfl rfl (ev (v:=.pointer (some ⟨br,(ofr + i * 1),none⟩)) rfl rfl) (hS.cellAt (hcr 0 _ rfl)) ?_)
  refine wl rfl (oassign (v:=.slice pr xr.length cr) rfl rfl (ev rfl rfl) ?_)
  refine wnil (thenN (wseq (wreg (wl rfl (omove (v:=.int .i64 0) rfl rfl (ev rfl rfl) ?_)))))
  refine wl rfl (obin (u:=.int .i64 0) (v:=.int .i64 0) (z:=.bool true) rfl rfl (ev rfl rfl) evc (bin_eql (by decide)) ?_)
  refine wl rfl (omove (v:=.bool true) rfl rfl (ev rfl rfl) ?_)
  refine wlOn (e:=31) rfl rfl rfl rfl (omove (v:=.slice pr xr.length cr) rfl rfl (ev rfl rfl) ?_)
  refine wlOn (e:=31) rfl rfl rfl rfl (olen rfl rfl rfl Tryd.runUnderlying49 (p:=pr) (k:=xr.length) (m:=cr) (ev rfl rfl) ?_)
  refine wlOn (e:=31) rfl rfl rfl rfl (omove (v:=.slice pt nt ct) rfl rfl (ev rfl rfl) ?_)
  refine wlOn (e:=31) rfl rfl rfl rfl (oindex (p:=pt) (g:=bz) (off:=ofz) (m:=nt) (k:=0) (j:=(ofz + 0 * 1)) rfl rfl Tryd.runUnderlying45 Tryd.sizeOf49 (ev rfl rfl) (hpz) evc (by omega) rfl ?_)
  refine wlOn (e:=31) rfl rfl rfl rfl (oloadc (v:=.slice pz xz.length cz) (show One Tryd.prog 49 from ⟨Tryd.isAgg49,Tryd.sizeOf49⟩) rfl rfl (ev (v:=.pointer (some ⟨bz,(ofz + 0 * 1),none⟩)) rfl rfl) (hS.cellAt (hcz 0 _ rfl)) ?_)
  refine wlOn (e:=31) rfl rfl rfl rfl (olen rfl rfl rfl Tryd.runUnderlying49 (p:=pz) (k:=xz.length) (m:=cz) (ev rfl rfl) ?_)
  refine wlOn (e:=31) rfl rfl rfl rfl (obin (u:=.int .i64 (xr.length:Int)) (v:=.int .i64 (xz.length:Int)) (z:=.bool false) rfl rfl (ev rfl rfl) (ev rfl rfl) (bin_neq (neF (by rw [← hcol]; omega))) ?_)
  refine wl rfl (opick (b:=true) (v:=.bool false) rfl rfl (ev rfl rfl) (ev rfl rfl) ?_)
  refine wnil (thenN ?_)
  refine wF (ev rfl rfl) ?_
  refine wskip (blkN (thenN (wreg (wl rfl (obin (u:=.int .i64 (i:Int)) (v:=.int .i64 1) (z:=.int .i64 (((i + 1:Nat):Int))) rfl rfl (ev rfl rfl) evc (bin_add (wrap_i64 (by omega) (by omega))) ?_)))))
  refine wl rfl (omove (v:=.int .i64 (((i + 1:Nat):Int))) rfl rfl (ev rfl rfl) ?_)
  refine wnil (thenN ?_)
  exact ⟨(i + 1),⟨_,act_sets (l:=[(0,.slice pt nt ct),(1,.int .u32 (p:Int)),(4,.bool false),(5,.slice none 0 0),(6,.int .i64 4),(7,.int .i64 0),(23,.slice pt nt ct),(24,.int .i64 (nt:Int)),(25,.int .i64 (((i + 1:Nat):Int)))]) ⟨rfl,rfl,rfl,rfl,rfl,rfl,rfl,rfl,rfl,trivial⟩,hS.pick [] (by decide) rfl,by omega⟩,by omega⟩
 ·
  refine wl rfl (obin (u:=.int .i64 (i:Int)) (v:=.int .i64 (nt:Int)) (z:=.bool false) rfl rfl (ev rfl rfl) (ev rfl rfl) (bin_lss (decide_eq_false (by omega))) ?_)
  refine wnil (thenN (wseq ?_))
  refine wF (ev rfl rfl) ?_
  refine wexit ?_
  refine thenE ?_
  refine thenE ?_
  refine blkE ?_
  refine thenN (wseq (wseq (wreg (wl rfl (omove (v:=.int .i64 0) rfl rfl (ev rfl rfl) ?_)))))
  refine wl rfl (obin (u:=.int .i64 0) (v:=.int .i64 0) (z:=.bool true) rfl rfl (ev rfl rfl) evc (bin_eql (by decide)) ?_)
  refine wl rfl (omove (v:=.bool true) rfl rfl (ev rfl rfl) ?_)
  refine wlOn (e:=43) rfl rfl rfl rfl (omove (v:=.slice pt nt ct) rfl rfl (ev rfl rfl) ?_)
  refine wlOn (e:=43) rfl rfl rfl rfl (olen rfl rfl rfl Tryd.runUnderlying45 (p:=pt) (k:=nt) (m:=ct) (ev rfl rfl) ?_)
  refine wlOn (e:=43) rfl rfl rfl rfl (obin (u:=.int .i64 (nt:Int)) (v:=.int .i64 0) (z:=.bool true) rfl rfl (ev rfl rfl) evc (bin_gtr (decide_eq_true (by omega))) ?_)
  refine wl rfl (opick (b:=true) (v:=.bool true) rfl rfl (ev rfl rfl) (ev rfl rfl) ?_)
  refine wl rfl (omove (v:=.bool true) rfl rfl (ev rfl rfl) ?_)
  refine wlOn (e:=48) rfl rfl rfl rfl (omove (v:=.slice pt nt ct) rfl rfl (ev rfl rfl) ?_)
  refine wlOn (e:=48) rfl rfl rfl rfl (olen rfl rfl rfl Tryd.runUnderlying45 (p:=pt) (k:=nt) (m:=ct) (ev rfl rfl) ?_)
  refine wlOn (e:=48) rfl rfl rfl rfl (obin (u:=.int .i64 (nt:Int)) (v:=.int .i64 24) (z:=.bool false) rfl rfl (ev rfl rfl) evc (bin_gtr (decide_eq_false (by omega))) ?_)
  refine wlOn (e:=48) rfl rfl rfl rfl (omove (v:=.bool false) rfl rfl (ev rfl rfl) ?_)
  refine wlOn (e:=52) rfl rfl rfl rfl (omove (v:=.slice pt nt ct) rfl rfl (ev rfl rfl) ?_)
  obtain ⟨xz,hxz⟩:∃ r,(T)[0]? = some r:=⟨_,List.getElem?_eq_getElem (by have:=hT.1; omega)⟩
  obtain ⟨bz,ofz,pz,cz,hpz,hcz,hsz⟩:=hT.2.2 0 _ hxz
  have hcol:=colsT_zero hxz
  refine wlOn (e:=52) rfl rfl rfl rfl (oindex (p:=pt) (g:=bz) (off:=ofz) (m:=nt) (k:=0) (j:=(ofz + 0 * 1)) rfl rfl Tryd.runUnderlying45 Tryd.sizeOf49 (ev rfl rfl) (hpz) evc (by omega) rfl ?_)
  refine wlOn (e:=52) rfl rfl rfl rfl (oloadc (v:=.slice pz xz.length cz) (show One Tryd.prog 49 from ⟨Tryd.isAgg49,Tryd.sizeOf49⟩) rfl rfl (ev (v:=.pointer (some ⟨bz,(ofz + 0 * 1),none⟩)) rfl rfl) (hS.cellAt (hcz 0 _ rfl)) ?_)
  refine wlOn (e:=52) rfl rfl rfl rfl (olen rfl rfl rfl Tryd.runUnderlying49 (p:=pz) (k:=xz.length) (m:=cz) (ev rfl rfl) ?_)
  refine wlOn (e:=52) rfl rfl rfl rfl (obin (u:=.int .i64 (xz.length:Int)) (v:=.int .i64 24) (z:=.bool true) rfl rfl (ev rfl rfl) evc (bin_gtr (decide_eq_true (by omega))) ?_)
  refine wlOn (e:=48) rfl rfl rfl rfl (opick (b:=false) (v:=.bool true) rfl rfl (ev rfl rfl) (ev rfl rfl) ?_)
  refine wl rfl (opick (b:=true) (v:=.bool true) rfl rfl (ev rfl rfl) (ev rfl rfl) ?_)
  refine wnil (thenN ?_)
  refine wT (ev rfl rfl) ?_
  refine wreg (wl rfl (oassign (v:=.int .i64 4) rfl rfl evc ?_))
  refine wnil (thenN (wseq (wseq (wreg (wl rfl (omove (v:=.int .i64 4) rfl rfl (ev rfl rfl) ?_))))))
  refine wl rfl (obin (u:=.int .i64 4) (v:=.int .i64 0) (z:=.bool true) rfl rfl (ev rfl rfl) evc (bin_neq (by decide)) ?_)
  refine wnil (thenN ?_)
  refine wT (ev rfl rfl) ?_
  refine wseq (wreg (wl rfl (omove (v:=.int .i64 4) rfl rfl (ev rfl rfl) ?_)))
  refine wl rfl (omove (v:=.int .i64 4) rfl rfl (ev rfl rfl) ?_)
  refine wl rfl (obin (u:=.int .i64 4) (v:=.int .i64 4) (z:=.bool true) rfl rfl (ev rfl rfl) (ev rfl rfl) (bin_eql (by decide)) ?_)
  refine wl rfl (omove (v:=.bool true) rfl rfl (ev rfl rfl) ?_)
  refine wlOn (e:=65) rfl rfl rfl rfl (omove (v:=.slice none 0 0) rfl rfl (ev rfl rfl) ?_)
  refine wlOn (e:=65) rfl rfl rfl rfl (olen rfl rfl rfl Tryd.runUnderlying23 (p:=none) (k:=0) (m:=0) (ev rfl rfl) ?_)
  refine wlOn (e:=65) rfl rfl rfl rfl (obin (u:=.int .i64 (((0:Nat):Int))) (v:=.int .i64 0) (z:=.bool true) rfl rfl (ev rfl rfl) evc (bin_eql (eqT rfl)) ?_)
  refine wl rfl (opick (b:=true) (v:=.bool true) rfl rfl (ev rfl rfl) (ev rfl rfl) ?_)
  refine wl rfl (omove (v:=.bool true) rfl rfl (ev rfl rfl) ?_)
  refine wlOn (e:=70) rfl rfl rfl rfl (ocall rfl rfl Tryd.call12 rfl (wllives (ht.at hS)) (args0 ) ?_)
  rintro _ w4 ⟨_,_,rfl,⟨rfl,rfl⟩,hN⟩
  refine ⟨_,rfl,?_⟩
  replace hS:=hS.news hN; clear hN
  refine wl rfl (opick (b:=true) (v:=.bool true) rfl rfl (ev rfl rfl) (ev rfl rfl) ?_)
  refine wl rfl (oassign (v:=.bool true) rfl rfl (ev rfl rfl) ?_)
  refine wnil (thenN ?_)
  refine wleave ?_
  refine thenR ?_
  refine wret1 Tryd.results6 (tellT (v:=.bool true) rfl rfl) ?_
  exact ⟨_,_,rfl,isI,hS.new0⟩
theorem hessOf_0 {pt:Option Addr} {nt ct p:Nat} {T:List (List Int)} {w:World} (ht:Tb w) (hT:TB w pt nt T 67108864) (hp2:p < 4294967296) (hb2:∀ L ∈ T,L.length ≤ 1048576) (hp:MR.Pr p) (hr:RectT T) (hl:T.length ≤ 24) (hw:colsT T ≤ 24) :
  Calls Tryd.prog 6 #[.slice pt nt ct,.int .u32 ((p:Nat):Int)] w (Ret (Is (.bool true)) w):=by
 have hTl:=hT.1
 have hTb:=hT.2.1
 have hp1:=hp.1
 have hp0:0 < p:=by omega
 have hS:=Sep.init w
 refine went Tryd.func6 rfl (n:=118) rfl rfl ?_
 refine wseq (wreg (wl rfl (oassign (v:=.bool false) rfl rfl evc ?_)))
 refine wnil (thenN (wseq (wreg (wl rfl (omove (v:=.slice pt nt ct) rfl rfl (ev rfl rfl) ?_)))))
 refine wl rfl (omove (v:=.int .u32 (p:Int)) rfl rfl (ev rfl rfl) ?_)
 refine wl rfl (ocall rfl rfl Tryd.call19 rfl (whOf (ht.at hS) (hT.atH hS) hp2 hb2 hp hr hl hw) (args2 (ev rfl rfl) (ev rfl rfl)) ?_)
 rintro _ w1 ⟨_,_,rfl,⟨pX,cX,QX,hQX,rfl,rfl⟩,hN⟩
 refine ⟨_,rfl,?_⟩
 replace hS:=hS.news hN; clear hN
 refine wl rfl (omove (v:=.tuple #[.slice pX nt cX,.int .i64 0]) rfl rfl (ev rfl rfl) ?_)
 refine wl rfl (oextract (vs:=[.slice pX nt cX,.int .i64 0]) (v:=.slice pX nt cX) rfl rfl (ev rfl rfl) rfl ?_)
 refine wl rfl (oextract (vs:=[.slice pX nt cX,.int .i64 0]) (v:=.int .i64 0) rfl rfl (ev rfl rfl) rfl ?_)
 refine wl rfl (oassign (v:=.slice pX nt cX) rfl rfl (ev rfl rfl) ?_)
 refine wl rfl (oassign (v:=.int .i64 0) rfl rfl (ev rfl rfl) ?_)
 refine wnil (thenN (wseq (wreg (wl rfl (oassign (v:=.int .i64 0) rfl rfl evc ?_)))))
 refine wnil (thenN (wseq (wseq (wreg (wl rfl (omove (v:=.int .u32 (p:Int)) rfl rfl (ev rfl rfl) ?_))))))
 refine wl rfl (ocall rfl rfl Tryd.call20 rfl (wqprimeT hp2 (hp)) (args1 (ev rfl rfl)) ?_)
 rintro _ w2 ⟨_,_,rfl,⟨rfl,rfl⟩,hN⟩
 refine ⟨_,rfl,?_⟩
 replace hS:=hS.news hN; clear hN
 refine wl rfl (onot (b:=true) rfl rfl (ev rfl rfl) ?_)
 refine wnil (thenN ?_)
 refine wF (ev rfl rfl) ?_
 refine wskip (thenN (wseq (wseq (wreg (wl rfl (omove (v:=.slice pt nt ct) rfl rfl (ev rfl rfl) ?_))))))
 refine wl rfl (olen rfl rfl rfl Tryd.runUnderlying45 (p:=pt) (k:=nt) (m:=ct) (ev rfl rfl) ?_)
 refine wl rfl (omove (v:=.int .i64 0) rfl rfl evc ?_)
 refine wnil (thenN (wblock ?_))
 refine wloop (σ := Nat) (fun i a9 w' => ∃ (fb:Nat → Value),a9 = act 118 (sets fb [(0,.slice pt nt ct),(1,.int .u32 (p:Int)),(4,.bool false),(5,.slice pX nt cX),(6,.int .i64 0),(7,.int .i64 0),(23,.slice pt nt ct),(24,.int .i64 (nt:Int)),(25,.int .i64 (i:Int))]) ∧ Sep w [.lst 29 1 pX nt cX (mmE QX)] w' ∧ (i ≤ nt)) (fun i => nt - i) (0) ⟨_,act_sets (l:=[(0,.slice pt nt ct),(1,.int .u32 (p:Int)),(4,.bool false),(5,.slice pX nt cX),(6,.int .i64 0),(7,.int .i64 0),(23,.slice pt nt ct),(24,.int .i64 (nt:Int)),(25,.int .i64 0)]) ⟨rfl,rfl,rfl,rfl,rfl,rfl,rfl,rfl,rfl,trivial⟩,hS,Nat.zero_le _⟩ ?_
 clear hS; rintro i _ w3 ⟨fb,rfl,hS,hi⟩
 refine wseq (wreg ?_)
 by_cases hli:i < nt
 ·
  obtain ⟨xr,hxr⟩:∃ r,(T)[i]? = some r:=⟨_,List.getElem?_eq_getElem (by have:=hT.1; omega)⟩
  obtain ⟨br,ofr,pr,cr,hpr,hcr,hsr⟩:=hT.2.2 i _ hxr
  obtain ⟨xz,hxz⟩:∃ r,(T)[0]? = some r:=⟨_,List.getElem?_eq_getElem (by have:=hT.1; omega)⟩
  obtain ⟨bz,ofz,pz,cz,hpz,hcz,hsz⟩:=hT.2.2 0 _ hxz
  have hcol:=colsT_zero hxz
  have hrl:=hr xr (List.mem_of_getElem? hxr)
  refine wl rfl (obin (u:=.int .i64 (i:Int)) (v:=.int .i64 (nt:Int)) (z:=.bool true) rfl rfl (ev rfl rfl) (ev rfl rfl) (bin_lss (decide_eq_true (by omega))) ?_)
  refine wnil (thenN (wseq ?_))
  refine wT (ev rfl rfl) ?_
  refine wskip (thenN (wseq (wblock (wseq (wreg (wl rfl (oindex (p:=pt) (g:=br) (off:=ofr) (m:=nt) (k:=i) (j:=(ofr + i * 1)) rfl rfl Tryd.runUnderlying45 Tryd.sizeOf49 (ev rfl rfl) (hpr) (ev rfl rfl) (by omega) rfl ?_)))))))
  refine wl rfl (oloadc (v:=.slice pr xr.length cr) (show One Tryd.prog 49 from ⟨Tryd.isAgg49,Tryd.sizeOf49⟩) rfl rfl (ev (v:=.pointer (some ⟨br,(ofr + i * 1),none⟩)) rfl rfl) (hS.cellAt (hcr 0 _ rfl)) ?_)
  refine wl rfl (oassign (v:=.slice pr xr.length cr) rfl rfl (ev rfl rfl) ?_)
  refine wnil (thenN (wseq (wreg (wl rfl (omove (v:=.int .i64 0) rfl rfl (ev rfl rfl) ?_)))))
  refine wl rfl (obin (u:=.int .i64 0) (v:=.int .i64 0) (z:=.bool true) rfl rfl (ev rfl rfl) evc (bin_eql (by decide)) ?_)
  refine wl rfl (omove (v:=.bool true) rfl rfl (ev rfl rfl) ?_)
  refine wlOn (e:=31) rfl rfl rfl rfl (omove (v:=.slice pr xr.length cr) rfl rfl (ev rfl rfl) ?_)
  refine wlOn (e:=31) rfl rfl rfl rfl (olen rfl rfl rfl Tryd.runUnderlying49 (p:=pr) (k:=xr.length) (m:=cr) (ev rfl rfl) ?_)
  refine wlOn (e:=31) rfl rfl rfl rfl (omove (v:=.slice pt nt ct) rfl rfl (ev rfl rfl) ?_)
  refine wlOn (e:=31) rfl rfl rfl rfl (oindex (p:=pt) (g:=bz) (off:=ofz) (m:=nt) (k:=0) (j:=(ofz + 0 * 1)) rfl rfl Tryd.runUnderlying45 Tryd.sizeOf49 (ev rfl rfl) (hpz) evc (by omega) rfl ?_)
  refine wlOn (e:=31) rfl rfl rfl rfl (oloadc (v:=.slice pz xz.length cz) (show One Tryd.prog 49 from ⟨Tryd.isAgg49,Tryd.sizeOf49⟩) rfl rfl (ev (v:=.pointer (some ⟨bz,(ofz + 0 * 1),none⟩)) rfl rfl) (hS.cellAt (hcz 0 _ rfl)) ?_)
  refine wlOn (e:=31) rfl rfl rfl rfl (olen rfl rfl rfl Tryd.runUnderlying49 (p:=pz) (k:=xz.length) (m:=cz) (ev rfl rfl) ?_)
  refine wlOn (e:=31) rfl rfl rfl rfl (obin (u:=.int .i64 (xr.length:Int)) (v:=.int .i64 (xz.length:Int)) (z:=.bool false) rfl rfl (ev rfl rfl) (ev rfl rfl) (bin_neq (neF (by rw [← hcol]; omega))) ?_)
  refine wl rfl (opick (b:=true) (v:=.bool false) rfl rfl (ev rfl rfl) (ev rfl rfl) ?_)
  refine wnil (thenN ?_)
  refine wF (ev rfl rfl) ?_
  refine wskip (blkN (thenN (wreg (wl rfl (obin (u:=.int .i64 (i:Int)) (v:=.int .i64 1) (z:=.int .i64 (((i + 1:Nat):Int))) rfl rfl (ev rfl rfl) evc (bin_add (wrap_i64 (by omega) (by omega))) ?_)))))
  refine wl rfl (omove (v:=.int .i64 (((i + 1:Nat):Int))) rfl rfl (ev rfl rfl) ?_)
  refine wnil (thenN ?_)
  exact ⟨(i + 1),⟨_,act_sets (l:=[(0,.slice pt nt ct),(1,.int .u32 (p:Int)),(4,.bool false),(5,.slice pX nt cX),(6,.int .i64 0),(7,.int .i64 0),(23,.slice pt nt ct),(24,.int .i64 (nt:Int)),(25,.int .i64 (((i + 1:Nat):Int)))]) ⟨rfl,rfl,rfl,rfl,rfl,rfl,rfl,rfl,rfl,trivial⟩,hS.pick [0] (by decide) rfl,by omega⟩,by omega⟩
 ·
  refine wl rfl (obin (u:=.int .i64 (i:Int)) (v:=.int .i64 (nt:Int)) (z:=.bool false) rfl rfl (ev rfl rfl) (ev rfl rfl) (bin_lss (decide_eq_false (by omega))) ?_)
  refine wnil (thenN (wseq ?_))
  refine wF (ev rfl rfl) ?_
  refine wexit ?_
  refine thenE ?_
  refine thenE ?_
  refine blkE ?_
  refine thenN (wseq (wseq (wreg (wl rfl (omove (v:=.int .i64 0) rfl rfl (ev rfl rfl) ?_)))))
  refine wl rfl (obin (u:=.int .i64 0) (v:=.int .i64 0) (z:=.bool true) rfl rfl (ev rfl rfl) evc (bin_eql (by decide)) ?_)
  refine wl rfl (omove (v:=.bool true) rfl rfl (ev rfl rfl) ?_)
  refine wlOn (e:=43) rfl rfl rfl rfl (omove (v:=.slice pt nt ct) rfl rfl (ev rfl rfl) ?_)
  refine wlOn (e:=43) rfl rfl rfl rfl (olen rfl rfl rfl Tryd.runUnderlying45 (p:=pt) (k:=nt) (m:=ct) (ev rfl rfl) ?_)
  by_cases h0:0 < nt
  ·
   refine wlOn (e:=43) rfl rfl rfl rfl (obin (u:=.int .i64 (nt:Int)) (v:=.int .i64 0) (z:=.bool true) rfl rfl (ev rfl rfl) evc (bin_gtr (decide_eq_true (by omega))) ?_)
   refine wl rfl (opick (b:=true) (v:=.bool true) rfl rfl (ev rfl rfl) (ev rfl rfl) ?_)
   refine wl rfl (omove (v:=.bool true) rfl rfl (ev rfl rfl) ?_)
   refine wlOn (e:=48) rfl rfl rfl rfl (omove (v:=.slice pt nt ct) rfl rfl (ev rfl rfl) ?_)
   refine wlOn (e:=48) rfl rfl rfl rfl (olen rfl rfl rfl Tryd.runUnderlying45 (p:=pt) (k:=nt) (m:=ct) (ev rfl rfl) ?_)
   refine wlOn (e:=48) rfl rfl rfl rfl (obin (u:=.int .i64 (nt:Int)) (v:=.int .i64 24) (z:=.bool false) rfl rfl (ev rfl rfl) evc (bin_gtr (decide_eq_false (by omega))) ?_)
   refine wlOn (e:=48) rfl rfl rfl rfl (omove (v:=.bool false) rfl rfl (ev rfl rfl) ?_)
   refine wlOn (e:=52) rfl rfl rfl rfl (omove (v:=.slice pt nt ct) rfl rfl (ev rfl rfl) ?_)
   obtain ⟨xz,hxz⟩:∃ r,(T)[0]? = some r:=⟨_,List.getElem?_eq_getElem (by have:=hT.1; omega)⟩
   obtain ⟨bz,ofz,pz,cz,hpz,hcz,hsz⟩:=hT.2.2 0 _ hxz
   have hcol:=colsT_zero hxz
   refine wlOn (e:=52) rfl rfl rfl rfl (oindex (p:=pt) (g:=bz) (off:=ofz) (m:=nt) (k:=0) (j:=(ofz + 0 * 1)) rfl rfl Tryd.runUnderlying45 Tryd.sizeOf49 (ev rfl rfl) (hpz) evc (by omega) rfl ?_)
   refine wlOn (e:=52) rfl rfl rfl rfl (oloadc (v:=.slice pz xz.length cz) (show One Tryd.prog 49 from ⟨Tryd.isAgg49,Tryd.sizeOf49⟩) rfl rfl (ev (v:=.pointer (some ⟨bz,(ofz + 0 * 1),none⟩)) rfl rfl) (hS.cellAt (hcz 0 _ rfl)) ?_)
   refine wlOn (e:=52) rfl rfl rfl rfl (olen rfl rfl rfl Tryd.runUnderlying49 (p:=pz) (k:=xz.length) (m:=cz) (ev rfl rfl) ?_)
   refine wlOn (e:=52) rfl rfl rfl rfl (obin (u:=.int .i64 (xz.length:Int)) (v:=.int .i64 24) (z:=.bool false) rfl rfl (ev rfl rfl) evc (bin_gtr (decide_eq_false (by omega))) ?_)
   refine wlOn (e:=48) rfl rfl rfl rfl (opick (b:=false) (v:=.bool false) rfl rfl (ev rfl rfl) (ev rfl rfl) ?_)
   refine wl rfl (opick (b:=true) (v:=.bool false) rfl rfl (ev rfl rfl) (ev rfl rfl) ?_)
   refine wnil (thenN ?_)
   refine wF (ev rfl rfl) ?_
   refine wskip (thenN (wseq (wseq (wreg (wl rfl (omove (v:=.int .i64 0) rfl rfl (ev rfl rfl) ?_))))))
   refine wl rfl (obin (u:=.int .i64 0) (v:=.int .i64 0) (z:=.bool false) rfl rfl (ev rfl rfl) evc (bin_neq (by decide)) ?_)
   refine wnil (thenN ?_)
   refine wF (ev rfl rfl) ?_
   refine wskip (thenN (wseq (wseq (wreg (wl rfl (omove (v:=.int .i64 0) rfl rfl (ev rfl rfl) ?_))))))
   refine wl rfl (obin (u:=.int .i64 0) (v:=.int .i64 0) (z:=.bool false) rfl rfl (ev rfl rfl) evc (bin_neq (by decide)) ?_)
   refine wl rfl (omove (v:=.bool false) rfl rfl (ev rfl rfl) ?_)
   refine wlOn (e:=75) rfl rfl rfl rfl (omove (v:=.slice pX nt cX) rfl rfl (ev rfl rfl) ?_)
   refine wlOn (e:=75) rfl rfl rfl rfl (olen rfl rfl rfl Tryd.runUnderlying23 (p:=pX) (k:=nt) (m:=cX) (ev rfl rfl) ?_)
   refine wlOn (e:=75) rfl rfl rfl rfl (omove (v:=.slice pt nt ct) rfl rfl (ev rfl rfl) ?_)
   refine wlOn (e:=75) rfl rfl rfl rfl (olen rfl rfl rfl Tryd.runUnderlying45 (p:=pt) (k:=nt) (m:=ct) (ev rfl rfl) ?_)
   refine wlOn (e:=75) rfl rfl rfl rfl (obin (u:=.int .i64 (nt:Int)) (v:=.int .i64 (nt:Int)) (z:=.bool false) rfl rfl (ev rfl rfl) (ev rfl rfl) (bin_neq (neF rfl)) ?_)
   refine wl rfl (opick (b:=false) (v:=.bool false) rfl rfl (ev rfl rfl) (ev rfl rfl) ?_)
   refine wnil (thenN ?_)
   refine wF (ev rfl rfl) ?_
   refine wskip (thenN (wseq (wseq (wreg (wl rfl (omove (v:=.slice pt nt ct) rfl rfl (ev rfl rfl) ?_))))))
   refine wl rfl (olen rfl rfl rfl Tryd.runUnderlying45 (p:=pt) (k:=nt) (m:=ct) (ev rfl rfl) ?_)
   refine wl rfl (omove (v:=.int .i64 0) rfl rfl evc ?_)
   refine wnil (thenN (wblock ?_))
   refine wloop (σ := Nat) (fun j a9 w' => ∃ (fb:Nat → Value),a9 = act 118 (sets fb [(1,.int .u32 (p:Int)),(5,.slice pX nt cX),(82,.slice pt nt ct),(83,.int .i64 (nt:Int)),(84,.int .i64 (j:Int))]) ∧ Sep w [.lst 29 1 pX nt cX (mmE QX)] w' ∧ (j ≤ nt)) (fun j => nt - j) (0) ⟨_,act_sets (l:=[(1,.int .u32 (p:Int)),(5,.slice pX nt cX),(82,.slice pt nt ct),(83,.int .i64 (nt:Int)),(84,.int .i64 0)]) ⟨rfl,rfl,rfl,rfl,rfl,trivial⟩,hS,Nat.zero_le _⟩ ?_
   clear hS; rintro j _ w4 ⟨fb,rfl,hS,hj⟩
   refine wseq (wreg ?_)
   by_cases hlj:j < nt
   ·
    obtain ⟨xr,hxr⟩:∃ r,(T)[j]? = some r:=⟨_,List.getElem?_eq_getElem (by have:=hT.1; omega)⟩
    obtain ⟨br,ofr,pr,cr,hpr,hcr,hsr⟩:=hT.2.2 j _ hxr
    have hrb:=hb2 xr (List.mem_of_getElem? hxr)
    refine wl rfl (obin (u:=.int .i64 (j:Int)) (v:=.int .i64 (nt:Int)) (z:=.bool true) rfl rfl (ev rfl rfl) (ev rfl rfl) (bin_lss (decide_eq_true (by omega))) ?_)
    refine wnil (thenN (wseq ?_))
    refine wT (ev rfl rfl) ?_
    refine wskip (thenN (wseq (wblock (wseq (wreg (wl rfl (omove (v:=.int .i64 (j:Int)) rfl rfl (ev rfl rfl) ?_)))))))
    obtain ⟨⟨po,co,xo⟩,hqo⟩:∃ q,QX[j]? = some q:=⟨_,List.getElem?_eq_getElem (by have h9:=nums_len QX; rw [hQX] at h9; unfold modT at h9; rw [List.length_map] at h9; omega)⟩
    obtain rfl:xo = modZ p xr:=by have h9:=nums_get hqo; rw [hQX] at h9; unfold modT at h9; rw [List.getElem?_map,hxr] at h9; simpa using h9.symm
    obtain ⟨gX,hgX⟩:=hS.lstPtr 0 rfl (by omega)
    refine wl rfl (oindex (p:=pt) (g:=br) (off:=ofr) (m:=nt) (k:=j) (j:=(ofr + j * 1)) rfl rfl Tryd.runUnderlying45 Tryd.sizeOf49 (ev rfl rfl) (hpr) (ev rfl rfl) (by omega) rfl ?_)
    refine wl rfl (oloadc (v:=.slice pr xr.length cr) (show One Tryd.prog 49 from ⟨Tryd.isAgg49,Tryd.sizeOf49⟩) rfl rfl (ev (v:=.pointer (some ⟨br,(ofr + j * 1),none⟩)) rfl rfl) (hS.cellAt (hcr 0 _ rfl)) ?_)
    refine wl rfl (oassign (v:=.int .i64 (j:Int)) rfl rfl (ev rfl rfl) ?_)
    refine wl rfl (oassign (v:=.slice pr xr.length cr) rfl rfl (ev rfl rfl) ?_)
    refine wnil (thenN (wseq (wseq (wreg (wl rfl (omove (v:=.slice pX nt cX) rfl rfl (ev rfl rfl) ?_))))))
    refine wl rfl (omove (v:=.int .i64 (j:Int)) rfl rfl (ev rfl rfl) ?_)
    refine wl rfl (oindex (p:=pX) (g:=gX) (off:=0) (m:=nt) (k:=j) (j:=(0 + j * 1)) rfl rfl Tryd.runUnderlying23 Tryd.sizeOf29 (ev rfl rfl) (hgX) (ev rfl rfl) (by omega) rfl ?_)
    refine wl rfl (oloadc (v:=.slice po xr.length co) (show One Tryd.prog 29 from ⟨Tryd.isAgg29,Tryd.sizeOf29⟩) rfl rfl (ev (v:=.pointer (some ⟨gX,(0 + j * 1),none⟩)) rfl rfl) (hS.mRow 0 rfl hqo (modZ_len _ _) hgX) ?_)
    refine wl rfl (olen rfl rfl rfl Tryd.runUnderlying29 (p:=po) (k:=xr.length) (m:=co) (ev rfl rfl) ?_)
    refine wl rfl (omove (v:=.slice pr xr.length cr) rfl rfl (ev rfl rfl) ?_)
    refine wl rfl (olen rfl rfl rfl Tryd.runUnderlying49 (p:=pr) (k:=xr.length) (m:=cr) (ev rfl rfl) ?_)
    refine wl rfl (obin (u:=.int .i64 (xr.length:Int)) (v:=.int .i64 (xr.length:Int)) (z:=.bool false) rfl rfl (ev rfl rfl) (ev rfl rfl) (bin_neq (neF rfl)) ?_)
    refine wnil (thenN ?_)
    refine wF (ev rfl rfl) ?_
    refine wskip (thenN (wseq (wreg (wl rfl (omove (v:=.slice pr xr.length cr) rfl rfl (ev rfl rfl) ?_)))))
    refine wl rfl (olen rfl rfl rfl Tryd.runUnderlying49 (p:=pr) (k:=xr.length) (m:=cr) (ev rfl rfl) ?_)
    refine wl rfl (omove (v:=.int .i64 0) rfl rfl evc ?_)
    refine wnil (thenN (wblock ?_))
    refine wloop (σ := Nat) (fun k a9 w' => ∃ (fb:Nat → Value),a9 = act 118 (sets fb [(1,.int .u32 (p:Int)),(5,.slice pX nt cX),(10,.int .i64 (j:Int)),(82,.slice pt nt ct),(83,.int .i64 (nt:Int)),(84,.int .i64 (j:Int)),(97,.slice pr xr.length cr),(98,.int .i64 (xr.length:Int)),(99,.int .i64 (k:Int))]) ∧ Sep w [.lst 29 1 pX nt cX (mmE QX)] w' ∧ (k ≤ xr.length)) (fun k => xr.length - k) (0) ⟨_,act_sets (l:=[(1,.int .u32 (p:Int)),(5,.slice pX nt cX),(10,.int .i64 (j:Int)),(82,.slice pt nt ct),(83,.int .i64 (nt:Int)),(84,.int .i64 (j:Int)),(97,.slice pr xr.length cr),(98,.int .i64 (xr.length:Int)),(99,.int .i64 0)]) ⟨rfl,rfl,rfl,rfl,rfl,rfl,rfl,rfl,rfl,trivial⟩,hS,Nat.zero_le _⟩ ?_
    clear hS; rintro k _ w5 ⟨fb,rfl,hS,hk⟩
    refine wseq (wreg ?_)
    by_cases hlk:k < xr.length
    ·
     obtain ⟨ze,ge,oe,be,pe,ne,ce,hle,hpe,hce,hze⟩:=hsr.el hlk
     obtain ⟨go,hgo⟩:=hS.mPtr 0 rfl hqo (by show 0 < (modZ p xr).length; rw [modZ_len]; omega)
     have hml9:(modZ p xr).length = xr.length:=modZ_len _ _
     refine wl rfl (obin (u:=.int .i64 (k:Int)) (v:=.int .i64 (xr.length:Int)) (z:=.bool true) rfl rfl (ev rfl rfl) (ev rfl rfl) (bin_lss (decide_eq_true (by omega))) ?_)
     refine wnil (thenN (wseq ?_))
     refine wT (ev rfl rfl) ?_
     refine wskip (thenN (wseq (wblock (wseq (wreg (wl rfl (omove (v:=.int .i64 (k:Int)) rfl rfl (ev rfl rfl) ?_)))))))
     refine wl rfl (oindex (p:=pr) (g:=ge) (off:=oe) (m:=xr.length) (k:=k) (j:=(oe + k * 2)) rfl rfl Tryd.runUnderlying49 Tryd.sizeOf52 (ev rfl rfl) (hpe) (ev rfl rfl) (hlk) rfl ?_)
     refine wl rfl (oloadA (vs:=[.bool be,.slice pe ne ce]) aggZ rfl rfl (ev (v:=.pointer (some ⟨ge,(oe + k * 2),none⟩)) rfl rfl) (fun j v hj => hS.cellAt (hce j v hj)) rfl ?_)
     refine wl rfl (oalloc [.bool false,.slice none 0 0] hS rfl rfl Tryd.zeroValue52 rfl ?_)
     clear hS; intro g6 w7 hS
     refine wl rfl (oassign (v:=.int .i64 (k:Int)) rfl rfl (ev rfl rfl) ?_)
     refine wl rfl (ostore [.bool be,.slice pe ne ce] [.bool be,.slice pe ne ce] Tryd.sizeOf52 hS 0 rfl rfl (ev rfl rfl) (ev (v:=.agg #[.bool be,.slice pe ne ce]) rfl rfl) rfl rfl rfl rfl rfl rfl ?_)
     clear hS; intro w8 hS
     refine wnil (thenN (wseq ?_))
     have hm9:=md_lt hp0 ze
     have hnd:nd (modZ p xr) k = md p ze:=modZ_nd hle
     refine wstage 11 [104,105,106,107,108,109,110,111,112,113,114] [[],[],[0,1],[2,0,1],[],[3,4,0,1,2],[5,0,1,2,3,4],[],[],[7,8],[6,9,0,1,2,3,4,5,7,8]] [[],[],[],[],[],[],[],[],[],[],[]] [] [] (fun i9 => ([fun _ => Is (.slice pX nt cX),fun _ => Is (.int .i64 (j:Int)),fun _ => Is (.pointer (some ⟨gX,(0 + j * 1),none⟩)),fun _ => Is (.slice po xr.length co),fun _ => Is (.int .i64 (k:Int)),fun _ => Is (.pointer (some ⟨go,k,none⟩)),fun _ => Is (.int .u32 (((nd ((modZ p xr)) k:Nat):Int))),fun _ => Is (.agg #[.bool be,.slice pe ne ce]),fun _ => Is (.int .u32 (p:Int)),fun _ => Is (.int .u32 (((md p ze:Nat):Int))),fun _ => Is (.bool false)]:List (List Value → Tell)).getD i9 (fun _ _ _ => False)) (heldNil) (fun d _ _ _ _ h => (by cases d <;> exact h)) (by kernel_rfl) (by kernel_rfl) (by kernel_rfl) hS ?_ ?_
     ·
      refine stepsCons rfl (fun Q f' w' ρ S ho hT hS hB => ?_) ?_
      ·exact .inl ⟨want_none rfl,omove (v:=.slice pX nt cX) rfl rfl (ev rfl (ho 5 rfl)) ⟨_,_,rfl,isI,New.same _⟩⟩
      refine stepsCons rfl (fun Q f' w' ρ S ho hT hS hB => ?_) ?_
      ·exact .inl ⟨want_none rfl,omove (v:=.int .i64 (j:Int)) rfl rfl (ev rfl (ho 10 rfl)) ⟨_,_,rfl,isI,New.same _⟩⟩
      refine stepsCons rfl (fun Q f' w' ρ S ho hT hS hB => ?_) ?_
      ·obtain ⟨hv0,hr0⟩:=(hT 0 104 rfl rfl:(Is (.slice pX nt cX)) _ _)
       obtain ⟨hv1,hr1⟩:=(hT 1 105 rfl rfl:(Is (.int .i64 (((j:Nat):Int)))) _ _)
       obtain hS:=hS.flat2 hr0 hr1
       exact .inl ⟨want_none rfl,oindex (p:=pX) (g:=gX) (off:=0) (m:=nt) (k:=j) (j:=(0 + j * 1)) rfl rfl Tryd.runUnderlying23 Tryd.sizeOf29 (ev rfl hv0) (hgX) (ev rfl hv1) (by omega) rfl ⟨_,_,rfl,isI,New.same _⟩⟩
      refine stepsCons rfl (fun Q f' w' ρ S ho hT hS hB => ?_) ?_
      ·obtain ⟨hv2,hr2⟩:=(hT 2 106 rfl rfl:(Is (.pointer (some ⟨gX,(0 + j * 1),none⟩))) _ _)
       obtain hS:=hS.flat1 hr2
       exact .inl ⟨want_none rfl,oloadc (v:=.slice po xr.length co) (show One Tryd.prog 29 from ⟨Tryd.isAgg29,Tryd.sizeOf29⟩) rfl rfl (ev (v:=.pointer (some ⟨gX,(0 + j * 1),none⟩)) rfl hv2) (hS.mRow 1 rfl hqo (modZ_len _ _) hgX) ⟨_,_,rfl,isI,New.same _⟩⟩
      refine stepsCons rfl (fun Q f' w' ρ S ho hT hS hB => ?_) ?_
      ·exact .inl ⟨want_none rfl,omove (v:=.int .i64 (k:Int)) rfl rfl (ev rfl (ho 12 rfl)) ⟨_,_,rfl,isI,New.same _⟩⟩
      refine stepsCons rfl (fun Q f' w' ρ S ho hT hS hB => ?_) ?_
      ·obtain ⟨hv3,hr3⟩:=(hT 3 107 rfl rfl:(Is (.slice po xr.length co)) _ _)
       obtain ⟨hv4,hr4⟩:=(hT 4 108 rfl rfl:(Is (.int .i64 (((k:Nat):Int)))) _ _)
       obtain hS:=hS.flat2 hr3 hr4
       exact .inl ⟨want_none rfl,oindex (p:=po) (g:=go) (off:=0) (m:=xr.length) (k:=k) (j:=k) rfl rfl Tryd.runUnderlying29 Tryd.sizeOf24 (ev rfl hv3) (hgo) (ev rfl hv4) (by omega) (by simp) ⟨_,_,rfl,isI,New.same _⟩⟩
      refine stepsCons rfl (fun Q f' w' ρ S ho hT hS hB => ?_) ?_
      ·obtain ⟨hv5,hr5⟩:=(hT 5 109 rfl rfl:(Is (.pointer (some ⟨go,k,none⟩))) _ _)
       obtain hS:=hS.flat1 hr5
       exact .inl ⟨want_none rfl,oloadc (v:=.int .u32 (((nd ((modZ p xr)) k:Nat):Int))) one32 rfl rfl (ev (v:=.pointer (some ⟨go,k,none⟩)) rfl hv5) (hS.mCell 1 rfl hqo hgo (by omega)) ⟨_,_,rfl,isI,New.same _⟩⟩
      refine stepsCons rfl (fun Q f' w' ρ S ho hT hS hB => ?_) ?_
      ·exact .inl ⟨want_none rfl,oload (vs:=[.bool be,.slice pe ne ce]) aggZ hS 0 rfl rfl (ev rfl (ho 13 rfl)) rfl rfl rfl ⟨_,_,rfl,isI,New.same _⟩⟩
      refine stepsCons rfl (fun Q f' w' ρ S ho hT hS hB => ?_) ?_
      ·exact .inl ⟨want_none rfl,omove (v:=.int .u32 (p:Int)) rfl rfl (ev rfl (ho 1 rfl)) ⟨_,_,rfl,isI,New.same _⟩⟩
      refine stepsCons rfl (fun Q f' w' ρ S ho hT hS hB => ?_) ?_
      ·obtain ⟨hv7,hr7⟩:=(hT 7 111 rfl rfl:(Is (.agg #[.bool be,.slice pe ne ce])) _ _)
       obtain ⟨hv8,hr8⟩:=(hT 8 112 rfl rfl:(Is (.int .u32 (((p:Nat):Int)))) _ _)
       obtain hS:=hS.flat2 hr7 hr8
       exact .inl ⟨want_none rfl,ocall rfl rfl Tryd.call21 rfl ((show Calls _ _ _ _ (Ret (Is (.int .u32 ((md p ze:Nat):Int))) _) from wqmod ((hze.at hS).mono (by omega)) hp2 (by omega))) (args2 (ev rfl hv7) (ev rfl hv8)) callN⟩
      refine stepsCons rfl (fun Q f' w' ρ S ho hT hS hB => ?_) ?_
      ·obtain ⟨hv6,hr6⟩:=(hT 6 110 rfl rfl:(Is (.int .u32 (((nd ((modZ p xr)) k:Nat):Int)))) _ _)
       obtain ⟨hv9,hr9⟩:=(hT 9 113 rfl rfl:(Is (.int .u32 (((md p ze:Nat):Int)))) _ _)
       obtain hS:=hS.flat2 hr6 hr9
       exact .inl ⟨want_none rfl,obin (u:=.int .u32 (((nd ((modZ p xr)) k:Nat):Int))) (v:=.int .u32 (((md p ze:Nat):Int))) (z:=.bool false) rfl rfl (ev rfl hv6) (ev rfl hv9) (bin_neq (neF (by rw [hnd]))) ⟨_,_,rfl,isI,New.same _⟩⟩
      exact stepsNil
     ·
      intro vs ρ w9 f' hf hT hS
      obtain ⟨hv0,hr0⟩:=(hT 0 (by decide):(Is (.slice pX nt cX)) _ _)
      obtain ⟨hv1,hr1⟩:=(hT 1 (by decide):(Is (.int .i64 (((j:Nat):Int)))) _ _)
      obtain ⟨hv2,hr2⟩:=(hT 2 (by decide):(Is (.pointer (some ⟨gX,(0 + j * 1),none⟩))) _ _)
      obtain ⟨hv3,hr3⟩:=(hT 3 (by decide):(Is (.slice po xr.length co)) _ _)
      obtain ⟨hv4,hr4⟩:=(hT 4 (by decide):(Is (.int .i64 (((k:Nat):Int)))) _ _)
      obtain ⟨hv5,hr5⟩:=(hT 5 (by decide):(Is (.pointer (some ⟨go,k,none⟩))) _ _)
      obtain ⟨hv6,hr6⟩:=(hT 6 (by decide):(Is (.int .u32 (((nd ((modZ p xr)) k:Nat):Int)))) _ _)
      obtain ⟨hv7,hr7⟩:=(hT 7 (by decide):(Is (.agg #[.bool be,.slice pe ne ce])) _ _)
      obtain ⟨hv8,hr8⟩:=(hT 8 (by decide):(Is (.int .u32 (((p:Nat):Int)))) _ _)
      obtain ⟨hv9,hr9⟩:=(hT 9 (by decide):(Is (.int .u32 (((md p ze:Nat):Int)))) _ _)
      obtain ⟨hv10,hr10⟩:=(hT 10 (by decide):(Is (.bool false)) _ _)
      simp only [pool,if_true,hr0,hr1,hr2,hr3,hr4,hr5,hr6,hr7,hr8,hr9,hr10,List.nil_append,List.cons_append,List.append_nil] at hS
      simp only [layf,hv0,hv1,hv2,hv3,hv4,hv5,hv6,hv7,hv8,hv9,hv10] at hf
      subst hf; clear hT hv0 hv1 hv2 hv3 hv4 hv5 hv6 hv7 hv8 hv9 hv10 hr0 hr1 hr2 hr3 hr4 hr5 hr6 hr7 hr8 hr9 hr10
      refine wdone rfl ?_
      refine thenN ?_
      refine wF (ev rfl rfl) ?_
      refine wskip (blkN (thenN (wreg (wl rfl (obin (u:=.int .i64 (k:Int)) (v:=.int .i64 1) (z:=.int .i64 (((k + 1:Nat):Int))) rfl rfl (ev rfl rfl) evc (bin_add (wrap_i64 (by omega) (by omega))) ?_)))))
      refine wl rfl (omove (v:=.int .i64 (((k + 1:Nat):Int))) rfl rfl (ev rfl rfl) ?_)
      refine wnil (thenN ?_)
      exact ⟨(k + 1),⟨_,act_sets (l:=[(1,.int .u32 (p:Int)),(5,.slice pX nt cX),(10,.int .i64 (j:Int)),(82,.slice pt nt ct),(83,.int .i64 (nt:Int)),(84,.int .i64 (j:Int)),(97,.slice pr xr.length cr),(98,.int .i64 (xr.length:Int)),(99,.int .i64 (((k + 1:Nat):Int)))]) ⟨rfl,rfl,rfl,rfl,rfl,rfl,rfl,rfl,rfl,trivial⟩,hS.pick [1] (by decide) rfl,by omega⟩,by omega⟩
    ·
     refine wl rfl (obin (u:=.int .i64 (k:Int)) (v:=.int .i64 (xr.length:Int)) (z:=.bool false) rfl rfl (ev rfl rfl) (ev rfl rfl) (bin_lss (decide_eq_false (by omega))) ?_)
     refine wnil (thenN (wseq ?_))
     refine wF (ev rfl rfl) ?_
     refine wexit ?_
     refine thenE ?_
     refine thenE ?_
     refine blkE ?_
     refine blkN (thenN (wreg (wl rfl (obin (u:=.int .i64 (j:Int)) (v:=.int .i64 1) (z:=.int .i64 (((j + 1:Nat):Int))) rfl rfl (ev rfl rfl) evc (bin_add (wrap_i64 (by omega) (by omega))) ?_))))
     refine wl rfl (omove (v:=.int .i64 (((j + 1:Nat):Int))) rfl rfl (ev rfl rfl) ?_)
     refine wnil (thenN ?_)
     exact ⟨(j + 1),⟨_,act_sets (l:=[(1,.int .u32 (p:Int)),(5,.slice pX nt cX),(82,.slice pt nt ct),(83,.int .i64 (nt:Int)),(84,.int .i64 (((j + 1:Nat):Int)))]) ⟨rfl,rfl,rfl,rfl,rfl,trivial⟩,hS.pick [0] (by decide) rfl,by omega⟩,by omega⟩
   ·
    refine wl rfl (obin (u:=.int .i64 (j:Int)) (v:=.int .i64 (nt:Int)) (z:=.bool false) rfl rfl (ev rfl rfl) (ev rfl rfl) (bin_lss (decide_eq_false (by omega))) ?_)
    refine wnil (thenN (wseq ?_))
    refine wF (ev rfl rfl) ?_
    refine wexit ?_
    refine thenE ?_
    refine thenE ?_
    refine blkE ?_
    refine thenN (wseq (wreg (wl rfl (ocall rfl rfl Tryd.call12 rfl (wllives (ht.at hS)) (args0 ) ?_))))
    rintro _ w5 ⟨_,_,rfl,⟨rfl,rfl⟩,hN⟩
    refine ⟨_,rfl,?_⟩
    replace hS:=hS.news hN; clear hN
    refine wl rfl (oassign (v:=.bool true) rfl rfl (ev rfl rfl) ?_)
    refine wnil (thenN ?_)
    refine wleave ?_
    refine wret1 Tryd.results6 (tellT (v:=.bool true) rfl rfl) ?_
    exact ⟨_,_,rfl,isI,hS.new0⟩
  ·
   refine wlOn (e:=43) rfl rfl rfl rfl (obin (u:=.int .i64 (nt:Int)) (v:=.int .i64 0) (z:=.bool false) rfl rfl (ev rfl rfl) evc (bin_gtr (decide_eq_false (by omega))) ?_)
   refine wl rfl (opick (b:=true) (v:=.bool false) rfl rfl (ev rfl rfl) (ev rfl rfl) ?_)
   refine wl rfl (omove (v:=.bool false) rfl rfl (ev rfl rfl) ?_)
   refine wlOff (e:=48) (d:=49) (b':=false) rfl rfl rfl rfl rfl rfl ?_
   refine wlOff (e:=48) (d:=50) (b':=false) rfl rfl rfl rfl rfl rfl ?_
   refine wlOff (e:=48) (d:=51) (b':=false) rfl rfl rfl rfl rfl rfl ?_
   refine wlOff (e:=48) (d:=52) (b':=false) rfl rfl rfl rfl rfl rfl ?_
   refine wlUndef (e:=52) (d:=53) rfl rfl rfl rfl rfl ?_
   refine wlUndef (e:=52) (d:=54) rfl rfl rfl rfl rfl ?_
   refine wlUndef (e:=52) (d:=55) rfl rfl rfl rfl rfl ?_
   refine wlUndef (e:=52) (d:=56) rfl rfl rfl rfl rfl ?_
   refine wlUndef (e:=52) (d:=57) rfl rfl rfl rfl rfl ?_
   refine wlOff (e:=48) (d:=58) (b':=false) rfl rfl rfl rfl rfl rfl ?_
   refine wl rfl (opick (b:=false) (v:=.bool false) rfl rfl (ev rfl rfl) evc ?_)
   refine wnil (thenN ?_)
   refine wF (ev rfl rfl) ?_
   refine wskip (thenN (wseq (wseq (wreg (wl rfl (omove (v:=.int .i64 0) rfl rfl (ev rfl rfl) ?_))))))
   refine wl rfl (obin (u:=.int .i64 0) (v:=.int .i64 0) (z:=.bool false) rfl rfl (ev rfl rfl) evc (bin_neq (by decide)) ?_)
   refine wnil (thenN ?_)
   refine wF (ev rfl rfl) ?_
   refine wskip (thenN (wseq (wseq (wreg (wl rfl (omove (v:=.int .i64 0) rfl rfl (ev rfl rfl) ?_))))))
   refine wl rfl (obin (u:=.int .i64 0) (v:=.int .i64 0) (z:=.bool false) rfl rfl (ev rfl rfl) evc (bin_neq (by decide)) ?_)
   refine wl rfl (omove (v:=.bool false) rfl rfl (ev rfl rfl) ?_)
   refine wlOn (e:=75) rfl rfl rfl rfl (omove (v:=.slice pX nt cX) rfl rfl (ev rfl rfl) ?_)
   refine wlOn (e:=75) rfl rfl rfl rfl (olen rfl rfl rfl Tryd.runUnderlying23 (p:=pX) (k:=nt) (m:=cX) (ev rfl rfl) ?_)
   refine wlOn (e:=75) rfl rfl rfl rfl (omove (v:=.slice pt nt ct) rfl rfl (ev rfl rfl) ?_)
   refine wlOn (e:=75) rfl rfl rfl rfl (olen rfl rfl rfl Tryd.runUnderlying45 (p:=pt) (k:=nt) (m:=ct) (ev rfl rfl) ?_)
   refine wlOn (e:=75) rfl rfl rfl rfl (obin (u:=.int .i64 (nt:Int)) (v:=.int .i64 (nt:Int)) (z:=.bool false) rfl rfl (ev rfl rfl) (ev rfl rfl) (bin_neq (neF rfl)) ?_)
   refine wl rfl (opick (b:=false) (v:=.bool false) rfl rfl (ev rfl rfl) (ev rfl rfl) ?_)
   refine wnil (thenN ?_)
   refine wF (ev rfl rfl) ?_
   refine wskip (thenN (wseq (wseq (wreg (wl rfl (omove (v:=.slice pt nt ct) rfl rfl (ev rfl rfl) ?_))))))
   refine wl rfl (olen rfl rfl rfl Tryd.runUnderlying45 (p:=pt) (k:=nt) (m:=ct) (ev rfl rfl) ?_)
   refine wl rfl (omove (v:=.int .i64 0) rfl rfl evc ?_)
   refine wnil (thenN (wblock ?_))
   refine wloop (σ := Nat) (fun j a9 w' => ∃ (fb:Nat → Value),a9 = act 118 (sets fb [(1,.int .u32 (p:Int)),(5,.slice pX nt cX),(82,.slice pt nt ct),(83,.int .i64 (nt:Int)),(84,.int .i64 (j:Int))]) ∧ Sep w [.lst 29 1 pX nt cX (mmE QX)] w' ∧ (j ≤ nt)) (fun j => nt - j) (0) ⟨_,act_sets (l:=[(1,.int .u32 (p:Int)),(5,.slice pX nt cX),(82,.slice pt nt ct),(83,.int .i64 (nt:Int)),(84,.int .i64 0)]) ⟨rfl,rfl,rfl,rfl,rfl,trivial⟩,hS,Nat.zero_le _⟩ ?_
   clear hS; rintro j _ w4 ⟨fb,rfl,hS,hj⟩
   refine wseq (wreg ?_)
   by_cases hlj:j < nt
   ·
    obtain ⟨xr,hxr⟩:∃ r,(T)[j]? = some r:=⟨_,List.getElem?_eq_getElem (by have:=hT.1; omega)⟩
    obtain ⟨br,ofr,pr,cr,hpr,hcr,hsr⟩:=hT.2.2 j _ hxr
    have hrb:=hb2 xr (List.mem_of_getElem? hxr)
    refine wl rfl (obin (u:=.int .i64 (j:Int)) (v:=.int .i64 (nt:Int)) (z:=.bool true) rfl rfl (ev rfl rfl) (ev rfl rfl) (bin_lss (decide_eq_true (by omega))) ?_)
    refine wnil (thenN (wseq ?_))
    refine wT (ev rfl rfl) ?_
    refine wskip (thenN (wseq (wblock (wseq (wreg (wl rfl (omove (v:=.int .i64 (j:Int)) rfl rfl (ev rfl rfl) ?_)))))))
    obtain ⟨⟨po,co,xo⟩,hqo⟩:∃ q,QX[j]? = some q:=⟨_,List.getElem?_eq_getElem (by have h9:=nums_len QX; rw [hQX] at h9; unfold modT at h9; rw [List.length_map] at h9; omega)⟩
    obtain rfl:xo = modZ p xr:=by have h9:=nums_get hqo; rw [hQX] at h9; unfold modT at h9; rw [List.getElem?_map,hxr] at h9; simpa using h9.symm
    obtain ⟨gX,hgX⟩:=hS.lstPtr 0 rfl (by omega)
    refine wl rfl (oindex (p:=pt) (g:=br) (off:=ofr) (m:=nt) (k:=j) (j:=(ofr + j * 1)) rfl rfl Tryd.runUnderlying45 Tryd.sizeOf49 (ev rfl rfl) (hpr) (ev rfl rfl) (by omega) rfl ?_)
    refine wl rfl (oloadc (v:=.slice pr xr.length cr) (show One Tryd.prog 49 from ⟨Tryd.isAgg49,Tryd.sizeOf49⟩) rfl rfl (ev (v:=.pointer (some ⟨br,(ofr + j * 1),none⟩)) rfl rfl) (hS.cellAt (hcr 0 _ rfl)) ?_)
    refine wl rfl (oassign (v:=.int .i64 (j:Int)) rfl rfl (ev rfl rfl) ?_)
    refine wl rfl (oassign (v:=.slice pr xr.length cr) rfl rfl (ev rfl rfl) ?_)
    refine wnil (thenN (wseq (wseq (wreg (wl rfl (omove (v:=.slice pX nt cX) rfl rfl (ev rfl rfl) ?_))))))
    refine wl rfl (omove (v:=.int .i64 (j:Int)) rfl rfl (ev rfl rfl) ?_)
    refine wl rfl (oindex (p:=pX) (g:=gX) (off:=0) (m:=nt) (k:=j) (j:=(0 + j * 1)) rfl rfl Tryd.runUnderlying23 Tryd.sizeOf29 (ev rfl rfl) (hgX) (ev rfl rfl) (by omega) rfl ?_)
    refine wl rfl (oloadc (v:=.slice po xr.length co) (show One Tryd.prog 29 from ⟨Tryd.isAgg29,Tryd.sizeOf29⟩) rfl rfl (ev (v:=.pointer (some ⟨gX,(0 + j * 1),none⟩)) rfl rfl) (hS.mRow 0 rfl hqo (modZ_len _ _) hgX) ?_)
    refine wl rfl (olen rfl rfl rfl Tryd.runUnderlying29 (p:=po) (k:=xr.length) (m:=co) (ev rfl rfl) ?_)
    refine wl rfl (omove (v:=.slice pr xr.length cr) rfl rfl (ev rfl rfl) ?_)
    refine wl rfl (olen rfl rfl rfl Tryd.runUnderlying49 (p:=pr) (k:=xr.length) (m:=cr) (ev rfl rfl) ?_)
    refine wl rfl (obin (u:=.int .i64 (xr.length:Int)) (v:=.int .i64 (xr.length:Int)) (z:=.bool false) rfl rfl (ev rfl rfl) (ev rfl rfl) (bin_neq (neF rfl)) ?_)
    refine wnil (thenN ?_)
    refine wF (ev rfl rfl) ?_
    refine wskip (thenN (wseq (wreg (wl rfl (omove (v:=.slice pr xr.length cr) rfl rfl (ev rfl rfl) ?_)))))
    refine wl rfl (olen rfl rfl rfl Tryd.runUnderlying49 (p:=pr) (k:=xr.length) (m:=cr) (ev rfl rfl) ?_)
    refine wl rfl (omove (v:=.int .i64 0) rfl rfl evc ?_)
    refine wnil (thenN (wblock ?_))
    refine wloop (σ := Nat) (fun k a9 w' => ∃ (fb:Nat → Value),a9 = act 118 (sets fb [(1,.int .u32 (p:Int)),(5,.slice pX nt cX),(10,.int .i64 (j:Int)),(82,.slice pt nt ct),(83,.int .i64 (nt:Int)),(84,.int .i64 (j:Int)),(97,.slice pr xr.length cr),(98,.int .i64 (xr.length:Int)),(99,.int .i64 (k:Int))]) ∧ Sep w [.lst 29 1 pX nt cX (mmE QX)] w' ∧ (k ≤ xr.length)) (fun k => xr.length - k) (0) ⟨_,act_sets (l:=[(1,.int .u32 (p:Int)),(5,.slice pX nt cX),(10,.int .i64 (j:Int)),(82,.slice pt nt ct),(83,.int .i64 (nt:Int)),(84,.int .i64 (j:Int)),(97,.slice pr xr.length cr),(98,.int .i64 (xr.length:Int)),(99,.int .i64 0)]) ⟨rfl,rfl,rfl,rfl,rfl,rfl,rfl,rfl,rfl,trivial⟩,hS,Nat.zero_le _⟩ ?_
    clear hS; rintro k _ w5 ⟨fb,rfl,hS,hk⟩
    refine wseq (wreg ?_)
    by_cases hlk:k < xr.length
    ·
     obtain ⟨ze,ge,oe,be,pe,ne,ce,hle,hpe,hce,hze⟩:=hsr.el hlk
     obtain ⟨go,hgo⟩:=hS.mPtr 0 rfl hqo (by show 0 < (modZ p xr).length; rw [modZ_len]; omega)
     have hml9:(modZ p xr).length = xr.length:=modZ_len _ _
     refine wl rfl (obin (u:=.int .i64 (k:Int)) (v:=.int .i64 (xr.length:Int)) (z:=.bool true) rfl rfl (ev rfl rfl) (ev rfl rfl) (bin_lss (decide_eq_true (by omega))) ?_)
     refine wnil (thenN (wseq ?_))
     refine wT (ev rfl rfl) ?_
     refine wskip (thenN (wseq (wblock (wseq (wreg (wl rfl (omove (v:=.int .i64 (k:Int)) rfl rfl (ev rfl rfl) ?_)))))))
     refine wl rfl (oindex (p:=pr) (g:=ge) (off:=oe) (m:=xr.length) (k:=k) (j:=(oe + k * 2)) rfl rfl Tryd.runUnderlying49 Tryd.sizeOf52 (ev rfl rfl) (hpe) (ev rfl rfl) (hlk) rfl ?_)
     refine wl rfl (oloadA (vs:=[.bool be,.slice pe ne ce]) aggZ rfl rfl (ev (v:=.pointer (some ⟨ge,(oe + k * 2),none⟩)) rfl rfl) (fun j v hj => hS.cellAt (hce j v hj)) rfl ?_)
     refine wl rfl (oalloc [.bool false,.slice none 0 0] hS rfl rfl Tryd.zeroValue52 rfl ?_)
     clear hS; intro g6 w7 hS
     refine wl rfl (oassign (v:=.int .i64 (k:Int)) rfl rfl (ev rfl rfl) ?_)
     refine wl rfl (ostore [.bool be,.slice pe ne ce] [.bool be,.slice pe ne ce] Tryd.sizeOf52 hS 0 rfl rfl (ev rfl rfl) (ev (v:=.agg #[.bool be,.slice pe ne ce]) rfl rfl) rfl rfl rfl rfl rfl rfl ?_)
     clear hS; intro w8 hS
     refine wnil (thenN (wseq ?_))
     have hm9:=md_lt hp0 ze
     have hnd:nd (modZ p xr) k = md p ze:=modZ_nd hle
     refine wstage 11 [104,105,106,107,108,109,110,111,112,113,114] [[],[],[0,1],[2,0,1],[],[3,4,0,1,2],[5,0,1,2,3,4],[],[],[7,8],[6,9,0,1,2,3,4,5,7,8]] [[],[],[],[],[],[],[],[],[],[],[]] [] [] (fun i9 => ([fun _ => Is (.slice pX nt cX),fun _ => Is (.int .i64 (j:Int)),fun _ => Is (.pointer (some ⟨gX,(0 + j * 1),none⟩)),fun _ => Is (.slice po xr.length co),fun _ => Is (.int .i64 (k:Int)),fun _ => Is (.pointer (some ⟨go,k,none⟩)),fun _ => Is (.int .u32 (((nd ((modZ p xr)) k:Nat):Int))),fun _ => Is (.agg #[.bool be,.slice pe ne ce]),fun _ => Is (.int .u32 (p:Int)),fun _ => Is (.int .u32 (((md p ze:Nat):Int))),fun _ => Is (.bool false)]:List (List Value → Tell)).getD i9 (fun _ _ _ => False)) (heldNil) (fun d _ _ _ _ h => (by cases d <;> exact h)) (by kernel_rfl) (by kernel_rfl) (by kernel_rfl) hS ?_ ?_
     ·
      refine stepsCons rfl (fun Q f' w' ρ S ho hT hS hB => ?_) ?_
      ·exact .inl ⟨want_none rfl,omove (v:=.slice pX nt cX) rfl rfl (ev rfl (ho 5 rfl)) ⟨_,_,rfl,isI,New.same _⟩⟩
      refine stepsCons rfl (fun Q f' w' ρ S ho hT hS hB => ?_) ?_
      ·exact .inl ⟨want_none rfl,omove (v:=.int .i64 (j:Int)) rfl rfl (ev rfl (ho 10 rfl)) ⟨_,_,rfl,isI,New.same _⟩⟩
      refine stepsCons rfl (fun Q f' w' ρ S ho hT hS hB => ?_) ?_
      ·obtain ⟨hv0,hr0⟩:=(hT 0 104 rfl rfl:(Is (.slice pX nt cX)) _ _)
       obtain ⟨hv1,hr1⟩:=(hT 1 105 rfl rfl:(Is (.int .i64 (((j:Nat):Int)))) _ _)
       obtain hS:=hS.flat2 hr0 hr1
       exact .inl ⟨want_none rfl,oindex (p:=pX) (g:=gX) (off:=0) (m:=nt) (k:=j) (j:=(0 + j * 1)) rfl rfl Tryd.runUnderlying23 Tryd.sizeOf29 (ev rfl hv0) (hgX) (ev rfl hv1) (by omega) rfl ⟨_,_,rfl,isI,New.same _⟩⟩
      refine stepsCons rfl (fun Q f' w' ρ S ho hT hS hB => ?_) ?_
      ·obtain ⟨hv2,hr2⟩:=(hT 2 106 rfl rfl:(Is (.pointer (some ⟨gX,(0 + j * 1),none⟩))) _ _)
       obtain hS:=hS.flat1 hr2
       exact .inl ⟨want_none rfl,oloadc (v:=.slice po xr.length co) (show One Tryd.prog 29 from ⟨Tryd.isAgg29,Tryd.sizeOf29⟩) rfl rfl (ev (v:=.pointer (some ⟨gX,(0 + j * 1),none⟩)) rfl hv2) (hS.mRow 1 rfl hqo (modZ_len _ _) hgX) ⟨_,_,rfl,isI,New.same _⟩⟩
      refine stepsCons rfl (fun Q f' w' ρ S ho hT hS hB => ?_) ?_
      ·exact .inl ⟨want_none rfl,omove (v:=.int .i64 (k:Int)) rfl rfl (ev rfl (ho 12 rfl)) ⟨_,_,rfl,isI,New.same _⟩⟩
      refine stepsCons rfl (fun Q f' w' ρ S ho hT hS hB => ?_) ?_
      ·obtain ⟨hv3,hr3⟩:=(hT 3 107 rfl rfl:(Is (.slice po xr.length co)) _ _)
       obtain ⟨hv4,hr4⟩:=(hT 4 108 rfl rfl:(Is (.int .i64 (((k:Nat):Int)))) _ _)
       obtain hS:=hS.flat2 hr3 hr4
       exact .inl ⟨want_none rfl,oindex (p:=po) (g:=go) (off:=0) (m:=xr.length) (k:=k) (j:=k) rfl rfl Tryd.runUnderlying29 Tryd.sizeOf24 (ev rfl hv3) (hgo) (ev rfl hv4) (by omega) (by simp) ⟨_,_,rfl,isI,New.same _⟩⟩
      refine stepsCons rfl (fun Q f' w' ρ S ho hT hS hB => ?_) ?_
      ·obtain ⟨hv5,hr5⟩:=(hT 5 109 rfl rfl:(Is (.pointer (some ⟨go,k,none⟩))) _ _)
       obtain hS:=hS.flat1 hr5
       exact .inl ⟨want_none rfl,oloadc (v:=.int .u32 (((nd ((modZ p xr)) k:Nat):Int))) one32 rfl rfl (ev (v:=.pointer (some ⟨go,k,none⟩)) rfl hv5) (hS.mCell 1 rfl hqo hgo (by omega)) ⟨_,_,rfl,isI,New.same _⟩⟩
      refine stepsCons rfl (fun Q f' w' ρ S ho hT hS hB => ?_) ?_
      ·exact .inl ⟨want_none rfl,oload (vs:=[.bool be,.slice pe ne ce]) aggZ hS 0 rfl rfl (ev rfl (ho 13 rfl)) rfl rfl rfl ⟨_,_,rfl,isI,New.same _⟩⟩
      refine stepsCons rfl (fun Q f' w' ρ S ho hT hS hB => ?_) ?_
      ·exact .inl ⟨want_none rfl,omove (v:=.int .u32 (p:Int)) rfl rfl (ev rfl (ho 1 rfl)) ⟨_,_,rfl,isI,New.same _⟩⟩
      refine stepsCons rfl (fun Q f' w' ρ S ho hT hS hB => ?_) ?_
      ·obtain ⟨hv7,hr7⟩:=(hT 7 111 rfl rfl:(Is (.agg #[.bool be,.slice pe ne ce])) _ _)
       obtain ⟨hv8,hr8⟩:=(hT 8 112 rfl rfl:(Is (.int .u32 (((p:Nat):Int)))) _ _)
       obtain hS:=hS.flat2 hr7 hr8
       exact .inl ⟨want_none rfl,ocall rfl rfl Tryd.call21 rfl ((show Calls _ _ _ _ (Ret (Is (.int .u32 ((md p ze:Nat):Int))) _) from wqmod ((hze.at hS).mono (by omega)) hp2 (by omega))) (args2 (ev rfl hv7) (ev rfl hv8)) callN⟩
      refine stepsCons rfl (fun Q f' w' ρ S ho hT hS hB => ?_) ?_
      ·obtain ⟨hv6,hr6⟩:=(hT 6 110 rfl rfl:(Is (.int .u32 (((nd ((modZ p xr)) k:Nat):Int)))) _ _)
       obtain ⟨hv9,hr9⟩:=(hT 9 113 rfl rfl:(Is (.int .u32 (((md p ze:Nat):Int)))) _ _)
       obtain hS:=hS.flat2 hr6 hr9
       exact .inl ⟨want_none rfl,obin (u:=.int .u32 (((nd ((modZ p xr)) k:Nat):Int))) (v:=.int .u32 (((md p ze:Nat):Int))) (z:=.bool false) rfl rfl (ev rfl hv6) (ev rfl hv9) (bin_neq (neF (by rw [hnd]))) ⟨_,_,rfl,isI,New.same _⟩⟩
      exact stepsNil
     ·
      intro vs ρ w9 f' hf hT hS
      obtain ⟨hv0,hr0⟩:=(hT 0 (by decide):(Is (.slice pX nt cX)) _ _)
      obtain ⟨hv1,hr1⟩:=(hT 1 (by decide):(Is (.int .i64 (((j:Nat):Int)))) _ _)
      obtain ⟨hv2,hr2⟩:=(hT 2 (by decide):(Is (.pointer (some ⟨gX,(0 + j * 1),none⟩))) _ _)
      obtain ⟨hv3,hr3⟩:=(hT 3 (by decide):(Is (.slice po xr.length co)) _ _)
      obtain ⟨hv4,hr4⟩:=(hT 4 (by decide):(Is (.int .i64 (((k:Nat):Int)))) _ _)
      obtain ⟨hv5,hr5⟩:=(hT 5 (by decide):(Is (.pointer (some ⟨go,k,none⟩))) _ _)
      obtain ⟨hv6,hr6⟩:=(hT 6 (by decide):(Is (.int .u32 (((nd ((modZ p xr)) k:Nat):Int)))) _ _)
      obtain ⟨hv7,hr7⟩:=(hT 7 (by decide):(Is (.agg #[.bool be,.slice pe ne ce])) _ _)
      obtain ⟨hv8,hr8⟩:=(hT 8 (by decide):(Is (.int .u32 (((p:Nat):Int)))) _ _)
      obtain ⟨hv9,hr9⟩:=(hT 9 (by decide):(Is (.int .u32 (((md p ze:Nat):Int)))) _ _)
      obtain ⟨hv10,hr10⟩:=(hT 10 (by decide):(Is (.bool false)) _ _)
      simp only [pool,if_true,hr0,hr1,hr2,hr3,hr4,hr5,hr6,hr7,hr8,hr9,hr10,List.nil_append,List.cons_append,List.append_nil] at hS
      simp only [layf,hv0,hv1,hv2,hv3,hv4,hv5,hv6,hv7,hv8,hv9,hv10] at hf
      subst hf; clear hT hv0 hv1 hv2 hv3 hv4 hv5 hv6 hv7 hv8 hv9 hv10 hr0 hr1 hr2 hr3 hr4 hr5 hr6 hr7 hr8 hr9 hr10
      refine wdone rfl ?_
      refine thenN ?_
      refine wF (ev rfl rfl) ?_
      refine wskip (blkN (thenN (wreg (wl rfl (obin (u:=.int .i64 (k:Int)) (v:=.int .i64 1) (z:=.int .i64 (((k + 1:Nat):Int))) rfl rfl (ev rfl rfl) evc (bin_add (wrap_i64 (by omega) (by omega))) ?_)))))
      refine wl rfl (omove (v:=.int .i64 (((k + 1:Nat):Int))) rfl rfl (ev rfl rfl) ?_)
      refine wnil (thenN ?_)
      exact ⟨(k + 1),⟨_,act_sets (l:=[(1,.int .u32 (p:Int)),(5,.slice pX nt cX),(10,.int .i64 (j:Int)),(82,.slice pt nt ct),(83,.int .i64 (nt:Int)),(84,.int .i64 (j:Int)),(97,.slice pr xr.length cr),(98,.int .i64 (xr.length:Int)),(99,.int .i64 (((k + 1:Nat):Int)))]) ⟨rfl,rfl,rfl,rfl,rfl,rfl,rfl,rfl,rfl,trivial⟩,hS.pick [1] (by decide) rfl,by omega⟩,by omega⟩
    ·
     refine wl rfl (obin (u:=.int .i64 (k:Int)) (v:=.int .i64 (xr.length:Int)) (z:=.bool false) rfl rfl (ev rfl rfl) (ev rfl rfl) (bin_lss (decide_eq_false (by omega))) ?_)
     refine wnil (thenN (wseq ?_))
     refine wF (ev rfl rfl) ?_
     refine wexit ?_
     refine thenE ?_
     refine thenE ?_
     refine blkE ?_
     refine blkN (thenN (wreg (wl rfl (obin (u:=.int .i64 (j:Int)) (v:=.int .i64 1) (z:=.int .i64 (((j + 1:Nat):Int))) rfl rfl (ev rfl rfl) evc (bin_add (wrap_i64 (by omega) (by omega))) ?_))))
     refine wl rfl (omove (v:=.int .i64 (((j + 1:Nat):Int))) rfl rfl (ev rfl rfl) ?_)
     refine wnil (thenN ?_)
     exact ⟨(j + 1),⟨_,act_sets (l:=[(1,.int .u32 (p:Int)),(5,.slice pX nt cX),(82,.slice pt nt ct),(83,.int .i64 (nt:Int)),(84,.int .i64 (((j + 1:Nat):Int)))]) ⟨rfl,rfl,rfl,rfl,rfl,trivial⟩,hS.pick [0] (by decide) rfl,by omega⟩,by omega⟩
   ·
    refine wl rfl (obin (u:=.int .i64 (j:Int)) (v:=.int .i64 (nt:Int)) (z:=.bool false) rfl rfl (ev rfl rfl) (ev rfl rfl) (bin_lss (decide_eq_false (by omega))) ?_)
    refine wnil (thenN (wseq ?_))
    refine wF (ev rfl rfl) ?_
    refine wexit ?_
    refine thenE ?_
    refine thenE ?_
    refine blkE ?_
    refine thenN (wseq (wreg (wl rfl (ocall rfl rfl Tryd.call12 rfl (wllives (ht.at hS)) (args0 ) ?_))))
    rintro _ w5 ⟨_,_,rfl,⟨rfl,rfl⟩,hN⟩
    refine ⟨_,rfl,?_⟩
    replace hS:=hS.news hN; clear hN
    refine wl rfl (oassign (v:=.bool true) rfl rfl (ev rfl rfl) ?_)
    refine wnil (thenN ?_)
    refine wleave ?_
    refine wret1 Tryd.results6 (tellT (v:=.bool true) rfl rfl) ?_
    exact ⟨_,_,rfl,isI,hS.new0⟩
theorem hessOf_walk {pt:Option Addr} {nt ct:Nat} {s:Int} {RT:List (List (Bool × List Nat))} {w:World} (hR:TRw w pt nt RT 1048576) (h1:Tab w) (h2:Bases w) (b1:0 ≤ s ∧ s ≤ 4294967295):Calls Tryd.prog 6 #[.slice pt nt ct,.int .u32 s] w (RetB w true):=by
 obtain ⟨p,rfl⟩:=Int.eq_ofNat_of_zero_le b1.1
 have hp2:p < 4294967296:=by omega
 have ht:Tb w:=⟨h1,h2⟩
 have hT:TB w pt nt (tvr RT) 67108864:=hR.tb (by decide)
 have hb2:∀ L ∈ tvr RT,L.length ≤ 1048576:=fun L hL => by
  obtain ⟨i,hi⟩:=List.mem_iff_getElem?.1 hL
  obtain ⟨b,off,q,c,_,_,hz⟩:=hT.2.2 i L hi
  exact hz.2.1
 obtain ⟨e,hc⟩:=OFa.ex p (tvr RT)
 cases hc with
 | prime h => exact Ret.bool (hessOf_40 ht hT hp2 hb2 h)
 | shape h h3 => exact Ret.bool (hessOf_2 ht hT hp2 hb2 h h3)
 | big h h3 h4 => exact Ret.bool (hessOf_4a ht hT hp2 hb2 h h3 h4)
 | wide h h3 h4 h5 h6 => exact Ret.bool (hessOf_4b ht hT hp2 hb2 h h3 h4 h5 h6)
 | ok h h3 h4 h5 => exact Ret.bool (hessOf_0 ht hT hp2 hb2 h h3 h4 h5)
end Go.Proofs.YtcfcdbeemhjhgaaDoor
