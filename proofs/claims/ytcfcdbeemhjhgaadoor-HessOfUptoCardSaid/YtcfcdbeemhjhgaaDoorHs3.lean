/-
  Contracts and lemmas, joined in one text.
-/
import Derived.Test.YtcfcdbeemhjhgaaDoorHs2
set_option linter.unusedVariables false
set_option linter.unusedSimpArgs false
/-
  hess's faults,reduce,Reduce.
-/
set_option maxRecDepth 100000
set_option maxHeartbeats 16000000
namespace Go.Proofs.YtcfcdbeemhjhgaaDoor
open Go.RowKit
inductive HFa (p:Nat) (M:List (List Nat)):Nat → Prop where
  | prime:¬ MR.Pr p → HFa p M 40
  | shape:MR.Pr p → ¬ RectM M → HFa p M 2
  | square:MR.Pr p → RectM M → ¬ (M.length ≠ 0 ∧ M.length = colsM M) → HFa p M 3
  | big:MR.Pr p → RectM M → M.length ≠ 0 → M.length = colsM M → 24 < M.length → HFa p M 4
  | ok:MR.Pr p → RectM M → M.length ≠ 0 → M.length = colsM M → M.length ≤ 24 → HFa p M 0
theorem HFa.ex (p:Nat) (M:List (List Nat)):∃ e,HFa p M e:=by
 by_cases h1:MR.Pr p
 ·by_cases h2:RectM M
  ·by_cases h3:M.length ≠ 0 ∧ M.length = colsM M
   ·by_cases h4:M.length ≤ 24
    ·exact ⟨0,.ok h1 h2 h3.1 h3.2 h4⟩
    ·exact ⟨4,.big h1 h2 h3.1 h3.2 (by omega)⟩
   ·exact ⟨3,.square h1 h2 h3⟩
  ·exact ⟨2,.shape h1 h2⟩
 ·exact ⟨40,.prime h1⟩
theorem HFa.zero {p:Nat} {M:List (List Nat)} (h:HFa p M 0):MR.Pr p ∧ RectM M ∧ M.length ≠ 0 ∧ M.length = colsM M ∧ M.length ≤ 24:=by
  cases h; exact ⟨by assumption,by assumption,by assumption,by assumption,by assumption⟩
theorem HFa.lt {p e:Nat} {M:List (List Nat)} (h:HFa p M e):e ≤ 40:=by cases h <;> omega
theorem colsM_zero {M:List (List Nat)} {x:List Nat} (h:M[0]? = some x):colsM M = x.length:=by unfold colsM; rw [getD_get h]
def wkP (p n:Nat) (s:HS):Tell:=fun v r => ∃ g pH cH pS cS pR cR QH QS QR,nums QH = s.H ∧ nums QS = s.S ∧ nums QR = s.R ∧ v = .pointer (some ⟨g,0,none⟩) ∧ r = [.blk g [.int .u64 ((p:Nat):Int),.slice pH n cH,.slice pS n cS,.slice pR n cR] 59,.lst 29 1 pH n cH (mmE QH),.lst 29 1 pS n cS (mmE QS),.lst 29 1 pR n cR (mmE QR)]
def rdH (n:Nat) (s:HS):Tell:=fun v r => ∃ pH cH pS cS pR cR QH QS QR,nums QH = s.H ∧ nums QS = s.S ∧ nums QR = s.R ∧ v = .tuple #[.slice pH n cH,.slice pS n cS,.slice pR n cR,.int .i64 0] ∧ r = [.lst 29 1 pH n cH (mmE QH),.lst 29 1 pS n cS (mmE QS),.lst 29 1 pR n cR (mmE QR)]
theorem HOk.redk {p n:Nat} {M:List (List Nat)} (hp:1 < p) (hr:RectM M) (hl:M.length = n) (hq:M.length = colsM M) {k:Nat} (hk:k ≤ n - 2):HOk p n (HS.red p n M k):=by
  cases k with
  | zero => exact HOk.start hp hr hl hq
  | succ k => exact HOk.red hp hr hl hq (k + 2) (by omega)
theorem whfaults40 {pm:Option Addr} {nm cm p:Nat} {M:List (List Nat)} {w:World} (ht:Tb w) (hm:MS w pm nm M) (hp2:p < 4294967296) (hb1:nm ≤ 2097152) (hb2:∀ r ∈ M,r.length ≤ 1048576) (hp:¬ MR.Pr p) :
  Calls Tryd.prog 22 #[.slice pm nm cm,.int .u32 ((p:Nat):Int)] w (Ret (Is (.int .i64 40)) w):=by
 have hml:=hm.1
 have hS:=Sep.init w
 refine went Tryd.func22 rfl (n:=41) rfl rfl ?_
 refine wseq (wreg (wl rfl (oassign (v:=.int .i64 0) rfl rfl evc ?_)))
 refine wnil (thenN (wseq (wseq (wreg (wl rfl (omove (v:=.int .u32 (p:Int)) rfl rfl (ev rfl rfl) ?_))))))
 refine wl rfl (ocall rfl rfl Tryd.call31 rfl (wpis (b:=false) hp2 (ht.at hS) ⟨(fun h => by cases h),(fun h => absurd h hp)⟩) (args1 (ev rfl rfl)) ?_)
 rintro _ w1 ⟨_,_,rfl,⟨rfl,rfl⟩,hN⟩
 refine ⟨_,rfl,?_⟩
 replace hS:=hS.news hN; clear hN
 refine wl rfl (onot (b:=false) rfl rfl (ev rfl rfl) ?_)
 refine wnil (thenN ?_)
 refine wT (ev rfl rfl) ?_
 refine wseq (wreg (wl rfl (oassign (v:=.int .i64 40) rfl rfl evc ?_)))
 refine wnil (thenN ?_)
 refine wleave ?_
 refine thenR ?_
 refine wret1 Tryd.results22 (tellT (v:=.int .i64 40) rfl rfl) ?_
 exact ⟨_,_,rfl,isI,hS.new0⟩
theorem whfaults2 {pm:Option Addr} {nm cm p:Nat} {M:List (List Nat)} {w:World} (ht:Tb w) (hm:MS w pm nm M) (hp2:p < 4294967296) (hb1:nm ≤ 2097152) (hb2:∀ r ∈ M,r.length ≤ 1048576) (hp:MR.Pr p) (hr:¬ RectM M) :
  Calls Tryd.prog 22 #[.slice pm nm cm,.int .u32 ((p:Nat):Int)] w (Ret (Is (.int .i64 2)) w):=by
 have hml:=hm.1
 have hS:=Sep.init w
 refine went Tryd.func22 rfl (n:=41) rfl rfl ?_
 refine wseq (wreg (wl rfl (oassign (v:=.int .i64 0) rfl rfl evc ?_)))
 refine wnil (thenN (wseq (wseq (wreg (wl rfl (omove (v:=.int .u32 (p:Int)) rfl rfl (ev rfl rfl) ?_))))))
 refine wl rfl (ocall rfl rfl Tryd.call31 rfl (wpis (b:=true) hp2 (ht.at hS) ⟨fun _ => hp,fun _ => rfl⟩) (args1 (ev rfl rfl)) ?_)
 rintro _ w1 ⟨_,_,rfl,⟨rfl,rfl⟩,hN⟩
 refine ⟨_,rfl,?_⟩
 replace hS:=hS.news hN; clear hN
 refine wl rfl (onot (b:=true) rfl rfl (ev rfl rfl) ?_)
 refine wnil (thenN ?_)
 refine wF (ev rfl rfl) ?_
 refine wskip (thenN (wseq (wseq (wreg (wl rfl (omove (v:=.slice pm nm cm) rfl rfl (ev rfl rfl) ?_))))))
 refine wl rfl (olen rfl rfl rfl Tryd.runUnderlying23 (p:=pm) (k:=nm) (m:=cm) (ev rfl rfl) ?_)
 refine wl rfl (omove (v:=.int .i64 0) rfl rfl evc ?_)
 refine wnil (thenN (wblock ?_))
 refine wloop (σ := Nat) (fun i a9 w' => ∃ (fb:Nat → Value),a9 = act 41 (sets fb [(0,.slice pm nm cm),(10,.slice pm nm cm),(11,.int .i64 (nm:Int)),(12,.int .i64 (i:Int))]) ∧ Sep w [] w' ∧ (i ≤ nm) ∧ (∀ r ∈ M.take i,r.length = colsM M)) (fun i => nm - i) (0) ⟨_,act_sets (l:=[(0,.slice pm nm cm),(10,.slice pm nm cm),(11,.int .i64 (nm:Int)),(12,.int .i64 0)]) ⟨rfl,rfl,rfl,rfl,trivial⟩,hS,Nat.zero_le _,by simp⟩ ?_
 clear hS; rintro i _ w2 ⟨fb,rfl,hS,hi,hrc⟩
 refine wseq (wreg ?_)
 by_cases hli:i < nm
 ·
  obtain ⟨xr,hxr⟩:∃ r,(M)[i]? = some r:=⟨_,List.getElem?_eq_getElem (by have:=hm.1; omega)⟩
  obtain ⟨br,ofr,pr,cr,hpr,hcr,hsr⟩:=hm.2.2 i _ hxr
  obtain ⟨xz,hxz⟩:∃ r,(M)[0]? = some r:=⟨_,List.getElem?_eq_getElem (by have:=hm.1; omega)⟩
  obtain ⟨bz,ofz,pz,cz,hpz,hcz,hsz⟩:=hm.2.2 0 _ hxz
  have hcol:=colsM_zero hxz
  refine wl rfl (obin (u:=.int .i64 (i:Int)) (v:=.int .i64 (nm:Int)) (z:=.bool true) rfl rfl (ev rfl rfl) (ev rfl rfl) (bin_lss (decide_eq_true (by omega))) ?_)
  refine wnil (thenN (wseq ?_))
  refine wT (ev rfl rfl) ?_
  refine wskip (thenN (wseq (wblock (wseq (wreg (wl rfl (oindex (p:=pm) (g:=br) (off:=ofr) (m:=nm) (k:=i) (j:=(ofr + i * 1)) rfl rfl Tryd.runUnderlying23 Tryd.sizeOf29 (ev rfl rfl) (hpr) (ev rfl rfl) (by omega) rfl ?_)))))))
  refine wl rfl (oloadc (v:=.slice pr xr.length cr) (show One Tryd.prog 29 from ⟨Tryd.isAgg29,Tryd.sizeOf29⟩) rfl rfl (ev (v:=.pointer (some ⟨br,(ofr + i * 1),none⟩)) rfl rfl) (hS.cellAt (hcr 0 _ rfl)) ?_)
  refine wl rfl (oassign (v:=.slice pr xr.length cr) rfl rfl (ev rfl rfl) ?_)
  refine wnil (thenN (wseq (wreg (wl rfl (omove (v:=.slice pr xr.length cr) rfl rfl (ev rfl rfl) ?_)))))
  refine wl rfl (olen rfl rfl rfl Tryd.runUnderlying29 (p:=pr) (k:=xr.length) (m:=cr) (ev rfl rfl) ?_)
  refine wl rfl (omove (v:=.slice pm nm cm) rfl rfl (ev rfl rfl) ?_)
  refine wl rfl (oindex (p:=pm) (g:=bz) (off:=ofz) (m:=nm) (k:=0) (j:=(ofz + 0 * 1)) rfl rfl Tryd.runUnderlying23 Tryd.sizeOf29 (ev rfl rfl) (hpz) evc (by omega) rfl ?_)
  refine wl rfl (oloadc (v:=.slice pz xz.length cz) (show One Tryd.prog 29 from ⟨Tryd.isAgg29,Tryd.sizeOf29⟩) rfl rfl (ev (v:=.pointer (some ⟨bz,(ofz + 0 * 1),none⟩)) rfl rfl) (hS.cellAt (hcz 0 _ rfl)) ?_)
  refine wl rfl (olen rfl rfl rfl Tryd.runUnderlying29 (p:=pz) (k:=xz.length) (m:=cz) (ev rfl rfl) ?_)
  by_cases hrl:xr.length = colsM M
  ·
   refine wl rfl (obin (u:=.int .i64 (xr.length:Int)) (v:=.int .i64 (xz.length:Int)) (z:=.bool false) rfl rfl (ev rfl rfl) (ev rfl rfl) (bin_neq (neF (by rw [← hcol]; omega))) ?_)
   refine wnil (thenN ?_)
   refine wF (ev rfl rfl) ?_
   refine wskip (blkN (thenN (wreg (wl rfl (obin (u:=.int .i64 (i:Int)) (v:=.int .i64 1) (z:=.int .i64 (((i + 1:Nat):Int))) rfl rfl (ev rfl rfl) evc (bin_add (wrap_i64 (by omega) (by omega))) ?_)))))
   refine wl rfl (omove (v:=.int .i64 (((i + 1:Nat):Int))) rfl rfl (ev rfl rfl) ?_)
   refine wnil (thenN ?_)
   exact ⟨(i + 1),⟨_,act_sets (l:=[(0,.slice pm nm cm),(10,.slice pm nm cm),(11,.int .i64 (nm:Int)),(12,.int .i64 (((i + 1:Nat):Int)))]) ⟨rfl,rfl,rfl,rfl,trivial⟩,hS.pick [] (by decide) rfl,by omega,by rw [take_next hxr]; intro u hu; exact (List.mem_append.1 hu).elim (hrc u) (fun h => by rw [List.mem_singleton.1 h]; exact hrl)⟩,by omega⟩
  ·
   refine wl rfl (obin (u:=.int .i64 (xr.length:Int)) (v:=.int .i64 (xz.length:Int)) (z:=.bool true) rfl rfl (ev rfl rfl) (ev rfl rfl) (bin_neq (neT (by rw [← hcol]; omega))) ?_)
   refine wnil (thenN ?_)
   refine wT (ev rfl rfl) ?_
   refine wseq (wreg (wl rfl (oassign (v:=.int .i64 2) rfl rfl evc ?_)))
   refine wnil (thenN ?_)
   refine wleave ?_
   refine blkR ?_
   refine thenR ?_
   refine thenR ?_
   refine blkR ?_
   refine thenR ?_
   refine wret1 Tryd.results22 (tellT (v:=.int .i64 2) rfl rfl) ?_
   exact ⟨_,_,rfl,isI,hS.new0⟩
 ·
  refine wl rfl (obin (u:=.int .i64 (i:Int)) (v:=.int .i64 (nm:Int)) (z:=.bool false) rfl rfl (ev rfl rfl) (ev rfl rfl) (bin_lss (decide_eq_false (by omega))) ?_)
  refine wnil (thenN (wseq ?_))
  refine wF (ev rfl rfl) ?_
  refine wexit ?_
  refine thenE ?_
  refine thenE ?_
  refine blkE ?_
  refine thenN (wseq (wblock (wseq (wreg (wl rfl (omove (v:=.slice pm nm cm) rfl rfl (ev rfl rfl) ?_))))))
  refine wl rfl (olen rfl rfl rfl Tryd.runUnderlying23 (p:=pm) (k:=nm) (m:=cm) (ev rfl rfl) ?_)
  exact absurd (fun r hr => hrc r (by rw [List.take_of_length_le (by omega)]; exact hr)) hr
theorem whfaults3 {pm:Option Addr} {nm cm p:Nat} {M:List (List Nat)} {w:World} (ht:Tb w) (hm:MS w pm nm M) (hp2:p < 4294967296) (hb1:nm ≤ 2097152) (hb2:∀ r ∈ M,r.length ≤ 1048576) (hp:MR.Pr p) (hr:RectM M) (hq:¬ (M.length ≠ 0 ∧ M.length = colsM M)) :
  Calls Tryd.prog 22 #[.slice pm nm cm,.int .u32 ((p:Nat):Int)] w (Ret (Is (.int .i64 3)) w):=by
 have hml:=hm.1
 have hS:=Sep.init w
 refine went Tryd.func22 rfl (n:=41) rfl rfl ?_
 refine wseq (wreg (wl rfl (oassign (v:=.int .i64 0) rfl rfl evc ?_)))
 refine wnil (thenN (wseq (wseq (wreg (wl rfl (omove (v:=.int .u32 (p:Int)) rfl rfl (ev rfl rfl) ?_))))))
 refine wl rfl (ocall rfl rfl Tryd.call31 rfl (wpis (b:=true) hp2 (ht.at hS) ⟨fun _ => hp,fun _ => rfl⟩) (args1 (ev rfl rfl)) ?_)
 rintro _ w1 ⟨_,_,rfl,⟨rfl,rfl⟩,hN⟩
 refine ⟨_,rfl,?_⟩
 replace hS:=hS.news hN; clear hN
 refine wl rfl (onot (b:=true) rfl rfl (ev rfl rfl) ?_)
 refine wnil (thenN ?_)
 refine wF (ev rfl rfl) ?_
 refine wskip (thenN (wseq (wseq (wreg (wl rfl (omove (v:=.slice pm nm cm) rfl rfl (ev rfl rfl) ?_))))))
 refine wl rfl (olen rfl rfl rfl Tryd.runUnderlying23 (p:=pm) (k:=nm) (m:=cm) (ev rfl rfl) ?_)
 refine wl rfl (omove (v:=.int .i64 0) rfl rfl evc ?_)
 refine wnil (thenN (wblock ?_))
 refine wloop (σ := Nat) (fun i a9 w' => ∃ (fb:Nat → Value),a9 = act 41 (sets fb [(0,.slice pm nm cm),(10,.slice pm nm cm),(11,.int .i64 (nm:Int)),(12,.int .i64 (i:Int))]) ∧ Sep w [] w' ∧ (i ≤ nm)) (fun i => nm - i) (0) ⟨_,act_sets (l:=[(0,.slice pm nm cm),(10,.slice pm nm cm),(11,.int .i64 (nm:Int)),(12,.int .i64 0)]) ⟨rfl,rfl,rfl,rfl,trivial⟩,hS,Nat.zero_le _⟩ ?_
 clear hS; rintro i _ w2 ⟨fb,rfl,hS,hi⟩
 refine wseq (wreg ?_)
 by_cases hli:i < nm
 ·
  obtain ⟨xr,hxr⟩:∃ r,(M)[i]? = some r:=⟨_,List.getElem?_eq_getElem (by have:=hm.1; omega)⟩
  obtain ⟨br,ofr,pr,cr,hpr,hcr,hsr⟩:=hm.2.2 i _ hxr
  obtain ⟨xz,hxz⟩:∃ r,(M)[0]? = some r:=⟨_,List.getElem?_eq_getElem (by have:=hm.1; omega)⟩
  obtain ⟨bz,ofz,pz,cz,hpz,hcz,hsz⟩:=hm.2.2 0 _ hxz
  have hcol:=colsM_zero hxz
  have hrl:=hr xr (List.mem_of_getElem? hxr)
  refine wl rfl (obin (u:=.int .i64 (i:Int)) (v:=.int .i64 (nm:Int)) (z:=.bool true) rfl rfl (ev rfl rfl) (ev rfl rfl) (bin_lss (decide_eq_true (by omega))) ?_)
  refine wnil (thenN (wseq ?_))
  refine wT (ev rfl rfl) ?_
  refine wskip (thenN (wseq (wblock (wseq (wreg (wl rfl (oindex (p:=pm) (g:=br) (off:=ofr) (m:=nm) (k:=i) (j:=(ofr + i * 1)) rfl rfl Tryd.runUnderlying23 Tryd.sizeOf29 (ev rfl rfl) (hpr) (ev rfl rfl) (by omega) rfl ?_)))))))
  refine wl rfl (oloadc (v:=.slice pr xr.length cr) (show One Tryd.prog 29 from ⟨Tryd.isAgg29,Tryd.sizeOf29⟩) rfl rfl (ev (v:=.pointer (some ⟨br,(ofr + i * 1),none⟩)) rfl rfl) (hS.cellAt (hcr 0 _ rfl)) ?_)
  refine wl rfl (oassign (v:=.slice pr xr.length cr) rfl rfl (ev rfl rfl) ?_)
  refine wnil (thenN (wseq (wreg (wl rfl (omove (v:=.slice pr xr.length cr) rfl rfl (ev rfl rfl) ?_)))))
  refine wl rfl (olen rfl rfl rfl Tryd.runUnderlying29 (p:=pr) (k:=xr.length) (m:=cr) (ev rfl rfl) ?_)
  refine wl rfl (omove (v:=.slice pm nm cm) rfl rfl (ev rfl rfl) ?_)
  refine wl rfl (oindex (p:=pm) (g:=bz) (off:=ofz) (m:=nm) (k:=0) (j:=(ofz + 0 * 1)) rfl rfl Tryd.runUnderlying23 Tryd.sizeOf29 (ev rfl rfl) (hpz) evc (by omega) rfl ?_)
  refine wl rfl (oloadc (v:=.slice pz xz.length cz) (show One Tryd.prog 29 from ⟨Tryd.isAgg29,Tryd.sizeOf29⟩) rfl rfl (ev (v:=.pointer (some ⟨bz,(ofz + 0 * 1),none⟩)) rfl rfl) (hS.cellAt (hcz 0 _ rfl)) ?_)
  refine wl rfl (olen rfl rfl rfl Tryd.runUnderlying29 (p:=pz) (k:=xz.length) (m:=cz) (ev rfl rfl) ?_)
  refine wl rfl (obin (u:=.int .i64 (xr.length:Int)) (v:=.int .i64 (xz.length:Int)) (z:=.bool false) rfl rfl (ev rfl rfl) (ev rfl rfl) (bin_neq (neF (by rw [← hcol]; omega))) ?_)
  refine wnil (thenN ?_)
  refine wF (ev rfl rfl) ?_
  refine wskip (blkN (thenN (wreg (wl rfl (obin (u:=.int .i64 (i:Int)) (v:=.int .i64 1) (z:=.int .i64 (((i + 1:Nat):Int))) rfl rfl (ev rfl rfl) evc (bin_add (wrap_i64 (by omega) (by omega))) ?_)))))
  refine wl rfl (omove (v:=.int .i64 (((i + 1:Nat):Int))) rfl rfl (ev rfl rfl) ?_)
  refine wnil (thenN ?_)
  exact ⟨(i + 1),⟨_,act_sets (l:=[(0,.slice pm nm cm),(10,.slice pm nm cm),(11,.int .i64 (nm:Int)),(12,.int .i64 (((i + 1:Nat):Int)))]) ⟨rfl,rfl,rfl,rfl,trivial⟩,hS.pick [] (by decide) rfl,by omega⟩,by omega⟩
 ·
  refine wl rfl (obin (u:=.int .i64 (i:Int)) (v:=.int .i64 (nm:Int)) (z:=.bool false) rfl rfl (ev rfl rfl) (ev rfl rfl) (bin_lss (decide_eq_false (by omega))) ?_)
  refine wnil (thenN (wseq ?_))
  refine wF (ev rfl rfl) ?_
  refine wexit ?_
  refine thenE ?_
  refine thenE ?_
  refine blkE ?_
  refine thenN (wseq (wblock (wseq (wreg (wl rfl (omove (v:=.slice pm nm cm) rfl rfl (ev rfl rfl) ?_))))))
  refine wl rfl (olen rfl rfl rfl Tryd.runUnderlying23 (p:=pm) (k:=nm) (m:=cm) (ev rfl rfl) ?_)
  by_cases h0:M.length = 0
  ·
   refine wl rfl (obin (u:=.int .i64 (nm:Int)) (v:=.int .i64 0) (z:=.bool true) rfl rfl (ev rfl rfl) evc (bin_eql (eqT (by omega))) ?_)
   refine wl rfl (omove (v:=.bool true) rfl rfl (ev rfl rfl) ?_)
   refine wlOff (e:=28) (d:=29) (b':=true) rfl rfl rfl rfl rfl rfl ?_
   refine wlOff (e:=28) (d:=30) (b':=true) rfl rfl rfl rfl rfl rfl ?_
   refine wlOff (e:=28) (d:=31) (b':=true) rfl rfl rfl rfl rfl rfl ?_
   refine wlOff (e:=28) (d:=32) (b':=true) rfl rfl rfl rfl rfl rfl ?_
   refine wlOff (e:=28) (d:=33) (b':=true) rfl rfl rfl rfl rfl rfl ?_
   refine wlOff (e:=28) (d:=34) (b':=true) rfl rfl rfl rfl rfl rfl ?_
   refine wlOff (e:=28) (d:=35) (b':=true) rfl rfl rfl rfl rfl rfl ?_
   refine wl rfl (opick (b:=true) (v:=.bool true) rfl rfl (ev rfl rfl) evc ?_)
   refine wl rfl (oassign (v:=.bool true) rfl rfl (ev rfl rfl) ?_)
   refine wnil (thenN ?_)
   refine wT (ev rfl rfl) ?_
   refine wseq (wreg (wl rfl (oassign (v:=.int .i64 3) rfl rfl evc ?_)))
   refine wnil (thenN ?_)
   refine wleave ?_
   refine blkR ?_
   refine thenR ?_
   refine wret1 Tryd.results22 (tellT (v:=.int .i64 3) rfl rfl) ?_
   exact ⟨_,_,rfl,isI,hS.new0⟩
  ·
   refine wl rfl (obin (u:=.int .i64 (nm:Int)) (v:=.int .i64 0) (z:=.bool false) rfl rfl (ev rfl rfl) evc (bin_eql (eqF (by omega))) ?_)
   refine wl rfl (omove (v:=.bool false) rfl rfl (ev rfl rfl) ?_)
   refine wlOn (e:=28) rfl rfl rfl rfl (omove (v:=.slice pm nm cm) rfl rfl (ev rfl rfl) ?_)
   obtain ⟨xz,hxz⟩:∃ r,(M)[0]? = some r:=⟨_,List.getElem?_eq_getElem (by have:=hm.1; omega)⟩
   obtain ⟨bz,ofz,pz,cz,hpz,hcz,hsz⟩:=hm.2.2 0 _ hxz
   have hcol:=colsM_zero hxz
   refine wlOn (e:=28) rfl rfl rfl rfl (oindex (p:=pm) (g:=bz) (off:=ofz) (m:=nm) (k:=0) (j:=(ofz + 0 * 1)) rfl rfl Tryd.runUnderlying23 Tryd.sizeOf29 (ev rfl rfl) (hpz) evc (by omega) rfl ?_)
   refine wlOn (e:=28) rfl rfl rfl rfl (oloadc (v:=.slice pz xz.length cz) (show One Tryd.prog 29 from ⟨Tryd.isAgg29,Tryd.sizeOf29⟩) rfl rfl (ev (v:=.pointer (some ⟨bz,(ofz + 0 * 1),none⟩)) rfl rfl) (hS.cellAt (hcz 0 _ rfl)) ?_)
   refine wlOn (e:=28) rfl rfl rfl rfl (olen rfl rfl rfl Tryd.runUnderlying29 (p:=pz) (k:=xz.length) (m:=cz) (ev rfl rfl) ?_)
   refine wlOn (e:=28) rfl rfl rfl rfl (omove (v:=.slice pm nm cm) rfl rfl (ev rfl rfl) ?_)
   refine wlOn (e:=28) rfl rfl rfl rfl (olen rfl rfl rfl Tryd.runUnderlying23 (p:=pm) (k:=nm) (m:=cm) (ev rfl rfl) ?_)
   refine wlOn (e:=28) rfl rfl rfl rfl (obin (u:=.int .i64 (xz.length:Int)) (v:=.int .i64 (nm:Int)) (z:=.bool true) rfl rfl (ev rfl rfl) (ev rfl rfl) (bin_neq (neT (by rw [← hcol]; omega))) ?_)
   refine wl rfl (opick (b:=false) (v:=.bool true) rfl rfl (ev rfl rfl) (ev rfl rfl) ?_)
   refine wl rfl (oassign (v:=.bool true) rfl rfl (ev rfl rfl) ?_)
   refine wnil (thenN ?_)
   refine wT (ev rfl rfl) ?_
   refine wseq (wreg (wl rfl (oassign (v:=.int .i64 3) rfl rfl evc ?_)))
   refine wnil (thenN ?_)
   refine wleave ?_
   refine blkR ?_
   refine thenR ?_
   refine wret1 Tryd.results22 (tellT (v:=.int .i64 3) rfl rfl) ?_
   exact ⟨_,_,rfl,isI,hS.new0⟩
theorem whfaults4 {pm:Option Addr} {nm cm p:Nat} {M:List (List Nat)} {w:World} (ht:Tb w) (hm:MS w pm nm M) (hp2:p < 4294967296) (hb1:nm ≤ 2097152) (hb2:∀ r ∈ M,r.length ≤ 1048576) (hp:MR.Pr p) (hr:RectM M) (h0:M.length ≠ 0) (hq:M.length = colsM M) (hbig:24 < M.length) :
  Calls Tryd.prog 22 #[.slice pm nm cm,.int .u32 ((p:Nat):Int)] w (Ret (Is (.int .i64 4)) w):=by
 have hml:=hm.1
 have hS:=Sep.init w
 refine went Tryd.func22 rfl (n:=41) rfl rfl ?_
 refine wseq (wreg (wl rfl (oassign (v:=.int .i64 0) rfl rfl evc ?_)))
 refine wnil (thenN (wseq (wseq (wreg (wl rfl (omove (v:=.int .u32 (p:Int)) rfl rfl (ev rfl rfl) ?_))))))
 refine wl rfl (ocall rfl rfl Tryd.call31 rfl (wpis (b:=true) hp2 (ht.at hS) ⟨fun _ => hp,fun _ => rfl⟩) (args1 (ev rfl rfl)) ?_)
 rintro _ w1 ⟨_,_,rfl,⟨rfl,rfl⟩,hN⟩
 refine ⟨_,rfl,?_⟩
 replace hS:=hS.news hN; clear hN
 refine wl rfl (onot (b:=true) rfl rfl (ev rfl rfl) ?_)
 refine wnil (thenN ?_)
 refine wF (ev rfl rfl) ?_
 refine wskip (thenN (wseq (wseq (wreg (wl rfl (omove (v:=.slice pm nm cm) rfl rfl (ev rfl rfl) ?_))))))
 refine wl rfl (olen rfl rfl rfl Tryd.runUnderlying23 (p:=pm) (k:=nm) (m:=cm) (ev rfl rfl) ?_)
 refine wl rfl (omove (v:=.int .i64 0) rfl rfl evc ?_)
 refine wnil (thenN (wblock ?_))
 refine wloop (σ := Nat) (fun i a9 w' => ∃ (fb:Nat → Value),a9 = act 41 (sets fb [(0,.slice pm nm cm),(10,.slice pm nm cm),(11,.int .i64 (nm:Int)),(12,.int .i64 (i:Int))]) ∧ Sep w [] w' ∧ (i ≤ nm)) (fun i => nm - i) (0) ⟨_,act_sets (l:=[(0,.slice pm nm cm),(10,.slice pm nm cm),(11,.int .i64 (nm:Int)),(12,.int .i64 0)]) ⟨rfl,rfl,rfl,rfl,trivial⟩,hS,Nat.zero_le _⟩ ?_
 clear hS; rintro i _ w2 ⟨fb,rfl,hS,hi⟩
 refine wseq (wreg ?_)
 by_cases hli:i < nm
 ·
  obtain ⟨xr,hxr⟩:∃ r,(M)[i]? = some r:=⟨_,List.getElem?_eq_getElem (by have:=hm.1; omega)⟩
  obtain ⟨br,ofr,pr,cr,hpr,hcr,hsr⟩:=hm.2.2 i _ hxr
  obtain ⟨xz,hxz⟩:∃ r,(M)[0]? = some r:=⟨_,List.getElem?_eq_getElem (by have:=hm.1; omega)⟩
  obtain ⟨bz,ofz,pz,cz,hpz,hcz,hsz⟩:=hm.2.2 0 _ hxz
  have hcol:=colsM_zero hxz
  have hrl:=hr xr (List.mem_of_getElem? hxr)
  refine wl rfl (obin (u:=.int .i64 (i:Int)) (v:=.int .i64 (nm:Int)) (z:=.bool true) rfl rfl (ev rfl rfl) (ev rfl rfl) (bin_lss (decide_eq_true (by omega))) ?_)
  refine wnil (thenN (wseq ?_))
  refine wT (ev rfl rfl) ?_
  refine wskip (thenN (wseq (wblock (wseq (wreg (wl rfl (oindex (p:=pm) (g:=br) (off:=ofr) (m:=nm) (k:=i) (j:=(ofr + i * 1)) rfl rfl Tryd.runUnderlying23 Tryd.sizeOf29 (ev rfl rfl) (hpr) (ev rfl rfl) (by omega) rfl ?_)))))))
  refine wl rfl (oloadc (v:=.slice pr xr.length cr) (show One Tryd.prog 29 from ⟨Tryd.isAgg29,Tryd.sizeOf29⟩) rfl rfl (ev (v:=.pointer (some ⟨br,(ofr + i * 1),none⟩)) rfl rfl) (hS.cellAt (hcr 0 _ rfl)) ?_)
  refine wl rfl (oassign (v:=.slice pr xr.length cr) rfl rfl (ev rfl rfl) ?_)
  refine wnil (thenN (wseq (wreg (wl rfl (omove (v:=.slice pr xr.length cr) rfl rfl (ev rfl rfl) ?_)))))
  refine wl rfl (olen rfl rfl rfl Tryd.runUnderlying29 (p:=pr) (k:=xr.length) (m:=cr) (ev rfl rfl) ?_)
  refine wl rfl (omove (v:=.slice pm nm cm) rfl rfl (ev rfl rfl) ?_)
  refine wl rfl (oindex (p:=pm) (g:=bz) (off:=ofz) (m:=nm) (k:=0) (j:=(ofz + 0 * 1)) rfl rfl Tryd.runUnderlying23 Tryd.sizeOf29 (ev rfl rfl) (hpz) evc (by omega) rfl ?_)
  refine wl rfl (oloadc (v:=.slice pz xz.length cz) (show One Tryd.prog 29 from ⟨Tryd.isAgg29,Tryd.sizeOf29⟩) rfl rfl (ev (v:=.pointer (some ⟨bz,(ofz + 0 * 1),none⟩)) rfl rfl) (hS.cellAt (hcz 0 _ rfl)) ?_)
  refine wl rfl (olen rfl rfl rfl Tryd.runUnderlying29 (p:=pz) (k:=xz.length) (m:=cz) (ev rfl rfl) ?_)
  refine wl rfl (obin (u:=.int .i64 (xr.length:Int)) (v:=.int .i64 (xz.length:Int)) (z:=.bool false) rfl rfl (ev rfl rfl) (ev rfl rfl) (bin_neq (neF (by rw [← hcol]; omega))) ?_)
  refine wnil (thenN ?_)
  refine wF (ev rfl rfl) ?_
  refine wskip (blkN (thenN (wreg (wl rfl (obin (u:=.int .i64 (i:Int)) (v:=.int .i64 1) (z:=.int .i64 (((i + 1:Nat):Int))) rfl rfl (ev rfl rfl) evc (bin_add (wrap_i64 (by omega) (by omega))) ?_)))))
  refine wl rfl (omove (v:=.int .i64 (((i + 1:Nat):Int))) rfl rfl (ev rfl rfl) ?_)
  refine wnil (thenN ?_)
  exact ⟨(i + 1),⟨_,act_sets (l:=[(0,.slice pm nm cm),(10,.slice pm nm cm),(11,.int .i64 (nm:Int)),(12,.int .i64 (((i + 1:Nat):Int)))]) ⟨rfl,rfl,rfl,rfl,trivial⟩,hS.pick [] (by decide) rfl,by omega⟩,by omega⟩
 ·
  refine wl rfl (obin (u:=.int .i64 (i:Int)) (v:=.int .i64 (nm:Int)) (z:=.bool false) rfl rfl (ev rfl rfl) (ev rfl rfl) (bin_lss (decide_eq_false (by omega))) ?_)
  refine wnil (thenN (wseq ?_))
  refine wF (ev rfl rfl) ?_
  refine wexit ?_
  refine thenE ?_
  refine thenE ?_
  refine blkE ?_
  refine thenN (wseq (wblock (wseq (wreg (wl rfl (omove (v:=.slice pm nm cm) rfl rfl (ev rfl rfl) ?_))))))
  refine wl rfl (olen rfl rfl rfl Tryd.runUnderlying23 (p:=pm) (k:=nm) (m:=cm) (ev rfl rfl) ?_)
  refine wl rfl (obin (u:=.int .i64 (nm:Int)) (v:=.int .i64 0) (z:=.bool false) rfl rfl (ev rfl rfl) evc (bin_eql (eqF (by omega))) ?_)
  refine wl rfl (omove (v:=.bool false) rfl rfl (ev rfl rfl) ?_)
  refine wlOn (e:=28) rfl rfl rfl rfl (omove (v:=.slice pm nm cm) rfl rfl (ev rfl rfl) ?_)
  obtain ⟨xz,hxz⟩:∃ r,(M)[0]? = some r:=⟨_,List.getElem?_eq_getElem (by have:=hm.1; omega)⟩
  obtain ⟨bz,ofz,pz,cz,hpz,hcz,hsz⟩:=hm.2.2 0 _ hxz
  have hcol:=colsM_zero hxz
  refine wlOn (e:=28) rfl rfl rfl rfl (oindex (p:=pm) (g:=bz) (off:=ofz) (m:=nm) (k:=0) (j:=(ofz + 0 * 1)) rfl rfl Tryd.runUnderlying23 Tryd.sizeOf29 (ev rfl rfl) (hpz) evc (by omega) rfl ?_)
  refine wlOn (e:=28) rfl rfl rfl rfl (oloadc (v:=.slice pz xz.length cz) (show One Tryd.prog 29 from ⟨Tryd.isAgg29,Tryd.sizeOf29⟩) rfl rfl (ev (v:=.pointer (some ⟨bz,(ofz + 0 * 1),none⟩)) rfl rfl) (hS.cellAt (hcz 0 _ rfl)) ?_)
  refine wlOn (e:=28) rfl rfl rfl rfl (olen rfl rfl rfl Tryd.runUnderlying29 (p:=pz) (k:=xz.length) (m:=cz) (ev rfl rfl) ?_)
  refine wlOn (e:=28) rfl rfl rfl rfl (omove (v:=.slice pm nm cm) rfl rfl (ev rfl rfl) ?_)
  refine wlOn (e:=28) rfl rfl rfl rfl (olen rfl rfl rfl Tryd.runUnderlying23 (p:=pm) (k:=nm) (m:=cm) (ev rfl rfl) ?_)
  refine wlOn (e:=28) rfl rfl rfl rfl (obin (u:=.int .i64 (xz.length:Int)) (v:=.int .i64 (nm:Int)) (z:=.bool false) rfl rfl (ev rfl rfl) (ev rfl rfl) (bin_neq (neF (by rw [← hcol]; omega))) ?_)
  refine wl rfl (opick (b:=false) (v:=.bool false) rfl rfl (ev rfl rfl) (ev rfl rfl) ?_)
  refine wl rfl (oassign (v:=.bool false) rfl rfl (ev rfl rfl) ?_)
  refine wnil (thenN ?_)
  refine wF (ev rfl rfl) ?_
  refine wseq (wreg (wl rfl (omove (v:=.slice pm nm cm) rfl rfl (ev rfl rfl) ?_)))
  refine wl rfl (olen rfl rfl rfl Tryd.runUnderlying23 (p:=pm) (k:=nm) (m:=cm) (ev rfl rfl) ?_)
  refine wl rfl (obin (u:=.int .i64 (nm:Int)) (v:=.int .i64 24) (z:=.bool true) rfl rfl (ev rfl rfl) evc (bin_gtr (decide_eq_true (by omega))) ?_)
  refine wl rfl (oassign (v:=.bool true) rfl rfl (ev rfl rfl) ?_)
  refine wnil (thenN ?_)
  refine wT (ev rfl rfl) ?_
  refine wseq (wreg (wl rfl (oassign (v:=.int .i64 4) rfl rfl evc ?_)))
  refine wnil (thenN ?_)
  refine wleave ?_
  refine blkR ?_
  refine thenR ?_
  refine wret1 Tryd.results22 (tellT (v:=.int .i64 4) rfl rfl) ?_
  exact ⟨_,_,rfl,isI,hS.new0⟩
theorem whfaults0 {pm:Option Addr} {nm cm p:Nat} {M:List (List Nat)} {w:World} (ht:Tb w) (hm:MS w pm nm M) (hp2:p < 4294967296) (hb1:nm ≤ 2097152) (hb2:∀ r ∈ M,r.length ≤ 1048576) (hp:MR.Pr p) (hr:RectM M) (h0:M.length ≠ 0) (hq:M.length = colsM M) (hbig:M.length ≤ 24) :
  Calls Tryd.prog 22 #[.slice pm nm cm,.int .u32 ((p:Nat):Int)] w (Ret (Is (.int .i64 0)) w):=by
 have hml:=hm.1
 have hS:=Sep.init w
 refine went Tryd.func22 rfl (n:=41) rfl rfl ?_
 refine wseq (wreg (wl rfl (oassign (v:=.int .i64 0) rfl rfl evc ?_)))
 refine wnil (thenN (wseq (wseq (wreg (wl rfl (omove (v:=.int .u32 (p:Int)) rfl rfl (ev rfl rfl) ?_))))))
 refine wl rfl (ocall rfl rfl Tryd.call31 rfl (wpis (b:=true) hp2 (ht.at hS) ⟨fun _ => hp,fun _ => rfl⟩) (args1 (ev rfl rfl)) ?_)
 rintro _ w1 ⟨_,_,rfl,⟨rfl,rfl⟩,hN⟩
 refine ⟨_,rfl,?_⟩
 replace hS:=hS.news hN; clear hN
 refine wl rfl (onot (b:=true) rfl rfl (ev rfl rfl) ?_)
 refine wnil (thenN ?_)
 refine wF (ev rfl rfl) ?_
 refine wskip (thenN (wseq (wseq (wreg (wl rfl (omove (v:=.slice pm nm cm) rfl rfl (ev rfl rfl) ?_))))))
 refine wl rfl (olen rfl rfl rfl Tryd.runUnderlying23 (p:=pm) (k:=nm) (m:=cm) (ev rfl rfl) ?_)
 refine wl rfl (omove (v:=.int .i64 0) rfl rfl evc ?_)
 refine wnil (thenN (wblock ?_))
 refine wloop (σ := Nat) (fun i a9 w' => ∃ (fb:Nat → Value),a9 = act 41 (sets fb [(0,.slice pm nm cm),(10,.slice pm nm cm),(11,.int .i64 (nm:Int)),(12,.int .i64 (i:Int))]) ∧ Sep w [] w' ∧ (i ≤ nm)) (fun i => nm - i) (0) ⟨_,act_sets (l:=[(0,.slice pm nm cm),(10,.slice pm nm cm),(11,.int .i64 (nm:Int)),(12,.int .i64 0)]) ⟨rfl,rfl,rfl,rfl,trivial⟩,hS,Nat.zero_le _⟩ ?_
 clear hS; rintro i _ w2 ⟨fb,rfl,hS,hi⟩
 refine wseq (wreg ?_)
 by_cases hli:i < nm
 ·
  obtain ⟨xr,hxr⟩:∃ r,(M)[i]? = some r:=⟨_,List.getElem?_eq_getElem (by have:=hm.1; omega)⟩
  obtain ⟨br,ofr,pr,cr,hpr,hcr,hsr⟩:=hm.2.2 i _ hxr
  obtain ⟨xz,hxz⟩:∃ r,(M)[0]? = some r:=⟨_,List.getElem?_eq_getElem (by have:=hm.1; omega)⟩
  obtain ⟨bz,ofz,pz,cz,hpz,hcz,hsz⟩:=hm.2.2 0 _ hxz
  have hcol:=colsM_zero hxz
  have hrl:=hr xr (List.mem_of_getElem? hxr)
  refine wl rfl (obin (u:=.int .i64 (i:Int)) (v:=.int .i64 (nm:Int)) (z:=.bool true) rfl rfl (ev rfl rfl) (ev rfl rfl) (bin_lss (decide_eq_true (by omega))) ?_)
  refine wnil (thenN (wseq ?_))
  refine wT (ev rfl rfl) ?_
  refine wskip (thenN (wseq (wblock (wseq (wreg (wl rfl (oindex (p:=pm) (g:=br) (off:=ofr) (m:=nm) (k:=i) (j:=(ofr + i * 1)) rfl rfl Tryd.runUnderlying23 Tryd.sizeOf29 (ev rfl rfl) (hpr) (ev rfl rfl) (by omega) rfl ?_)))))))
  refine wl rfl (oloadc (v:=.slice pr xr.length cr) (show One Tryd.prog 29 from ⟨Tryd.isAgg29,Tryd.sizeOf29⟩) rfl rfl (ev (v:=.pointer (some ⟨br,(ofr + i * 1),none⟩)) rfl rfl) (hS.cellAt (hcr 0 _ rfl)) ?_)
  refine wl rfl (oassign (v:=.slice pr xr.length cr) rfl rfl (ev rfl rfl) ?_)
  refine wnil (thenN (wseq (wreg (wl rfl (omove (v:=.slice pr xr.length cr) rfl rfl (ev rfl rfl) ?_)))))
  refine wl rfl (olen rfl rfl rfl Tryd.runUnderlying29 (p:=pr) (k:=xr.length) (m:=cr) (ev rfl rfl) ?_)
  refine wl rfl (omove (v:=.slice pm nm cm) rfl rfl (ev rfl rfl) ?_)
  refine wl rfl (oindex (p:=pm) (g:=bz) (off:=ofz) (m:=nm) (k:=0) (j:=(ofz + 0 * 1)) rfl rfl Tryd.runUnderlying23 Tryd.sizeOf29 (ev rfl rfl) (hpz) evc (by omega) rfl ?_)
  refine wl rfl (oloadc (v:=.slice pz xz.length cz) (show One Tryd.prog 29 from ⟨Tryd.isAgg29,Tryd.sizeOf29⟩) rfl rfl (ev (v:=.pointer (some ⟨bz,(ofz + 0 * 1),none⟩)) rfl rfl) (hS.cellAt (hcz 0 _ rfl)) ?_)
  refine wl rfl (olen rfl rfl rfl Tryd.runUnderlying29 (p:=pz) (k:=xz.length) (m:=cz) (ev rfl rfl) ?_)
  refine wl rfl (obin (u:=.int .i64 (xr.length:Int)) (v:=.int .i64 (xz.length:Int)) (z:=.bool false) rfl rfl (ev rfl rfl) (ev rfl rfl) (bin_neq (neF (by rw [← hcol]; omega))) ?_)
  refine wnil (thenN ?_)
  refine wF (ev rfl rfl) ?_
  refine wskip (blkN (thenN (wreg (wl rfl (obin (u:=.int .i64 (i:Int)) (v:=.int .i64 1) (z:=.int .i64 (((i + 1:Nat):Int))) rfl rfl (ev rfl rfl) evc (bin_add (wrap_i64 (by omega) (by omega))) ?_)))))
  refine wl rfl (omove (v:=.int .i64 (((i + 1:Nat):Int))) rfl rfl (ev rfl rfl) ?_)
  refine wnil (thenN ?_)
  exact ⟨(i + 1),⟨_,act_sets (l:=[(0,.slice pm nm cm),(10,.slice pm nm cm),(11,.int .i64 (nm:Int)),(12,.int .i64 (((i + 1:Nat):Int)))]) ⟨rfl,rfl,rfl,rfl,trivial⟩,hS.pick [] (by decide) rfl,by omega⟩,by omega⟩
 ·
  refine wl rfl (obin (u:=.int .i64 (i:Int)) (v:=.int .i64 (nm:Int)) (z:=.bool false) rfl rfl (ev rfl rfl) (ev rfl rfl) (bin_lss (decide_eq_false (by omega))) ?_)
  refine wnil (thenN (wseq ?_))
  refine wF (ev rfl rfl) ?_
  refine wexit ?_
  refine thenE ?_
  refine thenE ?_
  refine blkE ?_
  refine thenN (wseq (wblock (wseq (wreg (wl rfl (omove (v:=.slice pm nm cm) rfl rfl (ev rfl rfl) ?_))))))
  refine wl rfl (olen rfl rfl rfl Tryd.runUnderlying23 (p:=pm) (k:=nm) (m:=cm) (ev rfl rfl) ?_)
  refine wl rfl (obin (u:=.int .i64 (nm:Int)) (v:=.int .i64 0) (z:=.bool false) rfl rfl (ev rfl rfl) evc (bin_eql (eqF (by omega))) ?_)
  refine wl rfl (omove (v:=.bool false) rfl rfl (ev rfl rfl) ?_)
  refine wlOn (e:=28) rfl rfl rfl rfl (omove (v:=.slice pm nm cm) rfl rfl (ev rfl rfl) ?_)
  obtain ⟨xz,hxz⟩:∃ r,(M)[0]? = some r:=⟨_,List.getElem?_eq_getElem (by have:=hm.1; omega)⟩
  obtain ⟨bz,ofz,pz,cz,hpz,hcz,hsz⟩:=hm.2.2 0 _ hxz
  have hcol:=colsM_zero hxz
  refine wlOn (e:=28) rfl rfl rfl rfl (oindex (p:=pm) (g:=bz) (off:=ofz) (m:=nm) (k:=0) (j:=(ofz + 0 * 1)) rfl rfl Tryd.runUnderlying23 Tryd.sizeOf29 (ev rfl rfl) (hpz) evc (by omega) rfl ?_)
  refine wlOn (e:=28) rfl rfl rfl rfl (oloadc (v:=.slice pz xz.length cz) (show One Tryd.prog 29 from ⟨Tryd.isAgg29,Tryd.sizeOf29⟩) rfl rfl (ev (v:=.pointer (some ⟨bz,(ofz + 0 * 1),none⟩)) rfl rfl) (hS.cellAt (hcz 0 _ rfl)) ?_)
  refine wlOn (e:=28) rfl rfl rfl rfl (olen rfl rfl rfl Tryd.runUnderlying29 (p:=pz) (k:=xz.length) (m:=cz) (ev rfl rfl) ?_)
  refine wlOn (e:=28) rfl rfl rfl rfl (omove (v:=.slice pm nm cm) rfl rfl (ev rfl rfl) ?_)
  refine wlOn (e:=28) rfl rfl rfl rfl (olen rfl rfl rfl Tryd.runUnderlying23 (p:=pm) (k:=nm) (m:=cm) (ev rfl rfl) ?_)
  refine wlOn (e:=28) rfl rfl rfl rfl (obin (u:=.int .i64 (xz.length:Int)) (v:=.int .i64 (nm:Int)) (z:=.bool false) rfl rfl (ev rfl rfl) (ev rfl rfl) (bin_neq (neF (by rw [← hcol]; omega))) ?_)
  refine wl rfl (opick (b:=false) (v:=.bool false) rfl rfl (ev rfl rfl) (ev rfl rfl) ?_)
  refine wl rfl (oassign (v:=.bool false) rfl rfl (ev rfl rfl) ?_)
  refine wnil (thenN ?_)
  refine wF (ev rfl rfl) ?_
  refine wseq (wreg (wl rfl (omove (v:=.slice pm nm cm) rfl rfl (ev rfl rfl) ?_)))
  refine wl rfl (olen rfl rfl rfl Tryd.runUnderlying23 (p:=pm) (k:=nm) (m:=cm) (ev rfl rfl) ?_)
  refine wl rfl (obin (u:=.int .i64 (nm:Int)) (v:=.int .i64 24) (z:=.bool false) rfl rfl (ev rfl rfl) evc (bin_gtr (decide_eq_false (by omega))) ?_)
  refine wl rfl (oassign (v:=.bool false) rfl rfl (ev rfl rfl) ?_)
  refine wnil (thenN ?_)
  refine wF (ev rfl rfl) ?_
  refine wskip (blkN (thenN (wseq (wreg (wl rfl (oassign (v:=.int .i64 0) rfl rfl evc ?_))))))
  refine wnil (thenN ?_)
  refine wleave ?_
  refine wret1 Tryd.results22 (tellT (v:=.int .i64 0) rfl rfl) ?_
  exact ⟨_,_,rfl,isI,hS.new0⟩
theorem whfaults {pm:Option Addr} {nm cm p:Nat} {M:List (List Nat)} {w:World} (ht:Tb w) (hm:MS w pm nm M) (hp2:p < 4294967296) (hb1:nm ≤ 2097152) (hb2:∀ r ∈ M,r.length ≤ 1048576) {e:Nat} (hc:HFa p M e):Calls Tryd.prog 22 #[.slice pm nm cm,.int .u32 ((p:Nat):Int)] w (Ret (Is (.int .i64 ((e:Nat):Int))) w):=by
  cases hc with
  | prime h => exact whfaults40 ht hm hp2 hb1 hb2 h
  | shape h h2 => exact whfaults2 ht hm hp2 hb1 hb2 h h2
  | square h h2 h3 => exact whfaults3 ht hm hp2 hb1 hb2 h h2 h3
  | big h h2 h3 h4 h5 => exact whfaults4 ht hm hp2 hb1 hb2 h h2 h3 h4 h5
  | ok h h2 h3 h4 h5 => exact whfaults0 ht hm hp2 hb1 hb2 h h2 h3 h4 h5
end Go.Proofs.YtcfcdbeemhjhgaaDoor
