/-
  Contracts and lemmas, joined in one text.
-/
import Derived.Test.YtcfcdbeemhjhgaaDoorHs2
set_option linter.unusedVariables false
set_option linter.unusedSimpArgs false
/-
  hess's faults,reduce,Reduce.
-/
set_option maxRecDepth 100000
set_option maxHeartbeats 16000000
namespace Go.Proofs.YtcfcdbeemhjhgaaDoor
open Go.RowKit
inductive HFa (p:Nat) (M:List (List Nat)):Nat → Prop where
  | prime:¬ MR.Pr p → HFa p M 40
  | shape:MR.Pr p → ¬ RectM M → HFa p M 2
  | square:MR.Pr p → RectM M → ¬ (M.length ≠ 0 ∧ M.length = colsM M) → HFa p M 3
  | big:MR.Pr p → RectM M → M.length ≠ 0 → M.length = colsM M → 24 < M.length → HFa p M 4
  | ok:MR.Pr p → RectM M → M.length ≠ 0 → M.length = colsM M → M.length ≤ 24 → HFa p M 0
theorem HFa.ex (p:Nat) (M:List (List Nat)):∃ e,HFa p M e:=by
 by_cases h1:MR.Pr p
 ·by_cases h2:RectM M
  ·by_cases h3:M.length ≠ 0 ∧ M.length = colsM M
   ·by_cases h4:M.length ≤ 24
    ·exact ⟨0,.ok h1 h2 h3.1 h3.2 h4⟩
    ·exact ⟨4,.big h1 h2 h3.1 h3.2 (by omega)⟩
   ·exact ⟨3,.square h1 h2 h3⟩
  ·exact ⟨2,.shape h1 h2⟩
 ·exact ⟨40,.prime h1⟩
theorem HFa.zero {p:Nat} {M:List (List Nat)} (h:HFa p M 0):MR.Pr p ∧ RectM M ∧ M.length ≠ 0 ∧ M.length = colsM M ∧ M.length ≤ 24:=by
  cases h; exact ⟨by assumption,by assumption,by assumption,by assumption,by assumption⟩
theorem HFa.lt {p e:Nat} {M:List (List Nat)} (h:HFa p M e):e ≤ 40:=by cases h <;> omega
theorem colsM_zero {M:List (List Nat)} {x:List Nat} (h:M[0]? = some x):colsM M = x.length:=by unfold colsM; rw [getD_get h]
def wkP (p n:Nat) (s:HS):Tell:=fun v r => ∃ g pH cH pS cS pR cR QH QS QR,nums QH = s.H ∧ nums QS = s.S ∧ nums QR = s.R ∧ v = .pointer (some ⟨g,0,none⟩) ∧ r = [.blk g [.int .u64 ((p:Nat):Int),.slice pH n cH,.slice pS n cS,.slice pR n cR] 59,.lst 29 1 pH n cH (mmE QH),.lst 29 1 pS n cS (mmE QS),.lst 29 1 pR n cR (mmE QR)]
def rdH (n:Nat) (s:HS):Tell:=fun v r => ∃ pH cH pS cS pR cR QH QS QR,nums QH = s.H ∧ nums QS = s.S ∧ nums QR = s.R ∧ v = .tuple #[.slice pH n cH,.slice pS n cS,.slice pR n cR,.int .i64 0] ∧ r = [.lst 29 1 pH n cH (mmE QH),.lst 29 1 pS n cS (mmE QS),.lst 29 1 pR n cR (mmE QR)]
theorem HOk.redk {p n:Nat} {M:List (List Nat)} (hp:1 < p) (hr:RectM M) (hl:M.length = n) (hq:M.length = colsM M) {k:Nat} (hk:k ≤ n - 2):HOk p n (HS.red p n M k):=by
  cases k with
  | zero => exact HOk.start hp hr hl hq
  | succ k => exact HOk.red hp hr hl hq (k + 2) (by omega)
theorem step_some {p n k i:Nat} {s:HS} (h:firstNZ s.H k (n - (k + 1)) (k + 1) = some i):s.step p n k = (s.pivot k i).elim p k (pinv p (nd ((s.pivot k i).H.getD (k + 1) []) k)) (n - (k + 2)):=by unfold HS.step; rw [h]
theorem step_none {p n k:Nat} {s:HS} (h:firstNZ s.H k (n - (k + 1)) (k + 1) = none):s.step p n k = s:=by unfold HS.step; rw [h]
theorem pivot_eq {s:HS} {k i:Nat} (h:i = k + 1):s.pivot k i = s:=if_pos h
theorem pivot_ne {s:HS} {k i:Nat} (h:¬ i = k + 1):s.pivot k i = s.swap i (k + 1):=if_neg h
theorem elim_skip {p k iv d:Nat} {s:HS} (h:nd (((s.elim p k iv d).H).getD (k + 2 + d) []) k = 0):s.elim p k iv (d + 1) = s.elim p k iv d:=if_pos h
theorem elim_do {p k iv d:Nat} {s:HS} (h:¬ nd (((s.elim p k iv d).H).getD (k + 2 + d) []) k = 0):s.elim p k iv (d + 1) = (s.elim p k iv d).less p (k + 2 + d) (k + 1) (nd (((s.elim p k iv d).H).getD (k + 2 + d) []) k * iv % p):=if_neg h
theorem ndvd {p a:Nat} (h0:a ≠ 0) (h:a < p):¬ p ∣ a:=fun hd => by have:=Nat.le_of_dvd (by omega) hd; omega
theorem wpinv {a p:Nat} {w:World} (hp:MR.Pr p) (hp2:p < 4294967296) (ha:a < 4294967296) (ht:Tb w) (hd:¬ p ∣ a):Calls Tryd.prog 39 #[.int .u32 ((a:Nat):Int),.int .u32 ((p:Nat):Int)] w (Ret (Is (.tuple #[.int .u32 ((pinv p a:Nat):Int),.int .i64 0])) w):=by
  have hS:=Sep.init w
  refine went Tryd.func39 rfl (n:=11) rfl rfl ?_
  refine wseq (wreg (wl rfl (oassign (v:=.int .u32 0) rfl rfl evc ?_)))
  refine wl rfl (oassign (v:=.int .i64 0) rfl rfl evc ?_)
  refine wnil (thenN (wseq (wreg (wl rfl (omove (v:=.int .u32 (a:Int)) rfl rfl (ev rfl rfl) ?_)))))
  refine wl rfl (omove (v:=.int .u32 (p:Int)) rfl rfl (ev rfl rfl) ?_)
  refine wl rfl (ocall rfl rfl Tryd.call70 rfl ((show Calls _ _ _ _ (Ret (Is (.tuple #[.int .u32 ((pinv p a:Nat):Int),.int .i64 0])) _) from by have h:=wpquo (a:=1) hp hp2 (by omega) ha (ht.at hS) hd; rwa [show 1 * (a ^ (p - 2) % p) % p = pinv p a from by rw [Nat.one_mul,Nat.mod_mod]; rfl] at h)) (args3 evc (ev rfl rfl) (ev rfl rfl)) ?_)
  rintro _ w1 ⟨_,_,rfl,⟨rfl,rfl⟩,hN⟩
  refine ⟨_,rfl,?_⟩
  replace hS:=hS.news hN; clear hN
  refine wl rfl (oextract (vs:=[.int .u32 (((pinv p a:Nat):Int)),.int .i64 0]) (v:=.int .u32 (((pinv p a:Nat):Int))) rfl rfl (ev rfl rfl) rfl ?_)
  refine wl rfl (oextract (vs:=[.int .u32 (((pinv p a:Nat):Int)),.int .i64 0]) (v:=.int .i64 0) rfl rfl (ev rfl rfl) rfl ?_)
  refine wl rfl (oassign (v:=.int .u32 (((pinv p a:Nat):Int))) rfl rfl (ev rfl rfl) ?_)
  refine wl rfl (oassign (v:=.int .i64 0) rfl rfl (ev rfl rfl) ?_)
  refine wnil (thenN ?_)
  refine wleave ?_
  refine wret2 Tryd.results39 (tellT (v:=.int .u32 (((pinv p a:Nat):Int))) rfl rfl) (tellT (v:=.int .i64 0) rfl rfl) ?_
  exact ⟨_,_,rfl,isI,hS.new0⟩
theorem whfaults40 {pm:Option Addr} {nm cm p:Nat} {M:List (List Nat)} {w:World} (ht:Tb w) (hm:MS w pm nm M) (hp2:p < 4294967296) (hb1:nm ≤ 2097152) (hb2:∀ r ∈ M,r.length ≤ 1048576) (hp:¬ MR.Pr p) :
  Calls Tryd.prog 22 #[.slice pm nm cm,.int .u32 ((p:Nat):Int)] w (Ret (Is (.int .i64 40)) w):=by
 have hml:=hm.1
 have hS:=Sep.init w
 refine went Tryd.func22 rfl (n:=41) rfl rfl ?_
 refine wseq (wreg (wl rfl (oassign (v:=.int .i64 0) rfl rfl evc ?_)))
 refine wnil (thenN (wseq (wseq (wreg (wl rfl (omove (v:=.int .u32 (p:Int)) rfl rfl (ev rfl rfl) ?_))))))
 refine wl rfl (ocall rfl rfl Tryd.call31 rfl (wpis (b:=false) hp2 (ht.at hS) ⟨(fun h => by cases h),(fun h => absurd h hp)⟩) (args1 (ev rfl rfl)) ?_)
 rintro _ w1 ⟨_,_,rfl,⟨rfl,rfl⟩,hN⟩
 refine ⟨_,rfl,?_⟩
 replace hS:=hS.news hN; clear hN
 refine wl rfl (onot (b:=false) rfl rfl (ev rfl rfl) ?_)
 refine wnil (thenN ?_)
 refine wT (ev rfl rfl) ?_
 refine wseq (wreg (wl rfl (oassign (v:=.int .i64 40) rfl rfl evc ?_)))
 refine wnil (thenN ?_)
 refine wleave ?_
 refine thenR ?_
 refine wret1 Tryd.results22 (tellT (v:=.int .i64 40) rfl rfl) ?_
 exact ⟨_,_,rfl,isI,hS.new0⟩
theorem whfaults2 {pm:Option Addr} {nm cm p:Nat} {M:List (List Nat)} {w:World} (ht:Tb w) (hm:MS w pm nm M) (hp2:p < 4294967296) (hb1:nm ≤ 2097152) (hb2:∀ r ∈ M,r.length ≤ 1048576) (hp:MR.Pr p) (hr:¬ RectM M) :
  Calls Tryd.prog 22 #[.slice pm nm cm,.int .u32 ((p:Nat):Int)] w (Ret (Is (.int .i64 2)) w):=by
 have hml:=hm.1
 have hS:=Sep.init w
 refine went Tryd.func22 rfl (n:=41) rfl rfl ?_
 refine wseq (wreg (wl rfl (oassign (v:=.int .i64 0) rfl rfl evc ?_)))
 refine wnil (thenN (wseq (wseq (wreg (wl rfl (omove (v:=.int .u32 (p:Int)) rfl rfl (ev rfl rfl) ?_))))))
 refine wl rfl (ocall rfl rfl Tryd.call31 rfl (wpis (b:=true) hp2 (ht.at hS) ⟨fun _ => hp,fun _ => rfl⟩) (args1 (ev rfl rfl)) ?_)
 rintro _ w1 ⟨_,_,rfl,⟨rfl,rfl⟩,hN⟩
 refine ⟨_,rfl,?_⟩
 replace hS:=hS.news hN; clear hN
 refine wl rfl (onot (b:=true) rfl rfl (ev rfl rfl) ?_)
 refine wnil (thenN ?_)
 refine wF (ev rfl rfl) ?_
 refine wskip (thenN (wseq (wseq (wreg (wl rfl (omove (v:=.slice pm nm cm) rfl rfl (ev rfl rfl) ?_))))))
 refine wl rfl (olen rfl rfl rfl Tryd.runUnderlying23 (p:=pm) (k:=nm) (m:=cm) (ev rfl rfl) ?_)
 refine wl rfl (omove (v:=.int .i64 0) rfl rfl evc ?_)
 refine wnil (thenN (wblock ?_))
 refine wloop (σ := Nat) (fun i a9 w' => ∃ (fb:Nat → Value),a9 = act 41 (sets fb [(0,.slice pm nm cm),(10,.slice pm nm cm),(11,.int .i64 (nm:Int)),(12,.int .i64 (i:Int))]) ∧ Sep w [] w' ∧ (i ≤ nm) ∧ (∀ r ∈ M.take i,r.length = colsM M)) (fun i => nm - i) (0) ⟨_,act_sets (l:=[(0,.slice pm nm cm),(10,.slice pm nm cm),(11,.int .i64 (nm:Int)),(12,.int .i64 0)]) ⟨rfl,rfl,rfl,rfl,trivial⟩,hS,Nat.zero_le _,by simp⟩ ?_
 clear hS; rintro i _ w2 ⟨fb,rfl,hS,hi,hrc⟩
 refine wseq (wreg ?_)
 by_cases hli:i < nm
 ·
  obtain ⟨xr,hxr⟩:∃ r,(M)[i]? = some r:=⟨_,List.getElem?_eq_getElem (by have:=hm.1; omega)⟩
  obtain ⟨br,ofr,pr,cr,hpr,hcr,hsr⟩:=hm.2.2 i _ hxr
  obtain ⟨xz,hxz⟩:∃ r,(M)[0]? = some r:=⟨_,List.getElem?_eq_getElem (by have:=hm.1; omega)⟩
  obtain ⟨bz,ofz,pz,cz,hpz,hcz,hsz⟩:=hm.2.2 0 _ hxz
  have hcol:=colsM_zero hxz
  refine wl rfl (obin (u:=.int .i64 (i:Int)) (v:=.int .i64 (nm:Int)) (z:=.bool true) rfl rfl (ev rfl rfl) (ev rfl rfl) (bin_lss (decide_eq_true (by omega))) ?_)
  refine wnil (thenN (wseq ?_))
  refine wT (ev rfl rfl) ?_
  refine wskip (thenN (wseq (wblock (wseq (wreg (wl rfl (oindex (p:=pm) (g:=br) (off:=ofr) (m:=nm) (k:=i) (j:=(ofr + i * 1)) rfl rfl Tryd.runUnderlying23 Tryd.sizeOf29 (ev rfl rfl) (hpr) (ev rfl rfl) (by omega) rfl ?_)))))))
  refine wl rfl (oloadc (v:=.slice pr xr.length cr) (show One Tryd.prog 29 from ⟨Tryd.isAgg29,Tryd.sizeOf29⟩) rfl rfl (ev (v:=.pointer (some ⟨br,(ofr + i * 1),none⟩)) rfl rfl) (hS.cellAt (hcr 0 _ rfl)) ?_)
  refine wl rfl (oassign (v:=.slice pr xr.length cr) rfl rfl (ev rfl rfl) ?_)
  refine wnil (thenN (wseq (wreg (wl rfl (omove (v:=.slice pr xr.length cr) rfl rfl (ev rfl rfl) ?_)))))
  refine wl rfl (olen rfl rfl rfl Tryd.runUnderlying29 (p:=pr) (k:=xr.length) (m:=cr) (ev rfl rfl) ?_)
  refine wl rfl (omove (v:=.slice pm nm cm) rfl rfl (ev rfl rfl) ?_)
  refine wl rfl (oindex (p:=pm) (g:=bz) (off:=ofz) (m:=nm) (k:=0) (j:=(ofz + 0 * 1)) rfl rfl Tryd.runUnderlying23 Tryd.sizeOf29 (ev rfl rfl) (hpz) evc (by omega) rfl ?_)
  refine wl rfl (oloadc (v:=.slice pz xz.length cz) (show One Tryd.prog 29 from ⟨Tryd.isAgg29,Tryd.sizeOf29⟩) rfl rfl (ev (v:=.pointer (some ⟨bz,(ofz + 0 * 1),none⟩)) rfl rfl) (hS.cellAt (hcz 0 _ rfl)) ?_)
  refine wl rfl (olen rfl rfl rfl Tryd.runUnderlying29 (p:=pz) (k:=xz.length) (m:=cz) (ev rfl rfl) ?_)
  by_cases hrl:xr.length = colsM M
  ·
   refine wl rfl (obin (u:=.int .i64 (xr.length:Int)) (v:=.int .i64 (xz.length:Int)) (z:=.bool false) rfl rfl (ev rfl rfl) (ev rfl rfl) (bin_neq (neF (by rw [← hcol]; omega))) ?_)
   refine wnil (thenN ?_)
   refine wF (ev rfl rfl) ?_
   refine wskip (blkN (thenN (wreg (wl rfl (obin (u:=.int .i64 (i:Int)) (v:=.int .i64 1) (z:=.int .i64 (((i + 1:Nat):Int))) rfl rfl (ev rfl rfl) evc (bin_add (wrap_i64 (by omega) (by omega))) ?_)))))
   refine wl rfl (omove (v:=.int .i64 (((i + 1:Nat):Int))) rfl rfl (ev rfl rfl) ?_)
   refine wnil (thenN ?_)
   exact ⟨(i + 1),⟨_,act_sets (l:=[(0,.slice pm nm cm),(10,.slice pm nm cm),(11,.int .i64 (nm:Int)),(12,.int .i64 (((i + 1:Nat):Int)))]) ⟨rfl,rfl,rfl,rfl,trivial⟩,hS.pick [] (by decide) rfl,by omega,by rw [take_next hxr]; intro u hu; exact (List.mem_append.1 hu).elim (hrc u) (fun h => by rw [List.mem_singleton.1 h]; exact hrl)⟩,by omega⟩
  ·
   refine wl rfl (obin (u:=.int .i64 (xr.length:Int)) (v:=.int .i64 (xz.length:Int)) (z:=.bool true) rfl rfl (ev rfl rfl) (ev rfl rfl) (bin_neq (neT (by rw [← hcol]; omega))) ?_)
   refine wnil (thenN ?_)
   refine wT (ev rfl rfl) ?_
   refine wseq (wreg (wl rfl (oassign (v:=.int .i64 2) rfl rfl evc ?_)))
   refine wnil (thenN ?_)
   refine wleave ?_
   refine blkR ?_
   refine thenR ?_
   refine thenR ?_
   refine blkR ?_
   refine thenR ?_
   refine wret1 Tryd.results22 (tellT (v:=.int .i64 2) rfl rfl) ?_
   exact ⟨_,_,rfl,isI,hS.new0⟩
 ·
  refine wl rfl (obin (u:=.int .i64 (i:Int)) (v:=.int .i64 (nm:Int)) (z:=.bool false) rfl rfl (ev rfl rfl) (ev rfl rfl) (bin_lss (decide_eq_false (by omega))) ?_)
  refine wnil (thenN (wseq ?_))
  refine wF (ev rfl rfl) ?_
  refine wexit ?_
  refine thenE ?_
  refine thenE ?_
  refine blkE ?_
  refine thenN (wseq (wblock (wseq (wreg (wl rfl (omove (v:=.slice pm nm cm) rfl rfl (ev rfl rfl) ?_))))))
  refine wl rfl (olen rfl rfl rfl Tryd.runUnderlying23 (p:=pm) (k:=nm) (m:=cm) (ev rfl rfl) ?_)
  exact absurd (fun r hr => hrc r (by rw [List.take_of_length_le (by omega)]; exact hr)) hr
theorem whfaults3 {pm:Option Addr} {nm cm p:Nat} {M:List (List Nat)} {w:World} (ht:Tb w) (hm:MS w pm nm M) (hp2:p < 4294967296) (hb1:nm ≤ 2097152) (hb2:∀ r ∈ M,r.length ≤ 1048576) (hp:MR.Pr p) (hr:RectM M) (hq:¬ (M.length ≠ 0 ∧ M.length = colsM M)) :
  Calls Tryd.prog 22 #[.slice pm nm cm,.int .u32 ((p:Nat):Int)] w (Ret (Is (.int .i64 3)) w):=by
 have hml:=hm.1
 have hS:=Sep.init w
 refine went Tryd.func22 rfl (n:=41) rfl rfl ?_
 refine wseq (wreg (wl rfl (oassign (v:=.int .i64 0) rfl rfl evc ?_)))
 refine wnil (thenN (wseq (wseq (wreg (wl rfl (omove (v:=.int .u32 (p:Int)) rfl rfl (ev rfl rfl) ?_))))))
 refine wl rfl (ocall rfl rfl Tryd.call31 rfl (wpis (b:=true) hp2 (ht.at hS) ⟨fun _ => hp,fun _ => rfl⟩) (args1 (ev rfl rfl)) ?_)
 rintro _ w1 ⟨_,_,rfl,⟨rfl,rfl⟩,hN⟩
 refine ⟨_,rfl,?_⟩
 replace hS:=hS.news hN; clear hN
 refine wl rfl (onot (b:=true) rfl rfl (ev rfl rfl) ?_)
 refine wnil (thenN ?_)
 refine wF (ev rfl rfl) ?_
 refine wskip (thenN (wseq (wseq (wreg (wl rfl (omove (v:=.slice pm nm cm) rfl rfl (ev rfl rfl) ?_))))))
 refine wl rfl (olen rfl rfl rfl Tryd.runUnderlying23 (p:=pm) (k:=nm) (m:=cm) (ev rfl rfl) ?_)
 refine wl rfl (omove (v:=.int .i64 0) rfl rfl evc ?_)
 refine wnil (thenN (wblock ?_))
 refine wloop (σ := Nat) (fun i a9 w' => ∃ (fb:Nat → Value),a9 = act 41 (sets fb [(0,.slice pm nm cm),(10,.slice pm nm cm),(11,.int .i64 (nm:Int)),(12,.int .i64 (i:Int))]) ∧ Sep w [] w' ∧ (i ≤ nm)) (fun i => nm - i) (0) ⟨_,act_sets (l:=[(0,.slice pm nm cm),(10,.slice pm nm cm),(11,.int .i64 (nm:Int)),(12,.int .i64 0)]) ⟨rfl,rfl,rfl,rfl,trivial⟩,hS,Nat.zero_le _⟩ ?_
 clear hS; rintro i _ w2 ⟨fb,rfl,hS,hi⟩
 refine wseq (wreg ?_)
 by_cases hli:i < nm
 ·
  obtain ⟨xr,hxr⟩:∃ r,(M)[i]? = some r:=⟨_,List.getElem?_eq_getElem (by have:=hm.1; omega)⟩
  obtain ⟨br,ofr,pr,cr,hpr,hcr,hsr⟩:=hm.2.2 i _ hxr
  obtain ⟨xz,hxz⟩:∃ r,(M)[0]? = some r:=⟨_,List.getElem?_eq_getElem (by have:=hm.1; omega)⟩
  obtain ⟨bz,ofz,pz,cz,hpz,hcz,hsz⟩:=hm.2.2 0 _ hxz
  have hcol:=colsM_zero hxz
  have hrl:=hr xr (List.mem_of_getElem? hxr)
  refine wl rfl (obin (u:=.int .i64 (i:Int)) (v:=.int .i64 (nm:Int)) (z:=.bool true) rfl rfl (ev rfl rfl) (ev rfl rfl) (bin_lss (decide_eq_true (by omega))) ?_)
  refine wnil (thenN (wseq ?_))
  refine wT (ev rfl rfl) ?_
  refine wskip (thenN (wseq (wblock (wseq (wreg (wl rfl (oindex (p:=pm) (g:=br) (off:=ofr) (m:=nm) (k:=i) (j:=(ofr + i * 1)) rfl rfl Tryd.runUnderlying23 Tryd.sizeOf29 (ev rfl rfl) (hpr) (ev rfl rfl) (by omega) rfl ?_)))))))
  refine wl rfl (oloadc (v:=.slice pr xr.length cr) (show One Tryd.prog 29 from ⟨Tryd.isAgg29,Tryd.sizeOf29⟩) rfl rfl (ev (v:=.pointer (some ⟨br,(ofr + i * 1),none⟩)) rfl rfl) (hS.cellAt (hcr 0 _ rfl)) ?_)
  refine wl rfl (oassign (v:=.slice pr xr.length cr) rfl rfl (ev rfl rfl) ?_)
  refine wnil (thenN (wseq (wreg (wl rfl (omove (v:=.slice pr xr.length cr) rfl rfl (ev rfl rfl) ?_)))))
  refine wl rfl (olen rfl rfl rfl Tryd.runUnderlying29 (p:=pr) (k:=xr.length) (m:=cr) (ev rfl rfl) ?_)
  refine wl rfl (omove (v:=.slice pm nm cm) rfl rfl (ev rfl rfl) ?_)
  refine wl rfl (oindex (p:=pm) (g:=bz) (off:=ofz) (m:=nm) (k:=0) (j:=(ofz + 0 * 1)) rfl rfl Tryd.runUnderlying23 Tryd.sizeOf29 (ev rfl rfl) (hpz) evc (by omega) rfl ?_)
  refine wl rfl (oloadc (v:=.slice pz xz.length cz) (show One Tryd.prog 29 from ⟨Tryd.isAgg29,Tryd.sizeOf29⟩) rfl rfl (ev (v:=.pointer (some ⟨bz,(ofz + 0 * 1),none⟩)) rfl rfl) (hS.cellAt (hcz 0 _ rfl)) ?_)
  refine wl rfl (olen rfl rfl rfl Tryd.runUnderlying29 (p:=pz) (k:=xz.length) (m:=cz) (ev rfl rfl) ?_)
  refine wl rfl (obin (u:=.int .i64 (xr.length:Int)) (v:=.int .i64 (xz.length:Int)) (z:=.bool false) rfl rfl (ev rfl rfl) (ev rfl rfl) (bin_neq (neF (by rw [← hcol]; omega))) ?_)
  refine wnil (thenN ?_)
  refine wF (ev rfl rfl) ?_
  refine wskip (blkN (thenN (wreg (wl rfl (obin (u:=.int .i64 (i:Int)) (v:=.int .i64 1) (z:=.int .i64 (((i + 1:Nat):Int))) rfl rfl (ev rfl rfl) evc (bin_add (wrap_i64 (by omega) (by omega))) ?_)))))
  refine wl rfl (omove (v:=.int .i64 (((i + 1:Nat):Int))) rfl rfl (ev rfl rfl) ?_)
  refine wnil (thenN ?_)
  exact ⟨(i + 1),⟨_,act_sets (l:=[(0,.slice pm nm cm),(10,.slice pm nm cm),(11,.int .i64 (nm:Int)),(12,.int .i64 (((i + 1:Nat):Int)))]) ⟨rfl,rfl,rfl,rfl,trivial⟩,hS.pick [] (by decide) rfl,by omega⟩,by omega⟩
 ·
  refine wl rfl (obin (u:=.int .i64 (i:Int)) (v:=.int .i64 (nm:Int)) (z:=.bool false) rfl rfl (ev rfl rfl) (ev rfl rfl) (bin_lss (decide_eq_false (by omega))) ?_)
  refine wnil (thenN (wseq ?_))
  refine wF (ev rfl rfl) ?_
  refine wexit ?_
  refine thenE ?_
  refine thenE ?_
  refine blkE ?_
  refine thenN (wseq (wblock (wseq (wreg (wl rfl (omove (v:=.slice pm nm cm) rfl rfl (ev rfl rfl) ?_))))))
  refine wl rfl (olen rfl rfl rfl Tryd.runUnderlying23 (p:=pm) (k:=nm) (m:=cm) (ev rfl rfl) ?_)
  by_cases h0:M.length = 0
  ·
   refine wl rfl (obin (u:=.int .i64 (nm:Int)) (v:=.int .i64 0) (z:=.bool true) rfl rfl (ev rfl rfl) evc (bin_eql (eqT (by omega))) ?_)
   refine wl rfl (omove (v:=.bool true) rfl rfl (ev rfl rfl) ?_)
   refine wlOff (e:=28) (d:=29) (b':=true) rfl rfl rfl rfl rfl rfl ?_
   refine wlOff (e:=28) (d:=30) (b':=true) rfl rfl rfl rfl rfl rfl ?_
   refine wlOff (e:=28) (d:=31) (b':=true) rfl rfl rfl rfl rfl rfl ?_
   refine wlOff (e:=28) (d:=32) (b':=true) rfl rfl rfl rfl rfl rfl ?_
   refine wlOff (e:=28) (d:=33) (b':=true) rfl rfl rfl rfl rfl rfl ?_
   refine wlOff (e:=28) (d:=34) (b':=true) rfl rfl rfl rfl rfl rfl ?_
   refine wlOff (e:=28) (d:=35) (b':=true) rfl rfl rfl rfl rfl rfl ?_
   refine wl rfl (opick (b:=true) (v:=.bool true) rfl rfl (ev rfl rfl) evc ?_)
   refine wl rfl (oassign (v:=.bool true) rfl rfl (ev rfl rfl) ?_)
   refine wnil (thenN ?_)
   refine wT (ev rfl rfl) ?_
   refine wseq (wreg (wl rfl (oassign (v:=.int .i64 3) rfl rfl evc ?_)))
   refine wnil (thenN ?_)
   refine wleave ?_
   refine blkR ?_
   refine thenR ?_
   refine wret1 Tryd.results22 (tellT (v:=.int .i64 3) rfl rfl) ?_
   exact ⟨_,_,rfl,isI,hS.new0⟩
  ·
   refine wl rfl (obin (u:=.int .i64 (nm:Int)) (v:=.int .i64 0) (z:=.bool false) rfl rfl (ev rfl rfl) evc (bin_eql (eqF (by omega))) ?_)
   refine wl rfl (omove (v:=.bool false) rfl rfl (ev rfl rfl) ?_)
   refine wlOn (e:=28) rfl rfl rfl rfl (omove (v:=.slice pm nm cm) rfl rfl (ev rfl rfl) ?_)
   obtain ⟨xz,hxz⟩:∃ r,(M)[0]? = some r:=⟨_,List.getElem?_eq_getElem (by have:=hm.1; omega)⟩
   obtain ⟨bz,ofz,pz,cz,hpz,hcz,hsz⟩:=hm.2.2 0 _ hxz
   have hcol:=colsM_zero hxz
   refine wlOn (e:=28) rfl rfl rfl rfl (oindex (p:=pm) (g:=bz) (off:=ofz) (m:=nm) (k:=0) (j:=(ofz + 0 * 1)) rfl rfl Tryd.runUnderlying23 Tryd.sizeOf29 (ev rfl rfl) (hpz) evc (by omega) rfl ?_)
   refine wlOn (e:=28) rfl rfl rfl rfl (oloadc (v:=.slice pz xz.length cz) (show One Tryd.prog 29 from ⟨Tryd.isAgg29,Tryd.sizeOf29⟩) rfl rfl (ev (v:=.pointer (some ⟨bz,(ofz + 0 * 1),none⟩)) rfl rfl) (hS.cellAt (hcz 0 _ rfl)) ?_)
   refine wlOn (e:=28) rfl rfl rfl rfl (olen rfl rfl rfl Tryd.runUnderlying29 (p:=pz) (k:=xz.length) (m:=cz) (ev rfl rfl) ?_)
   refine wlOn (e:=28) rfl rfl rfl rfl (omove (v:=.slice pm nm cm) rfl rfl (ev rfl rfl) ?_)
   refine wlOn (e:=28) rfl rfl rfl rfl (olen rfl rfl rfl Tryd.runUnderlying23 (p:=pm) (k:=nm) (m:=cm) (ev rfl rfl) ?_)
   refine wlOn (e:=28) rfl rfl rfl rfl (obin (u:=.int .i64 (xz.length:Int)) (v:=.int .i64 (nm:Int)) (z:=.bool true) rfl rfl (ev rfl rfl) (ev rfl rfl) (bin_neq (neT (by rw [← hcol]; omega))) ?_)
   refine wl rfl (opick (b:=false) (v:=.bool true) rfl rfl (ev rfl rfl) (ev rfl rfl) ?_)
   refine wl rfl (oassign (v:=.bool true) rfl rfl (ev rfl rfl) ?_)
   refine wnil (thenN ?_)
   refine wT (ev rfl rfl) ?_
   refine wseq (wreg (wl rfl (oassign (v:=.int .i64 3) rfl rfl evc ?_)))
   refine wnil (thenN ?_)
   refine wleave ?_
   refine blkR ?_
   refine thenR ?_
   refine wret1 Tryd.results22 (tellT (v:=.int .i64 3) rfl rfl) ?_
   exact ⟨_,_,rfl,isI,hS.new0⟩
theorem whfaults4 {pm:Option Addr} {nm cm p:Nat} {M:List (List Nat)} {w:World} (ht:Tb w) (hm:MS w pm nm M) (hp2:p < 4294967296) (hb1:nm ≤ 2097152) (hb2:∀ r ∈ M,r.length ≤ 1048576) (hp:MR.Pr p) (hr:RectM M) (h0:M.length ≠ 0) (hq:M.length = colsM M) (hbig:24 < M.length) :
  Calls Tryd.prog 22 #[.slice pm nm cm,.int .u32 ((p:Nat):Int)] w (Ret (Is (.int .i64 4)) w):=by
 have hml:=hm.1
 have hS:=Sep.init w
 refine went Tryd.func22 rfl (n:=41) rfl rfl ?_
 refine wseq (wreg (wl rfl (oassign (v:=.int .i64 0) rfl rfl evc ?_)))
 refine wnil (thenN (wseq (wseq (wreg (wl rfl (omove (v:=.int .u32 (p:Int)) rfl rfl (ev rfl rfl) ?_))))))
 refine wl rfl (ocall rfl rfl Tryd.call31 rfl (wpis (b:=true) hp2 (ht.at hS) ⟨fun _ => hp,fun _ => rfl⟩) (args1 (ev rfl rfl)) ?_)
 rintro _ w1 ⟨_,_,rfl,⟨rfl,rfl⟩,hN⟩
 refine ⟨_,rfl,?_⟩
 replace hS:=hS.news hN; clear hN
 refine wl rfl (onot (b:=true) rfl rfl (ev rfl rfl) ?_)
 refine wnil (thenN ?_)
 refine wF (ev rfl rfl) ?_
 refine wskip (thenN (wseq (wseq (wreg (wl rfl (omove (v:=.slice pm nm cm) rfl rfl (ev rfl rfl) ?_))))))
 refine wl rfl (olen rfl rfl rfl Tryd.runUnderlying23 (p:=pm) (k:=nm) (m:=cm) (ev rfl rfl) ?_)
 refine wl rfl (omove (v:=.int .i64 0) rfl rfl evc ?_)
 refine wnil (thenN (wblock ?_))
 refine wloop (σ := Nat) (fun i a9 w' => ∃ (fb:Nat → Value),a9 = act 41 (sets fb [(0,.slice pm nm cm),(10,.slice pm nm cm),(11,.int .i64 (nm:Int)),(12,.int .i64 (i:Int))]) ∧ Sep w [] w' ∧ (i ≤ nm)) (fun i => nm - i) (0) ⟨_,act_sets (l:=[(0,.slice pm nm cm),(10,.slice pm nm cm),(11,.int .i64 (nm:Int)),(12,.int .i64 0)]) ⟨rfl,rfl,rfl,rfl,trivial⟩,hS,Nat.zero_le _⟩ ?_
 clear hS; rintro i _ w2 ⟨fb,rfl,hS,hi⟩
 refine wseq (wreg ?_)
 by_cases hli:i < nm
 ·
  obtain ⟨xr,hxr⟩:∃ r,(M)[i]? = some r:=⟨_,List.getElem?_eq_getElem (by have:=hm.1; omega)⟩
  obtain ⟨br,ofr,pr,cr,hpr,hcr,hsr⟩:=hm.2.2 i _ hxr
  obtain ⟨xz,hxz⟩:∃ r,(M)[0]? = some r:=⟨_,List.getElem?_eq_getElem (by have:=hm.1; omega)⟩
  obtain ⟨bz,ofz,pz,cz,hpz,hcz,hsz⟩:=hm.2.2 0 _ hxz
  have hcol:=colsM_zero hxz
  have hrl:=hr xr (List.mem_of_getElem? hxr)
  refine wl rfl (obin (u:=.int .i64 (i:Int)) (v:=.int .i64 (nm:Int)) (z:=.bool true) rfl rfl (ev rfl rfl) (ev rfl rfl) (bin_lss (decide_eq_true (by omega))) ?_)
  refine wnil (thenN (wseq ?_))
  refine wT (ev rfl rfl) ?_
  refine wskip (thenN (wseq (wblock (wseq (wreg (wl rfl (oindex (p:=pm) (g:=br) (off:=ofr) (m:=nm) (k:=i) (j:=(ofr + i * 1)) rfl rfl Tryd.runUnderlying23 Tryd.sizeOf29 (ev rfl rfl) (hpr) (ev rfl rfl) (by omega) rfl ?_)))))))
  refine wl rfl (oloadc (v:=.slice pr xr.length cr) (show One Tryd.prog 29 from ⟨Tryd.isAgg29,Tryd.sizeOf29⟩) rfl rfl (ev (v:=.pointer (some ⟨br,(ofr + i * 1),none⟩)) rfl rfl) (hS.cellAt (hcr 0 _ rfl)) ?_)
  refine wl rfl (oassign (v:=.slice pr xr.length cr) rfl rfl (ev rfl rfl) ?_)
  refine wnil (thenN (wseq (wreg (wl rfl (omove (v:=.slice pr xr.length cr) rfl rfl (ev rfl rfl) ?_)))))
  refine wl rfl (olen rfl rfl rfl Tryd.runUnderlying29 (p:=pr) (k:=xr.length) (m:=cr) (ev rfl rfl) ?_)
  refine wl rfl (omove (v:=.slice pm nm cm) rfl rfl (ev rfl rfl) ?_)
  refine wl rfl (oindex (p:=pm) (g:=bz) (off:=ofz) (m:=nm) (k:=0) (j:=(ofz + 0 * 1)) rfl rfl Tryd.runUnderlying23 Tryd.sizeOf29 (ev rfl rfl) (hpz) evc (by omega) rfl ?_)
  refine wl rfl (oloadc (v:=.slice pz xz.length cz) (show One Tryd.prog 29 from ⟨Tryd.isAgg29,Tryd.sizeOf29⟩) rfl rfl (ev (v:=.pointer (some ⟨bz,(ofz + 0 * 1),none⟩)) rfl rfl) (hS.cellAt (hcz 0 _ rfl)) ?_)
  refine wl rfl (olen rfl rfl rfl Tryd.runUnderlying29 (p:=pz) (k:=xz.length) (m:=cz) (ev rfl rfl) ?_)
  refine wl rfl (obin (u:=.int .i64 (xr.length:Int)) (v:=.int .i64 (xz.length:Int)) (z:=.bool false) rfl rfl (ev rfl rfl) (ev rfl rfl) (bin_neq (neF (by rw [← hcol]; omega))) ?_)
  refine wnil (thenN ?_)
  refine wF (ev rfl rfl) ?_
  refine wskip (blkN (thenN (wreg (wl rfl (obin (u:=.int .i64 (i:Int)) (v:=.int .i64 1) (z:=.int .i64 (((i + 1:Nat):Int))) rfl rfl (ev rfl rfl) evc (bin_add (wrap_i64 (by omega) (by omega))) ?_)))))
  refine wl rfl (omove (v:=.int .i64 (((i + 1:Nat):Int))) rfl rfl (ev rfl rfl) ?_)
  refine wnil (thenN ?_)
  exact ⟨(i + 1),⟨_,act_sets (l:=[(0,.slice pm nm cm),(10,.slice pm nm cm),(11,.int .i64 (nm:Int)),(12,.int .i64 (((i + 1:Nat):Int)))]) ⟨rfl,rfl,rfl,rfl,trivial⟩,hS.pick [] (by decide) rfl,by omega⟩,by omega⟩
 ·
  refine wl rfl (obin (u:=.int .i64 (i:Int)) (v:=.int .i64 (nm:Int)) (z:=.bool false) rfl rfl (ev rfl rfl) (ev rfl rfl) (bin_lss (decide_eq_false (by omega))) ?_)
  refine wnil (thenN (wseq ?_))
  refine wF (ev rfl rfl) ?_
  refine wexit ?_
  refine thenE ?_
  refine thenE ?_
  refine blkE ?_
  refine thenN (wseq (wblock (wseq (wreg (wl rfl (omove (v:=.slice pm nm cm) rfl rfl (ev rfl rfl) ?_))))))
  refine wl rfl (olen rfl rfl rfl Tryd.runUnderlying23 (p:=pm) (k:=nm) (m:=cm) (ev rfl rfl) ?_)
  refine wl rfl (obin (u:=.int .i64 (nm:Int)) (v:=.int .i64 0) (z:=.bool false) rfl rfl (ev rfl rfl) evc (bin_eql (eqF (by omega))) ?_)
  refine wl rfl (omove (v:=.bool false) rfl rfl (ev rfl rfl) ?_)
  refine wlOn (e:=28) rfl rfl rfl rfl (omove (v:=.slice pm nm cm) rfl rfl (ev rfl rfl) ?_)
  obtain ⟨xz,hxz⟩:∃ r,(M)[0]? = some r:=⟨_,List.getElem?_eq_getElem (by have:=hm.1; omega)⟩
  obtain ⟨bz,ofz,pz,cz,hpz,hcz,hsz⟩:=hm.2.2 0 _ hxz
  have hcol:=colsM_zero hxz
  refine wlOn (e:=28) rfl rfl rfl rfl (oindex (p:=pm) (g:=bz) (off:=ofz) (m:=nm) (k:=0) (j:=(ofz + 0 * 1)) rfl rfl Tryd.runUnderlying23 Tryd.sizeOf29 (ev rfl rfl) (hpz) evc (by omega) rfl ?_)
  refine wlOn (e:=28) rfl rfl rfl rfl (oloadc (v:=.slice pz xz.length cz) (show One Tryd.prog 29 from ⟨Tryd.isAgg29,Tryd.sizeOf29⟩) rfl rfl (ev (v:=.pointer (some ⟨bz,(ofz + 0 * 1),none⟩)) rfl rfl) (hS.cellAt (hcz 0 _ rfl)) ?_)
  refine wlOn (e:=28) rfl rfl rfl rfl (olen rfl rfl rfl Tryd.runUnderlying29 (p:=pz) (k:=xz.length) (m:=cz) (ev rfl rfl) ?_)
  refine wlOn (e:=28) rfl rfl rfl rfl (omove (v:=.slice pm nm cm) rfl rfl (ev rfl rfl) ?_)
  refine wlOn (e:=28) rfl rfl rfl rfl (olen rfl rfl rfl Tryd.runUnderlying23 (p:=pm) (k:=nm) (m:=cm) (ev rfl rfl) ?_)
  refine wlOn (e:=28) rfl rfl rfl rfl (obin (u:=.int .i64 (xz.length:Int)) (v:=.int .i64 (nm:Int)) (z:=.bool false) rfl rfl (ev rfl rfl) (ev rfl rfl) (bin_neq (neF (by rw [← hcol]; omega))) ?_)
  refine wl rfl (opick (b:=false) (v:=.bool false) rfl rfl (ev rfl rfl) (ev rfl rfl) ?_)
  refine wl rfl (oassign (v:=.bool false) rfl rfl (ev rfl rfl) ?_)
  refine wnil (thenN ?_)
  refine wF (ev rfl rfl) ?_
  refine wseq (wreg (wl rfl (omove (v:=.slice pm nm cm) rfl rfl (ev rfl rfl) ?_)))
  refine wl rfl (olen rfl rfl rfl Tryd.runUnderlying23 (p:=pm) (k:=nm) (m:=cm) (ev rfl rfl) ?_)
  refine wl rfl (obin (u:=.int .i64 (nm:Int)) (v:=.int .i64 24) (z:=.bool true) rfl rfl (ev rfl rfl) evc (bin_gtr (decide_eq_true (by omega))) ?_)
  refine wl rfl (oassign (v:=.bool true) rfl rfl (ev rfl rfl) ?_)
  refine wnil (thenN ?_)
  refine wT (ev rfl rfl) ?_
  refine wseq (wreg (wl rfl (oassign (v:=.int .i64 4) rfl rfl evc ?_)))
  refine wnil (thenN ?_)
  refine wleave ?_
  refine blkR ?_
  refine thenR ?_
  refine wret1 Tryd.results22 (tellT (v:=.int .i64 4) rfl rfl) ?_
  exact ⟨_,_,rfl,isI,hS.new0⟩
theorem whfaults0 {pm:Option Addr} {nm cm p:Nat} {M:List (List Nat)} {w:World} (ht:Tb w) (hm:MS w pm nm M) (hp2:p < 4294967296) (hb1:nm ≤ 2097152) (hb2:∀ r ∈ M,r.length ≤ 1048576) (hp:MR.Pr p) (hr:RectM M) (h0:M.length ≠ 0) (hq:M.length = colsM M) (hbig:M.length ≤ 24) :
  Calls Tryd.prog 22 #[.slice pm nm cm,.int .u32 ((p:Nat):Int)] w (Ret (Is (.int .i64 0)) w):=by
 have hml:=hm.1
 have hS:=Sep.init w
 refine went Tryd.func22 rfl (n:=41) rfl rfl ?_
 refine wseq (wreg (wl rfl (oassign (v:=.int .i64 0) rfl rfl evc ?_)))
 refine wnil (thenN (wseq (wseq (wreg (wl rfl (omove (v:=.int .u32 (p:Int)) rfl rfl (ev rfl rfl) ?_))))))
 refine wl rfl (ocall rfl rfl Tryd.call31 rfl (wpis (b:=true) hp2 (ht.at hS) ⟨fun _ => hp,fun _ => rfl⟩) (args1 (ev rfl rfl)) ?_)
 rintro _ w1 ⟨_,_,rfl,⟨rfl,rfl⟩,hN⟩
 refine ⟨_,rfl,?_⟩
 replace hS:=hS.news hN; clear hN
 refine wl rfl (onot (b:=true) rfl rfl (ev rfl rfl) ?_)
 refine wnil (thenN ?_)
 refine wF (ev rfl rfl) ?_
 refine wskip (thenN (wseq (wseq (wreg (wl rfl (omove (v:=.slice pm nm cm) rfl rfl (ev rfl rfl) ?_))))))
 refine wl rfl (olen rfl rfl rfl Tryd.runUnderlying23 (p:=pm) (k:=nm) (m:=cm) (ev rfl rfl) ?_)
 refine wl rfl (omove (v:=.int .i64 0) rfl rfl evc ?_)
 refine wnil (thenN (wblock ?_))
 refine wloop (σ := Nat) (fun i a9 w' => ∃ (fb:Nat → Value),a9 = act 41 (sets fb [(0,.slice pm nm cm),(10,.slice pm nm cm),(11,.int .i64 (nm:Int)),(12,.int .i64 (i:Int))]) ∧ Sep w [] w' ∧ (i ≤ nm)) (fun i => nm - i) (0) ⟨_,act_sets (l:=[(0,.slice pm nm cm),(10,.slice pm nm cm),(11,.int .i64 (nm:Int)),(12,.int .i64 0)]) ⟨rfl,rfl,rfl,rfl,trivial⟩,hS,Nat.zero_le _⟩ ?_
 clear hS; rintro i _ w2 ⟨fb,rfl,hS,hi⟩
 refine wseq (wreg ?_)
 by_cases hli:i < nm
 ·
  obtain ⟨xr,hxr⟩:∃ r,(M)[i]? = some r:=⟨_,List.getElem?_eq_getElem (by have:=hm.1; omega)⟩
  obtain ⟨br,ofr,pr,cr,hpr,hcr,hsr⟩:=hm.2.2 i _ hxr
  obtain ⟨xz,hxz⟩:∃ r,(M)[0]? = some r:=⟨_,List.getElem?_eq_getElem (by have:=hm.1; omega)⟩
  obtain ⟨bz,ofz,pz,cz,hpz,hcz,hsz⟩:=hm.2.2 0 _ hxz
  have hcol:=colsM_zero hxz
  have hrl:=hr xr (List.mem_of_getElem? hxr)
  refine wl rfl (obin (u:=.int .i64 (i:Int)) (v:=.int .i64 (nm:Int)) (z:=.bool true) rfl rfl (ev rfl rfl) (ev rfl rfl) (bin_lss (decide_eq_true (by omega))) ?_)
  refine wnil (thenN (wseq ?_))
  refine wT (ev rfl rfl) ?_
  refine wskip (thenN (wseq (wblock (wseq (wreg (wl rfl (oindex (p:=pm) (g:=br) (off:=ofr) (m:=nm) (k:=i) (j:=(ofr + i * 1)) rfl rfl Tryd.runUnderlying23 Tryd.sizeOf29 (ev rfl rfl) (hpr) (ev rfl rfl) (by omega) rfl ?_)))))))
  refine wl rfl (oloadc (v:=.slice pr xr.length cr) (show One Tryd.prog 29 from ⟨Tryd.isAgg29,Tryd.sizeOf29⟩) rfl rfl (ev (v:=.pointer (some ⟨br,(ofr + i * 1),none⟩)) rfl rfl) (hS.cellAt (hcr 0 _ rfl)) ?_)
  refine wl rfl (oassign (v:=.slice pr xr.length cr) rfl rfl (ev rfl rfl) ?_)
  refine wnil (thenN (wseq (wreg (wl rfl (omove (v:=.slice pr xr.length cr) rfl rfl (ev rfl rfl) ?_)))))
  refine wl rfl (olen rfl rfl rfl Tryd.runUnderlying29 (p:=pr) (k:=xr.length) (m:=cr) (ev rfl rfl) ?_)
  refine wl rfl (omove (v:=.slice pm nm cm) rfl rfl (ev rfl rfl) ?_)
  refine wl rfl (oindex (p:=pm) (g:=bz) (off:=ofz) (m:=nm) (k:=0) (j:=(ofz + 0 * 1)) rfl rfl Tryd.runUnderlying23 Tryd.sizeOf29 (ev rfl rfl) (hpz) evc (by omega) rfl ?_)
  refine wl rfl (oloadc (v:=.slice pz xz.length cz) (show One Tryd.prog 29 from ⟨Tryd.isAgg29,Tryd.sizeOf29⟩) rfl rfl (ev (v:=.pointer (some ⟨bz,(ofz + 0 * 1),none⟩)) rfl rfl) (hS.cellAt (hcz 0 _ rfl)) ?_)
  refine wl rfl (olen rfl rfl rfl Tryd.runUnderlying29 (p:=pz) (k:=xz.length) (m:=cz) (ev rfl rfl) ?_)
  refine wl rfl (obin (u:=.int .i64 (xr.length:Int)) (v:=.int .i64 (xz.length:Int)) (z:=.bool false) rfl rfl (ev rfl rfl) (ev rfl rfl) (bin_neq (neF (by rw [← hcol]; omega))) ?_)
  refine wnil (thenN ?_)
  refine wF (ev rfl rfl) ?_
  refine wskip (blkN (thenN (wreg (wl rfl (obin (u:=.int .i64 (i:Int)) (v:=.int .i64 1) (z:=.int .i64 (((i + 1:Nat):Int))) rfl rfl (ev rfl rfl) evc (bin_add (wrap_i64 (by omega) (by omega))) ?_)))))
  refine wl rfl (omove (v:=.int .i64 (((i + 1:Nat):Int))) rfl rfl (ev rfl rfl) ?_)
  refine wnil (thenN ?_)
  exact ⟨(i + 1),⟨_,act_sets (l:=[(0,.slice pm nm cm),(10,.slice pm nm cm),(11,.int .i64 (nm:Int)),(12,.int .i64 (((i + 1:Nat):Int)))]) ⟨rfl,rfl,rfl,rfl,trivial⟩,hS.pick [] (by decide) rfl,by omega⟩,by omega⟩
 ·
  refine wl rfl (obin (u:=.int .i64 (i:Int)) (v:=.int .i64 (nm:Int)) (z:=.bool false) rfl rfl (ev rfl rfl) (ev rfl rfl) (bin_lss (decide_eq_false (by omega))) ?_)
  refine wnil (thenN (wseq ?_))
  refine wF (ev rfl rfl) ?_
  refine wexit ?_
  refine thenE ?_
  refine thenE ?_
  refine blkE ?_
  refine thenN (wseq (wblock (wseq (wreg (wl rfl (omove (v:=.slice pm nm cm) rfl rfl (ev rfl rfl) ?_))))))
  refine wl rfl (olen rfl rfl rfl Tryd.runUnderlying23 (p:=pm) (k:=nm) (m:=cm) (ev rfl rfl) ?_)
  refine wl rfl (obin (u:=.int .i64 (nm:Int)) (v:=.int .i64 0) (z:=.bool false) rfl rfl (ev rfl rfl) evc (bin_eql (eqF (by omega))) ?_)
  refine wl rfl (omove (v:=.bool false) rfl rfl (ev rfl rfl) ?_)
  refine wlOn (e:=28) rfl rfl rfl rfl (omove (v:=.slice pm nm cm) rfl rfl (ev rfl rfl) ?_)
  obtain ⟨xz,hxz⟩:∃ r,(M)[0]? = some r:=⟨_,List.getElem?_eq_getElem (by have:=hm.1; omega)⟩
  obtain ⟨bz,ofz,pz,cz,hpz,hcz,hsz⟩:=hm.2.2 0 _ hxz
  have hcol:=colsM_zero hxz
  refine wlOn (e:=28) rfl rfl rfl rfl (oindex (p:=pm) (g:=bz) (off:=ofz) (m:=nm) (k:=0) (j:=(ofz + 0 * 1)) rfl rfl Tryd.runUnderlying23 Tryd.sizeOf29 (ev rfl rfl) (hpz) evc (by omega) rfl ?_)
  refine wlOn (e:=28) rfl rfl rfl rfl (oloadc (v:=.slice pz xz.length cz) (show One Tryd.prog 29 from ⟨Tryd.isAgg29,Tryd.sizeOf29⟩) rfl rfl (ev (v:=.pointer (some ⟨bz,(ofz + 0 * 1),none⟩)) rfl rfl) (hS.cellAt (hcz 0 _ rfl)) ?_)
  refine wlOn (e:=28) rfl rfl rfl rfl (olen rfl rfl rfl Tryd.runUnderlying29 (p:=pz) (k:=xz.length) (m:=cz) (ev rfl rfl) ?_)
  refine wlOn (e:=28) rfl rfl rfl rfl (omove (v:=.slice pm nm cm) rfl rfl (ev rfl rfl) ?_)
  refine wlOn (e:=28) rfl rfl rfl rfl (olen rfl rfl rfl Tryd.runUnderlying23 (p:=pm) (k:=nm) (m:=cm) (ev rfl rfl) ?_)
  refine wlOn (e:=28) rfl rfl rfl rfl (obin (u:=.int .i64 (xz.length:Int)) (v:=.int .i64 (nm:Int)) (z:=.bool false) rfl rfl (ev rfl rfl) (ev rfl rfl) (bin_neq (neF (by rw [← hcol]; omega))) ?_)
  refine wl rfl (opick (b:=false) (v:=.bool false) rfl rfl (ev rfl rfl) (ev rfl rfl) ?_)
  refine wl rfl (oassign (v:=.bool false) rfl rfl (ev rfl rfl) ?_)
  refine wnil (thenN ?_)
  refine wF (ev rfl rfl) ?_
  refine wseq (wreg (wl rfl (omove (v:=.slice pm nm cm) rfl rfl (ev rfl rfl) ?_)))
  refine wl rfl (olen rfl rfl rfl Tryd.runUnderlying23 (p:=pm) (k:=nm) (m:=cm) (ev rfl rfl) ?_)
  refine wl rfl (obin (u:=.int .i64 (nm:Int)) (v:=.int .i64 24) (z:=.bool false) rfl rfl (ev rfl rfl) evc (bin_gtr (decide_eq_false (by omega))) ?_)
  refine wl rfl (oassign (v:=.bool false) rfl rfl (ev rfl rfl) ?_)
  refine wnil (thenN ?_)
  refine wF (ev rfl rfl) ?_
  refine wskip (blkN (thenN (wseq (wreg (wl rfl (oassign (v:=.int .i64 0) rfl rfl evc ?_))))))
  refine wnil (thenN ?_)
  refine wleave ?_
  refine wret1 Tryd.results22 (tellT (v:=.int .i64 0) rfl rfl) ?_
  exact ⟨_,_,rfl,isI,hS.new0⟩
theorem whfaults {pm:Option Addr} {nm cm p:Nat} {M:List (List Nat)} {w:World} (ht:Tb w) (hm:MS w pm nm M) (hp2:p < 4294967296) (hb1:nm ≤ 2097152) (hb2:∀ r ∈ M,r.length ≤ 1048576) {e:Nat} (hc:HFa p M e):Calls Tryd.prog 22 #[.slice pm nm cm,.int .u32 ((p:Nat):Int)] w (Ret (Is (.int .i64 ((e:Nat):Int))) w):=by
  cases hc with
  | prime h => exact whfaults40 ht hm hp2 hb1 hb2 h
  | shape h h2 => exact whfaults2 ht hm hp2 hb1 hb2 h h2
  | square h h2 h3 => exact whfaults3 ht hm hp2 hb1 hb2 h h2 h3
  | big h h2 h3 h4 h5 => exact whfaults4 ht hm hp2 hb1 hb2 h h2 h3 h4 h5
  | ok h h2 h3 h4 h5 => exact whfaults0 ht hm hp2 hb1 hb2 h h2 h3 h4 h5
theorem whreduce {pm : Option Addr} {nm cm p : Nat} {M : List (List Nat)} {w : World} (ht : Tb w) (hm : MS w pm nm M) (hp2 : p < 4294967296) (hb1 : nm ≤ 2097152) (hb2 : ∀ r ∈ M, r.length ≤ 1048576) (hp : MR.Pr p) (hr : RectM M) (h0 : nm ≠ 0) (hq : M.length = colsM M) (hbig : nm ≤ 24) :
    Calls Tryd.prog 23 #[.slice pm nm cm,.int .u32 ((p:Nat):Int)] w (Ret (wkP p nm (HS.red p nm M (nm - 2))) w):=by
  have hml:=hm.1
  have hp1:=hp.1
  have hp0:0 < p:=by omega
  have hS:=Sep.init w
  refine went Tryd.func23 rfl (n:=139) rfl rfl ?_
  refine wseq (wreg (wl rfl (oassign (v:=.pointer none) rfl rfl evc ?_)))
  refine wnil (thenN (wseq (wreg (wl rfl (omove (v:=.int .u32 (p:Int)) rfl rfl (ev rfl rfl) ?_)))))
  refine wl rfl (oconvert (u:=.int .u32 (p:Int)) (v:=.int .u64 (p:Int)) rfl rfl (ev rfl rfl) (convert_int Tryd.runUnderlying24 Tryd.runUnderlying44 (wrap_u64 (by omega) (by omega))) ?_)
  refine wl rfl (obuild (ps:=#[(0,.int .u64 (p:Int))]) (v:=.agg #[.int .u64 (p:Int)]) rfl rfl (parts1 (ev (v:=.int .u64 (p:Int)) rfl rfl)) (fun w => by simp [go_sem,Instr.build,Instr.fill]) ?_)
  refine wl rfl (obuild (ps:=#[(0,.agg #[.int .u64 (p:Int)])]) (v:=.agg #[.int .u64 (p:Int),.slice none 0 0,.slice none 0 0,.slice none 0 0]) rfl rfl (parts1 (ev (v:=.agg #[.int .u64 (p:Int)]) rfl rfl)) (fun w => by simp [go_sem,Instr.build,Instr.fill]) ?_)
  refine wl rfl (obox [.int .u64 (p:Int),.slice none 0 0,.slice none 0 0,.slice none 0 0] hS rfl rfl (ev (v:=.agg #[.int .u64 (p:Int),.slice none 0 0,.slice none 0 0,.slice none 0 0]) rfl rfl) rfl ?_)
  clear hS; intro g1 w2 hS
  refine wl rfl (oassign (v:=.pointer (some ⟨g1,0,none⟩)) rfl rfl (ev rfl rfl) ?_)
  refine wnil (thenN (wseq (wreg (wl rfl (omove (v:=.pointer (some ⟨g1,0,none⟩)) rfl rfl (ev rfl rfl) ?_)))))
  refine wl rfl (omove (v:=.pointer (some ⟨g1,0,none⟩)) rfl rfl (ev rfl rfl) ?_)
  refine wl rfl (omove (v:=.pointer (some ⟨g1,0,none⟩)) rfl rfl (ev rfl rfl) ?_)
  refine wl rfl (omove (v:=.pointer (some ⟨g1,0,none⟩)) rfl rfl (ev rfl rfl) ?_)
  refine wl rfl (onilCheck (a:=⟨g1,0,none⟩) rfl rfl (ev rfl rfl) ?_)
  refine wl rfl (ofieldAddr (g:=g1) (off:=0) 0 rfl rfl (ev rfl rfl) Tryd.runUnderlying59 rfl Tryd.sizeOf57 rfl ?_)
  refine wl rfl (oload (vs:=[.int .u64 (p:Int)]) (show Agg Tryd.prog 57 1 from ⟨Tryd.isAgg57,Tryd.sizeOf57⟩) hS 0 rfl rfl (ev rfl rfl) rfl rfl rfl ?_)
  refine wl rfl (omove (v:=.slice pm nm cm) rfl rfl (ev rfl rfl) ?_)
  refine wl rfl (ocall rfl rfl Tryd.call35 rfl (whcopied (hm.at hS) hp0 hp2 hb1 hb2) (args2 (ev rfl rfl) (ev rfl rfl)) ?_)
  rintro _ w3 ⟨_,_,rfl,⟨pH,cH,QH,hQH,rfl,rfl⟩,hN⟩
  refine ⟨_,rfl,?_⟩
  replace hS:=hS.news hN; clear hN
  refine wl rfl (omove (v:=.slice pm nm cm) rfl rfl (ev rfl rfl) ?_)
  refine wl rfl (olen rfl rfl rfl Tryd.runUnderlying23 (p:=pm) (k:=nm) (m:=cm) (ev rfl rfl) ?_)
  refine wl rfl (ocall rfl rfl Tryd.call36 rfl (whidentity (by omega)) (args1 (ev rfl rfl)) ?_)
  rintro _ w4 ⟨_,_,rfl,⟨pS,cS,QS,hQS,rfl,rfl⟩,hN⟩
  refine ⟨_,rfl,?_⟩
  replace hS:=hS.news hN; clear hN
  refine wl rfl (omove (v:=.slice pm nm cm) rfl rfl (ev rfl rfl) ?_)
  refine wl rfl (olen rfl rfl rfl Tryd.runUnderlying23 (p:=pm) (k:=nm) (m:=cm) (ev rfl rfl) ?_)
  refine wl rfl (ocall rfl rfl Tryd.call36 rfl (whidentity (by omega)) (args1 (ev rfl rfl)) ?_)
  rintro _ w5 ⟨_,_,rfl,⟨pR,cR,QR,hQR,rfl,rfl⟩,hN⟩
  refine ⟨_,rfl,?_⟩
  replace hS:=hS.news hN; clear hN
  refine wl rfl (onilCheck (a:=⟨g1,0,none⟩) rfl rfl (ev rfl rfl) ?_)
  refine wl rfl (ofieldAddr (g:=g1) (off:=0) 1 rfl rfl (ev rfl rfl) Tryd.runUnderlying59 rfl Tryd.sizeOf23 rfl ?_)
  refine wl rfl (ostore [.slice pH nm cH] [.int .u64 (p:Int),.slice pH nm cH,.slice none 0 0,.slice none 0 0] Tryd.sizeOf23 hS 3 rfl rfl (ev rfl rfl) (ev (v:=.slice pH nm cH) rfl rfl) rfl rfl rfl rfl rfl rfl ?_)
  clear hS; intro w6 hS
  refine wl rfl (onilCheck (a:=⟨g1,0,none⟩) rfl rfl (ev rfl rfl) ?_)
  refine wl rfl (ofieldAddr (g:=g1) (off:=0) 2 rfl rfl (ev rfl rfl) Tryd.runUnderlying59 rfl Tryd.sizeOf23 rfl ?_)
  refine wl rfl (ostore [.slice pS nm cS] [.int .u64 (p:Int),.slice pH nm cH,.slice pS nm cS,.slice none 0 0] Tryd.sizeOf23 hS 3 rfl rfl (ev rfl rfl) (ev (v:=.slice pS nm cS) rfl rfl) rfl rfl rfl rfl rfl rfl ?_)
  clear hS; intro w7 hS
  refine wl rfl (onilCheck (a:=⟨g1,0,none⟩) rfl rfl (ev rfl rfl) ?_)
  refine wl rfl (ofieldAddr (g:=g1) (off:=0) 3 rfl rfl (ev rfl rfl) Tryd.runUnderlying59 rfl Tryd.sizeOf23 rfl ?_)
  refine wl rfl (ostore [.slice pR nm cR] [.int .u64 (p:Int),.slice pH nm cH,.slice pS nm cS,.slice pR nm cR] Tryd.sizeOf23 hS 3 rfl rfl (ev rfl rfl) (ev (v:=.slice pR nm cR) rfl rfl) rfl rfl rfl rfl rfl rfl ?_)
  clear hS; intro w8 hS
  refine wnil (thenN (wseq (wreg (wl rfl (omove (v:=.pointer (some ⟨g1,0,none⟩)) rfl rfl (ev rfl rfl) ?_)))))
  refine wl rfl (omakeFuncB (av:=#[.pointer (some ⟨g1,0,none⟩)]) (cs:=#[]) rfl rfl (args1 (ev rfl rfl)) (args0) ?_)
  refine wl rfl (oassign (v:=.func (.func 37) #[.pointer (some ⟨g1,0,none⟩)] #[]) rfl rfl (ev rfl rfl) ?_)
  refine wnil (thenN (wseq (wseq (wreg (wl rfl (omove (v:=.slice pm nm cm) rfl rfl (ev rfl rfl) ?_))))))
  refine wl rfl (olen rfl rfl rfl Tryd.runUnderlying23 (p:=pm) (k:=nm) (m:=cm) (ev rfl rfl) ?_)
  refine wl rfl (obin (u:=.int .i64 (nm:Int)) (v:=.int .i64 2) (z:=.int .i64 (((nm:Int) - 2))) rfl rfl (ev rfl rfl) evc (bin_sub (wrap_i64 (by omega) (by omega))) ?_)
  refine wl rfl (omax2 (a:=((nm:Int) - 2)) (b:=0) (r:=((nm - 2:Nat):Int)) rfl rfl rfl (ev (v:=.int .i64 (((nm:Int) - 2))) rfl rfl) (evc (v:=.int .i64 0)) (by split <;> omega) ?_)
  refine wl rfl (omove (v:=.int .i64 0) rfl rfl evc ?_)
  refine wnil (thenN (wblock ?_))
  refine wloop (σ := Nat) (fun k a9 w' => ∃ (fb:Nat → Value) (GH:List Rw) (GS:List Rw) (GR:List Rw),a9 = act 139 (sets fb [(0,.slice pm nm cm),(1,.int .u32 (p:Int)),(4,.pointer none),(5,.pointer (some ⟨g1,0,none⟩)),(6,.func (.func 37) #[.pointer (some ⟨g1,0,none⟩)] #[]),(43,.int .i64 (((nm - 2:Nat):Int))),(44,.int .i64 (k:Int))]) ∧ Sep w [.lst 29 1 pR nm cR (mmE GR),.lst 29 1 pS nm cS (mmE GS),.lst 29 1 pH nm cH (mmE GH),.blk g1 [.int .u64 (p:Int),.slice pH nm cH,.slice pS nm cS,.slice pR nm cR] 59] w' ∧ (k ≤ nm - 2) ∧ (nums GH = (HS.red p nm M k).H) ∧ (nums GS = (HS.red p nm M k).S) ∧ (nums GR = (HS.red p nm M k).R)) (fun k => nm - 2 - k) (0) ⟨_,QH,QS,QR,act_sets (l:=[(0,.slice pm nm cm),(1,.int .u32 (p:Int)),(4,.pointer none),(5,.pointer (some ⟨g1,0,none⟩)),(6,.func (.func 37) #[.pointer (some ⟨g1,0,none⟩)] #[]),(43,.int .i64 (((nm - 2:Nat):Int))),(44,.int .i64 0)]) ⟨rfl,rfl,rfl,rfl,rfl,rfl,rfl,trivial⟩,hS,Nat.zero_le _,hQH,hQS,hQR⟩ ?_
  clear hS; rintro k _ w9 ⟨fb,GH,GS,GR,rfl,hS,hk,hQH,hQS,hQR⟩
  refine wseq (wreg ?_)
  by_cases hlk:k < nm - 2
  ·
    have hok:HOk p nm (HS.red p nm M k):=HOk.redk hp1 hr (by omega) hq hk
    have hHl:GH.length = nm:=by rw [nums_lenQ hQH]; exact hok.hl
    have sH:Shp p nm (nums GH):=by rw [hQH]; exact hok.hs
    refine wl rfl (obin (u:=.int .i64 (k:Int)) (v:=.int .i64 (((nm - 2:Nat):Int))) (z:=.bool true) rfl rfl (ev rfl rfl) (ev rfl rfl) (bin_lss (decide_eq_true (by omega))) ?_)
    refine wnil (thenN (wseq ?_))
    refine wT (ev rfl rfl) ?_
    refine wskip (thenN (wseq (wblock (wseq (wreg (wl rfl (omove (v:=.int .i64 (k:Int)) rfl rfl (ev rfl rfl) ?_)))))))
    refine wl rfl (oassign (v:=.int .i64 (k:Int)) rfl rfl (ev rfl rfl) ?_)
    refine wnil (thenN (wseq (wreg (wl rfl (omove (v:=.int .i64 (k:Int)) rfl rfl (ev rfl rfl) ?_)))))
    obtain ⟨gH,hgH⟩:=hS.lstPtr 2 rfl (by omega)
    obtain ⟨gS,hgS⟩:=hS.lstPtr 1 rfl (by omega)
    obtain ⟨gR,hgR⟩:=hS.lstPtr 0 rfl (by omega)
    refine wl rfl (obin (u:=.int .i64 (k:Int)) (v:=.int .i64 1) (z:=.int .i64 (((k + 1:Nat):Int))) rfl rfl (ev rfl rfl) evc (bin_add (wrap_i64 (by omega) (by omega))) ?_)
    refine wl rfl (oassign (v:=.int .i64 (((k + 1:Nat):Int))) rfl rfl (ev rfl rfl) ?_)
    refine wnil (thenN (wseq (wblock ?_)))
    refine wloop (σ := Nat) (fun a a9 w' => ∃ (fb:Nat → Value),a9 = act 139 (sets fb [(0,.slice pm nm cm),(1,.int .u32 (p:Int)),(4,.pointer none),(5,.pointer (some ⟨g1,0,none⟩)),(6,.func (.func 37) #[.pointer (some ⟨g1,0,none⟩)] #[]),(7,.int .i64 (k:Int)),(8,.int .i64 (a:Int)),(43,.int .i64 (((nm - 2:Nat):Int))),(44,.int .i64 (k:Int))]) ∧ Sep w [.lst 29 1 pR nm cR (mmE GR),.lst 29 1 pS nm cS (mmE GS),.lst 29 1 pH nm cH (mmE GH),.blk g1 [.int .u64 (p:Int),.slice pH nm cH,.slice pS nm cS,.slice pR nm cR] 59] w' ∧ (k + 1 ≤ a ∧ a ≤ nm) ∧ (∀ l,k + 1 ≤ l → l < a → nd ((HS.red p nm M k).H.getD l []) k = 0)) (fun a => nm - a) ((k + 1)) ⟨_,act_sets (l:=[(0,.slice pm nm cm),(1,.int .u32 (p:Int)),(4,.pointer none),(5,.pointer (some ⟨g1,0,none⟩)),(6,.func (.func 37) #[.pointer (some ⟨g1,0,none⟩)] #[]),(7,.int .i64 (k:Int)),(8,.int .i64 (((k + 1:Nat):Int))),(43,.int .i64 (((nm - 2:Nat):Int))),(44,.int .i64 (k:Int))]) ⟨rfl,rfl,rfl,rfl,rfl,rfl,rfl,rfl,rfl,trivial⟩,hS,by omega,fun l h1 h2 => by omega⟩ ?_
    clear hS; rintro a _ w10 ⟨fb,rfl,hS,ha,hz⟩
    refine wseq (wseq (wreg (wl rfl (omove (v:=.int .i64 (a:Int)) rfl rfl (ev rfl rfl) ?_))))
    refine wl rfl (omove (v:=.slice pm nm cm) rfl rfl (ev rfl rfl) ?_)
    refine wl rfl (olen rfl rfl rfl Tryd.runUnderlying23 (p:=pm) (k:=nm) (m:=cm) (ev rfl rfl) ?_)
    by_cases hlan:a < nm
    ·
      refine wl rfl (obin (u:=.int .i64 (a:Int)) (v:=.int .i64 (nm:Int)) (z:=.bool true) rfl rfl (ev rfl rfl) (ev rfl rfl) (bin_lss (decide_eq_true (by omega))) ?_)
      refine wl rfl (omove (v:=.bool true) rfl rfl (ev rfl rfl) ?_)
      refine wlOn (e:=53) rfl rfl rfl rfl (omove (v:=.pointer (some ⟨g1,0,none⟩)) rfl rfl (ev rfl rfl) ?_)
      refine wlOn (e:=53) rfl rfl rfl rfl (onilCheck (a:=⟨g1,0,none⟩) rfl rfl (ev rfl rfl) ?_)
      refine wlOn (e:=53) rfl rfl rfl rfl (ofieldAddr (g:=g1) (off:=0) 1 rfl rfl (ev rfl rfl) Tryd.runUnderlying59 rfl Tryd.sizeOf23 rfl ?_)
      refine wlOn (e:=53) rfl rfl rfl rfl (oload1 (v:=.slice pH nm cH) (show One Tryd.prog 23 from ⟨Tryd.isAgg23,Tryd.sizeOf23⟩) hS 3 rfl rfl (ev rfl rfl) rfl rfl ?_)
      refine wlOn (e:=53) rfl rfl rfl rfl (omove (v:=.int .i64 (a:Int)) rfl rfl (ev rfl rfl) ?_)
      obtain ⟨⟨pe,ce,xe⟩,hqe⟩:∃ q,(GH)[a]? = some q:=⟨_,List.getElem?_eq_getElem (by omega)⟩
      have hde:(nums (GH)).getD a [] = xe:=getD_get (nums_get hqe)
      obtain ⟨hne,hlte⟩:=sH.get (nums_get hqe)
      simp only at hne hlte
      obtain ⟨ge,hge⟩:=hS.mPtr 2 rfl hqe (by show 0 < xe.length; omega)
      have hxe:=lt_nd hlte hp0 k
      refine wlOn (e:=53) rfl rfl rfl rfl (oindex (p:=pH) (g:=gH) (off:=0) (m:=nm) (k:=a) (j:=(0 + a * 1)) rfl rfl Tryd.runUnderlying23 Tryd.sizeOf29 (ev rfl rfl) (hgH) (ev rfl rfl) (by omega) rfl ?_)
      refine wlOn (e:=53) rfl rfl rfl rfl (oloadc (v:=.slice pe nm ce) (show One Tryd.prog 29 from ⟨Tryd.isAgg29,Tryd.sizeOf29⟩) rfl rfl (ev (v:=.pointer (some ⟨gH,(0 + a * 1),none⟩)) rfl rfl) (hS.mRow 2 rfl hqe hne hgH) ?_)
      refine wlOn (e:=53) rfl rfl rfl rfl (omove (v:=.int .i64 (k:Int)) rfl rfl (ev rfl rfl) ?_)
      refine wlOn (e:=53) rfl rfl rfl rfl (oindex (p:=pe) (g:=ge) (off:=0) (m:=nm) (k:=k) (j:=k) rfl rfl Tryd.runUnderlying29 Tryd.sizeOf24 (ev rfl rfl) (hge) (ev rfl rfl) (by omega) (by simp) ?_)
      refine wlOn (e:=53) rfl rfl rfl rfl (oloadc (v:=.int .u32 (((nd xe k:Nat):Int))) one32 rfl rfl (ev (v:=.pointer (some ⟨ge,k,none⟩)) rfl rfl) (hS.mCell 2 rfl hqe hge (by omega)) ?_)
      by_cases hze:nd xe k = 0
      ·
        refine wlOn (e:=53) rfl rfl rfl rfl (obin (u:=.int .u32 (((nd xe k:Nat):Int))) (v:=.int .u32 0) (z:=.bool true) rfl rfl (ev rfl rfl) evc (bin_eql (eqT (by omega))) ?_)
        refine wl rfl (opick (b:=true) (v:=.bool true) rfl rfl (ev rfl rfl) (ev rfl rfl) ?_)
        refine wnil (thenN ?_)
        refine wT (ev rfl rfl) ?_
        refine wskip (thenN (wblock (wreg (wl rfl (omove (v:=.int .i64 (a:Int)) rfl rfl (ev rfl rfl) ?_)))))
        refine wl rfl (obin (u:=.int .i64 (a:Int)) (v:=.int .i64 1) (z:=.int .i64 (((a + 1:Nat):Int))) rfl rfl (ev rfl rfl) evc (bin_add (wrap_i64 (by omega) (by omega))) ?_)
        refine wl rfl (oassign (v:=.int .i64 (((a + 1:Nat):Int))) rfl rfl (ev rfl rfl) ?_)
        refine wnil (blkN (thenN ?_))
        exact ⟨(a + 1), ⟨_, act_sets (l := [(0, .slice pm nm cm), (1, .int .u32 (p : Int)), (4, .pointer none), (5, .pointer (some ⟨g1, 0, none⟩)), (6, .func (.func 37) #[.pointer (some ⟨g1, 0, none⟩)] #[]), (7, .int .i64 (k : Int)), (8, .int .i64 (((a + 1 : Nat) : Int))), (43, .int .i64 (((nm - 2 : Nat) : Int))), (44, .int .i64 (k : Int))]) ⟨rfl, rfl, rfl, rfl, rfl, rfl, rfl, rfl, rfl, trivial⟩, hS.pick [0, 1, 2, 3] (by decide) rfl, by omega, fun l h1 h2 => by
                    by_cases e:l = a
                    · rw [e, ← hQH,hde]; exact hze
                    · exact hz l h1 (by omega)⟩,by omega⟩
      ·
        refine wlOn (e:=53) rfl rfl rfl rfl (obin (u:=.int .u32 (((nd xe k:Nat):Int))) (v:=.int .u32 0) (z:=.bool false) rfl rfl (ev rfl rfl) evc (bin_eql (eqF (by omega))) ?_)
        refine wl rfl (opick (b:=true) (v:=.bool false) rfl rfl (ev rfl rfl) (ev rfl rfl) ?_)
        refine wnil (thenN ?_)
        refine wF (ev rfl rfl) ?_
        refine wexit ?_
        refine thenE ?_
        refine thenE ?_
        refine blkE ?_
        refine thenN (wseq (wseq (wreg (wl rfl (omove (v:=.int .i64 (a:Int)) rfl rfl (ev rfl rfl) ?_)))))
        refine wl rfl (omove (v:=.slice pm nm cm) rfl rfl (ev rfl rfl) ?_)
        refine wl rfl (olen rfl rfl rfl Tryd.runUnderlying23 (p:=pm) (k:=nm) (m:=cm) (ev rfl rfl) ?_)
        have hfs:firstNZ (HS.red p nm M k).H k (nm - (k + 1)) (k + 1) = some a:=firstNZ_some ha.1 (by omega) (fun l h1 h2 => hz l h1 h2) (by rw [← hQH,hde]; exact hze)
        refine wl rfl (obin (u:=.int .i64 (a:Int)) (v:=.int .i64 (nm:Int)) (z:=.bool false) rfl rfl (ev rfl rfl) (ev rfl rfl) (bin_eql (eqF (by omega))) ?_)
        refine wnil (thenN ?_)
        refine wF (ev rfl rfl) ?_
        refine wskip (thenN ?_)
        refine wjoin (I:=fun a9 w' => ∃ (fb:Nat → Value) (PH:List Rw) (PS:List Rw) (PR:List Rw),a9 = act 139 (sets fb [(0,.slice pm nm cm),(1,.int .u32 (p:Int)),(4,.pointer none),(5,.pointer (some ⟨g1,0,none⟩)),(6,.func (.func 37) #[.pointer (some ⟨g1,0,none⟩)] #[]),(7,.int .i64 (k:Int)),(43,.int .i64 (((nm - 2:Nat):Int))),(44,.int .i64 (k:Int))]) ∧ Sep w [.lst 29 1 pR nm cR (mmE PR),.lst 29 1 pS nm cS (mmE PS),.lst 29 1 pH nm cH (mmE PH),.blk g1 [.int .u64 (p:Int),.slice pH nm cH,.slice pS nm cS,.slice pR nm cR] 59] w' ∧ (nums PH = ((HS.red p nm M k).pivot k a).H) ∧ (nums PS = ((HS.red p nm M k).pivot k a).S) ∧ (nums PR = ((HS.red p nm M k).pivot k a).R)) ?_ ?_
        ·
          refine wseq (wreg (wl rfl (omove (v:=.int .i64 (a:Int)) rfl rfl (ev rfl rfl) ?_)))
          refine wl rfl (omove (v:=.int .i64 (k:Int)) rfl rfl (ev rfl rfl) ?_)
          refine wl rfl (obin (u:=.int .i64 (k:Int)) (v:=.int .i64 1) (z:=.int .i64 (((k + 1:Nat):Int))) rfl rfl (ev rfl rfl) evc (bin_add (wrap_i64 (by omega) (by omega))) ?_)
          by_cases hak:a = k + 1
          ·
            refine wl rfl (obin (u:=.int .i64 (a:Int)) (v:=.int .i64 (((k + 1:Nat):Int))) (z:=.bool false) rfl rfl (ev rfl rfl) (ev rfl rfl) (bin_neq (neF (by omega))) ?_)
            refine wnil (thenN ?_)
            refine wF (ev rfl rfl) ?_
            refine wskip (thenN ?_)
            exact ⟨_,_,_,_,act_sets (l:=[(0,.slice pm nm cm),(1,.int .u32 (p:Int)),(4,.pointer none),(5,.pointer (some ⟨g1,0,none⟩)),(6,.func (.func 37) #[.pointer (some ⟨g1,0,none⟩)] #[]),(7,.int .i64 (k:Int)),(43,.int .i64 (((nm - 2:Nat):Int))),(44,.int .i64 (k:Int))]) ⟨rfl,rfl,rfl,rfl,rfl,rfl,rfl,rfl,trivial⟩,hS.pick [0,1,2,3] (by decide) rfl,by rw [pivot_eq hak]; exact hQH,by rw [pivot_eq hak]; exact hQS,by rw [pivot_eq hak]; exact hQR⟩
          ·
            refine wl rfl (obin (u:=.int .i64 (a:Int)) (v:=.int .i64 (((k + 1:Nat):Int))) (z:=.bool true) rfl rfl (ev rfl rfl) (ev rfl rfl) (bin_neq (neT (by omega))) ?_)
            refine wnil (thenN ?_)
            refine wT (ev rfl rfl) ?_
            refine wreg (wl rfl (omove (v:=.pointer (some ⟨g1,0,none⟩)) rfl rfl (ev rfl rfl) ?_))
            refine wl rfl (omove (v:=.int .i64 (a:Int)) rfl rfl (ev rfl rfl) ?_)
            refine wl rfl (omove (v:=.int .i64 (k:Int)) rfl rfl (ev rfl rfl) ?_)
            refine wl rfl (obin (u:=.int .i64 (k:Int)) (v:=.int .i64 1) (z:=.int .i64 (((k + 1:Nat):Int))) rfl rfl (ev rfl rfl) evc (bin_add (wrap_i64 (by omega) (by omega))) ?_)
            obtain hS:=(show Sep w [.blk g1 [.int .u64 (((p:Nat):Int)),.slice pH nm cH,.slice pS nm cS,.slice pR nm cR] 59,.lst 29 1 pH nm cH (mmE GH),.lst 29 1 pS nm cS (mmE GS),.lst 29 1 pR nm cR (mmE GR)] w10 from hS.pick [3,2,1,0] (by decide) rfl)
            refine wl rfl (ocall rfl rfl Tryd.call38 rfl (whswap (f:=0) hp0 hp2 hS (hQH) (hQS) (hQR) (hok) (by omega) (by omega) (by omega) (hak)) (args3 (ev rfl rfl) (ev rfl rfl) (ev rfl rfl)) ?_)
            rintro _ w11 ⟨_,_,rfl,⟨QHa,QSa,QRa,hQHa,hQSa,hQRa,rfl,rfl⟩,hN⟩
            refine ⟨_,rfl,?_⟩
            clear hS; have hS:=hN; clear hN
            refine wnil (thenN ?_)
            exact ⟨_,_,_,_,act_sets (l:=[(0,.slice pm nm cm),(1,.int .u32 (p:Int)),(4,.pointer none),(5,.pointer (some ⟨g1,0,none⟩)),(6,.func (.func 37) #[.pointer (some ⟨g1,0,none⟩)] #[]),(7,.int .i64 (k:Int)),(43,.int .i64 (((nm - 2:Nat):Int))),(44,.int .i64 (k:Int))]) ⟨rfl,rfl,rfl,rfl,rfl,rfl,rfl,rfl,trivial⟩,hS.pick [3,2,1,0] (by decide) rfl,by rw [pivot_ne hak]; exact hQHa,by rw [pivot_ne hak]; exact hQSa,by rw [pivot_ne hak]; exact hQRa⟩
        clear hS; rintro _ w11 ⟨fb,PH,PS,PR,rfl,hS,hPH,hPS,hPR⟩
        refine wseq (wreg (wl rfl (omove (v:=.pointer (some ⟨g1,0,none⟩)) rfl rfl (ev rfl rfl) ?_)))
        refine wl rfl (onilCheck (a:=⟨g1,0,none⟩) rfl rfl (ev rfl rfl) ?_)
        refine wl rfl (ofieldAddr (g:=g1) (off:=0) 1 rfl rfl (ev rfl rfl) Tryd.runUnderlying59 rfl Tryd.sizeOf23 rfl ?_)
        refine wl rfl (oload1 (v:=.slice pH nm cH) (show One Tryd.prog 23 from ⟨Tryd.isAgg23,Tryd.sizeOf23⟩) hS 3 rfl rfl (ev rfl rfl) rfl rfl ?_)
        refine wl rfl (omove (v:=.int .i64 (k:Int)) rfl rfl (ev rfl rfl) ?_)
        have hpo:HOk p nm ((HS.red p nm M k).pivot k a):=hok.pivot hp0 (by omega) (by omega)
        have hPl:PH.length = nm:=by rw [nums_lenQ hPH]; exact hpo.hl
        have sP:Shp p nm (nums PH):=by rw [hPH]; exact hpo.hs
        obtain ⟨⟨pf,cf,xf⟩,hqf⟩:∃ q,(PH)[(k + 1)]? = some q:=⟨_,List.getElem?_eq_getElem (by omega)⟩
        have hdf:(nums (PH)).getD ((k + 1)) [] = xf:=getD_get (nums_get hqf)
        obtain ⟨hnf,hltf⟩:=sP.get (nums_get hqf)
        simp only at hnf hltf
        obtain ⟨gf,hgf⟩:=hS.mPtr 2 rfl hqf (by show 0 < xf.length; omega)
        have hxf:=lt_nd hltf hp0 k
        have hff:nd (((HS.red p nm M k).pivot k a).H.getD (k + 1) []) k = nd xf k:=by rw [← hPH,hdf]
        have hx0:nd xf k ≠ 0:=by rw [← hff,pivot_at hok (by omega) (by omega) ha.1, ← hQH,hde]; exact hze
        obtain ⟨iv,hiv⟩:∃ iv,Hid (pinv p (nd xf k) = iv):=⟨_,rfl⟩
        have hivl:iv < p:=by rw [← hiv.out]; exact Nat.mod_lt _ hp0
        refine wl rfl (obin (u:=.int .i64 (k:Int)) (v:=.int .i64 1) (z:=.int .i64 (((k + 1:Nat):Int))) rfl rfl (ev rfl rfl) evc (bin_add (wrap_i64 (by omega) (by omega))) ?_)
        refine wl rfl (oindex (p:=pH) (g:=gH) (off:=0) (m:=nm) (k:=k + 1) (j:=(0 + (k + 1) * 1)) rfl rfl Tryd.runUnderlying23 Tryd.sizeOf29 (ev rfl rfl) (hgH) (ev rfl rfl) (by omega) rfl ?_)
        refine wl rfl (oloadc (v:=.slice pf nm cf) (show One Tryd.prog 29 from ⟨Tryd.isAgg29,Tryd.sizeOf29⟩) rfl rfl (ev (v:=.pointer (some ⟨gH,(0 + (k + 1) * 1),none⟩)) rfl rfl) (hS.mRow 2 rfl hqf hnf hgH) ?_)
        refine wl rfl (omove (v:=.int .i64 (k:Int)) rfl rfl (ev rfl rfl) ?_)
        refine wl rfl (oindex (p:=pf) (g:=gf) (off:=0) (m:=nm) (k:=k) (j:=k) rfl rfl Tryd.runUnderlying29 Tryd.sizeOf24 (ev rfl rfl) (hgf) (ev rfl rfl) (by omega) (by simp) ?_)
        refine wl rfl (oloadc (v:=.int .u32 (((nd xf k:Nat):Int))) one32 rfl rfl (ev (v:=.pointer (some ⟨gf,k,none⟩)) rfl rfl) (hS.mCell 2 rfl hqf hgf (by omega)) ?_)
        refine wl rfl (omove (v:=.int .u32 (p:Int)) rfl rfl (ev rfl rfl) ?_)
        refine wl rfl (ocall rfl rfl Tryd.call39 rfl ((show Calls _ _ _ _ (Ret (Is (.tuple #[.int .u32 (iv:Int),.int .i64 0])) _) from by rw [← hiv.out]; exact wpinv hp hp2 (by omega) (ht.at hS) (ndvd hx0 hxf))) (args2 (ev rfl rfl) (ev rfl rfl)) ?_)
        rintro _ w12 ⟨_,_,rfl,⟨rfl,rfl⟩,hN⟩
        refine ⟨_,rfl,?_⟩
        replace hS:=hS.news hN; clear hN
        refine wl rfl (omove (v:=.tuple #[.int .u32 (iv:Int),.int .i64 0]) rfl rfl (ev rfl rfl) ?_)
        refine wl rfl (oextract (vs:=[.int .u32 (iv:Int),.int .i64 0]) (v:=.int .u32 (iv:Int)) rfl rfl (ev rfl rfl) rfl ?_)
        refine wl rfl (oextract (vs:=[.int .u32 (iv:Int),.int .i64 0]) (v:=.int .i64 0) rfl rfl (ev rfl rfl) rfl ?_)
        refine wl rfl (oassign (v:=.int .u32 (iv:Int)) rfl rfl (ev rfl rfl) ?_)
        refine wl rfl (oassign (v:=.int .i64 0) rfl rfl (ev rfl rfl) ?_)
        refine wnil (thenN (wseq (wreg (wl rfl (omove (v:=.int .i64 (k:Int)) rfl rfl (ev rfl rfl) ?_)))))
        refine wl rfl (obin (u:=.int .i64 (k:Int)) (v:=.int .i64 2) (z:=.int .i64 (((k + 2 + 0:Nat):Int))) rfl rfl (ev rfl rfl) evc (bin_add (wrap_i64 (by omega) (by omega))) ?_)
        refine wl rfl (oassign (v:=.int .i64 (((k + 2 + 0:Nat):Int))) rfl rfl (ev rfl rfl) ?_)
        refine wnil (thenN (wblock ?_))
        refine wloop (σ := Nat) (fun d a9 w' => ∃ (fb:Nat → Value) (EH:List Rw) (ES:List Rw) (ER:List Rw),a9 = act 139 (sets fb [(0,.slice pm nm cm),(1,.int .u32 (p:Int)),(4,.pointer none),(5,.pointer (some ⟨g1,0,none⟩)),(6,.func (.func 37) #[.pointer (some ⟨g1,0,none⟩)] #[]),(7,.int .i64 (k:Int)),(9,.int .u32 (iv:Int)),(11,.int .i64 ((((k + 2 + d):Nat):Int))),(43,.int .i64 (((nm - 2:Nat):Int))),(44,.int .i64 (k:Int))]) ∧ Sep w [.lst 29 1 pR nm cR (mmE ER),.lst 29 1 pS nm cS (mmE ES),.lst 29 1 pH nm cH (mmE EH),.blk g1 [.int .u64 (p:Int),.slice pH nm cH,.slice pS nm cS,.slice pR nm cR] 59] w' ∧ (d + k + 2 ≤ nm) ∧ (nums EH = (((HS.red p nm M k).pivot k a).elim p k iv d).H) ∧ (nums ES = (((HS.red p nm M k).pivot k a).elim p k iv d).S) ∧ (nums ER = (((HS.red p nm M k).pivot k a).elim p k iv d).R)) (fun d => nm - (k + 2 + d)) (0) ⟨_,PH,PS,PR,act_sets (l:=[(0,.slice pm nm cm),(1,.int .u32 (p:Int)),(4,.pointer none),(5,.pointer (some ⟨g1,0,none⟩)),(6,.func (.func 37) #[.pointer (some ⟨g1,0,none⟩)] #[]),(7,.int .i64 (k:Int)),(9,.int .u32 (iv:Int)),(11,.int .i64 (((k + 2 + 0:Nat):Int))),(43,.int .i64 (((nm - 2:Nat):Int))),(44,.int .i64 (k:Int))]) ⟨rfl,rfl,rfl,rfl,rfl,rfl,rfl,rfl,rfl,rfl,trivial⟩,hS,by omega,hPH,hPS,hPR⟩ ?_
        clear hS; rintro d _ w13 ⟨fb,EH,ES,ER,rfl,hS,hd,hEH,hES,hER⟩
        refine wseq (wseq (wreg (wl rfl (omove (v:=.int .i64 ((((k + 2 + d):Nat):Int))) rfl rfl (ev rfl rfl) ?_))))
        refine wl rfl (omove (v:=.slice pm nm cm) rfl rfl (ev rfl rfl) ?_)
        refine wl rfl (olen rfl rfl rfl Tryd.runUnderlying23 (p:=pm) (k:=nm) (m:=cm) (ev rfl rfl) ?_)
        by_cases hlk2:k + 2 + d < nm
        ·
          have heo:HOk p nm (((HS.red p nm M k).pivot k a).elim p k iv d):=hpo.elim hp0 d hd
          have hEl:EH.length = nm:=by rw [nums_lenQ hEH]; exact heo.hl
          have sE:Shp p nm (nums EH):=by rw [hEH]; exact heo.hs
          refine wl rfl (obin (u:=.int .i64 ((((k + 2 + d):Nat):Int))) (v:=.int .i64 (nm:Int)) (z:=.bool true) rfl rfl (ev rfl rfl) (ev rfl rfl) (bin_lss (decide_eq_true (by omega))) ?_)
          refine wnil (thenN ?_)
          refine wT (ev rfl rfl) ?_
          refine wskip (thenN (wseq (wblock (wseq (wreg (wl rfl (omove (v:=.pointer (some ⟨g1,0,none⟩)) rfl rfl (ev rfl rfl) ?_)))))))
          refine wl rfl (onilCheck (a:=⟨g1,0,none⟩) rfl rfl (ev rfl rfl) ?_)
          refine wl rfl (ofieldAddr (g:=g1) (off:=0) 1 rfl rfl (ev rfl rfl) Tryd.runUnderlying59 rfl Tryd.sizeOf23 rfl ?_)
          refine wl rfl (oload1 (v:=.slice pH nm cH) (show One Tryd.prog 23 from ⟨Tryd.isAgg23,Tryd.sizeOf23⟩) hS 3 rfl rfl (ev rfl rfl) rfl rfl ?_)
          refine wl rfl (omove (v:=.int .i64 ((((k + 2 + d):Nat):Int))) rfl rfl (ev rfl rfl) ?_)
          obtain ⟨⟨pg,cg,xg⟩,hqg⟩:∃ q,(EH)[(k + 2 + d)]? = some q:=⟨_,List.getElem?_eq_getElem (by omega)⟩
          have hdg:(nums (EH)).getD ((k + 2 + d)) [] = xg:=getD_get (nums_get hqg)
          obtain ⟨hng,hltg⟩:=sE.get (nums_get hqg)
          simp only at hng hltg
          obtain ⟨gg,hgg⟩:=hS.mPtr 2 rfl hqg (by show 0 < xg.length; omega)
          have hxg:=lt_nd hltg hp0 k
          refine wl rfl (oindex (p:=pH) (g:=gH) (off:=0) (m:=nm) (k:=(k + 2 + d)) (j:=(0 + ((k + 2 + d)) * 1)) rfl rfl Tryd.runUnderlying23 Tryd.sizeOf29 (ev rfl rfl) (hgH) (ev rfl rfl) (by omega) rfl ?_)
          refine wl rfl (oloadc (v:=.slice pg nm cg) (show One Tryd.prog 29 from ⟨Tryd.isAgg29,Tryd.sizeOf29⟩) rfl rfl (ev (v:=.pointer (some ⟨gH,(0 + ((k + 2 + d)) * 1),none⟩)) rfl rfl) (hS.mRow 2 rfl hqg hng hgH) ?_)
          refine wl rfl (omove (v:=.int .i64 (k:Int)) rfl rfl (ev rfl rfl) ?_)
          refine wl rfl (oindex (p:=pg) (g:=gg) (off:=0) (m:=nm) (k:=k) (j:=k) rfl rfl Tryd.runUnderlying29 Tryd.sizeOf24 (ev rfl rfl) (hgg) (ev rfl rfl) (by omega) (by simp) ?_)
          refine wl rfl (oloadc (v:=.int .u32 (((nd xg k:Nat):Int))) one32 rfl rfl (ev (v:=.pointer (some ⟨gg,k,none⟩)) rfl rfl) (hS.mCell 2 rfl hqg hgg (by omega)) ?_)
          by_cases hz0:nd xg k = 0
          ·
            refine wl rfl (obin (u:=.int .u32 (((nd xg k:Nat):Int))) (v:=.int .u32 0) (z:=.bool false) rfl rfl (ev rfl rfl) evc (bin_neq (neF (by omega))) ?_)
            refine wnil (thenN ?_)
            refine wF (ev rfl rfl) ?_
            refine wskip (blkN (thenN (wreg (wl rfl (omove (v:=.int .i64 ((((k + 2 + d):Nat):Int))) rfl rfl (ev rfl rfl) ?_)))))
            refine wl rfl (obin (u:=.int .i64 ((((k + 2 + d):Nat):Int))) (v:=.int .i64 1) (z:=.int .i64 (((k + 2 + (d + 1):Nat):Int))) rfl rfl (ev rfl rfl) evc (bin_add (wrap_i64 (by omega) (by omega))) ?_)
            refine wl rfl (oassign (v:=.int .i64 (((k + 2 + (d + 1):Nat):Int))) rfl rfl (ev rfl rfl) ?_)
            refine wnil (thenN ?_)
            exact ⟨(d + 1),⟨_,_,_,_,act_sets (l:=[(0,.slice pm nm cm),(1,.int .u32 (p:Int)),(4,.pointer none),(5,.pointer (some ⟨g1,0,none⟩)),(6,.func (.func 37) #[.pointer (some ⟨g1,0,none⟩)] #[]),(7,.int .i64 (k:Int)),(9,.int .u32 (iv:Int)),(11,.int .i64 (((k + 2 + (d + 1):Nat):Int))),(43,.int .i64 (((nm - 2:Nat):Int))),(44,.int .i64 (k:Int))]) ⟨rfl,rfl,rfl,rfl,rfl,rfl,rfl,rfl,rfl,rfl,trivial⟩,hS.pick [0,1,2,3] (by decide) rfl,by omega,by rw [elim_skip (by rw [← hEH,hdg]; exact hz0)]; exact hEH,by rw [elim_skip (by rw [← hEH,hdg]; exact hz0)]; exact hES,by rw [elim_skip (by rw [← hEH,hdg]; exact hz0)]; exact hER⟩,by omega⟩
          ·
            refine wl rfl (obin (u:=.int .u32 (((nd xg k:Nat):Int))) (v:=.int .u32 0) (z:=.bool true) rfl rfl (ev rfl rfl) evc (bin_neq (neT (by omega))) ?_)
            refine wnil (thenN ?_)
            refine wT (ev rfl rfl) ?_
            refine wstage 20 [116,117,118,119,120,121,122,123,124,125,126,127,128,129,130,131,132,133,134,135] [[],[],[],[2],[],[4],[5,4],[6,4,5],[],[8],[9,8],[10,8,9],[],[11,12,8,9,10],[13,8,9,10,11,12],[],[14,15,8,9,10,11,12,13],[16,8,9,10,11,12,13,14,15],[],[7,17,18,4,5,6,8,9,10,11,12,13,14,15,16]] [[],[],[],[],[],[],[],[],[],[],[],[],[],[],[],[],[],[],[],[]] [] [] (fun i9 => ([fun _ => Is (.func (.func 37) #[.pointer (some ⟨g1,0,none⟩)] #[]),fun _ => Is (.int .i64 ((((k + 2 + d):Nat):Int))),fun _ => Is (.int .i64 (k:Int)),fun _ => Is (.int .i64 (((k + 1:Nat):Int))),fun _ => Is (.pointer (some ⟨g1,0,none⟩)),fun _ => Is (.pointer (some ⟨g1,0,none⟩)),fun _ => Is (.pointer (some ⟨g1,0,none⟩)),fun _ => Is (.agg #[.int .u64 (p:Int)]),fun _ => Is (.pointer (some ⟨g1,0,none⟩)),fun _ => Is (.pointer (some ⟨g1,0,none⟩)),fun _ => Is (.pointer (some ⟨g1,1,none⟩)),fun _ => Is (.slice pH nm cH),fun _ => Is (.int .i64 ((((k + 2 + d):Nat):Int))),fun _ => Is (.pointer (some ⟨gH,(0 + ((k + 2 + d)) * 1),none⟩)),fun _ => Is (.slice pg nm cg),fun _ => Is (.int .i64 (k:Int)),fun _ => Is (.pointer (some ⟨gg,k,none⟩)),fun _ => Is (.int .u32 (((nd xg k:Nat):Int))),fun _ => Is (.int .u32 (iv:Int)),fun _ => Is (.int .u32 ((((nd xg k) * iv % p:Nat):Int)))]:List (List Value → Tell)).getD i9 (fun _ _ _ => False)) (heldNil) (fun d _ _ _ _ h => (by cases d <;> exact h)) (by kernel_rfl) (by kernel_rfl) (by kernel_rfl) hS ?_ ?_
            ·
              refine stepsCons rfl (fun Q f' w' ρ S ho hT hS hB => ?_) ?_
              · exact .inl ⟨want_none rfl,omove (v:=.func (.func 37) #[.pointer (some ⟨g1,0,none⟩)] #[]) rfl rfl (ev rfl (ho 6 rfl)) ⟨_,_,rfl,isI,New.same _⟩⟩
              refine stepsCons rfl (fun Q f' w' ρ S ho hT hS hB => ?_) ?_
              · exact .inl ⟨want_none rfl,omove (v:=.int .i64 ((((k + 2 + d):Nat):Int))) rfl rfl (ev rfl (ho 11 rfl)) ⟨_,_,rfl,isI,New.same _⟩⟩
              refine stepsCons rfl (fun Q f' w' ρ S ho hT hS hB => ?_) ?_
              · exact .inl ⟨want_none rfl,omove (v:=.int .i64 (k:Int)) rfl rfl (ev rfl (ho 7 rfl)) ⟨_,_,rfl,isI,New.same _⟩⟩
              refine stepsCons rfl (fun Q f' w' ρ S ho hT hS hB => ?_) ?_
              · obtain ⟨hv2,hr2⟩:=(hT 2 118 rfl rfl:(Is (.int .i64 (((k:Nat):Int)))) _ _)
                obtain hS:=hS.flat1 hr2
                exact .inl ⟨want_none rfl,obin (u:=.int .i64 (k:Int)) (v:=.int .i64 1) (z:=.int .i64 (((k + 1:Nat):Int))) rfl rfl (ev rfl hv2) evc (bin_add (wrap_i64 (by omega) (by omega))) ⟨_,_,rfl,isI,New.same _⟩⟩
              refine stepsCons rfl (fun Q f' w' ρ S ho hT hS hB => ?_) ?_
              · exact .inl ⟨want_none rfl,omove (v:=.pointer (some ⟨g1,0,none⟩)) rfl rfl (ev rfl (ho 5 rfl)) ⟨_,_,rfl,isI,New.same _⟩⟩
              refine stepsCons rfl (fun Q f' w' ρ S ho hT hS hB => ?_) ?_
              · obtain ⟨hv4,hr4⟩:=(hT 4 120 rfl rfl:(Is (.pointer (some ⟨g1,0,none⟩))) _ _)
                obtain hS:=hS.flat1 hr4
                exact .inl ⟨want_none rfl,onilCheck (a:=⟨g1,0,none⟩) rfl rfl (ev rfl hv4) ⟨_,_,rfl,isI,New.same _⟩⟩
              refine stepsCons rfl (fun Q f' w' ρ S ho hT hS hB => ?_) ?_
              · obtain ⟨hv5,hr5⟩:=(hT 5 121 rfl rfl:(Is (.pointer (some ⟨g1,0,none⟩))) _ _)
                obtain hS:=hS.flat1 hr5
                exact .inl ⟨want_none rfl,ofieldAddr (g:=g1) (off:=0) 0 rfl rfl (ev rfl hv5) Tryd.runUnderlying59 rfl Tryd.sizeOf57 rfl ⟨_,_,rfl,isI,New.same _⟩⟩
              refine stepsCons rfl (fun Q f' w' ρ S ho hT hS hB => ?_) ?_
              · obtain ⟨hv6,hr6⟩:=(hT 6 122 rfl rfl:(Is (.pointer (some ⟨g1,0,none⟩))) _ _)
                obtain hS:=hS.flat1 hr6
                exact .inl ⟨want_none rfl,oload (vs:=[.int .u64 (p:Int)]) (show Agg Tryd.prog 57 1 from ⟨Tryd.isAgg57,Tryd.sizeOf57⟩) hS 3 rfl rfl (ev rfl hv6) rfl rfl rfl ⟨_,_,rfl,isI,New.same _⟩⟩
              refine stepsCons rfl (fun Q f' w' ρ S ho hT hS hB => ?_) ?_
              · exact .inl ⟨want_none rfl,omove (v:=.pointer (some ⟨g1,0,none⟩)) rfl rfl (ev rfl (ho 5 rfl)) ⟨_,_,rfl,isI,New.same _⟩⟩
              refine stepsCons rfl (fun Q f' w' ρ S ho hT hS hB => ?_) ?_
              · obtain ⟨hv8,hr8⟩:=(hT 8 124 rfl rfl:(Is (.pointer (some ⟨g1,0,none⟩))) _ _)
                obtain hS:=hS.flat1 hr8
                exact .inl ⟨want_none rfl,onilCheck (a:=⟨g1,0,none⟩) rfl rfl (ev rfl hv8) ⟨_,_,rfl,isI,New.same _⟩⟩
              refine stepsCons rfl (fun Q f' w' ρ S ho hT hS hB => ?_) ?_
              · obtain ⟨hv9,hr9⟩:=(hT 9 125 rfl rfl:(Is (.pointer (some ⟨g1,0,none⟩))) _ _)
                obtain hS:=hS.flat1 hr9
                exact .inl ⟨want_none rfl,ofieldAddr (g:=g1) (off:=0) 1 rfl rfl (ev rfl hv9) Tryd.runUnderlying59 rfl Tryd.sizeOf23 rfl ⟨_,_,rfl,isI,New.same _⟩⟩
              refine stepsCons rfl (fun Q f' w' ρ S ho hT hS hB => ?_) ?_
              · obtain ⟨hv10,hr10⟩:=(hT 10 126 rfl rfl:(Is (.pointer (some ⟨g1,1,none⟩))) _ _)
                obtain hS:=hS.flat1 hr10
                exact .inl ⟨want_none rfl,oload1 (v:=.slice pH nm cH) (show One Tryd.prog 23 from ⟨Tryd.isAgg23,Tryd.sizeOf23⟩) hS 3 rfl rfl (ev rfl hv10) rfl rfl ⟨_,_,rfl,isI,New.same _⟩⟩
              refine stepsCons rfl (fun Q f' w' ρ S ho hT hS hB => ?_) ?_
              · exact .inl ⟨want_none rfl,omove (v:=.int .i64 ((((k + 2 + d):Nat):Int))) rfl rfl (ev rfl (ho 11 rfl)) ⟨_,_,rfl,isI,New.same _⟩⟩
              refine stepsCons rfl (fun Q f' w' ρ S ho hT hS hB => ?_) ?_
              · obtain ⟨hv11,hr11⟩:=(hT 11 127 rfl rfl:(Is (.slice pH nm cH)) _ _)
                obtain ⟨hv12,hr12⟩:=(hT 12 128 rfl rfl:(Is (.int .i64 ((((k + 2 + d):Nat):Int)))) _ _)
                obtain hS:=hS.flat2 hr11 hr12
                exact .inl ⟨want_none rfl,oindex (p:=pH) (g:=gH) (off:=0) (m:=nm) (k:=(k + 2 + d)) (j:=(0 + ((k + 2 + d)) * 1)) rfl rfl Tryd.runUnderlying23 Tryd.sizeOf29 (ev rfl hv11) (hgH) (ev rfl hv12) (by omega) rfl ⟨_,_,rfl,isI,New.same _⟩⟩
              refine stepsCons rfl (fun Q f' w' ρ S ho hT hS hB => ?_) ?_
              · obtain ⟨hv13,hr13⟩:=(hT 13 129 rfl rfl:(Is (.pointer (some ⟨gH,(0 + ((k + 2 + d)) * 1),none⟩))) _ _)
                obtain hS:=hS.flat1 hr13
                exact .inl ⟨want_none rfl,oloadc (v:=.slice pg nm cg) (show One Tryd.prog 29 from ⟨Tryd.isAgg29,Tryd.sizeOf29⟩) rfl rfl (ev (v:=.pointer (some ⟨gH,(0 + ((k + 2 + d)) * 1),none⟩)) rfl hv13) (hS.mRow 2 rfl hqg hng hgH) ⟨_,_,rfl,isI,New.same _⟩⟩
              refine stepsCons rfl (fun Q f' w' ρ S ho hT hS hB => ?_) ?_
              · exact .inl ⟨want_none rfl,omove (v:=.int .i64 (k:Int)) rfl rfl (ev rfl (ho 7 rfl)) ⟨_,_,rfl,isI,New.same _⟩⟩
              refine stepsCons rfl (fun Q f' w' ρ S ho hT hS hB => ?_) ?_
              · obtain ⟨hv14,hr14⟩:=(hT 14 130 rfl rfl:(Is (.slice pg nm cg)) _ _)
                obtain ⟨hv15,hr15⟩:=(hT 15 131 rfl rfl:(Is (.int .i64 (((k:Nat):Int)))) _ _)
                obtain hS:=hS.flat2 hr14 hr15
                exact .inl ⟨want_none rfl,oindex (p:=pg) (g:=gg) (off:=0) (m:=nm) (k:=k) (j:=k) rfl rfl Tryd.runUnderlying29 Tryd.sizeOf24 (ev rfl hv14) (hgg) (ev rfl hv15) (by omega) (by simp) ⟨_,_,rfl,isI,New.same _⟩⟩
              refine stepsCons rfl (fun Q f' w' ρ S ho hT hS hB => ?_) ?_
              · obtain ⟨hv16,hr16⟩:=(hT 16 132 rfl rfl:(Is (.pointer (some ⟨gg,k,none⟩))) _ _)
                obtain hS:=hS.flat1 hr16
                exact .inl ⟨want_none rfl,oloadc (v:=.int .u32 (((nd xg k:Nat):Int))) one32 rfl rfl (ev (v:=.pointer (some ⟨gg,k,none⟩)) rfl hv16) (hS.mCell 2 rfl hqg hgg (by omega)) ⟨_,_,rfl,isI,New.same _⟩⟩
              refine stepsCons rfl (fun Q f' w' ρ S ho hT hS hB => ?_) ?_
              · exact .inl ⟨want_none rfl,omove (v:=.int .u32 (iv:Int)) rfl rfl (ev rfl (ho 9 rfl)) ⟨_,_,rfl,isI,New.same _⟩⟩
              refine stepsCons rfl (fun Q f' w' ρ S ho hT hS hB => ?_) ?_
              · obtain ⟨hv7,hr7⟩:=(hT 7 123 rfl rfl:(Is (.agg #[.int .u64 (((p:Nat):Int))])) _ _)
                obtain ⟨hv17,hr17⟩:=(hT 17 133 rfl rfl:(Is (.int .u32 (((nd xg k:Nat):Int)))) _ _)
                obtain ⟨hv18,hr18⟩:=(hT 18 134 rfl rfl:(Is (.int .u32 (((iv:Nat):Int)))) _ _)
                obtain hS:=hS.flat3 hr7 hr17 hr18
                exact .inl ⟨want_none rfl,ocall rfl rfl Tryd.call27 rfl (whmul (a:=(nd xg k)) (b:=iv) hp0 hp2 (by omega) (by omega)) (args3 (ev rfl hv7) (ev rfl hv17) (ev rfl hv18)) callN⟩
              exact stepsNil
            ·
              intro vs ρ w14 f' hf hT hS
              obtain ⟨hv0,hr0⟩:=(hT 0 (by decide):(Is (.func (.func 37) #[.pointer (some ⟨g1,0,none⟩)] #[])) _ _)
              obtain ⟨hv1,hr1⟩:=(hT 1 (by decide):(Is (.int .i64 ((((k + 2 + d):Nat):Int)))) _ _)
              obtain ⟨hv2,hr2⟩:=(hT 2 (by decide):(Is (.int .i64 (((k:Nat):Int)))) _ _)
              obtain ⟨hv3,hr3⟩:=(hT 3 (by decide):(Is (.int .i64 (((k + 1:Nat):Int)))) _ _)
              obtain ⟨hv4,hr4⟩:=(hT 4 (by decide):(Is (.pointer (some ⟨g1,0,none⟩))) _ _)
              obtain ⟨hv5,hr5⟩:=(hT 5 (by decide):(Is (.pointer (some ⟨g1,0,none⟩))) _ _)
              obtain ⟨hv6,hr6⟩:=(hT 6 (by decide):(Is (.pointer (some ⟨g1,0,none⟩))) _ _)
              obtain ⟨hv7,hr7⟩:=(hT 7 (by decide):(Is (.agg #[.int .u64 (((p:Nat):Int))])) _ _)
              obtain ⟨hv8,hr8⟩:=(hT 8 (by decide):(Is (.pointer (some ⟨g1,0,none⟩))) _ _)
              obtain ⟨hv9,hr9⟩:=(hT 9 (by decide):(Is (.pointer (some ⟨g1,0,none⟩))) _ _)
              obtain ⟨hv10,hr10⟩:=(hT 10 (by decide):(Is (.pointer (some ⟨g1,1,none⟩))) _ _)
              obtain ⟨hv11,hr11⟩:=(hT 11 (by decide):(Is (.slice pH nm cH)) _ _)
              obtain ⟨hv12,hr12⟩:=(hT 12 (by decide):(Is (.int .i64 ((((k + 2 + d):Nat):Int)))) _ _)
              obtain ⟨hv13,hr13⟩:=(hT 13 (by decide):(Is (.pointer (some ⟨gH,(0 + ((k + 2 + d)) * 1),none⟩))) _ _)
              obtain ⟨hv14,hr14⟩:=(hT 14 (by decide):(Is (.slice pg nm cg)) _ _)
              obtain ⟨hv15,hr15⟩:=(hT 15 (by decide):(Is (.int .i64 (((k:Nat):Int)))) _ _)
              obtain ⟨hv16,hr16⟩:=(hT 16 (by decide):(Is (.pointer (some ⟨gg,k,none⟩))) _ _)
              obtain ⟨hv17,hr17⟩:=(hT 17 (by decide):(Is (.int .u32 (((nd xg k:Nat):Int)))) _ _)
              obtain ⟨hv18,hr18⟩:=(hT 18 (by decide):(Is (.int .u32 (((iv:Nat):Int)))) _ _)
              obtain ⟨hv19,hr19⟩:=(hT 19 (by decide):(Is (.int .u32 ((((nd xg k) * iv % p:Nat):Int)))) _ _)
              simp only [pool,if_true,hr0,hr1,hr2,hr3,hr4,hr5,hr6,hr7,hr8,hr9,hr10,hr11,hr12,hr13,hr14,hr15,hr16,hr17,hr18,hr19,List.nil_append,List.cons_append,List.append_nil] at hS
              simp only [layf,hv0,hv1,hv2,hv3,hv4,hv5,hv6,hv7,hv8,hv9,hv10,hv11,hv12,hv13,hv14,hv15,hv16,hv17,hv18,hv19] at hf
              subst hf; clear hT hv0 hv1 hv2 hv3 hv4 hv5 hv6 hv7 hv8 hv9 hv10 hv11 hv12 hv13 hv14 hv15 hv16 hv17 hv18 hv19 hr0 hr1 hr2 hr3 hr4 hr5 hr6 hr7 hr8 hr9 hr10 hr11 hr12 hr13 hr14 hr15 hr16 hr17 hr18 hr19
              obtain hS:=(show Sep w [.blk g1 [.int .u64 (((p:Nat):Int)),.slice pH nm cH,.slice pS nm cS,.slice pR nm cR] 59,.lst 29 1 pH nm cH (mmE EH),.lst 29 1 pS nm cS (mmE ES),.lst 29 1 pR nm cR (mmE ER)] w14 from hS.pick [3,2,1,0] (by decide) rfl)
              refine wlate 20 rfl (by kernel_rfl) (ocallB (av:=#[.pointer (some ⟨g1,0,none⟩)]) (vs:=#[.int .i64 ((k + 2 + d:Nat):Int),.int .i64 ((k + 1:Nat):Int),.int .u32 ((nd xg k * iv % p:Nat):Int)]) rfl rfl (ev (v:=.func (.func 37) #[.pointer (some ⟨g1,0,none⟩)] #[]) rfl rfl) Tryd.call37 rfl (whless hp0 hp2 hS hEH hES hER heo (by omega) (by omega) (by omega) (by omega) (Nat.mod_lt _ hp0)) (args3 (ev rfl rfl) (ev rfl rfl) (ev rfl rfl)) ?_)
              rintro _ w15 ⟨_,_,rfl,⟨QHd,QSd,QRd,hQHd,hQSd,hQRd,rfl,rfl⟩,hN⟩
              refine ⟨_,rfl,?_⟩
              clear hS; have hS:=hN; clear hN
              refine ⟨heldNil,?_⟩
              refine wdone rfl ?_
              refine blkN (thenN (wreg (wl rfl (omove (v:=.int .i64 ((((k + 2 + d):Nat):Int))) rfl rfl (ev rfl rfl) ?_))))
              refine wl rfl (obin (u:=.int .i64 ((((k + 2 + d):Nat):Int))) (v:=.int .i64 1) (z:=.int .i64 (((k + 2 + (d + 1):Nat):Int))) rfl rfl (ev rfl rfl) evc (bin_add (wrap_i64 (by omega) (by omega))) ?_)
              refine wl rfl (oassign (v:=.int .i64 (((k + 2 + (d + 1):Nat):Int))) rfl rfl (ev rfl rfl) ?_)
              refine wnil (thenN ?_)
              exact ⟨(d + 1),⟨_,_,_,_,act_sets (l:=[(0,.slice pm nm cm),(1,.int .u32 (p:Int)),(4,.pointer none),(5,.pointer (some ⟨g1,0,none⟩)),(6,.func (.func 37) #[.pointer (some ⟨g1,0,none⟩)] #[]),(7,.int .i64 (k:Int)),(9,.int .u32 (iv:Int)),(11,.int .i64 (((k + 2 + (d + 1):Nat):Int))),(43,.int .i64 (((nm - 2:Nat):Int))),(44,.int .i64 (k:Int))]) ⟨rfl,rfl,rfl,rfl,rfl,rfl,rfl,rfl,rfl,rfl,trivial⟩,hS.pick [3,2,1,0] (by decide) rfl,by omega,by rw [elim_do (by rw [← hEH,hdg]; exact hz0), ← hEH,hdg]; exact hQHd,by rw [elim_do (by rw [← hEH,hdg]; exact hz0), ← hEH,hdg]; exact hQSd,by rw [elim_do (by rw [← hEH,hdg]; exact hz0), ← hEH,hdg]; exact hQRd⟩,by omega⟩
        ·
          refine wl rfl (obin (u:=.int .i64 ((((k + 2 + d):Nat):Int))) (v:=.int .i64 (nm:Int)) (z:=.bool false) rfl rfl (ev rfl rfl) (ev rfl rfl) (bin_lss (decide_eq_false (by omega))) ?_)
          refine wnil (thenN ?_)
          refine wF (ev rfl rfl) ?_
          refine wexit ?_
          refine thenE ?_
          refine thenE ?_
          refine blkE ?_
          refine blkN (thenN (wreg (wl rfl (obin (u:=.int .i64 (k:Int)) (v:=.int .i64 1) (z:=.int .i64 (((k + 1:Nat):Int))) rfl rfl (ev rfl rfl) evc (bin_add (wrap_i64 (by omega) (by omega))) ?_))))
          refine wl rfl (omove (v:=.int .i64 (((k + 1:Nat):Int))) rfl rfl (ev rfl rfl) ?_)
          refine wnil (thenN ?_)
          exact ⟨(k + 1),⟨_,_,_,_,act_sets (l:=[(0,.slice pm nm cm),(1,.int .u32 (p:Int)),(4,.pointer none),(5,.pointer (some ⟨g1,0,none⟩)),(6,.func (.func 37) #[.pointer (some ⟨g1,0,none⟩)] #[]),(43,.int .i64 (((nm - 2:Nat):Int))),(44,.int .i64 (((k + 1:Nat):Int)))]) ⟨rfl,rfl,rfl,rfl,rfl,rfl,rfl,trivial⟩,hS.pick [0,1,2,3] (by decide) rfl,by omega,by rw [HS.red,step_some hfs,hff,hiv.out,show nm - (k + 2) = d by omega]; exact hEH,by rw [HS.red,step_some hfs,hff,hiv.out,show nm - (k + 2) = d by omega]; exact hES,by rw [HS.red,step_some hfs,hff,hiv.out,show nm - (k + 2) = d by omega]; exact hER⟩,by omega⟩
    ·
      refine wl rfl (obin (u:=.int .i64 (a:Int)) (v:=.int .i64 (nm:Int)) (z:=.bool false) rfl rfl (ev rfl rfl) (ev rfl rfl) (bin_lss (decide_eq_false (by omega))) ?_)
      refine wl rfl (omove (v:=.bool false) rfl rfl (ev rfl rfl) ?_)
      refine wlOff (e:=53) (d:=54) (b':=false) rfl rfl rfl rfl rfl rfl ?_
      refine wlOff (e:=53) (d:=55) (b':=false) rfl rfl rfl rfl rfl rfl ?_
      refine wlOff (e:=53) (d:=56) (b':=false) rfl rfl rfl rfl rfl rfl ?_
      refine wlOff (e:=53) (d:=57) (b':=false) rfl rfl rfl rfl rfl rfl ?_
      refine wlOff (e:=53) (d:=58) (b':=false) rfl rfl rfl rfl rfl rfl ?_
      refine wlOff (e:=53) (d:=59) (b':=false) rfl rfl rfl rfl rfl rfl ?_
      refine wlOff (e:=53) (d:=60) (b':=false) rfl rfl rfl rfl rfl rfl ?_
      refine wlOff (e:=53) (d:=61) (b':=false) rfl rfl rfl rfl rfl rfl ?_
      refine wlOff (e:=53) (d:=62) (b':=false) rfl rfl rfl rfl rfl rfl ?_
      refine wlOff (e:=53) (d:=63) (b':=false) rfl rfl rfl rfl rfl rfl ?_
      refine wlOff (e:=53) (d:=64) (b':=false) rfl rfl rfl rfl rfl rfl ?_
      refine wl rfl (opick (b:=false) (v:=.bool false) rfl rfl (ev rfl rfl) evc ?_)
      refine wnil (thenN ?_)
      refine wF (ev rfl rfl) ?_
      refine wexit ?_
      refine thenE ?_
      refine thenE ?_
      refine blkE ?_
      refine thenN (wseq (wseq (wreg (wl rfl (omove (v:=.int .i64 (a:Int)) rfl rfl (ev rfl rfl) ?_)))))
      refine wl rfl (omove (v:=.slice pm nm cm) rfl rfl (ev rfl rfl) ?_)
      refine wl rfl (olen rfl rfl rfl Tryd.runUnderlying23 (p:=pm) (k:=nm) (m:=cm) (ev rfl rfl) ?_)
      have hfn:firstNZ (HS.red p nm M k).H k (nm - (k + 1)) (k + 1) = none:=firstNZ_none fun l h1 h2 => hz l h1 (by omega)
      refine wl rfl (obin (u:=.int .i64 (a:Int)) (v:=.int .i64 (nm:Int)) (z:=.bool true) rfl rfl (ev rfl rfl) (ev rfl rfl) (bin_eql (eqT (by omega))) ?_)
      refine wnil (thenN ?_)
      refine wT (ev rfl rfl) ?_
      refine wexit ?_
      refine thenE ?_
      refine blkE ?_
      refine thenN (wreg (wl rfl (obin (u:=.int .i64 (k:Int)) (v:=.int .i64 1) (z:=.int .i64 (((k + 1:Nat):Int))) rfl rfl (ev rfl rfl) evc (bin_add (wrap_i64 (by omega) (by omega))) ?_)))
      refine wl rfl (omove (v:=.int .i64 (((k + 1:Nat):Int))) rfl rfl (ev rfl rfl) ?_)
      refine wnil (thenN ?_)
      exact ⟨(k + 1),⟨_,_,_,_,act_sets (l:=[(0,.slice pm nm cm),(1,.int .u32 (p:Int)),(4,.pointer none),(5,.pointer (some ⟨g1,0,none⟩)),(6,.func (.func 37) #[.pointer (some ⟨g1,0,none⟩)] #[]),(43,.int .i64 (((nm - 2:Nat):Int))),(44,.int .i64 (((k + 1:Nat):Int)))]) ⟨rfl,rfl,rfl,rfl,rfl,rfl,rfl,trivial⟩,hS.pick [0,1,2,3] (by decide) rfl,by omega,by rw [HS.red,step_none hfn]; exact hQH,by rw [HS.red,step_none hfn]; exact hQS,by rw [HS.red,step_none hfn]; exact hQR⟩,by omega⟩
  ·
    refine wl rfl (obin (u:=.int .i64 (k:Int)) (v:=.int .i64 (((nm - 2:Nat):Int))) (z:=.bool false) rfl rfl (ev rfl rfl) (ev rfl rfl) (bin_lss (decide_eq_false (by omega))) ?_)
    refine wnil (thenN (wseq ?_))
    refine wF (ev rfl rfl) ?_
    refine wexit ?_
    refine thenE ?_
    refine thenE ?_
    refine blkE ?_
    refine thenN (wseq (wreg (wl rfl (omove (v:=.pointer (some ⟨g1,0,none⟩)) rfl rfl (ev rfl rfl) ?_))))
    refine wl rfl (oassign (v:=.pointer (some ⟨g1,0,none⟩)) rfl rfl (ev rfl rfl) ?_)
    refine wnil (thenN ?_)
    refine wleave ?_
    have hk9:k = nm - 2:=by omega
    refine wret1 Tryd.results23 (tellT (v:=.pointer (some ⟨g1,0,none⟩)) rfl rfl) ?_
    exact ⟨_,_,rfl,⟨_,_,_,_,_,_,_,_,_,_,by rw [← hk9]; exact hQH,by rw [← hk9]; exact hQS,by rw [← hk9]; exact hQR,rfl,rfl⟩,(show Sep w [.blk g1 [.int .u64 (p:Int),.slice pH nm cH,.slice pS nm cS,.slice pR nm cR] 59,.lst 29 1 pH nm cH (mmE GH),.lst 29 1 pS nm cS (mmE GS),.lst 29 1 pR nm cR (mmE GR)] _ from hS.pick [3,2,1,0] (by decide) rfl).newH rfl⟩
theorem whReduce {pm:Option Addr} {nm cm p:Nat} {M:List (List Nat)} {w:World} (ht:Tb w) (hm:MS w pm nm M) (hp2:p < 4294967296) (hb1:nm ≤ 2097152) (hb2:∀ r ∈ M,r.length ≤ 1048576) (hp:MR.Pr p) (hr:RectM M) (h0:nm ≠ 0) (hq:M.length = colsM M) (hbig:nm ≤ 24) :
  Calls Tryd.prog 16 #[.slice pm nm cm,.int .u32 ((p:Nat):Int)] w (Ret (rdH nm (HS.red p nm M (nm - 2))) w):=by
 have hml:=hm.1
 have hS:=Sep.init w
 refine went Tryd.func16 rfl (n:=31) rfl rfl ?_
 refine wseq (wreg (wl rfl (oassign (v:=.slice none 0 0) rfl rfl evc ?_)))
 refine wl rfl (oassign (v:=.slice none 0 0) rfl rfl evc ?_)
 refine wl rfl (oassign (v:=.slice none 0 0) rfl rfl evc ?_)
 refine wl rfl (oassign (v:=.int .i64 0) rfl rfl evc ?_)
 refine wnil (thenN (wseq (wseq (wreg (wl rfl (omove (v:=.slice pm nm cm) rfl rfl (ev rfl rfl) ?_))))))
 refine wl rfl (omove (v:=.int .u32 (p:Int)) rfl rfl (ev rfl rfl) ?_)
 refine wl rfl (ocall rfl rfl Tryd.call22 rfl (whfaults (ht.at hS) (hm.at hS) hp2 hb1 hb2 (HFa.ok hp hr (by omega) hq (by omega))) (args2 (ev rfl rfl) (ev rfl rfl)) ?_)
 rintro _ w1 ⟨_,_,rfl,⟨rfl,rfl⟩,hN⟩
 refine ⟨_,rfl,?_⟩
 replace hS:=hS.news hN; clear hN
 refine wl rfl (oassign (v:=.int .i64 (((0:Nat):Int))) rfl rfl (ev rfl rfl) ?_)
 refine wnil (thenN (wseq (wreg (wl rfl (omove (v:=.int .i64 (((0:Nat):Int))) rfl rfl (ev rfl rfl) ?_)))))
 refine wl rfl (obin (u:=.int .i64 (((0:Nat):Int))) (v:=.int .i64 0) (z:=.bool false) rfl rfl (ev rfl rfl) evc (bin_neq (neF (by omega))) ?_)
 refine wnil (thenN ?_)
 refine wF (ev rfl rfl) ?_
 refine wskip (thenN (wseq (wreg (wl rfl (omove (v:=.slice pm nm cm) rfl rfl (ev rfl rfl) ?_)))))
 refine wl rfl (omove (v:=.int .u32 (p:Int)) rfl rfl (ev rfl rfl) ?_)
 refine wl rfl (ocall rfl rfl Tryd.call23 rfl (whreduce (ht.at hS) (hm.at hS) hp2 hb1 hb2 hp hr h0 hq hbig) (args2 (ev rfl rfl) (ev rfl rfl)) ?_)
 rintro _ w2 ⟨_,_,rfl,⟨gw,pH,cH,pS,cS,pR,cR,QH,QS,QR,hQH,hQS,hQR,rfl,rfl⟩,hN⟩
 refine ⟨_,rfl,?_⟩
 replace hS:=hS.news hN; clear hN
 refine wl rfl (oassign (v:=.pointer (some ⟨gw,0,none⟩)) rfl rfl (ev rfl rfl) ?_)
 refine wnil (thenN (wseq ?_))
 refine wstage 16 [19,20,21,22,23,24,25,26,27,28,29,30,4,5,6,7] [[],[0],[1,0],[2,0,1],[],[4],[5,4],[6,4,5],[],[8],[9,8],[10,8,9],[3,0,1,2],[7,0,1,2,3,4,5,6,12],[11,0,1,2,3,4,5,6,7,8,9,10,12,13],[0,1,2,3,4,5,6,7,8,9,10,11,12,13,14]] [[],[],[],[],[],[],[],[],[],[],[],[],[],[],[],[]] [] [] (fun i9 => ([fun _ => Is (.pointer (some ⟨gw,0,none⟩)),fun _ => Is (.pointer (some ⟨gw,0,none⟩)),fun _ => Is (.pointer (some ⟨gw,1,none⟩)),fun _ => Is (.slice pH nm cH),fun _ => Is (.pointer (some ⟨gw,0,none⟩)),fun _ => Is (.pointer (some ⟨gw,0,none⟩)),fun _ => Is (.pointer (some ⟨gw,2,none⟩)),fun _ => Is (.slice pS nm cS),fun _ => Is (.pointer (some ⟨gw,0,none⟩)),fun _ => Is (.pointer (some ⟨gw,0,none⟩)),fun _ => Is (.pointer (some ⟨gw,3,none⟩)),fun _ => Is (.slice pR nm cR),fun _ => Is (.slice pH nm cH),fun _ => Is (.slice pS nm cS),fun _ => Is (.slice pR nm cR),fun _ => Is (.int .i64 0)]:List (List Value → Tell)).getD i9 (fun _ _ _ => False)) (heldNil) (fun d _ _ _ _ h => (by cases d <;> exact h)) (by kernel_rfl) (by kernel_rfl) (by kernel_rfl) hS ?_ ?_
 ·
  refine stepsCons rfl (fun Q f' w' ρ S ho hT hS hB => ?_) ?_
  ·exact .inl ⟨want_none rfl,omove (v:=.pointer (some ⟨gw,0,none⟩)) rfl rfl (ev rfl (ho 9 rfl)) ⟨_,_,rfl,isI,New.same _⟩⟩
  refine stepsCons rfl (fun Q f' w' ρ S ho hT hS hB => ?_) ?_
  ·obtain ⟨hv0,hr0⟩:=(hT 0 19 rfl rfl:(Is (.pointer (some ⟨gw,0,none⟩))) _ _)
   obtain hS:=hS.flat1 hr0
   exact .inl ⟨want_none rfl,onilCheck (a:=⟨gw,0,none⟩) rfl rfl (ev rfl hv0) ⟨_,_,rfl,isI,New.same _⟩⟩
  refine stepsCons rfl (fun Q f' w' ρ S ho hT hS hB => ?_) ?_
  ·obtain ⟨hv1,hr1⟩:=(hT 1 20 rfl rfl:(Is (.pointer (some ⟨gw,0,none⟩))) _ _)
   obtain hS:=hS.flat1 hr1
   exact .inl ⟨want_none rfl,ofieldAddr (g:=gw) (off:=0) 1 rfl rfl (ev rfl hv1) Tryd.runUnderlying59 rfl Tryd.sizeOf23 rfl ⟨_,_,rfl,isI,New.same _⟩⟩
  refine stepsCons rfl (fun Q f' w' ρ S ho hT hS hB => ?_) ?_
  ·obtain ⟨hv2,hr2⟩:=(hT 2 21 rfl rfl:(Is (.pointer (some ⟨gw,1,none⟩))) _ _)
   obtain hS:=hS.flat1 hr2
   exact .inl ⟨want_none rfl,oload1 (v:=.slice pH nm cH) (show One Tryd.prog 23 from ⟨Tryd.isAgg23,Tryd.sizeOf23⟩) hS 0 rfl rfl (ev rfl hv2) rfl rfl ⟨_,_,rfl,isI,New.same _⟩⟩
  refine stepsCons rfl (fun Q f' w' ρ S ho hT hS hB => ?_) ?_
  ·exact .inl ⟨want_none rfl,omove (v:=.pointer (some ⟨gw,0,none⟩)) rfl rfl (ev rfl (ho 9 rfl)) ⟨_,_,rfl,isI,New.same _⟩⟩
  refine stepsCons rfl (fun Q f' w' ρ S ho hT hS hB => ?_) ?_
  ·obtain ⟨hv4,hr4⟩:=(hT 4 23 rfl rfl:(Is (.pointer (some ⟨gw,0,none⟩))) _ _)
   obtain hS:=hS.flat1 hr4
   exact .inl ⟨want_none rfl,onilCheck (a:=⟨gw,0,none⟩) rfl rfl (ev rfl hv4) ⟨_,_,rfl,isI,New.same _⟩⟩
  refine stepsCons rfl (fun Q f' w' ρ S ho hT hS hB => ?_) ?_
  ·obtain ⟨hv5,hr5⟩:=(hT 5 24 rfl rfl:(Is (.pointer (some ⟨gw,0,none⟩))) _ _)
   obtain hS:=hS.flat1 hr5
   exact .inl ⟨want_none rfl,ofieldAddr (g:=gw) (off:=0) 2 rfl rfl (ev rfl hv5) Tryd.runUnderlying59 rfl Tryd.sizeOf23 rfl ⟨_,_,rfl,isI,New.same _⟩⟩
  refine stepsCons rfl (fun Q f' w' ρ S ho hT hS hB => ?_) ?_
  ·obtain ⟨hv6,hr6⟩:=(hT 6 25 rfl rfl:(Is (.pointer (some ⟨gw,2,none⟩))) _ _)
   obtain hS:=hS.flat1 hr6
   exact .inl ⟨want_none rfl,oload1 (v:=.slice pS nm cS) (show One Tryd.prog 23 from ⟨Tryd.isAgg23,Tryd.sizeOf23⟩) hS 0 rfl rfl (ev rfl hv6) rfl rfl ⟨_,_,rfl,isI,New.same _⟩⟩
  refine stepsCons rfl (fun Q f' w' ρ S ho hT hS hB => ?_) ?_
  ·exact .inl ⟨want_none rfl,omove (v:=.pointer (some ⟨gw,0,none⟩)) rfl rfl (ev rfl (ho 9 rfl)) ⟨_,_,rfl,isI,New.same _⟩⟩
  refine stepsCons rfl (fun Q f' w' ρ S ho hT hS hB => ?_) ?_
  ·obtain ⟨hv8,hr8⟩:=(hT 8 27 rfl rfl:(Is (.pointer (some ⟨gw,0,none⟩))) _ _)
   obtain hS:=hS.flat1 hr8
   exact .inl ⟨want_none rfl,onilCheck (a:=⟨gw,0,none⟩) rfl rfl (ev rfl hv8) ⟨_,_,rfl,isI,New.same _⟩⟩
  refine stepsCons rfl (fun Q f' w' ρ S ho hT hS hB => ?_) ?_
  ·obtain ⟨hv9,hr9⟩:=(hT 9 28 rfl rfl:(Is (.pointer (some ⟨gw,0,none⟩))) _ _)
   obtain hS:=hS.flat1 hr9
   exact .inl ⟨want_none rfl,ofieldAddr (g:=gw) (off:=0) 3 rfl rfl (ev rfl hv9) Tryd.runUnderlying59 rfl Tryd.sizeOf23 rfl ⟨_,_,rfl,isI,New.same _⟩⟩
  refine stepsCons rfl (fun Q f' w' ρ S ho hT hS hB => ?_) ?_
  ·obtain ⟨hv10,hr10⟩:=(hT 10 29 rfl rfl:(Is (.pointer (some ⟨gw,3,none⟩))) _ _)
   obtain hS:=hS.flat1 hr10
   exact .inl ⟨want_none rfl,oload1 (v:=.slice pR nm cR) (show One Tryd.prog 23 from ⟨Tryd.isAgg23,Tryd.sizeOf23⟩) hS 0 rfl rfl (ev rfl hv10) rfl rfl ⟨_,_,rfl,isI,New.same _⟩⟩
  refine stepsCons rfl (fun Q f' w' ρ S ho hT hS hB => ?_) ?_
  ·obtain ⟨hv3,hr3⟩:=(hT 3 22 rfl rfl:(Is (.slice pH nm cH)) _ _)
   obtain hS:=hS.flat1 hr3
   exact .inl ⟨want_none rfl,oassign (v:=.slice pH nm cH) rfl rfl (ev rfl hv3) ⟨_,_,rfl,isI,New.same _⟩⟩
  refine stepsCons rfl (fun Q f' w' ρ S ho hT hS hB => ?_) ?_
  ·obtain ⟨hv7,hr7⟩:=(hT 7 26 rfl rfl:(Is (.slice pS nm cS)) _ _)
   obtain hS:=hS.flat1 hr7
   exact .inl ⟨want_none rfl,oassign (v:=.slice pS nm cS) rfl rfl (ev rfl hv7) ⟨_,_,rfl,isI,New.same _⟩⟩
  refine stepsCons rfl (fun Q f' w' ρ S ho hT hS hB => ?_) ?_
  ·obtain ⟨hv11,hr11⟩:=(hT 11 30 rfl rfl:(Is (.slice pR nm cR)) _ _)
   obtain hS:=hS.flat1 hr11
   exact .inl ⟨want_none rfl,oassign (v:=.slice pR nm cR) rfl rfl (ev rfl hv11) ⟨_,_,rfl,isI,New.same _⟩⟩
  refine stepsCons rfl (fun Q f' w' ρ S ho hT hS hB => ?_) ?_
  ·exact .inl ⟨want_none rfl,oassign (v:=.int .i64 0) rfl rfl evc ⟨_,_,rfl,isI,New.same _⟩⟩
  exact stepsNil
 ·
  intro vs ρ w3 f' hf hT hS
  obtain ⟨hv0,hr0⟩:=(hT 0 (by decide):(Is (.pointer (some ⟨gw,0,none⟩))) _ _)
  obtain ⟨hv1,hr1⟩:=(hT 1 (by decide):(Is (.pointer (some ⟨gw,0,none⟩))) _ _)
  obtain ⟨hv2,hr2⟩:=(hT 2 (by decide):(Is (.pointer (some ⟨gw,1,none⟩))) _ _)
  obtain ⟨hv3,hr3⟩:=(hT 3 (by decide):(Is (.slice pH nm cH)) _ _)
  obtain ⟨hv4,hr4⟩:=(hT 4 (by decide):(Is (.pointer (some ⟨gw,0,none⟩))) _ _)
  obtain ⟨hv5,hr5⟩:=(hT 5 (by decide):(Is (.pointer (some ⟨gw,0,none⟩))) _ _)
  obtain ⟨hv6,hr6⟩:=(hT 6 (by decide):(Is (.pointer (some ⟨gw,2,none⟩))) _ _)
  obtain ⟨hv7,hr7⟩:=(hT 7 (by decide):(Is (.slice pS nm cS)) _ _)
  obtain ⟨hv8,hr8⟩:=(hT 8 (by decide):(Is (.pointer (some ⟨gw,0,none⟩))) _ _)
  obtain ⟨hv9,hr9⟩:=(hT 9 (by decide):(Is (.pointer (some ⟨gw,0,none⟩))) _ _)
  obtain ⟨hv10,hr10⟩:=(hT 10 (by decide):(Is (.pointer (some ⟨gw,3,none⟩))) _ _)
  obtain ⟨hv11,hr11⟩:=(hT 11 (by decide):(Is (.slice pR nm cR)) _ _)
  obtain ⟨hv12,hr12⟩:=(hT 12 (by decide):(Is (.slice pH nm cH)) _ _)
  obtain ⟨hv13,hr13⟩:=(hT 13 (by decide):(Is (.slice pS nm cS)) _ _)
  obtain ⟨hv14,hr14⟩:=(hT 14 (by decide):(Is (.slice pR nm cR)) _ _)
  obtain ⟨hv15,hr15⟩:=(hT 15 (by decide):(Is (.int .i64 0)) _ _)
  simp only [pool,if_true,hr0,hr1,hr2,hr3,hr4,hr5,hr6,hr7,hr8,hr9,hr10,hr11,hr12,hr13,hr14,hr15,List.nil_append,List.cons_append,List.append_nil] at hS
  simp only [layf,hv0,hv1,hv2,hv3,hv4,hv5,hv6,hv7,hv8,hv9,hv10,hv11,hv12,hv13,hv14,hv15] at hf
  subst hf; clear hT hv0 hv1 hv2 hv3 hv4 hv5 hv6 hv7 hv8 hv9 hv10 hv11 hv12 hv13 hv14 hv15 hr0 hr1 hr2 hr3 hr4 hr5 hr6 hr7 hr8 hr9 hr10 hr11 hr12 hr13 hr14 hr15
  refine wdone rfl ?_
  refine thenN ?_
  refine wleave ?_
  refine wret4 Tryd.results16 (tellT (v:=.slice pH nm cH) rfl rfl) (tellT (v:=.slice pS nm cS) rfl rfl) (tellT (v:=.slice pR nm cR) rfl rfl) (tellT (v:=.int .i64 0) rfl rfl) ?_
  exact ⟨_,_,rfl,⟨_,_,_,_,_,_,_,_,_,hQH,hQS,hQR,rfl,rfl⟩,(show Sep w [.lst 29 1 pH nm cH (mmE QH),.lst 29 1 pS nm cS (mmE QS),.lst 29 1 pR nm cR (mmE QR)] _ from hS.pick [1,2,3] (by decide) rfl).newH rfl⟩
end Go.Proofs.YtcfcdbeemhjhgaaDoor
