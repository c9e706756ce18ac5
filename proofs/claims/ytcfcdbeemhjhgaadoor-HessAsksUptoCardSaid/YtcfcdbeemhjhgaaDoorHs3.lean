/-
  Contracts and lemmas, joined in one text.
-/
import Derived.Test.YtcfcdbeemhjhgaaDoorHs2
set_option linter.unusedVariables false
set_option linter.unusedSimpArgs false
/-
  hess's faults,reduce,Reduce.
-/
set_option maxRecDepth 100000
set_option maxHeartbeats 16000000
namespace Go.Proofs.YtcfcdbeemhjhgaaDoor
open Go.RowKit
inductive HFa (p:Nat) (M:List (List Nat)):Nat → Prop where
  | prime:¬ MR.Pr p → HFa p M 40
  | shape:MR.Pr p → ¬ RectM M → HFa p M 2
  | square:MR.Pr p → RectM M → ¬ (M.length ≠ 0 ∧ M.length = colsM M) → HFa p M 3
  | big:MR.Pr p → RectM M → M.length ≠ 0 → M.length = colsM M → 24 < M.length → HFa p M 4
  | ok:MR.Pr p → RectM M → M.length ≠ 0 → M.length = colsM M → M.length ≤ 24 → HFa p M 0
theorem HFa.ex (p:Nat) (M:List (List Nat)):∃ e,HFa p M e:=by
 by_cases h1:MR.Pr p
 ·by_cases h2:RectM M
  ·by_cases h3:M.length ≠ 0 ∧ M.length = colsM M
   ·by_cases h4:M.length ≤ 24
    ·exact ⟨0,.ok h1 h2 h3.1 h3.2 h4⟩
    exact ⟨4,.big h1 h2 h3.1 h3.2 (by omega)⟩
   exact ⟨3,.square h1 h2 h3⟩
  exact ⟨2,.shape h1 h2⟩
 exact ⟨40,.prime h1⟩
theorem HFa.zero {p:Nat} {M:List (List Nat)} (h:HFa p M 0):MR.Pr p ∧ RectM M ∧ M.length ≠ 0 ∧ M.length = colsM M ∧ M.length ≤ 24:=by
  cases h; exact ⟨by assumption,by assumption,by assumption,by assumption,by assumption⟩
theorem HFa.lt {p e:Nat} {M:List (List Nat)} (h:HFa p M e):e ≤ 40:=by cases h <;> omega
theorem HFa.un {p e f:Nat} {M:List (List Nat)} (h:HFa p M e) (g:HFa p M f):e = f:=by
  cases h <;> cases g <;> first | rfl | contradiction | omega | (exfalso; rename_i a b; exact absurd ⟨by assumption,by assumption⟩ (by assumption))
theorem colsM_zero {M:List (List Nat)} {x:List Nat} (h:M[0]? = some x):colsM M = x.length:=by unfold colsM; rw [getD_get h]
def wkP (p n:Nat) (s:HS):Tell:=fun v r => ∃ g pH cH pS cS pR cR QH QS QR,nums QH = s.H ∧ nums QS = s.S ∧ nums QR = s.R ∧ v = .pointer (some ⟨g,0,none⟩) ∧ r = [.blk g [.int .u64 ((p:Nat):Int),.slice pH n cH,.slice pS n cS,.slice pR n cR] 59,.lst 29 1 pH n cH (mmE QH),.lst 29 1 pS n cS (mmE QS),.lst 29 1 pR n cR (mmE QR)]
def rdH (n:Nat) (s:HS):Tell:=fun v r => ∃ pH cH pS cS pR cR QH QS QR,nums QH = s.H ∧ nums QS = s.S ∧ nums QR = s.R ∧ v = .tuple #[.slice pH n cH,.slice pS n cS,.slice pR n cR,.int .i64 0] ∧ r = [.lst 29 1 pH n cH (mmE QH),.lst 29 1 pS n cS (mmE QS),.lst 29 1 pR n cR (mmE QR)]
theorem HOk.redk {p n:Nat} {M:List (List Nat)} (hp:1 < p) (hr:RectM M) (hl:M.length = n) (hq:M.length = colsM M) {k:Nat} (hk:k ≤ n - 2):HOk p n (HS.red p n M k):=by
  cases k with
  | zero => exact HOk.start hp hr hl hq
  | succ k => exact HOk.red hp hr hl hq (k + 2) (by omega)
theorem step_some {p n k i:Nat} {s:HS} (h:firstNZ s.H k (n - (k + 1)) (k + 1) = some i):s.step p n k = (s.pivot k i).elim p k (pinv p (nd ((s.pivot k i).H.getD (k + 1) []) k)) (n - (k + 2)):=by unfold HS.step; rw [h]
theorem step_none {p n k:Nat} {s:HS} (h:firstNZ s.H k (n - (k + 1)) (k + 1) = none):s.step p n k = s:=by unfold HS.step; rw [h]
theorem pivot_eq {s:HS} {k i:Nat} (h:i = k + 1):s.pivot k i = s:=if_pos h
theorem pivot_ne {s:HS} {k i:Nat} (h:¬ i = k + 1):s.pivot k i = s.swap i (k + 1):=if_neg h
theorem elim_skip {p k iv d:Nat} {s:HS} (h:nd (((s.elim p k iv d).H).getD (k + 2 + d) []) k = 0):s.elim p k iv (d + 1) = s.elim p k iv d:=if_pos h
theorem elim_do {p k iv d:Nat} {s:HS} (h:¬ nd (((s.elim p k iv d).H).getD (k + 2 + d) []) k = 0):s.elim p k iv (d + 1) = (s.elim p k iv d).less p (k + 2 + d) (k + 1) (nd (((s.elim p k iv d).H).getD (k + 2 + d) []) k * iv % p):=if_neg h
theorem ndvd {p a:Nat} (h0:a ≠ 0) (h:a < p):¬ p ∣ a:=fun hd => by have:=Nat.le_of_dvd (by omega) hd; omega
theorem wpinv {a p:Nat} {w:World} (hp:MR.Pr p) (hp2:p < 4294967296) (ha:a < 4294967296) (ht:Tb w) (hd:¬ p ∣ a):Calls Tryd.prog 39 #[.int .u32 ((a:Nat):Int),.int .u32 ((p:Nat):Int)] w (Ret (Is (.tuple #[.int .u32 ((pinv p a:Nat):Int),.int .i64 0])) w):=by
  have hS:=Sep.init w
  refine went Tryd.func39 rfl (n:=11) rfl rfl ?_
  refine wsr (wavc ?_)
  refine wavc ?_
  refine wn2 (wmv (v:=.int .u32 (a:Int)) rfl rfl ?_)
  refine wmv (v:=.int .u32 (p:Int)) rfl rfl ?_
  refine wcl Tryd.call70 ((show Calls _ _ _ _ (Ret (Is (.tuple #[.int .u32 ((pinv p a:Nat):Int),.int .i64 0])) _) from by have h:=wpquo (a:=1) hp hp2 (by omega) ha (ht.at hS) hd; rwa [show 1 * (a ^ (p - 2) % p) % p = pinv p a from by rw [Nat.one_mul,Nat.mod_mod]; rfl] at h)) (args3 evc (ev rfl rfl) (ev rfl rfl)) hS ?_
  clear hS; rintro _ _ w1 ⟨rfl,rfl⟩ hS
  refine wl rfl (oEx (vs:=[.int .u32 ((pinv p a:Nat):Int),.int .i64 0]) (v:=.int .u32 ((pinv p a:Nat):Int)) rfl rfl (ev rfl rfl) rfl ?_)
  refine wl rfl (oEx (vs:=[.int .u32 ((pinv p a:Nat):Int),.int .i64 0]) (v:=.int .i64 0) rfl rfl (ev rfl rfl) rfl ?_)
  refine wav (v:=.int .u32 ((pinv p a:Nat):Int)) rfl rfl ?_
  refine wav (v:=.int .i64 0) rfl rfl ?_
  refine wn1 ?_
  refine wLv ?_
  refine wret2 Tryd.results39 (tlT (v:=.int .u32 ((pinv p a:Nat):Int)) rfl rfl) (tlT (v:=.int .i64 0) rfl rfl) ?_
  exact ⟨_,_,rfl,isI,hS.new0⟩
theorem whfaults {pm:Option Addr} {nm cm p:Nat} {M:List (List Nat)} {w:World} (ht:Tb w) (hm:MS w pm nm M) (hp2:p < 4294967296) (hb1:nm ≤ 2097152) (hb2:∀ r ∈ M,r.length ≤ 1048576) {e:Nat} (hc:HFa p M e) :
  Calls Tryd.prog 22 #[.slice pm nm cm,.int .u32 ((p:Nat):Int)] w (Ret (Is (.int .i64 ((e:Nat):Int))) w):=by
 have hml:=hm.1
 have hS:=Sep.init w
 refine went Tryd.func22 rfl (n:=41) rfl rfl ?_
 refine wsr (wavc ?_)
 refine wn1 (wSq (wsr (wmv (v:=.int .u32 (p:Int)) rfl rfl ?_)))
 by_cases hp:MR.Pr p
 ·
  refine wcl Tryd.call31 (wpis (b:=true) hp2 (ht.at hS) ⟨fun _ => hp,fun _ => rfl⟩) (ar1 (ev rfl rfl)) hS ?_
  clear hS; rintro _ _ w1 ⟨rfl,rfl⟩ hS
  refine wl rfl (onot (b:=true) rfl rfl (ev rfl rfl) ?_)
  refine wn1 ?_
  refine wF (ev rfl rfl) ?_
  refine wSk (tNo (wSq (wsr (wmv (v:=.slice pm nm cm) rfl rfl ?_))))
  refine wl rfl (olen rfl rfl rfl Tryd.runUnderlying23 (p:=pm) (k:=nm) (m:=cm) (ev rfl rfl) ?_)
  refine wmvc ?_
  refine wn1 (wBk ?_)
  refine wLp (σ := Nat) (fun i a9 w' => ∃ (fb:Nat → Value),a9 = act 41 (sets fb [(0,.slice pm nm cm),(10,.slice pm nm cm),(11,.int .i64 (nm:Int)),(12,.int .i64 (i:Int))]) ∧ Sep w [] w' ∧ (i ≤ nm) ∧ (∀ r ∈ M.take i,r.length = colsM M)) (fun i => nm - i) (0) ⟨_,aSs ⟨rfl,rfl,rfl,rfl,trivial⟩,hS,Nat.zero_le _,by simp⟩ ?_
  clear hS; rintro i _ w2 ⟨fb,rfl,hS,hi,hrc⟩
  refine wsr ?_
  by_cases hli:i < nm
  ·
   obtain ⟨xr,hxr⟩:∃ r,(M)[i]? = some r:=⟨_,List.getElem?_eq_getElem (by have:=hm.1; omega)⟩
   obtain ⟨br,ofr,pr,cr,hpr,hcr,hsr⟩:=hm.2.2 i _ hxr
   obtain ⟨xz,hxz⟩:∃ r,(M)[0]? = some r:=⟨_,List.getElem?_eq_getElem (by have:=hm.1; omega)⟩
   obtain ⟨bz,ofz,pz,cz,hpz,hcz,hsz⟩:=hm.2.2 0 _ hxz
   have hcol:=colsM_zero hxz
   refine wbt (u:=.int .i64 (i:Int)) (v:=.int .i64 (nm:Int)) rfl rfl rfl rfl (bLs (decide_eq_true (by omega))) ?_
   refine wn1 (wSq ?_)
   refine wT (ev rfl rfl) ?_
   refine wk2 (wl rfl (oIx (p:=pm) (g:=br) (off:=ofr) (m:=nm) (k:=i) (j:=(ofr + i * 1)) rfl rfl Tryd.runUnderlying23 Tryd.sizeOf29 (ev rfl rfl) hpr (ev rfl rfl) (by omega) rfl ?_))
   refine wl rfl (oLc (v:=.slice pr xr.length cr) ⟨Tryd.isAgg29,Tryd.sizeOf29⟩ rfl rfl (ev (v:=.pointer (some ⟨br,(ofr + i * 1),none⟩)) rfl rfl) (hS.cellAt (hcr 0 _ rfl)) ?_)
   refine wav (v:=.slice pr xr.length cr) rfl rfl ?_
   refine wn2 (wmv (v:=.slice pr xr.length cr) rfl rfl ?_)
   refine wl rfl (olen rfl rfl rfl Tryd.runUnderlying29 (p:=pr) (k:=xr.length) (m:=cr) (ev rfl rfl) ?_)
   refine wmv (v:=.slice pm nm cm) rfl rfl ?_
   refine wl rfl (oIx (p:=pm) (g:=bz) (off:=ofz) (m:=nm) (k:=0) (j:=(ofz + 0 * 1)) rfl rfl Tryd.runUnderlying23 Tryd.sizeOf29 (ev rfl rfl) hpz evc (by omega) rfl ?_)
   refine wl rfl (oLc (v:=.slice pz xz.length cz) ⟨Tryd.isAgg29,Tryd.sizeOf29⟩ rfl rfl (ev (v:=.pointer (some ⟨bz,(ofz + 0 * 1),none⟩)) rfl rfl) (hS.cellAt (hcz 0 _ rfl)) ?_)
   refine wl rfl (olen rfl rfl rfl Tryd.runUnderlying29 (p:=pz) (k:=xz.length) (m:=cz) (ev rfl rfl) ?_)
   by_cases hrl:xr.length = colsM M
   ·
    refine wbt (u:=.int .i64 (xr.length:Int)) (v:=.int .i64 (xz.length:Int)) (z:=.bool false) rfl rfl rfl rfl (bNe (neF (by rw [← hcol]; omega))) ?_
    refine wn1 ?_
    refine wF (ev rfl rfl) ?_
    refine wSk (blkN (tNo (wreg (wbc (u:=.int .i64 (i:Int)) (v:=.int .i64 1) (z:=.int .i64 ((i + 1:Nat):Int)) rfl rfl (bAd (wI6 (by omega) (by omega))) ?_))))
    refine wmv (v:=.int .i64 ((i + 1:Nat):Int)) rfl rfl ?_
    refine wn1 ?_
    exact ⟨(i + 1),⟨_,aSs ⟨rfl,rfl,rfl,rfl,trivial⟩,hS.pick [] (by decide) rfl,by omega,by rw [take_next hxr]; intro u hu; exact (List.mem_append.1 hu).elim (hrc u) (fun h => by rw [List.mem_singleton.1 h]; exact hrl)⟩,by omega⟩
   refine wbt (u:=.int .i64 (xr.length:Int)) (v:=.int .i64 (xz.length:Int)) (z:=.bool true) rfl rfl rfl rfl (bNe (neT (by rw [← hcol]; omega))) ?_
   refine wn1 ?_
   refine wT (ev rfl rfl) ?_
   refine wsr (wavc ?_)
   refine wn1 ?_
   refine wLv ?_
   refine blkR ?_
   refine thenR ?_
   refine thenR ?_
   refine blkR ?_
   refine thenR ?_
   refine wr1 Tryd.results22 (tlT (v:=.int .i64 2) rfl rfl) ?_
   obtain rfl:=hc.un (.shape hp fun h9 => hrl (h9 xr (List.mem_of_getElem? hxr)))
   exact ⟨_,_,rfl,isI,hS.new0⟩
  refine wbt (u:=.int .i64 (i:Int)) (v:=.int .i64 (nm:Int)) rfl rfl rfl rfl (bLs (decide_eq_false (by omega))) ?_
  refine wn1 (wSq ?_)
  refine wF (ev rfl rfl) ?_
  refine wEx ?_
  refine tEx ?_
  refine tEx ?_
  refine blkE ?_
  refine tNo (wSq (wBk (wsr (wmv (v:=.slice pm nm cm) rfl rfl ?_))))
  refine wl rfl (olen rfl rfl rfl Tryd.runUnderlying23 (p:=pm) (k:=nm) (m:=cm) (ev rfl rfl) ?_)
  have hr:RectM M:=fun r h => hrc r (by rw [List.take_of_length_le (by omega)]; exact h)
  by_cases h0:M.length = 0
  ·
   refine wbc (u:=.int .i64 (nm:Int)) (v:=.int .i64 0) (z:=.bool true) rfl rfl (bEq (eqT (by omega))) ?_
   refine wmv (v:=.bool true) rfl rfl ?_
   refine wlOff (e:=28) (d:=29) (b':=true) rfl rfl rfl rfl rfl rfl ?_
   refine wlOff (e:=28) (d:=30) (b':=true) rfl rfl rfl rfl rfl rfl ?_
   refine wlOff (e:=28) (d:=31) (b':=true) rfl rfl rfl rfl rfl rfl ?_
   refine wlOff (e:=28) (d:=32) (b':=true) rfl rfl rfl rfl rfl rfl ?_
   refine wlOff (e:=28) (d:=33) (b':=true) rfl rfl rfl rfl rfl rfl ?_
   refine wlOff (e:=28) (d:=34) (b':=true) rfl rfl rfl rfl rfl rfl ?_
   refine wlOff (e:=28) (d:=35) (b':=true) rfl rfl rfl rfl rfl rfl ?_
   refine wl rfl (opick (b:=true) (v:=.bool true) rfl rfl (ev rfl rfl) evc ?_)
   refine wav (v:=.bool true) rfl rfl ?_
   refine wn1 ?_
   refine wT (ev rfl rfl) ?_
   refine wsr (wavc ?_)
   refine wn1 ?_
   refine wLv ?_
   refine blkR ?_
   refine thenR ?_
   refine wr1 Tryd.results22 (tlT (v:=.int .i64 3) rfl rfl) ?_
   obtain rfl:=hc.un (.square hp hr (by omega))
   exact ⟨_,_,rfl,isI,hS.new0⟩
  refine wbc (u:=.int .i64 (nm:Int)) (v:=.int .i64 0) (z:=.bool false) rfl rfl (bEq (eqF (by omega))) ?_
  refine wmv (v:=.bool false) rfl rfl ?_
  refine wlOn (e:=28) rfl rfl rfl rfl (omove (v:=.slice pm nm cm) rfl rfl (ev rfl rfl) ?_)
  obtain ⟨xz,hxz⟩:∃ r,(M)[0]? = some r:=⟨_,List.getElem?_eq_getElem (by have:=hm.1; omega)⟩
  obtain ⟨bz,ofz,pz,cz,hpz,hcz,hsz⟩:=hm.2.2 0 _ hxz
  have hcol:=colsM_zero hxz
  refine wlOn (e:=28) rfl rfl rfl rfl (oIx (p:=pm) (g:=bz) (off:=ofz) (m:=nm) (k:=0) (j:=(ofz + 0 * 1)) rfl rfl Tryd.runUnderlying23 Tryd.sizeOf29 (ev rfl rfl) hpz evc (by omega) rfl ?_)
  refine wlOn (e:=28) rfl rfl rfl rfl (oLc (v:=.slice pz xz.length cz) ⟨Tryd.isAgg29,Tryd.sizeOf29⟩ rfl rfl (ev (v:=.pointer (some ⟨bz,(ofz + 0 * 1),none⟩)) rfl rfl) (hS.cellAt (hcz 0 _ rfl)) ?_)
  refine wlOn (e:=28) rfl rfl rfl rfl (olen rfl rfl rfl Tryd.runUnderlying29 (p:=pz) (k:=xz.length) (m:=cz) (ev rfl rfl) ?_)
  refine wlOn (e:=28) rfl rfl rfl rfl (omove (v:=.slice pm nm cm) rfl rfl (ev rfl rfl) ?_)
  refine wlOn (e:=28) rfl rfl rfl rfl (olen rfl rfl rfl Tryd.runUnderlying23 (p:=pm) (k:=nm) (m:=cm) (ev rfl rfl) ?_)
  by_cases hq:M.length = colsM M
  ·
   refine wlOn (e:=28) rfl rfl rfl rfl (obin (u:=.int .i64 (xz.length:Int)) (v:=.int .i64 (nm:Int)) (z:=.bool false) rfl rfl (ev rfl rfl) (ev rfl rfl) (bNe (neF (by rw [← hcol]; omega))) ?_)
   refine wl rfl (opick (b:=false) (v:=.bool false) rfl rfl (ev rfl rfl) (ev rfl rfl) ?_)
   refine wav (v:=.bool false) rfl rfl ?_
   refine wn1 ?_
   refine wF (ev rfl rfl) ?_
   refine wsr (wmv (v:=.slice pm nm cm) rfl rfl ?_)
   refine wl rfl (olen rfl rfl rfl Tryd.runUnderlying23 (p:=pm) (k:=nm) (m:=cm) (ev rfl rfl) ?_)
   by_cases hb:24 < M.length
   ·
    refine wbc (u:=.int .i64 (nm:Int)) (v:=.int .i64 24) rfl rfl (bin_gtr (decide_eq_true (by omega))) ?_
    refine wav (v:=.bool true) rfl rfl ?_
    refine wn1 ?_
    refine wT (ev rfl rfl) ?_
    refine wsr (wavc ?_)
    refine wn1 ?_
    refine wLv ?_
    refine blkR ?_
    refine thenR ?_
    refine wr1 Tryd.results22 (tlT (v:=.int .i64 4) rfl rfl) ?_
    obtain rfl:=hc.un (.big hp hr h0 hq hb)
    exact ⟨_,_,rfl,isI,hS.new0⟩
   refine wbc (u:=.int .i64 (nm:Int)) (v:=.int .i64 24) rfl rfl (bin_gtr (decide_eq_false (by omega))) ?_
   refine wav (v:=.bool false) rfl rfl ?_
   refine wn1 ?_
   refine wF (ev rfl rfl) ?_
   refine wSk (blkN (tNo (wsr (wavc ?_))))
   refine wn1 ?_
   refine wLv ?_
   refine wr1 Tryd.results22 (tlT (v:=.int .i64 0) rfl rfl) ?_
   obtain rfl:=hc.un (.ok hp hr h0 hq (by omega))
   exact ⟨_,_,rfl,isI,hS.new0⟩
  refine wlOn (e:=28) rfl rfl rfl rfl (obin (u:=.int .i64 (xz.length:Int)) (v:=.int .i64 (nm:Int)) (z:=.bool true) rfl rfl (ev rfl rfl) (ev rfl rfl) (bNe (neT (by rw [← hcol]; omega))) ?_)
  refine wl rfl (opick (b:=false) (v:=.bool true) rfl rfl (ev rfl rfl) (ev rfl rfl) ?_)
  refine wav (v:=.bool true) rfl rfl ?_
  refine wn1 ?_
  refine wT (ev rfl rfl) ?_
  refine wsr (wavc ?_)
  refine wn1 ?_
  refine wLv ?_
  refine blkR ?_
  refine thenR ?_
  refine wr1 Tryd.results22 (tlT (v:=.int .i64 3) rfl rfl) ?_
  obtain rfl:=hc.un (.square hp hr (by omega))
  exact ⟨_,_,rfl,isI,hS.new0⟩
 refine wcl Tryd.call31 (wpis (b:=false) hp2 (ht.at hS) ⟨(fun h => by cases h),(fun h => absurd h hp)⟩) (ar1 (ev rfl rfl)) hS ?_
 clear hS; rintro _ _ w1 ⟨rfl,rfl⟩ hS
 refine wl rfl (onot (b:=false) rfl rfl (ev rfl rfl) ?_)
 refine wn1 ?_
 refine wT (ev rfl rfl) ?_
 refine wsr (wavc ?_)
 refine wn1 ?_
 refine wLv ?_
 refine thenR ?_
 refine wr1 Tryd.results22 (tlT (v:=.int .i64 40) rfl rfl) ?_
 obtain rfl:=hc.un (.prime hp)
 exact ⟨_,_,rfl,isI,hS.new0⟩
theorem whreduce {pm : Option Addr} {nm cm p : Nat} {M : List (List Nat)} {w : World} (ht : Tb w) (hm : MS w pm nm M) (hp2 : p < 4294967296) (hb1 : nm ≤ 2097152) (hb2 : ∀ r ∈ M, r.length ≤ 1048576) (hp : MR.Pr p) (hr : RectM M) (h0 : nm ≠ 0) (hq : M.length = colsM M) (hbig : nm ≤ 24) :
    Calls Tryd.prog 23 #[.slice pm nm cm,.int .u32 ((p:Nat):Int)] w (Ret (wkP p nm (HS.red p nm M (nm - 2))) w):=by
  have hml:=hm.1
  have hp1:=hp.1
  have hp0:0 < p:=by omega
  have hS:=Sep.init w
  refine went Tryd.func23 rfl (n:=139) rfl rfl ?_
  refine wsr (wavc ?_)
  refine wn2 (wmv (v:=.int .u32 (p:Int)) rfl rfl ?_)
  refine wl rfl (oCv (u:=.int .u32 (p:Int)) (v:=.int .u64 (p:Int)) rfl rfl (ev rfl rfl) (cvI Tryd.runUnderlying24 Tryd.runUnderlying44 (wU6 (by omega) (by omega))) ?_)
  refine wl rfl (obuild (ps:=#[(0,.int .u64 (p:Int))]) (v:=.agg #[.int .u64 (p:Int)]) rfl rfl (parts1 (ev (v:=.int .u64 (p:Int)) rfl rfl)) (fun w => by simp [go_sem,Instr.build,Instr.fill]) ?_)
  refine wl rfl (obuild (ps:=#[(0,.agg #[.int .u64 (p:Int)])]) (v:=.agg #[.int .u64 (p:Int),.slice none 0 0,.slice none 0 0,.slice none 0 0]) rfl rfl (parts1 (ev (v:=.agg #[.int .u64 (p:Int)]) rfl rfl)) (fun w => by simp [go_sem,Instr.build,Instr.fill]) ?_)
  refine wl rfl (obox [.int .u64 (p:Int),.slice none 0 0,.slice none 0 0,.slice none 0 0] hS rfl rfl (ev (v:=.agg #[.int .u64 (p:Int),.slice none 0 0,.slice none 0 0,.slice none 0 0]) rfl rfl) rfl ?_)
  clear hS; intro g1 w2 hS
  refine wav (v:=.pointer (some ⟨g1,0,none⟩)) rfl rfl ?_
  refine wn2 (wmv (v:=.pointer (some ⟨g1,0,none⟩)) rfl rfl ?_)
  refine wmv (v:=.pointer (some ⟨g1,0,none⟩)) rfl rfl ?_
  refine wmv (v:=.pointer (some ⟨g1,0,none⟩)) rfl rfl ?_
  refine wmv (v:=.pointer (some ⟨g1,0,none⟩)) rfl rfl ?_
  refine wl rfl (oNC (a:=⟨g1,0,none⟩) rfl rfl (ev rfl rfl) ?_)
  refine wl rfl (oFA (g:=g1) (off:=0) 0 rfl rfl (ev rfl rfl) Tryd.runUnderlying59 rfl Tryd.sizeOf57 rfl ?_)
  refine wl rfl (oLd (vs:=[.int .u64 (p:Int)]) ⟨Tryd.isAgg57,Tryd.sizeOf57⟩ hS 0 rfl rfl (ev rfl rfl) rfl rfl rfl ?_)
  refine wmv (v:=.slice pm nm cm) rfl rfl ?_
  refine wcl Tryd.call35 (whcopied (hm.at hS) hp0 hp2 hb1 hb2) (ar2 (ev rfl rfl) (ev rfl rfl)) hS ?_
  clear hS; rintro _ _ w3 ⟨pH,cH,QH,hQH,rfl,rfl⟩ hS
  refine wmv (v:=.slice pm nm cm) rfl rfl ?_
  refine wl rfl (olen rfl rfl rfl Tryd.runUnderlying23 (p:=pm) (k:=nm) (m:=cm) (ev rfl rfl) ?_)
  refine wcl Tryd.call36 (whidentity (by omega)) (ar1 (ev rfl rfl)) hS ?_
  clear hS; rintro _ _ w4 ⟨pS,cS,QS,hQS,rfl,rfl⟩ hS
  refine wmv (v:=.slice pm nm cm) rfl rfl ?_
  refine wl rfl (olen rfl rfl rfl Tryd.runUnderlying23 (p:=pm) (k:=nm) (m:=cm) (ev rfl rfl) ?_)
  refine wcl Tryd.call36 (whidentity (by omega)) (ar1 (ev rfl rfl)) hS ?_
  clear hS; rintro _ _ w5 ⟨pR,cR,QR,hQR,rfl,rfl⟩ hS
  refine wl rfl (oNC (a:=⟨g1,0,none⟩) rfl rfl (ev rfl rfl) ?_)
  refine wl rfl (oFA (g:=g1) (off:=0) 1 rfl rfl (ev rfl rfl) Tryd.runUnderlying59 rfl Tryd.sizeOf23 rfl ?_)
  refine wl rfl (oSt [.slice pH nm cH] [.int .u64 (p:Int),.slice pH nm cH,.slice none 0 0,.slice none 0 0] Tryd.sizeOf23 hS 3 rfl rfl (ev rfl rfl) (ev (v:=.slice pH nm cH) rfl rfl) rfl rfl rfl rfl rfl rfl ?_)
  clear hS; intro w6 hS
  refine wl rfl (oNC (a:=⟨g1,0,none⟩) rfl rfl (ev rfl rfl) ?_)
  refine wl rfl (oFA (g:=g1) (off:=0) 2 rfl rfl (ev rfl rfl) Tryd.runUnderlying59 rfl Tryd.sizeOf23 rfl ?_)
  refine wl rfl (oSt [.slice pS nm cS] [.int .u64 (p:Int),.slice pH nm cH,.slice pS nm cS,.slice none 0 0] Tryd.sizeOf23 hS 3 rfl rfl (ev rfl rfl) (ev (v:=.slice pS nm cS) rfl rfl) rfl rfl rfl rfl rfl rfl ?_)
  clear hS; intro w7 hS
  refine wl rfl (oNC (a:=⟨g1,0,none⟩) rfl rfl (ev rfl rfl) ?_)
  refine wl rfl (oFA (g:=g1) (off:=0) 3 rfl rfl (ev rfl rfl) Tryd.runUnderlying59 rfl Tryd.sizeOf23 rfl ?_)
  refine wl rfl (oSt [.slice pR nm cR] [.int .u64 (p:Int),.slice pH nm cH,.slice pS nm cS,.slice pR nm cR] Tryd.sizeOf23 hS 3 rfl rfl (ev rfl rfl) (ev (v:=.slice pR nm cR) rfl rfl) rfl rfl rfl rfl rfl rfl ?_)
  clear hS; intro w8 hS
  refine wn2 (wmv (v:=.pointer (some ⟨g1,0,none⟩)) rfl rfl ?_)
  refine wl rfl (omakeFuncB (av:=#[.pointer (some ⟨g1,0,none⟩)]) (cs:=#[]) rfl rfl (ar1 (ev rfl rfl)) (args0) ?_)
  refine wav (v:=.func (.func 37) #[.pointer (some ⟨g1,0,none⟩)] #[]) rfl rfl ?_
  refine wn1 (wSq (wsr (wmv (v:=.slice pm nm cm) rfl rfl ?_)))
  refine wl rfl (olen rfl rfl rfl Tryd.runUnderlying23 (p:=pm) (k:=nm) (m:=cm) (ev rfl rfl) ?_)
  refine wbc (u:=.int .i64 (nm:Int)) (v:=.int .i64 2) (z:=.int .i64 (((nm:Int) - 2))) rfl rfl (bin_sub (wI6 (by omega) (by omega))) ?_
  refine wl rfl (omax2 (a:=((nm:Int) - 2)) (b:=0) (r:=((nm - 2:Nat):Int)) rfl rfl rfl (ev (v:=.int .i64 (((nm:Int) - 2))) rfl rfl) (evc (v:=.int .i64 0)) (by split <;> omega) ?_)
  refine wmvc ?_
  refine wn1 (wBk ?_)
  refine wLp (σ := Nat) (fun k a9 w' => ∃ (fb:Nat → Value) (GH:List Rw) (GS:List Rw) (GR:List Rw),a9 = act 139 (sets fb [(0,.slice pm nm cm),(1,.int .u32 (p:Int)),(4,.pointer none),(5,.pointer (some ⟨g1,0,none⟩)),(6,.func (.func 37) #[.pointer (some ⟨g1,0,none⟩)] #[]),(43,.int .i64 ((nm - 2:Nat):Int)),(44,.int .i64 (k:Int))]) ∧ Sep w [.lst 29 1 pR nm cR (mmE GR),.lst 29 1 pS nm cS (mmE GS),.lst 29 1 pH nm cH (mmE GH),.blk g1 [.int .u64 (p:Int),.slice pH nm cH,.slice pS nm cS,.slice pR nm cR] 59] w' ∧ (k ≤ nm - 2) ∧ (nums GH = (HS.red p nm M k).H) ∧ (nums GS = (HS.red p nm M k).S) ∧ (nums GR = (HS.red p nm M k).R)) (fun k => nm - 2 - k) (0) ⟨_,QH,QS,QR,aSs ⟨rfl,rfl,rfl,rfl,rfl,rfl,rfl,trivial⟩,hS,Nat.zero_le _,hQH,hQS,hQR⟩ ?_
  clear hS; rintro k _ w9 ⟨fb,GH,GS,GR,rfl,hS,hk,hQH,hQS,hQR⟩
  refine wsr ?_
  by_cases hlk:k < nm - 2
  ·
    have hok:HOk p nm (HS.red p nm M k):=HOk.redk hp1 hr (by omega) hq hk
    have hHl:GH.length = nm:=by rw [nums_lenQ hQH]; exact hok.hl
    have sH:Shp p nm (nums GH):=by rw [hQH]; exact hok.hs
    refine wbt (u:=.int .i64 (k:Int)) (v:=.int .i64 ((nm - 2:Nat):Int)) rfl rfl rfl rfl (bLs (decide_eq_true (by omega))) ?_
    refine wn1 (wSq ?_)
    refine wT (ev rfl rfl) ?_
    refine wk2 (wmv (v:=.int .i64 (k:Int)) rfl rfl ?_)
    refine wav (v:=.int .i64 (k:Int)) rfl rfl ?_
    refine wn2 (wmv (v:=.int .i64 (k:Int)) rfl rfl ?_)
    obtain ⟨gH,hgH⟩:=hS.lstPtr 2 rfl (by omega)
    obtain ⟨gS,hgS⟩:=hS.lstPtr 1 rfl (by omega)
    obtain ⟨gR,hgR⟩:=hS.lstPtr 0 rfl (by omega)
    refine wbc (u:=.int .i64 (k:Int)) (v:=.int .i64 1) (z:=.int .i64 ((k + 1:Nat):Int)) rfl rfl (bAd (wI6 (by omega) (by omega))) ?_
    refine wav (v:=.int .i64 ((k + 1:Nat):Int)) rfl rfl ?_
    refine wn1 (wSq (wBk ?_))
    refine wLp (σ := Nat) (fun a a9 w' => ∃ (fb:Nat → Value),a9 = act 139 (sets fb [(0,.slice pm nm cm),(1,.int .u32 (p:Int)),(4,.pointer none),(5,.pointer (some ⟨g1,0,none⟩)),(6,.func (.func 37) #[.pointer (some ⟨g1,0,none⟩)] #[]),(7,.int .i64 (k:Int)),(8,.int .i64 (a:Int)),(43,.int .i64 ((nm - 2:Nat):Int)),(44,.int .i64 (k:Int))]) ∧ Sep w [.lst 29 1 pR nm cR (mmE GR),.lst 29 1 pS nm cS (mmE GS),.lst 29 1 pH nm cH (mmE GH),.blk g1 [.int .u64 (p:Int),.slice pH nm cH,.slice pS nm cS,.slice pR nm cR] 59] w' ∧ (k + 1 ≤ a ∧ a ≤ nm) ∧ (∀ l,k + 1 ≤ l → l < a → nd ((HS.red p nm M k).H.getD l []) k = 0)) (fun a => nm - a) ((k + 1)) ⟨_,aSs ⟨rfl,rfl,rfl,rfl,rfl,rfl,rfl,rfl,rfl,trivial⟩,hS,by omega,fun l h1 h2 => by omega⟩ ?_
    clear hS; rintro a _ w10 ⟨fb,rfl,hS,ha,hz⟩
    refine wSq (wsr (wmv (v:=.int .i64 (a:Int)) rfl rfl ?_))
    refine wmv (v:=.slice pm nm cm) rfl rfl ?_
    refine wl rfl (olen rfl rfl rfl Tryd.runUnderlying23 (p:=pm) (k:=nm) (m:=cm) (ev rfl rfl) ?_)
    by_cases hlan:a < nm
    ·
      refine wbt (u:=.int .i64 (a:Int)) (v:=.int .i64 (nm:Int)) rfl rfl rfl rfl (bLs (decide_eq_true (by omega))) ?_
      refine wmv (v:=.bool true) rfl rfl ?_
      refine wlOn (e:=53) rfl rfl rfl rfl (omove (v:=.pointer (some ⟨g1,0,none⟩)) rfl rfl (ev rfl rfl) ?_)
      refine wlOn (e:=53) rfl rfl rfl rfl (oNC (a:=⟨g1,0,none⟩) rfl rfl (ev rfl rfl) ?_)
      refine wlOn (e:=53) rfl rfl rfl rfl (oFA (g:=g1) (off:=0) 1 rfl rfl (ev rfl rfl) Tryd.runUnderlying59 rfl Tryd.sizeOf23 rfl ?_)
      refine wlOn (e:=53) rfl rfl rfl rfl (oL1 (v:=.slice pH nm cH) ⟨Tryd.isAgg23,Tryd.sizeOf23⟩ hS 3 rfl rfl (ev rfl rfl) rfl rfl ?_)
      refine wlOn (e:=53) rfl rfl rfl rfl (omove (v:=.int .i64 (a:Int)) rfl rfl (ev rfl rfl) ?_)
      obtain ⟨⟨pe,ce,xe⟩,hqe⟩:∃ q,(GH)[a]? = some q:=⟨_,List.getElem?_eq_getElem (by omega)⟩
      have hde:(nums (GH)).getD a [] = xe:=getD_get (nums_get hqe)
      obtain ⟨hne,hlte⟩:=sH.get (nums_get hqe)
      simp only at hne hlte
      obtain ⟨ge,hge⟩:=hS.mPtr 2 rfl hqe (by show 0 < xe.length; omega)
      have hxe:=lt_nd hlte hp0 k
      refine wlOn (e:=53) rfl rfl rfl rfl (oIx (p:=pH) (g:=gH) (off:=0) (m:=nm) (k:=a) (j:=(0 + a * 1)) rfl rfl Tryd.runUnderlying23 Tryd.sizeOf29 (ev rfl rfl) hgH (ev rfl rfl) (by omega) rfl ?_)
      refine wlOn (e:=53) rfl rfl rfl rfl (oLc (v:=.slice pe nm ce) ⟨Tryd.isAgg29,Tryd.sizeOf29⟩ rfl rfl (ev (v:=.pointer (some ⟨gH,(0 + a * 1),none⟩)) rfl rfl) (hS.mRow 2 rfl hqe hne hgH) ?_)
      refine wlOn (e:=53) rfl rfl rfl rfl (omove (v:=.int .i64 (k:Int)) rfl rfl (ev rfl rfl) ?_)
      refine wlOn (e:=53) rfl rfl rfl rfl (oIx (p:=pe) (g:=ge) (off:=0) (m:=nm) (k:=k) (j:=k) rfl rfl Tryd.runUnderlying29 Tryd.sizeOf24 (ev rfl rfl) hge (ev rfl rfl) (by omega) (by simp) ?_)
      refine wlOn (e:=53) rfl rfl rfl rfl (oLc (v:=.int .u32 ((nd xe k:Nat):Int)) one32 rfl rfl (ev (v:=.pointer (some ⟨ge,k,none⟩)) rfl rfl) (hS.mCell 2 rfl hqe hge (by omega)) ?_)
      by_cases hze:nd xe k = 0
      ·
        refine wlOn (e:=53) rfl rfl rfl rfl (obin (u:=.int .u32 ((nd xe k:Nat):Int)) (v:=.int .u32 0) (z:=.bool true) rfl rfl (ev rfl rfl) evc (bEq (eqT (by omega))) ?_)
        refine wl rfl (opick (b:=true) (v:=.bool true) rfl rfl (ev rfl rfl) (ev rfl rfl) ?_)
        refine wn1 ?_
        refine wT (ev rfl rfl) ?_
        refine wSk (tNo (wBk (wreg (wmv (v:=.int .i64 (a:Int)) rfl rfl ?_))))
        refine wbc (u:=.int .i64 (a:Int)) (v:=.int .i64 1) (z:=.int .i64 ((a + 1:Nat):Int)) rfl rfl (bAd (wI6 (by omega) (by omega))) ?_
        refine wav (v:=.int .i64 ((a + 1:Nat):Int)) rfl rfl ?_
        refine wnil (blkN (tNo ?_))
        exact ⟨(a + 1), ⟨_, aSs (l := [(0, .slice pm nm cm), (1, .int .u32 (p : Int)), (4, .pointer none), (5, .pointer (some ⟨g1, 0, none⟩)), (6, .func (.func 37) #[.pointer (some ⟨g1, 0, none⟩)] #[]), (7, .int .i64 (k : Int)), (8, .int .i64 (((a + 1 : Nat) : Int))), (43, .int .i64 (((nm - 2 : Nat) : Int))), (44, .int .i64 (k : Int))]) ⟨rfl, rfl, rfl, rfl, rfl, rfl, rfl, rfl, rfl, trivial⟩, hS.pick [0, 1, 2, 3] (by decide) rfl, by omega, fun l h1 h2 => by
                    by_cases e:l = a
                    · rw [e, ← hQH,hde]; exact hze
                    exact hz l h1 (by omega)⟩,by omega⟩
      refine wlOn (e:=53) rfl rfl rfl rfl (obin (u:=.int .u32 ((nd xe k:Nat):Int)) (v:=.int .u32 0) (z:=.bool false) rfl rfl (ev rfl rfl) evc (bEq (eqF (by omega))) ?_)
      refine wl rfl (opick (b:=true) (v:=.bool false) rfl rfl (ev rfl rfl) (ev rfl rfl) ?_)
      refine wn1 ?_
      refine wF (ev rfl rfl) ?_
      refine wEx ?_
      refine tEx ?_
      refine tEx ?_
      refine blkE ?_
      refine tNo (wSq (wsr (wmv (v:=.int .i64 (a:Int)) rfl rfl ?_)))
      refine wmv (v:=.slice pm nm cm) rfl rfl ?_
      refine wl rfl (olen rfl rfl rfl Tryd.runUnderlying23 (p:=pm) (k:=nm) (m:=cm) (ev rfl rfl) ?_)
      have hfs:firstNZ (HS.red p nm M k).H k (nm - (k + 1)) (k + 1) = some a:=firstNZ_some ha.1 (by omega) (fun l h1 h2 => hz l h1 h2) (by rw [← hQH,hde]; exact hze)
      refine wbt (u:=.int .i64 (a:Int)) (v:=.int .i64 (nm:Int)) (z:=.bool false) rfl rfl rfl rfl (bEq (eqF (by omega))) ?_
      refine wn1 ?_
      refine wF (ev rfl rfl) ?_
      refine wSk (tNo ?_)
      refine wjoin (I:=fun a9 w' => ∃ (fb:Nat → Value) (PH:List Rw) (PS:List Rw) (PR:List Rw),a9 = act 139 (sets fb [(0,.slice pm nm cm),(1,.int .u32 (p:Int)),(4,.pointer none),(5,.pointer (some ⟨g1,0,none⟩)),(6,.func (.func 37) #[.pointer (some ⟨g1,0,none⟩)] #[]),(7,.int .i64 (k:Int)),(43,.int .i64 ((nm - 2:Nat):Int)),(44,.int .i64 (k:Int))]) ∧ Sep w [.lst 29 1 pR nm cR (mmE PR),.lst 29 1 pS nm cS (mmE PS),.lst 29 1 pH nm cH (mmE PH),.blk g1 [.int .u64 (p:Int),.slice pH nm cH,.slice pS nm cS,.slice pR nm cR] 59] w' ∧ (nums PH = ((HS.red p nm M k).pivot k a).H) ∧ (nums PS = ((HS.red p nm M k).pivot k a).S) ∧ (nums PR = ((HS.red p nm M k).pivot k a).R)) ?_ ?_
      ·
        refine wsr (wmv (v:=.int .i64 (a:Int)) rfl rfl ?_)
        refine wmv (v:=.int .i64 (k:Int)) rfl rfl ?_
        refine wbc (u:=.int .i64 (k:Int)) (v:=.int .i64 1) (z:=.int .i64 ((k + 1:Nat):Int)) rfl rfl (bAd (wI6 (by omega) (by omega))) ?_
        by_cases hak:a = k + 1
        ·
          refine wbt (u:=.int .i64 (a:Int)) (v:=.int .i64 ((k + 1:Nat):Int)) (z:=.bool false) rfl rfl rfl rfl (bNe (neF (by omega))) ?_
          refine wn1 ?_
          refine wF (ev rfl rfl) ?_
          refine wSk (tNo ?_)
          exact ⟨_,_,_,_,aSs ⟨rfl,rfl,rfl,rfl,rfl,rfl,rfl,rfl,trivial⟩,hS.pick [0,1,2,3] (by decide) rfl,by rw [pivot_eq hak]; exact hQH,by rw [pivot_eq hak]; exact hQS,by rw [pivot_eq hak]; exact hQR⟩
        refine wbt (u:=.int .i64 (a:Int)) (v:=.int .i64 ((k + 1:Nat):Int)) (z:=.bool true) rfl rfl rfl rfl (bNe (neT (by omega))) ?_
        refine wn1 ?_
        refine wT (ev rfl rfl) ?_
        refine wreg (wmv (v:=.pointer (some ⟨g1,0,none⟩)) rfl rfl ?_)
        refine wmv (v:=.int .i64 (a:Int)) rfl rfl ?_
        refine wmv (v:=.int .i64 (k:Int)) rfl rfl ?_
        refine wbc (u:=.int .i64 (k:Int)) (v:=.int .i64 1) (z:=.int .i64 ((k + 1:Nat):Int)) rfl rfl (bAd (wI6 (by omega) (by omega))) ?_
        obtain hS:=(show Sep w [.blk g1 [.int .u64 (((p:Nat):Int)),.slice pH nm cH,.slice pS nm cS,.slice pR nm cR] 59,.lst 29 1 pH nm cH (mmE GH),.lst 29 1 pS nm cS (mmE GS),.lst 29 1 pR nm cR (mmE GR)] w10 from hS.pick [3,2,1,0] (by decide) rfl)
        refine wl rfl (oCl rfl rfl Tryd.call38 rfl (whswap (f:=0) hp0 hp2 hS (hQH) hQS hQR hok (by omega) (by omega) (by omega) hak) (args3 (ev rfl rfl) (ev rfl rfl) (ev rfl rfl)) ?_)
        rintro _ w11 ⟨_,_,rfl,⟨QHa,QSa,QRa,hQHa,hQSa,hQRa,rfl,rfl⟩,hN⟩
        refine ⟨_,rfl,?_⟩
        clear hS; have hS:=hN; clear hN
        refine wn1 ?_
        exact ⟨_,_,_,_,aSs ⟨rfl,rfl,rfl,rfl,rfl,rfl,rfl,rfl,trivial⟩,hS.pick [3,2,1,0] (by decide) rfl,by rw [pivot_ne hak]; exact hQHa,by rw [pivot_ne hak]; exact hQSa,by rw [pivot_ne hak]; exact hQRa⟩
      clear hS; rintro _ w11 ⟨fb,PH,PS,PR,rfl,hS,hPH,hPS,hPR⟩
      refine wsr (wmv (v:=.pointer (some ⟨g1,0,none⟩)) rfl rfl ?_)
      refine wl rfl (oNC (a:=⟨g1,0,none⟩) rfl rfl (ev rfl rfl) ?_)
      refine wl rfl (oFA (g:=g1) (off:=0) 1 rfl rfl (ev rfl rfl) Tryd.runUnderlying59 rfl Tryd.sizeOf23 rfl ?_)
      refine wl rfl (oL1 (v:=.slice pH nm cH) ⟨Tryd.isAgg23,Tryd.sizeOf23⟩ hS 3 rfl rfl (ev rfl rfl) rfl rfl ?_)
      refine wmv (v:=.int .i64 (k:Int)) rfl rfl ?_
      have hpo:HOk p nm ((HS.red p nm M k).pivot k a):=hok.pivot hp0 (by omega) (by omega)
      have hPl:PH.length = nm:=by rw [nums_lenQ hPH]; exact hpo.hl
      have sP:Shp p nm (nums PH):=by rw [hPH]; exact hpo.hs
      obtain ⟨⟨pf,cf,xf⟩,hqf⟩:∃ q,(PH)[(k + 1)]? = some q:=⟨_,List.getElem?_eq_getElem (by omega)⟩
      have hdf:(nums (PH)).getD ((k + 1)) [] = xf:=getD_get (nums_get hqf)
      obtain ⟨hnf,hltf⟩:=sP.get (nums_get hqf)
      simp only at hnf hltf
      obtain ⟨gf,hgf⟩:=hS.mPtr 2 rfl hqf (by show 0 < xf.length; omega)
      have hxf:=lt_nd hltf hp0 k
      have hff:nd (((HS.red p nm M k).pivot k a).H.getD (k + 1) []) k = nd xf k:=by rw [← hPH,hdf]
      have hx0:nd xf k ≠ 0:=by rw [← hff,pivot_at hok (by omega) (by omega) ha.1, ← hQH,hde]; exact hze
      obtain ⟨iv,hiv⟩:∃ iv,Hid (pinv p (nd xf k) = iv):=⟨_,rfl⟩
      have hivl:iv < p:=by rw [← hiv.out]; exact Nat.mod_lt _ hp0
      refine wbc (u:=.int .i64 (k:Int)) (v:=.int .i64 1) (z:=.int .i64 ((k + 1:Nat):Int)) rfl rfl (bAd (wI6 (by omega) (by omega))) ?_
      refine wl rfl (oIx (p:=pH) (g:=gH) (off:=0) (m:=nm) (k:=k + 1) (j:=(0 + (k + 1) * 1)) rfl rfl Tryd.runUnderlying23 Tryd.sizeOf29 (ev rfl rfl) hgH (ev rfl rfl) (by omega) rfl ?_)
      refine wl rfl (oLc (v:=.slice pf nm cf) ⟨Tryd.isAgg29,Tryd.sizeOf29⟩ rfl rfl (ev (v:=.pointer (some ⟨gH,(0 + (k + 1) * 1),none⟩)) rfl rfl) (hS.mRow 2 rfl hqf hnf hgH) ?_)
      refine wmv (v:=.int .i64 (k:Int)) rfl rfl ?_
      refine wl rfl (oIx (p:=pf) (g:=gf) (off:=0) (m:=nm) (k:=k) (j:=k) rfl rfl Tryd.runUnderlying29 Tryd.sizeOf24 (ev rfl rfl) hgf (ev rfl rfl) (by omega) (by simp) ?_)
      refine wl rfl (oLc (v:=.int .u32 ((nd xf k:Nat):Int)) one32 rfl rfl (ev (v:=.pointer (some ⟨gf,k,none⟩)) rfl rfl) (hS.mCell 2 rfl hqf hgf (by omega)) ?_)
      refine wmv (v:=.int .u32 (p:Int)) rfl rfl ?_
      refine wcl Tryd.call39 ((show Calls _ _ _ _ (Ret (Is (.tuple #[.int .u32 (iv:Int),.int .i64 0])) _) from by rw [← hiv.out]; exact wpinv hp hp2 (by omega) (ht.at hS) (ndvd hx0 hxf))) (ar2 (ev rfl rfl) (ev rfl rfl)) hS ?_
      clear hS; rintro _ _ w12 ⟨rfl,rfl⟩ hS
      refine wmv (v:=.tuple #[.int .u32 (iv:Int),.int .i64 0]) rfl rfl ?_
      refine wl rfl (oEx (vs:=[.int .u32 (iv:Int),.int .i64 0]) (v:=.int .u32 (iv:Int)) rfl rfl (ev rfl rfl) rfl ?_)
      refine wl rfl (oEx (vs:=[.int .u32 (iv:Int),.int .i64 0]) (v:=.int .i64 0) rfl rfl (ev rfl rfl) rfl ?_)
      refine wav (v:=.int .u32 (iv:Int)) rfl rfl ?_
      refine wav (v:=.int .i64 0) rfl rfl ?_
      refine wn2 (wmv (v:=.int .i64 (k:Int)) rfl rfl ?_)
      refine wbc (u:=.int .i64 (k:Int)) (v:=.int .i64 2) (z:=.int .i64 ((k + 2 + 0:Nat):Int)) rfl rfl (bAd (wI6 (by omega) (by omega))) ?_
      refine wav (v:=.int .i64 ((k + 2 + 0:Nat):Int)) rfl rfl ?_
      refine wn1 (wBk ?_)
      refine wLp (σ := Nat) (fun d a9 w' => ∃ (fb:Nat → Value) (EH:List Rw) (ES:List Rw) (ER:List Rw),a9 = act 139 (sets fb [(0,.slice pm nm cm),(1,.int .u32 (p:Int)),(4,.pointer none),(5,.pointer (some ⟨g1,0,none⟩)),(6,.func (.func 37) #[.pointer (some ⟨g1,0,none⟩)] #[]),(7,.int .i64 (k:Int)),(9,.int .u32 (iv:Int)),(11,.int .i64 ((((k + 2 + d):Nat):Int))),(43,.int .i64 ((nm - 2:Nat):Int)),(44,.int .i64 (k:Int))]) ∧ Sep w [.lst 29 1 pR nm cR (mmE ER),.lst 29 1 pS nm cS (mmE ES),.lst 29 1 pH nm cH (mmE EH),.blk g1 [.int .u64 (p:Int),.slice pH nm cH,.slice pS nm cS,.slice pR nm cR] 59] w' ∧ (d + k + 2 ≤ nm) ∧ (nums EH = (((HS.red p nm M k).pivot k a).elim p k iv d).H) ∧ (nums ES = (((HS.red p nm M k).pivot k a).elim p k iv d).S) ∧ (nums ER = (((HS.red p nm M k).pivot k a).elim p k iv d).R)) (fun d => nm - (k + 2 + d)) (0) ⟨_,PH,PS,PR,aSs ⟨rfl,rfl,rfl,rfl,rfl,rfl,rfl,rfl,rfl,rfl,trivial⟩,hS,by omega,hPH,hPS,hPR⟩ ?_
      clear hS; rintro d _ w13 ⟨fb,EH,ES,ER,rfl,hS,hd,hEH,hES,hER⟩
      refine wSq (wsr (wmv (v:=.int .i64 ((((k + 2 + d):Nat):Int))) rfl rfl ?_))
      refine wmv (v:=.slice pm nm cm) rfl rfl ?_
      refine wl rfl (olen rfl rfl rfl Tryd.runUnderlying23 (p:=pm) (k:=nm) (m:=cm) (ev rfl rfl) ?_)
      by_cases hlk2:k + 2 + d < nm
      ·
        have heo:HOk p nm (((HS.red p nm M k).pivot k a).elim p k iv d):=hpo.elim hp0 d hd
        have hEl:EH.length = nm:=by rw [nums_lenQ hEH]; exact heo.hl
        have sE:Shp p nm (nums EH):=by rw [hEH]; exact heo.hs
        refine wbt (u:=.int .i64 ((((k + 2 + d):Nat):Int))) (v:=.int .i64 (nm:Int)) rfl rfl rfl rfl (bLs (decide_eq_true (by omega))) ?_
        refine wn1 ?_
        refine wT (ev rfl rfl) ?_
        refine wk2 (wmv (v:=.pointer (some ⟨g1,0,none⟩)) rfl rfl ?_)
        refine wl rfl (oNC (a:=⟨g1,0,none⟩) rfl rfl (ev rfl rfl) ?_)
        refine wl rfl (oFA (g:=g1) (off:=0) 1 rfl rfl (ev rfl rfl) Tryd.runUnderlying59 rfl Tryd.sizeOf23 rfl ?_)
        refine wl rfl (oL1 (v:=.slice pH nm cH) ⟨Tryd.isAgg23,Tryd.sizeOf23⟩ hS 3 rfl rfl (ev rfl rfl) rfl rfl ?_)
        refine wmv (v:=.int .i64 ((((k + 2 + d):Nat):Int))) rfl rfl ?_
        obtain ⟨⟨pg,cg,xg⟩,hqg⟩:∃ q,(EH)[(k + 2 + d)]? = some q:=⟨_,List.getElem?_eq_getElem (by omega)⟩
        have hdg:(nums (EH)).getD ((k + 2 + d)) [] = xg:=getD_get (nums_get hqg)
        obtain ⟨hng,hltg⟩:=sE.get (nums_get hqg)
        simp only at hng hltg
        obtain ⟨gg,hgg⟩:=hS.mPtr 2 rfl hqg (by show 0 < xg.length; omega)
        have hxg:=lt_nd hltg hp0 k
        refine wl rfl (oIx (p:=pH) (g:=gH) (off:=0) (m:=nm) (k:=(k + 2 + d)) (j:=(0 + ((k + 2 + d)) * 1)) rfl rfl Tryd.runUnderlying23 Tryd.sizeOf29 (ev rfl rfl) hgH (ev rfl rfl) (by omega) rfl ?_)
        refine wl rfl (oLc (v:=.slice pg nm cg) ⟨Tryd.isAgg29,Tryd.sizeOf29⟩ rfl rfl (ev (v:=.pointer (some ⟨gH,(0 + ((k + 2 + d)) * 1),none⟩)) rfl rfl) (hS.mRow 2 rfl hqg hng hgH) ?_)
        refine wmv (v:=.int .i64 (k:Int)) rfl rfl ?_
        refine wl rfl (oIx (p:=pg) (g:=gg) (off:=0) (m:=nm) (k:=k) (j:=k) rfl rfl Tryd.runUnderlying29 Tryd.sizeOf24 (ev rfl rfl) hgg (ev rfl rfl) (by omega) (by simp) ?_)
        refine wl rfl (oLc (v:=.int .u32 ((nd xg k:Nat):Int)) one32 rfl rfl (ev (v:=.pointer (some ⟨gg,k,none⟩)) rfl rfl) (hS.mCell 2 rfl hqg hgg (by omega)) ?_)
        by_cases hz0:nd xg k = 0
        ·
          refine wbc (u:=.int .u32 ((nd xg k:Nat):Int)) (v:=.int .u32 0) (z:=.bool false) rfl rfl (bNe (neF (by omega))) ?_
          refine wn1 ?_
          refine wF (ev rfl rfl) ?_
          refine wSk (blkN (tNo (wreg (wmv (v:=.int .i64 ((((k + 2 + d):Nat):Int))) rfl rfl ?_))))
          refine wbc (u:=.int .i64 ((((k + 2 + d):Nat):Int))) (v:=.int .i64 1) (z:=.int .i64 (((k + 2 + (d + 1):Nat):Int))) rfl rfl (bAd (wI6 (by omega) (by omega))) ?_
          refine wav (v:=.int .i64 (((k + 2 + (d + 1):Nat):Int))) rfl rfl ?_
          refine wn1 ?_
          exact ⟨(d + 1),⟨_,_,_,_,aSs ⟨rfl,rfl,rfl,rfl,rfl,rfl,rfl,rfl,rfl,rfl,trivial⟩,hS.pick [0,1,2,3] (by decide) rfl,by omega,by rw [elim_skip (by rw [← hEH,hdg]; exact hz0)]; exact hEH,by rw [elim_skip (by rw [← hEH,hdg]; exact hz0)]; exact hES,by rw [elim_skip (by rw [← hEH,hdg]; exact hz0)]; exact hER⟩,by omega⟩
        refine wbc (u:=.int .u32 ((nd xg k:Nat):Int)) (v:=.int .u32 0) (z:=.bool true) rfl rfl (bNe (neT (by omega))) ?_
        refine wn1 ?_
        refine wT (ev rfl rfl) ?_
        refine wSg 20 [116,117,118,119,120,121,122,123,124,125,126,127,128,129,130,131,132,133,134,135] [[],[],[],[2],[],[4],[5,4],[6,4,5],[],[8],[9,8],[10,8,9],[],[11,12,8,9,10],[13,8,9,10,11,12],[],[14,15,8,9,10,11,12,13],[16,8,9,10,11,12,13,14,15],[],[7,17,18,4,5,6,8,9,10,11,12,13,14,15,16]] [] [] [] (fun i9 => ([iSv (.func (.func 37) #[.pointer (some ⟨g1,0,none⟩)] #[]),iSv (.int .i64 ((((k + 2 + d):Nat):Int))),iSv (.int .i64 (k:Int)),iSv (.int .i64 ((k + 1:Nat):Int)),iSv (.pointer (some ⟨g1,0,none⟩)),iSv (.pointer (some ⟨g1,0,none⟩)),iSv (.pointer (some ⟨g1,0,none⟩)),iSv (.agg #[.int .u64 (p:Int)]),iSv (.pointer (some ⟨g1,0,none⟩)),iSv (.pointer (some ⟨g1,0,none⟩)),iSv (.pointer (some ⟨g1,1,none⟩)),iSv (.slice pH nm cH),iSv (.int .i64 ((((k + 2 + d):Nat):Int))),iSv (.pointer (some ⟨gH,(0 + ((k + 2 + d)) * 1),none⟩)),iSv (.slice pg nm cg),iSv (.int .i64 (k:Int)),iSv (.pointer (some ⟨gg,k,none⟩)),iSv (.int .u32 ((nd xg k:Nat):Int)),iSv (.int .u32 (iv:Int)),iSv (.int .u32 ((((nd xg k) * iv % p:Nat):Int)))]:List (List Value → Tell)).getD i9 (fun _ _ _ => False)) hNi (fun d _ _ _ _ h => (by cases d <;> exact h)) (by kernel_rfl) (by kernel_rfl) (by kernel_rfl) hS ?_ ?_
        ·
          refine stM rfl rfl rfl rfl rfl (fun _=>isI) ?_
          refine stM rfl rfl rfl rfl rfl (fun _=>isI) ?_
          refine stM rfl rfl rfl rfl rfl (fun _=>isI) ?_
          refine stT rfl (fun hT hS=>?_) ?_
          · obtain ⟨hv2,hr2⟩:=hT 2 118 rfl rfl
            obtain hS:=hS.flat1 hr2
            exact inNo rfl (obin (u:=.int .i64 (k:Int)) (v:=.int .i64 1) (z:=.int .i64 ((k + 1:Nat):Int)) rfl rfl (ev rfl hv2) evc (bAd (wI6 (by omega) (by omega))) (nSm rfl isI))
          refine stM rfl rfl rfl rfl rfl (fun _=>isI) ?_
          refine stT rfl (fun hT hS=>?_) ?_
          · obtain ⟨hv4,hr4⟩:=hT 4 120 rfl rfl
            obtain hS:=hS.flat1 hr4
            exact inNo rfl (oNC (a:=⟨g1,0,none⟩) rfl rfl (ev rfl hv4) (nSm rfl isI))
          refine stT rfl (fun hT hS=>?_) ?_
          · obtain ⟨hv5,hr5⟩:=hT 5 121 rfl rfl
            obtain hS:=hS.flat1 hr5
            exact inNo rfl (oFA (g:=g1) (off:=0) 0 rfl rfl (ev rfl hv5) Tryd.runUnderlying59 rfl Tryd.sizeOf57 rfl (nSm rfl isI))
          refine stT rfl (fun hT hS=>?_) ?_
          · obtain ⟨hv6,hr6⟩:=hT 6 122 rfl rfl
            obtain hS:=hS.flat1 hr6
            exact inNo rfl (oLd (vs:=[.int .u64 (p:Int)]) ⟨Tryd.isAgg57,Tryd.sizeOf57⟩ hS 3 rfl rfl (ev rfl hv6) rfl rfl rfl (nSm rfl isI))
          refine stM rfl rfl rfl rfl rfl (fun _=>isI) ?_
          refine stT rfl (fun hT hS=>?_) ?_
          · obtain ⟨hv8,hr8⟩:=hT 8 124 rfl rfl
            obtain hS:=hS.flat1 hr8
            exact inNo rfl (oNC (a:=⟨g1,0,none⟩) rfl rfl (ev rfl hv8) (nSm rfl isI))
          refine stT rfl (fun hT hS=>?_) ?_
          · obtain ⟨hv9,hr9⟩:=hT 9 125 rfl rfl
            obtain hS:=hS.flat1 hr9
            exact inNo rfl (oFA (g:=g1) (off:=0) 1 rfl rfl (ev rfl hv9) Tryd.runUnderlying59 rfl Tryd.sizeOf23 rfl (nSm rfl isI))
          refine stT rfl (fun hT hS=>?_) ?_
          · obtain ⟨hv10,hr10⟩:=hT 10 126 rfl rfl
            obtain hS:=hS.flat1 hr10
            exact inNo rfl (oL1 (v:=.slice pH nm cH) ⟨Tryd.isAgg23,Tryd.sizeOf23⟩ hS 3 rfl rfl (ev rfl hv10) rfl rfl (nSm rfl isI))
          refine stM rfl rfl rfl rfl rfl (fun _=>isI) ?_
          refine stT rfl (fun hT hS=>?_) ?_
          · obtain ⟨hv11,hr11⟩:=hT 11 127 rfl rfl
            obtain ⟨hv12,hr12⟩:=hT 12 128 rfl rfl
            obtain hS:=hS.flat2 hr11 hr12
            exact inNo rfl (oIx (p:=pH) (g:=gH) (off:=0) (m:=nm) (k:=(k + 2 + d)) (j:=(0 + ((k + 2 + d)) * 1)) rfl rfl Tryd.runUnderlying23 Tryd.sizeOf29 (ev rfl hv11) hgH (ev rfl hv12) (by omega) rfl (nSm rfl isI))
          refine stT rfl (fun hT hS=>?_) ?_
          · obtain ⟨hv13,hr13⟩:=hT 13 129 rfl rfl
            obtain hS:=hS.flat1 hr13
            exact inNo rfl (oLc (v:=.slice pg nm cg) ⟨Tryd.isAgg29,Tryd.sizeOf29⟩ rfl rfl (ev (v:=.pointer (some ⟨gH,(0 + ((k + 2 + d)) * 1),none⟩)) rfl hv13) (hS.mRow 2 rfl hqg hng hgH) (nSm rfl isI))
          refine stM rfl rfl rfl rfl rfl (fun _=>isI) ?_
          refine stT rfl (fun hT hS=>?_) ?_
          · obtain ⟨hv14,hr14⟩:=hT 14 130 rfl rfl
            obtain ⟨hv15,hr15⟩:=hT 15 131 rfl rfl
            obtain hS:=hS.flat2 hr14 hr15
            exact inNo rfl (oIx (p:=pg) (g:=gg) (off:=0) (m:=nm) (k:=k) (j:=k) rfl rfl Tryd.runUnderlying29 Tryd.sizeOf24 (ev rfl hv14) hgg (ev rfl hv15) (by omega) (by simp) (nSm rfl isI))
          refine stT rfl (fun hT hS=>?_) ?_
          · obtain ⟨hv16,hr16⟩:=hT 16 132 rfl rfl
            obtain hS:=hS.flat1 hr16
            exact inNo rfl (oLc (v:=.int .u32 ((nd xg k:Nat):Int)) one32 rfl rfl (ev (v:=.pointer (some ⟨gg,k,none⟩)) rfl hv16) (hS.mCell 2 rfl hqg hgg (by omega)) (nSm rfl isI))
          refine stM rfl rfl rfl rfl rfl (fun _=>isI) ?_
          refine stT rfl (fun hT hS=>?_) ?_
          · obtain ⟨hv7,hr7⟩:=hT 7 123 rfl rfl
            obtain ⟨hv17,hr17⟩:=hT 17 133 rfl rfl
            obtain ⟨hv18,hr18⟩:=hT 18 134 rfl rfl
            obtain hS:=hS.flat3 hr7 hr17 hr18
            exact .inl ⟨wNo rfl,oCl rfl rfl Tryd.call27 rfl (whmul (a:=(nd xg k)) (b:=iv) hp0 hp2 (by omega) (by omega)) (args3 (ev rfl hv7) (ev rfl hv17) (ev rfl hv18)) cNw⟩
          exact sNi
        intro vs ρ w14 f' hf hT hS
        obtain ⟨hv0,hr0⟩:=hT 0 (by decide)
        obtain ⟨hv1,hr1⟩:=hT 1 (by decide)
        obtain ⟨hv2,hr2⟩:=hT 2 (by decide)
        obtain ⟨hv3,hr3⟩:=hT 3 (by decide)
        obtain ⟨hv4,hr4⟩:=hT 4 (by decide)
        obtain ⟨hv5,hr5⟩:=hT 5 (by decide)
        obtain ⟨hv6,hr6⟩:=hT 6 (by decide)
        obtain ⟨hv7,hr7⟩:=hT 7 (by decide)
        obtain ⟨hv8,hr8⟩:=hT 8 (by decide)
        obtain ⟨hv9,hr9⟩:=hT 9 (by decide)
        obtain ⟨hv10,hr10⟩:=hT 10 (by decide)
        obtain ⟨hv11,hr11⟩:=hT 11 (by decide)
        obtain ⟨hv12,hr12⟩:=hT 12 (by decide)
        obtain ⟨hv13,hr13⟩:=hT 13 (by decide)
        obtain ⟨hv14,hr14⟩:=hT 14 (by decide)
        obtain ⟨hv15,hr15⟩:=hT 15 (by decide)
        obtain ⟨hv16,hr16⟩:=hT 16 (by decide)
        obtain ⟨hv17,hr17⟩:=hT 17 (by decide)
        obtain ⟨hv18,hr18⟩:=hT 18 (by decide)
        obtain ⟨hv19,hr19⟩:=hT 19 (by decide)
        simp only [pool,if_true,hr0,hr1,hr2,hr3,hr4,hr5,hr6,hr7,hr8,hr9,hr10,hr11,hr12,hr13,hr14,hr15,hr16,hr17,hr18,hr19,List.nil_append,List.cons_append,List.append_nil] at hS
        simp only [layf,hv0,hv1,hv2,hv3,hv4,hv5,hv6,hv7,hv8,hv9,hv10,hv11,hv12,hv13,hv14,hv15,hv16,hv17,hv18,hv19] at hf
        subst hf; clear hT hv0 hv1 hv2 hv3 hv4 hv5 hv6 hv7 hv8 hv9 hv10 hv11 hv12 hv13 hv14 hv15 hv16 hv17 hv18 hv19 hr0 hr1 hr2 hr3 hr4 hr5 hr6 hr7 hr8 hr9 hr10 hr11 hr12 hr13 hr14 hr15 hr16 hr17 hr18 hr19
        obtain hS:=(show Sep w [.blk g1 [.int .u64 (((p:Nat):Int)),.slice pH nm cH,.slice pS nm cS,.slice pR nm cR] 59,.lst 29 1 pH nm cH (mmE EH),.lst 29 1 pS nm cS (mmE ES),.lst 29 1 pR nm cR (mmE ER)] w14 from hS.pick [3,2,1,0] (by decide) rfl)
        refine wLt 20 rfl (by kernel_rfl) (ocallB (av:=#[.pointer (some ⟨g1,0,none⟩)]) (vs:=#[.int .i64 ((k + 2 + d:Nat):Int),.int .i64 ((k + 1:Nat):Int),.int .u32 ((nd xg k * iv % p:Nat):Int)]) rfl rfl (ev (v:=.func (.func 37) #[.pointer (some ⟨g1,0,none⟩)] #[]) rfl rfl) Tryd.call37 rfl (whless hp0 hp2 hS hEH hES hER heo (by omega) (by omega) (by omega) (by omega) (Nat.mod_lt _ hp0)) (args3 (ev rfl rfl) (ev rfl rfl) (ev rfl rfl)) ?_)
        rintro _ w15 ⟨_,_,rfl,⟨QHd,QSd,QRd,hQHd,hQSd,hQRd,rfl,rfl⟩,hN⟩
        refine ⟨_,rfl,?_⟩
        clear hS; have hS:=hN; clear hN
        refine ⟨hNi,?_⟩
        refine wdone rfl ?_
        refine blkN (tNo (wreg (wmv (v:=.int .i64 ((((k + 2 + d):Nat):Int))) rfl rfl ?_)))
        refine wbc (u:=.int .i64 ((((k + 2 + d):Nat):Int))) (v:=.int .i64 1) (z:=.int .i64 (((k + 2 + (d + 1):Nat):Int))) rfl rfl (bAd (wI6 (by omega) (by omega))) ?_
        refine wav (v:=.int .i64 (((k + 2 + (d + 1):Nat):Int))) rfl rfl ?_
        refine wn1 ?_
        exact ⟨(d + 1),⟨_,_,_,_,aSs ⟨rfl,rfl,rfl,rfl,rfl,rfl,rfl,rfl,rfl,rfl,trivial⟩,hS.pick [3,2,1,0] (by decide) rfl,by omega,by rw [elim_do (by rw [← hEH,hdg]; exact hz0), ← hEH,hdg]; exact hQHd,by rw [elim_do (by rw [← hEH,hdg]; exact hz0), ← hEH,hdg]; exact hQSd,by rw [elim_do (by rw [← hEH,hdg]; exact hz0), ← hEH,hdg]; exact hQRd⟩,by omega⟩
      refine wbt (u:=.int .i64 ((((k + 2 + d):Nat):Int))) (v:=.int .i64 (nm:Int)) rfl rfl rfl rfl (bLs (decide_eq_false (by omega))) ?_
      refine wn1 ?_
      refine wF (ev rfl rfl) ?_
      refine wEx ?_
      refine tEx ?_
      refine tEx ?_
      refine blkE ?_
      refine blkN (tNo (wreg (wbc (u:=.int .i64 (k:Int)) (v:=.int .i64 1) (z:=.int .i64 ((k + 1:Nat):Int)) rfl rfl (bAd (wI6 (by omega) (by omega))) ?_)))
      refine wmv (v:=.int .i64 ((k + 1:Nat):Int)) rfl rfl ?_
      refine wn1 ?_
      exact ⟨(k + 1),⟨_,_,_,_,aSs ⟨rfl,rfl,rfl,rfl,rfl,rfl,rfl,trivial⟩,hS.pick [0,1,2,3] (by decide) rfl,by omega,by rw [HS.red,step_some hfs,hff,hiv.out,show nm - (k + 2) = d by omega]; exact hEH,by rw [HS.red,step_some hfs,hff,hiv.out,show nm - (k + 2) = d by omega]; exact hES,by rw [HS.red,step_some hfs,hff,hiv.out,show nm - (k + 2) = d by omega]; exact hER⟩,by omega⟩
    refine wbt (u:=.int .i64 (a:Int)) (v:=.int .i64 (nm:Int)) rfl rfl rfl rfl (bLs (decide_eq_false (by omega))) ?_
    refine wmv (v:=.bool false) rfl rfl ?_
    refine wlOff (e:=53) (d:=54) (b':=false) rfl rfl rfl rfl rfl rfl ?_
    refine wlOff (e:=53) (d:=55) (b':=false) rfl rfl rfl rfl rfl rfl ?_
    refine wlOff (e:=53) (d:=56) (b':=false) rfl rfl rfl rfl rfl rfl ?_
    refine wlOff (e:=53) (d:=57) (b':=false) rfl rfl rfl rfl rfl rfl ?_
    refine wlOff (e:=53) (d:=58) (b':=false) rfl rfl rfl rfl rfl rfl ?_
    refine wlOff (e:=53) (d:=59) (b':=false) rfl rfl rfl rfl rfl rfl ?_
    refine wlOff (e:=53) (d:=60) (b':=false) rfl rfl rfl rfl rfl rfl ?_
    refine wlOff (e:=53) (d:=61) (b':=false) rfl rfl rfl rfl rfl rfl ?_
    refine wlOff (e:=53) (d:=62) (b':=false) rfl rfl rfl rfl rfl rfl ?_
    refine wlOff (e:=53) (d:=63) (b':=false) rfl rfl rfl rfl rfl rfl ?_
    refine wlOff (e:=53) (d:=64) (b':=false) rfl rfl rfl rfl rfl rfl ?_
    refine wl rfl (opick (b:=false) (v:=.bool false) rfl rfl (ev rfl rfl) evc ?_)
    refine wn1 ?_
    refine wF (ev rfl rfl) ?_
    refine wEx ?_
    refine tEx ?_
    refine tEx ?_
    refine blkE ?_
    refine tNo (wSq (wsr (wmv (v:=.int .i64 (a:Int)) rfl rfl ?_)))
    refine wmv (v:=.slice pm nm cm) rfl rfl ?_
    refine wl rfl (olen rfl rfl rfl Tryd.runUnderlying23 (p:=pm) (k:=nm) (m:=cm) (ev rfl rfl) ?_)
    have hfn:firstNZ (HS.red p nm M k).H k (nm - (k + 1)) (k + 1) = none:=firstNZ_none fun l h1 h2 => hz l h1 (by omega)
    refine wbt (u:=.int .i64 (a:Int)) (v:=.int .i64 (nm:Int)) (z:=.bool true) rfl rfl rfl rfl (bEq (eqT (by omega))) ?_
    refine wn1 ?_
    refine wT (ev rfl rfl) ?_
    refine wEx ?_
    refine tEx ?_
    refine blkE ?_
    refine tNo (wreg (wbc (u:=.int .i64 (k:Int)) (v:=.int .i64 1) (z:=.int .i64 ((k + 1:Nat):Int)) rfl rfl (bAd (wI6 (by omega) (by omega))) ?_))
    refine wmv (v:=.int .i64 ((k + 1:Nat):Int)) rfl rfl ?_
    refine wn1 ?_
    exact ⟨(k + 1),⟨_,_,_,_,aSs ⟨rfl,rfl,rfl,rfl,rfl,rfl,rfl,trivial⟩,hS.pick [0,1,2,3] (by decide) rfl,by omega,by rw [HS.red,step_none hfn]; exact hQH,by rw [HS.red,step_none hfn]; exact hQS,by rw [HS.red,step_none hfn]; exact hQR⟩,by omega⟩
  refine wbt (u:=.int .i64 (k:Int)) (v:=.int .i64 ((nm - 2:Nat):Int)) rfl rfl rfl rfl (bLs (decide_eq_false (by omega))) ?_
  refine wn1 (wSq ?_)
  refine wF (ev rfl rfl) ?_
  refine wEx ?_
  refine tEx ?_
  refine tEx ?_
  refine blkE ?_
  refine tNo (wsr (wmv (v:=.pointer (some ⟨g1,0,none⟩)) rfl rfl ?_))
  refine wav (v:=.pointer (some ⟨g1,0,none⟩)) rfl rfl ?_
  refine wn1 ?_
  refine wLv ?_
  have hk9:k = nm - 2:=by omega
  refine wr1 Tryd.results23 (tlT (v:=.pointer (some ⟨g1,0,none⟩)) rfl rfl) ?_
  exact ⟨_,_,rfl,⟨_,_,_,_,_,_,_,_,_,_,by rw [← hk9]; exact hQH,by rw [← hk9]; exact hQS,by rw [← hk9]; exact hQR,rfl,rfl⟩,(show Sep w [.blk g1 [.int .u64 (p:Int),.slice pH nm cH,.slice pS nm cS,.slice pR nm cR] 59,.lst 29 1 pH nm cH (mmE GH),.lst 29 1 pS nm cS (mmE GS),.lst 29 1 pR nm cR (mmE GR)] _ from hS.pick [3,2,1,0] (by decide) rfl).newH rfl⟩
end Go.Proofs.YtcfcdbeemhjhgaaDoor
