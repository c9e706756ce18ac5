/-
  Contracts and lemmas, joined in one text.
-/
import Derived.Test.YtcfcdbeemhjhgaaDoorWC
import Derived.Test.YtcfcdbeemhjhgaaDoorH8
import Derived.Test.YtcfcdbeemhjhgaaDoorRO
set_option linter.unusedVariables false
set_option linter.unusedSimpArgs false
/-
  Tables of integers.
-/
set_option maxRecDepth 100000
set_option maxHeartbeats 16000000
namespace Go.Proofs.YtcfcdbeemhjhgaaDoor
open Go.RowKit
def TB (w:World) (p:Option Addr) (n:Nat) (T:List (List Int)) (K:Nat):Prop:=T.length = n ∧ n ≤ 1048576 ∧ ∀ (i:Nat) (L:List Int),T[i]? = some L → ∃ b off q c,p = some ⟨b,off,none⟩ ∧ (∀ j v,[Value.slice q L.length c][j]? = some v → w.cell? ⟨b,off + i * 1 + j,none⟩ = some v) ∧ Zs w q L.length L K
end Go.Proofs.YtcfcdbeemhjhgaaDoor
/-
  hess's Of: integers modulo a prime.
-/
namespace Go.Proofs.YtcfcdbeemhjhgaaDoor
open Go.RowKit
theorem TB.atH {w w':World} {R:List Res} {p:Option Addr} {n K:Nat} {T:List (List Int)} (h:TB w p n T K) (hS:Sep w R w'):TB w' p n T K:=by
  refine ⟨h.1,h.2.1,fun i L hL => ?_⟩
  obtain ⟨b,off,q,c,hp,hc,hs⟩:=h.2.2 i L hL
  exact ⟨b,off,q,c,hp,fun j v hj => hS.cellAt (hc j v hj),hs.on hS.below (Nat.le_refl _)⟩
def colsT (T:List (List Int)):Nat:=(T.getD 0 []).length
def RectT (T:List (List Int)):Prop := ∀ r ∈ T,r.length = colsT T
theorem colsT_zero {T:List (List Int)} {x:List Int} (h:T[0]? = some x):colsT T = x.length:=by unfold colsT; simp [List.getD,h]
def md (p:Nat) (z:Int):Nat:=(z % ((p:Nat):Int)).toNat
def modZ (p:Nat) (xs:List Int):List Nat:=xs.map (md p)
def modT (p:Nat) (T:List (List Int)):List (List Nat):=T.map (modZ p)
theorem md_lt {p:Nat} (hp:0 < p) (z:Int):md p z < p:=by
  unfold md
  have h1:=Int.emod_lt_of_pos z (show (0:Int) < (p:Int) by omega)
  have h2:=Int.emod_nonneg z (show ((p:Nat):Int) ≠ 0 by omega)
  omega
theorem modZ_len (p:Nat) (xs:List Int):(modZ p xs).length = xs.length:=List.length_map _
theorem modZ_lt {p:Nat} (hp:0 < p) (xs:List Int):∀ x ∈ modZ p xs,x < p:=fun x hx => by
  obtain ⟨z,_,rfl⟩:=List.mem_map.1 hx; exact md_lt hp z
theorem modZ_lims {p:Nat} {xs:List Int} (hp:0 < p) (h2:p < 4294967296):Lims (modZ p xs):=fun i hi => by
  have:=lt_nd (modZ_lt hp xs) hp i; omega
theorem modZ_nd {p:Nat} {xs:List Int} {k:Nat} {z:Int} (h:xs[k]? = some z):nd (modZ p xs) k = md p z:=by
  unfold nd modZ; simp [List.getD,h]
theorem modT_take {p i:Nat} {T:List (List Int)} {x:List Int} (h:T[i]? = some x):modT p (T.take (i + 1)) = modT p (T.take i) ++ [modZ p x]:=by
  rw [take_next h]; unfold modT; rw [List.map_append]; rfl
def MOt (n:Nat) (M:List (List Nat)):Tell:=fun v r => ∃ (pp:Option Addr) (c:Nat) (Q:List Rw),nums Q = M ∧ v = .tuple #[.slice pp n c,.int .i64 0] ∧ r = [.lst 29 1 pp n c (mmE Q)]
inductive OFa (p:Nat) (T:List (List Int)):Nat → Prop where
  | prime:¬ MR.Pr p → OFa p T 40
  | shape:MR.Pr p → ¬ RectT T → OFa p T 2
  | big:MR.Pr p → RectT T → 24 < T.length → OFa p T 4
  | wide:MR.Pr p → RectT T → T.length ≤ 24 → 0 < T.length → 24 < colsT T → OFa p T 4
  | ok:MR.Pr p → RectT T → T.length ≤ 24 → colsT T ≤ 24 → OFa p T 0
theorem OFa.ex (p:Nat) (T:List (List Int)):∃ e,OFa p T e:=by
 by_cases h1:MR.Pr p
 ·by_cases h2:RectT T
  ·by_cases h3:T.length ≤ 24
   ·by_cases h4:colsT T ≤ 24
    ·exact ⟨0,.ok h1 h2 h3 h4⟩
    ·refine ⟨4,.wide h1 h2 h3 ?_ (by omega)⟩
     cases T with
     | nil => exact absurd (show colsT [] ≤ 24 by decide) h4
     | cons a l => simp
   ·exact ⟨4,.big h1 h2 (by omega)⟩
  ·exact ⟨2,.shape h1 h2⟩
 ·exact ⟨40,.prime h1⟩
theorem whOf40 {pt:Option Addr} {nt ct p:Nat} {T:List (List Int)} {w:World} (ht:Tb w) (hT:TB w pt nt T 67108864) (hp2:p < 4294967296) (hb2:∀ L ∈ T,L.length ≤ 1048576) (hp:¬ MR.Pr p) :
  Calls Tryd.prog 19 #[.slice pt nt ct,.int .u32 ((p:Nat):Int)] w (Ret (Is (.tuple #[.slice none 0 0,.int .i64 40])) w):=by
 have hTl:=hT.1
 have hTb:=hT.2.1
 have hS:=Sep.init w
 refine went Tryd.func19 rfl (n:=80) rfl rfl ?_
 refine wseq (wreg (wl rfl (oassign (v:=.slice none 0 0) rfl rfl evc ?_)))
 refine wl rfl (oassign (v:=.int .i64 0) rfl rfl evc ?_)
 refine wnil (thenN (wseq (wseq (wreg (wl rfl (omove (v:=.int .u32 (p:Int)) rfl rfl (ev rfl rfl) ?_))))))
 refine wl rfl (ocall rfl rfl Tryd.call31 rfl (wpis (b:=false) hp2 (ht.at hS) ⟨(fun h => by cases h),(fun h => absurd h hp)⟩) (args1 (ev rfl rfl)) ?_)
 rintro _ w1 ⟨_,_,rfl,⟨rfl,rfl⟩,hN⟩
 refine ⟨_,rfl,?_⟩
 replace hS:=hS.news hN; clear hN
 refine wl rfl (onot (b:=false) rfl rfl (ev rfl rfl) ?_)
 refine wnil (thenN ?_)
 refine wT (ev rfl rfl) ?_
 refine wseq (wreg (wl rfl (oassign (v:=.slice none 0 0) rfl rfl evc ?_)))
 refine wl rfl (oassign (v:=.int .i64 40) rfl rfl evc ?_)
 refine wnil (thenN ?_)
 refine wleave ?_
 refine thenR ?_
 refine wret2 Tryd.results19 (tellT (v:=.slice none 0 0) rfl rfl) (tellT (v:=.int .i64 40) rfl rfl) ?_
 exact ⟨_,_,rfl,isI,hS.new0⟩
theorem whOf2 {pt:Option Addr} {nt ct p:Nat} {T:List (List Int)} {w:World} (ht:Tb w) (hT:TB w pt nt T 67108864) (hp2:p < 4294967296) (hb2:∀ L ∈ T,L.length ≤ 1048576) (hp:MR.Pr p) (hr:¬ RectT T) :
  Calls Tryd.prog 19 #[.slice pt nt ct,.int .u32 ((p:Nat):Int)] w (Ret (Is (.tuple #[.slice none 0 0,.int .i64 2])) w):=by
 have hTl:=hT.1
 have hTb:=hT.2.1
 have hS:=Sep.init w
 refine went Tryd.func19 rfl (n:=80) rfl rfl ?_
 refine wseq (wreg (wl rfl (oassign (v:=.slice none 0 0) rfl rfl evc ?_)))
 refine wl rfl (oassign (v:=.int .i64 0) rfl rfl evc ?_)
 refine wnil (thenN (wseq (wseq (wreg (wl rfl (omove (v:=.int .u32 (p:Int)) rfl rfl (ev rfl rfl) ?_))))))
 refine wl rfl (ocall rfl rfl Tryd.call31 rfl (wpis (b:=true) hp2 (ht.at hS) ⟨fun _ => hp,fun _ => rfl⟩) (args1 (ev rfl rfl)) ?_)
 rintro _ w1 ⟨_,_,rfl,⟨rfl,rfl⟩,hN⟩
 refine ⟨_,rfl,?_⟩
 replace hS:=hS.news hN; clear hN
 refine wl rfl (onot (b:=true) rfl rfl (ev rfl rfl) ?_)
 refine wnil (thenN ?_)
 refine wF (ev rfl rfl) ?_
 refine wskip (thenN (wseq (wseq (wreg (wl rfl (omove (v:=.slice pt nt ct) rfl rfl (ev rfl rfl) ?_))))))
 refine wl rfl (olen rfl rfl rfl Tryd.runUnderlying45 (p:=pt) (k:=nt) (m:=ct) (ev rfl rfl) ?_)
 refine wl rfl (omove (v:=.int .i64 0) rfl rfl evc ?_)
 refine wnil (thenN (wblock ?_))
 refine wloop (σ := Nat) (fun i a9 w' => ∃ (fb:Nat → Value),a9 = act 80 (sets fb [(0,.slice pt nt ct),(1,.int .u32 (p:Int)),(19,.slice pt nt ct),(20,.int .i64 (nt:Int)),(21,.int .i64 (i:Int))]) ∧ Sep w [] w' ∧ (i ≤ nt) ∧ (∀ r ∈ T.take i,r.length = colsT T)) (fun i => nt - i) (0) ⟨_,act_sets (l:=[(0,.slice pt nt ct),(1,.int .u32 (p:Int)),(19,.slice pt nt ct),(20,.int .i64 (nt:Int)),(21,.int .i64 0)]) ⟨rfl,rfl,rfl,rfl,rfl,trivial⟩,hS,Nat.zero_le _,by simp⟩ ?_
 clear hS; rintro i _ w2 ⟨fb,rfl,hS,hi,hrc⟩
 refine wseq (wreg ?_)
 by_cases hli:i < nt
 ·
  obtain ⟨xr,hxr⟩:∃ r,(T)[i]? = some r:=⟨_,List.getElem?_eq_getElem (by have:=hT.1; omega)⟩
  obtain ⟨br,ofr,pr,cr,hpr,hcr,hsr⟩:=hT.2.2 i _ hxr
  obtain ⟨xz,hxz⟩:∃ r,(T)[0]? = some r:=⟨_,List.getElem?_eq_getElem (by have:=hT.1; omega)⟩
  obtain ⟨bz,ofz,pz,cz,hpz,hcz,hsz⟩:=hT.2.2 0 _ hxz
  have hcol:=colsT_zero hxz
  refine wl rfl (obin (u:=.int .i64 (i:Int)) (v:=.int .i64 (nt:Int)) (z:=.bool true) rfl rfl (ev rfl rfl) (ev rfl rfl) (bin_lss (decide_eq_true (by omega))) ?_)
  refine wnil (thenN (wseq ?_))
  refine wT (ev rfl rfl) ?_
  refine wskip (thenN (wseq (wblock (wseq (wreg (wl rfl (oindex (p:=pt) (g:=br) (off:=ofr) (m:=nt) (k:=i) (j:=(ofr + i * 1)) rfl rfl Tryd.runUnderlying45 Tryd.sizeOf49 (ev rfl rfl) (hpr) (ev rfl rfl) (by omega) rfl ?_)))))))
  refine wl rfl (oloadc (v:=.slice pr xr.length cr) (show One Tryd.prog 49 from ⟨Tryd.isAgg49,Tryd.sizeOf49⟩) rfl rfl (ev (v:=.pointer (some ⟨br,(ofr + i * 1),none⟩)) rfl rfl) (hS.cellAt (hcr 0 _ rfl)) ?_)
  refine wl rfl (oassign (v:=.slice pr xr.length cr) rfl rfl (ev rfl rfl) ?_)
  refine wnil (thenN (wseq (wreg (wl rfl (omove (v:=.slice pr xr.length cr) rfl rfl (ev rfl rfl) ?_)))))
  refine wl rfl (olen rfl rfl rfl Tryd.runUnderlying49 (p:=pr) (k:=xr.length) (m:=cr) (ev rfl rfl) ?_)
  refine wl rfl (omove (v:=.slice pt nt ct) rfl rfl (ev rfl rfl) ?_)
  refine wl rfl (oindex (p:=pt) (g:=bz) (off:=ofz) (m:=nt) (k:=0) (j:=(ofz + 0 * 1)) rfl rfl Tryd.runUnderlying45 Tryd.sizeOf49 (ev rfl rfl) (hpz) evc (by omega) rfl ?_)
  refine wl rfl (oloadc (v:=.slice pz xz.length cz) (show One Tryd.prog 49 from ⟨Tryd.isAgg49,Tryd.sizeOf49⟩) rfl rfl (ev (v:=.pointer (some ⟨bz,(ofz + 0 * 1),none⟩)) rfl rfl) (hS.cellAt (hcz 0 _ rfl)) ?_)
  refine wl rfl (olen rfl rfl rfl Tryd.runUnderlying49 (p:=pz) (k:=xz.length) (m:=cz) (ev rfl rfl) ?_)
  by_cases hrl:xr.length = colsT T
  ·
   refine wl rfl (obin (u:=.int .i64 (xr.length:Int)) (v:=.int .i64 (xz.length:Int)) (z:=.bool false) rfl rfl (ev rfl rfl) (ev rfl rfl) (bin_neq (neF (by rw [← hcol]; omega))) ?_)
   refine wnil (thenN ?_)
   refine wF (ev rfl rfl) ?_
   refine wskip (blkN (thenN (wreg (wl rfl (obin (u:=.int .i64 (i:Int)) (v:=.int .i64 1) (z:=.int .i64 (((i + 1:Nat):Int))) rfl rfl (ev rfl rfl) evc (bin_add (wrap_i64 (by omega) (by omega))) ?_)))))
   refine wl rfl (omove (v:=.int .i64 (((i + 1:Nat):Int))) rfl rfl (ev rfl rfl) ?_)
   refine wnil (thenN ?_)
   exact ⟨(i + 1),⟨_,act_sets (l:=[(0,.slice pt nt ct),(1,.int .u32 (p:Int)),(19,.slice pt nt ct),(20,.int .i64 (nt:Int)),(21,.int .i64 (((i + 1:Nat):Int)))]) ⟨rfl,rfl,rfl,rfl,rfl,trivial⟩,hS.pick [] (by decide) rfl,by omega,by rw [take_next hxr]; intro u hu; exact (List.mem_append.1 hu).elim (hrc u) (fun h => by rw [List.mem_singleton.1 h]; exact hrl)⟩,by omega⟩
  ·
   refine wl rfl (obin (u:=.int .i64 (xr.length:Int)) (v:=.int .i64 (xz.length:Int)) (z:=.bool true) rfl rfl (ev rfl rfl) (ev rfl rfl) (bin_neq (neT (by rw [← hcol]; omega))) ?_)
   refine wnil (thenN ?_)
   refine wT (ev rfl rfl) ?_
   refine wseq (wreg (wl rfl (oassign (v:=.slice none 0 0) rfl rfl evc ?_)))
   refine wl rfl (oassign (v:=.int .i64 2) rfl rfl evc ?_)
   refine wnil (thenN ?_)
   refine wleave ?_
   refine blkR ?_
   refine thenR ?_
   refine thenR ?_
   refine blkR ?_
   refine thenR ?_
   refine wret2 Tryd.results19 (tellT (v:=.slice none 0 0) rfl rfl) (tellT (v:=.int .i64 2) rfl rfl) ?_
   exact ⟨_,_,rfl,isI,hS.new0⟩
 ·
  refine wl rfl (obin (u:=.int .i64 (i:Int)) (v:=.int .i64 (nt:Int)) (z:=.bool false) rfl rfl (ev rfl rfl) (ev rfl rfl) (bin_lss (decide_eq_false (by omega))) ?_)
  refine wnil (thenN (wseq ?_))
  refine wF (ev rfl rfl) ?_
  refine wexit ?_
  refine thenE ?_
  refine thenE ?_
  refine blkE ?_
  refine thenN (wseq (wseq (wreg (wl rfl (omove (v:=.slice pt nt ct) rfl rfl (ev rfl rfl) ?_)))))
  refine wl rfl (olen rfl rfl rfl Tryd.runUnderlying45 (p:=pt) (k:=nt) (m:=ct) (ev rfl rfl) ?_)
  exact absurd (fun r hr => hrc r (by rw [List.take_of_length_le (by omega)]; exact hr)) hr
theorem whOf4a {pt:Option Addr} {nt ct p:Nat} {T:List (List Int)} {w:World} (ht:Tb w) (hT:TB w pt nt T 67108864) (hp2:p < 4294967296) (hb2:∀ L ∈ T,L.length ≤ 1048576) (hp:MR.Pr p) (hr:RectT T) (hbig:24 < T.length) :
  Calls Tryd.prog 19 #[.slice pt nt ct,.int .u32 ((p:Nat):Int)] w (Ret (Is (.tuple #[.slice none 0 0,.int .i64 4])) w):=by
 have hTl:=hT.1
 have hTb:=hT.2.1
 have hS:=Sep.init w
 refine went Tryd.func19 rfl (n:=80) rfl rfl ?_
 refine wseq (wreg (wl rfl (oassign (v:=.slice none 0 0) rfl rfl evc ?_)))
 refine wl rfl (oassign (v:=.int .i64 0) rfl rfl evc ?_)
 refine wnil (thenN (wseq (wseq (wreg (wl rfl (omove (v:=.int .u32 (p:Int)) rfl rfl (ev rfl rfl) ?_))))))
 refine wl rfl (ocall rfl rfl Tryd.call31 rfl (wpis (b:=true) hp2 (ht.at hS) ⟨fun _ => hp,fun _ => rfl⟩) (args1 (ev rfl rfl)) ?_)
 rintro _ w1 ⟨_,_,rfl,⟨rfl,rfl⟩,hN⟩
 refine ⟨_,rfl,?_⟩
 replace hS:=hS.news hN; clear hN
 refine wl rfl (onot (b:=true) rfl rfl (ev rfl rfl) ?_)
 refine wnil (thenN ?_)
 refine wF (ev rfl rfl) ?_
 refine wskip (thenN (wseq (wseq (wreg (wl rfl (omove (v:=.slice pt nt ct) rfl rfl (ev rfl rfl) ?_))))))
 refine wl rfl (olen rfl rfl rfl Tryd.runUnderlying45 (p:=pt) (k:=nt) (m:=ct) (ev rfl rfl) ?_)
 refine wl rfl (omove (v:=.int .i64 0) rfl rfl evc ?_)
 refine wnil (thenN (wblock ?_))
 refine wloop (σ := Nat) (fun i a9 w' => ∃ (fb:Nat → Value),a9 = act 80 (sets fb [(0,.slice pt nt ct),(1,.int .u32 (p:Int)),(19,.slice pt nt ct),(20,.int .i64 (nt:Int)),(21,.int .i64 (i:Int))]) ∧ Sep w [] w' ∧ (i ≤ nt)) (fun i => nt - i) (0) ⟨_,act_sets (l:=[(0,.slice pt nt ct),(1,.int .u32 (p:Int)),(19,.slice pt nt ct),(20,.int .i64 (nt:Int)),(21,.int .i64 0)]) ⟨rfl,rfl,rfl,rfl,rfl,trivial⟩,hS,Nat.zero_le _⟩ ?_
 clear hS; rintro i _ w2 ⟨fb,rfl,hS,hi⟩
 refine wseq (wreg ?_)
 by_cases hli:i < nt
 ·
  obtain ⟨xr,hxr⟩:∃ r,(T)[i]? = some r:=⟨_,List.getElem?_eq_getElem (by have:=hT.1; omega)⟩
  obtain ⟨br,ofr,pr,cr,hpr,hcr,hsr⟩:=hT.2.2 i _ hxr
  obtain ⟨xz,hxz⟩:∃ r,(T)[0]? = some r:=⟨_,List.getElem?_eq_getElem (by have:=hT.1; omega)⟩
  obtain ⟨bz,ofz,pz,cz,hpz,hcz,hsz⟩:=hT.2.2 0 _ hxz
  have hcol:=colsT_zero hxz
  have hrl:=hr xr (List.mem_of_getElem? hxr)
  refine wl rfl (obin (u:=.int .i64 (i:Int)) (v:=.int .i64 (nt:Int)) (z:=.bool true) rfl rfl (ev rfl rfl) (ev rfl rfl) (bin_lss (decide_eq_true (by omega))) ?_)
  refine wnil (thenN (wseq ?_))
  refine wT (ev rfl rfl) ?_
  refine wskip (thenN (wseq (wblock (wseq (wreg (wl rfl (oindex (p:=pt) (g:=br) (off:=ofr) (m:=nt) (k:=i) (j:=(ofr + i * 1)) rfl rfl Tryd.runUnderlying45 Tryd.sizeOf49 (ev rfl rfl) (hpr) (ev rfl rfl) (by omega) rfl ?_)))))))
  refine wl rfl (oloadc (v:=.slice pr xr.length cr) (show One Tryd.prog 49 from ⟨Tryd.isAgg49,Tryd.sizeOf49⟩) rfl rfl (ev (v:=.pointer (some ⟨br,(ofr + i * 1),none⟩)) rfl rfl) (hS.cellAt (hcr 0 _ rfl)) ?_)
  refine wl rfl (oassign (v:=.slice pr xr.length cr) rfl rfl (ev rfl rfl) ?_)
  refine wnil (thenN (wseq (wreg (wl rfl (omove (v:=.slice pr xr.length cr) rfl rfl (ev rfl rfl) ?_)))))
  refine wl rfl (olen rfl rfl rfl Tryd.runUnderlying49 (p:=pr) (k:=xr.length) (m:=cr) (ev rfl rfl) ?_)
  refine wl rfl (omove (v:=.slice pt nt ct) rfl rfl (ev rfl rfl) ?_)
  refine wl rfl (oindex (p:=pt) (g:=bz) (off:=ofz) (m:=nt) (k:=0) (j:=(ofz + 0 * 1)) rfl rfl Tryd.runUnderlying45 Tryd.sizeOf49 (ev rfl rfl) (hpz) evc (by omega) rfl ?_)
  refine wl rfl (oloadc (v:=.slice pz xz.length cz) (show One Tryd.prog 49 from ⟨Tryd.isAgg49,Tryd.sizeOf49⟩) rfl rfl (ev (v:=.pointer (some ⟨bz,(ofz + 0 * 1),none⟩)) rfl rfl) (hS.cellAt (hcz 0 _ rfl)) ?_)
  refine wl rfl (olen rfl rfl rfl Tryd.runUnderlying49 (p:=pz) (k:=xz.length) (m:=cz) (ev rfl rfl) ?_)
  refine wl rfl (obin (u:=.int .i64 (xr.length:Int)) (v:=.int .i64 (xz.length:Int)) (z:=.bool false) rfl rfl (ev rfl rfl) (ev rfl rfl) (bin_neq (neF (by rw [← hcol]; omega))) ?_)
  refine wnil (thenN ?_)
  refine wF (ev rfl rfl) ?_
  refine wskip (blkN (thenN (wreg (wl rfl (obin (u:=.int .i64 (i:Int)) (v:=.int .i64 1) (z:=.int .i64 (((i + 1:Nat):Int))) rfl rfl (ev rfl rfl) evc (bin_add (wrap_i64 (by omega) (by omega))) ?_)))))
  refine wl rfl (omove (v:=.int .i64 (((i + 1:Nat):Int))) rfl rfl (ev rfl rfl) ?_)
  refine wnil (thenN ?_)
  exact ⟨(i + 1),⟨_,act_sets (l:=[(0,.slice pt nt ct),(1,.int .u32 (p:Int)),(19,.slice pt nt ct),(20,.int .i64 (nt:Int)),(21,.int .i64 (((i + 1:Nat):Int)))]) ⟨rfl,rfl,rfl,rfl,rfl,trivial⟩,hS.pick [] (by decide) rfl,by omega⟩,by omega⟩
 ·
  refine wl rfl (obin (u:=.int .i64 (i:Int)) (v:=.int .i64 (nt:Int)) (z:=.bool false) rfl rfl (ev rfl rfl) (ev rfl rfl) (bin_lss (decide_eq_false (by omega))) ?_)
  refine wnil (thenN (wseq ?_))
  refine wF (ev rfl rfl) ?_
  refine wexit ?_
  refine thenE ?_
  refine thenE ?_
  refine blkE ?_
  refine thenN (wseq (wseq (wreg (wl rfl (omove (v:=.slice pt nt ct) rfl rfl (ev rfl rfl) ?_)))))
  refine wl rfl (olen rfl rfl rfl Tryd.runUnderlying45 (p:=pt) (k:=nt) (m:=ct) (ev rfl rfl) ?_)
  refine wl rfl (obin (u:=.int .i64 (nt:Int)) (v:=.int .i64 24) (z:=.bool true) rfl rfl (ev rfl rfl) evc (bin_gtr (decide_eq_true (by omega))) ?_)
  refine wl rfl (omove (v:=.bool true) rfl rfl (ev rfl rfl) ?_)
  refine wlOff (e:=36) (d:=37) (b':=true) rfl rfl rfl rfl rfl rfl ?_
  refine wlOff (e:=36) (d:=38) (b':=true) rfl rfl rfl rfl rfl rfl ?_
  refine wlOff (e:=36) (d:=39) (b':=true) rfl rfl rfl rfl rfl rfl ?_
  refine wlOff (e:=36) (d:=40) (b':=true) rfl rfl rfl rfl rfl rfl ?_
  refine wlUndef (e:=40) (d:=41) rfl rfl rfl rfl rfl ?_
  refine wlUndef (e:=40) (d:=42) rfl rfl rfl rfl rfl ?_
  refine wlUndef (e:=40) (d:=43) rfl rfl rfl rfl rfl ?_
  refine wlUndef (e:=40) (d:=44) rfl rfl rfl rfl rfl ?_
  refine wlUndef (e:=40) (d:=45) rfl rfl rfl rfl rfl ?_
  refine wlOff (e:=36) (d:=46) (b':=true) rfl rfl rfl rfl rfl rfl ?_
  refine wl rfl (opick (b:=true) (v:=.bool true) rfl rfl (ev rfl rfl) evc ?_)
  refine wnil (thenN ?_)
  refine wT (ev rfl rfl) ?_
  refine wseq (wreg (wl rfl (oassign (v:=.slice none 0 0) rfl rfl evc ?_)))
  refine wl rfl (oassign (v:=.int .i64 4) rfl rfl evc ?_)
  refine wnil (thenN ?_)
  refine wleave ?_
  refine thenR ?_
  refine wret2 Tryd.results19 (tellT (v:=.slice none 0 0) rfl rfl) (tellT (v:=.int .i64 4) rfl rfl) ?_
  exact ⟨_,_,rfl,isI,hS.new0⟩
theorem whOf4b {pt:Option Addr} {nt ct p:Nat} {T:List (List Int)} {w:World} (ht:Tb w) (hT:TB w pt nt T 67108864) (hp2:p < 4294967296) (hb2:∀ L ∈ T,L.length ≤ 1048576) (hp:MR.Pr p) (hr:RectT T) (hl:T.length ≤ 24) (h0:0 < T.length) (hw:24 < colsT T) :
  Calls Tryd.prog 19 #[.slice pt nt ct,.int .u32 ((p:Nat):Int)] w (Ret (Is (.tuple #[.slice none 0 0,.int .i64 4])) w):=by
 have hTl:=hT.1
 have hTb:=hT.2.1
 have hS:=Sep.init w
 refine went Tryd.func19 rfl (n:=80) rfl rfl ?_
 refine wseq (wreg (wl rfl (oassign (v:=.slice none 0 0) rfl rfl evc ?_)))
 refine wl rfl (oassign (v:=.int .i64 0) rfl rfl evc ?_)
 refine wnil (thenN (wseq (wseq (wreg (wl rfl (omove (v:=.int .u32 (p:Int)) rfl rfl (ev rfl rfl) ?_))))))
 refine wl rfl (ocall rfl rfl Tryd.call31 rfl (wpis (b:=true) hp2 (ht.at hS) ⟨fun _ => hp,fun _ => rfl⟩) (args1 (ev rfl rfl)) ?_)
 rintro _ w1 ⟨_,_,rfl,⟨rfl,rfl⟩,hN⟩
 refine ⟨_,rfl,?_⟩
 replace hS:=hS.news hN; clear hN
 refine wl rfl (onot (b:=true) rfl rfl (ev rfl rfl) ?_)
 refine wnil (thenN ?_)
 refine wF (ev rfl rfl) ?_
 refine wskip (thenN (wseq (wseq (wreg (wl rfl (omove (v:=.slice pt nt ct) rfl rfl (ev rfl rfl) ?_))))))
 refine wl rfl (olen rfl rfl rfl Tryd.runUnderlying45 (p:=pt) (k:=nt) (m:=ct) (ev rfl rfl) ?_)
 refine wl rfl (omove (v:=.int .i64 0) rfl rfl evc ?_)
 refine wnil (thenN (wblock ?_))
 refine wloop (σ := Nat) (fun i a9 w' => ∃ (fb:Nat → Value),a9 = act 80 (sets fb [(0,.slice pt nt ct),(1,.int .u32 (p:Int)),(19,.slice pt nt ct),(20,.int .i64 (nt:Int)),(21,.int .i64 (i:Int))]) ∧ Sep w [] w' ∧ (i ≤ nt)) (fun i => nt - i) (0) ⟨_,act_sets (l:=[(0,.slice pt nt ct),(1,.int .u32 (p:Int)),(19,.slice pt nt ct),(20,.int .i64 (nt:Int)),(21,.int .i64 0)]) ⟨rfl,rfl,rfl,rfl,rfl,trivial⟩,hS,Nat.zero_le _⟩ ?_
 clear hS; rintro i _ w2 ⟨fb,rfl,hS,hi⟩
 refine wseq (wreg ?_)
 by_cases hli:i < nt
 ·
  obtain ⟨xr,hxr⟩:∃ r,(T)[i]? = some r:=⟨_,List.getElem?_eq_getElem (by have:=hT.1; omega)⟩
  obtain ⟨br,ofr,pr,cr,hpr,hcr,hsr⟩:=hT.2.2 i _ hxr
  obtain ⟨xz,hxz⟩:∃ r,(T)[0]? = some r:=⟨_,List.getElem?_eq_getElem (by have:=hT.1; omega)⟩
  obtain ⟨bz,ofz,pz,cz,hpz,hcz,hsz⟩:=hT.2.2 0 _ hxz
  have hcol:=colsT_zero hxz
  have hrl:=hr xr (List.mem_of_getElem? hxr)
  refine wl rfl (obin (u:=.int .i64 (i:Int)) (v:=.int .i64 (nt:Int)) (z:=.bool true) rfl rfl (ev rfl rfl) (ev rfl rfl) (bin_lss (decide_eq_true (by omega))) ?_)
  refine wnil (thenN (wseq ?_))
  refine wT (ev rfl rfl) ?_
  refine wskip (thenN (wseq (wblock (wseq (wreg (wl rfl (oindex (p:=pt) (g:=br) (off:=ofr) (m:=nt) (k:=i) (j:=(ofr + i * 1)) rfl rfl Tryd.runUnderlying45 Tryd.sizeOf49 (ev rfl rfl) (hpr) (ev rfl rfl) (by omega) rfl ?_)))))))
  refine wl rfl (oloadc (v:=.slice pr xr.length cr) (show One Tryd.prog 49 from ⟨Tryd.isAgg49,Tryd.sizeOf49⟩) rfl rfl (ev (v:=.pointer (some ⟨br,(ofr + i * 1),none⟩)) rfl rfl) (hS.cellAt (hcr 0 _ rfl)) ?_)
  refine wl rfl (oassign (v:=.slice pr xr.length cr) rfl rfl (ev rfl rfl) ?_)
  refine wnil (thenN (wseq (wreg (wl rfl (omove (v:=.slice pr xr.length cr) rfl rfl (ev rfl rfl) ?_)))))
  refine wl rfl (olen rfl rfl rfl Tryd.runUnderlying49 (p:=pr) (k:=xr.length) (m:=cr) (ev rfl rfl) ?_)
  refine wl rfl (omove (v:=.slice pt nt ct) rfl rfl (ev rfl rfl) ?_)
  refine wl rfl (oindex (p:=pt) (g:=bz) (off:=ofz) (m:=nt) (k:=0) (j:=(ofz + 0 * 1)) rfl rfl Tryd.runUnderlying45 Tryd.sizeOf49 (ev rfl rfl) (hpz) evc (by omega) rfl ?_)
  refine wl rfl (oloadc (v:=.slice pz xz.length cz) (show One Tryd.prog 49 from ⟨Tryd.isAgg49,Tryd.sizeOf49⟩) rfl rfl (ev (v:=.pointer (some ⟨bz,(ofz + 0 * 1),none⟩)) rfl rfl) (hS.cellAt (hcz 0 _ rfl)) ?_)
  refine wl rfl (olen rfl rfl rfl Tryd.runUnderlying49 (p:=pz) (k:=xz.length) (m:=cz) (ev rfl rfl) ?_)
  refine wl rfl (obin (u:=.int .i64 (xr.length:Int)) (v:=.int .i64 (xz.length:Int)) (z:=.bool false) rfl rfl (ev rfl rfl) (ev rfl rfl) (bin_neq (neF (by rw [← hcol]; omega))) ?_)
  refine wnil (thenN ?_)
  refine wF (ev rfl rfl) ?_
  refine wskip (blkN (thenN (wreg (wl rfl (obin (u:=.int .i64 (i:Int)) (v:=.int .i64 1) (z:=.int .i64 (((i + 1:Nat):Int))) rfl rfl (ev rfl rfl) evc (bin_add (wrap_i64 (by omega) (by omega))) ?_)))))
  refine wl rfl (omove (v:=.int .i64 (((i + 1:Nat):Int))) rfl rfl (ev rfl rfl) ?_)
  refine wnil (thenN ?_)
  exact ⟨(i + 1),⟨_,act_sets (l:=[(0,.slice pt nt ct),(1,.int .u32 (p:Int)),(19,.slice pt nt ct),(20,.int .i64 (nt:Int)),(21,.int .i64 (((i + 1:Nat):Int)))]) ⟨rfl,rfl,rfl,rfl,rfl,trivial⟩,hS.pick [] (by decide) rfl,by omega⟩,by omega⟩
 ·
  refine wl rfl (obin (u:=.int .i64 (i:Int)) (v:=.int .i64 (nt:Int)) (z:=.bool false) rfl rfl (ev rfl rfl) (ev rfl rfl) (bin_lss (decide_eq_false (by omega))) ?_)
  refine wnil (thenN (wseq ?_))
  refine wF (ev rfl rfl) ?_
  refine wexit ?_
  refine thenE ?_
  refine thenE ?_
  refine blkE ?_
  refine thenN (wseq (wseq (wreg (wl rfl (omove (v:=.slice pt nt ct) rfl rfl (ev rfl rfl) ?_)))))
  refine wl rfl (olen rfl rfl rfl Tryd.runUnderlying45 (p:=pt) (k:=nt) (m:=ct) (ev rfl rfl) ?_)
  refine wl rfl (obin (u:=.int .i64 (nt:Int)) (v:=.int .i64 24) (z:=.bool false) rfl rfl (ev rfl rfl) evc (bin_gtr (decide_eq_false (by omega))) ?_)
  refine wl rfl (omove (v:=.bool false) rfl rfl (ev rfl rfl) ?_)
  refine wlOn (e:=36) rfl rfl rfl rfl (omove (v:=.slice pt nt ct) rfl rfl (ev rfl rfl) ?_)
  refine wlOn (e:=36) rfl rfl rfl rfl (olen rfl rfl rfl Tryd.runUnderlying45 (p:=pt) (k:=nt) (m:=ct) (ev rfl rfl) ?_)
  refine wlOn (e:=36) rfl rfl rfl rfl (obin (u:=.int .i64 (nt:Int)) (v:=.int .i64 0) (z:=.bool true) rfl rfl (ev rfl rfl) evc (bin_gtr (decide_eq_true (by omega))) ?_)
  refine wlOn (e:=36) rfl rfl rfl rfl (omove (v:=.bool true) rfl rfl (ev rfl rfl) ?_)
  refine wlOn (e:=40) rfl rfl rfl rfl (omove (v:=.slice pt nt ct) rfl rfl (ev rfl rfl) ?_)
  obtain ⟨xz,hxz⟩:∃ r,(T)[0]? = some r:=⟨_,List.getElem?_eq_getElem (by have:=hT.1; omega)⟩
  obtain ⟨bz,ofz,pz,cz,hpz,hcz,hsz⟩:=hT.2.2 0 _ hxz
  have hcol:=colsT_zero hxz
  refine wlOn (e:=40) rfl rfl rfl rfl (oindex (p:=pt) (g:=bz) (off:=ofz) (m:=nt) (k:=0) (j:=(ofz + 0 * 1)) rfl rfl Tryd.runUnderlying45 Tryd.sizeOf49 (ev rfl rfl) (hpz) evc (by omega) rfl ?_)
  refine wlOn (e:=40) rfl rfl rfl rfl (oloadc (v:=.slice pz xz.length cz) (show One Tryd.prog 49 from ⟨Tryd.isAgg49,Tryd.sizeOf49⟩) rfl rfl (ev (v:=.pointer (some ⟨bz,(ofz + 0 * 1),none⟩)) rfl rfl) (hS.cellAt (hcz 0 _ rfl)) ?_)
  refine wlOn (e:=40) rfl rfl rfl rfl (olen rfl rfl rfl Tryd.runUnderlying49 (p:=pz) (k:=xz.length) (m:=cz) (ev rfl rfl) ?_)
  refine wlOn (e:=40) rfl rfl rfl rfl (obin (u:=.int .i64 (xz.length:Int)) (v:=.int .i64 24) (z:=.bool true) rfl rfl (ev rfl rfl) evc (bin_gtr (decide_eq_true (by omega))) ?_)
  refine wlOn (e:=36) rfl rfl rfl rfl (opick (b:=true) (v:=.bool true) rfl rfl (ev rfl rfl) (ev rfl rfl) ?_)
  refine wl rfl (opick (b:=false) (v:=.bool true) rfl rfl (ev rfl rfl) (ev rfl rfl) ?_)
  refine wnil (thenN ?_)
  refine wT (ev rfl rfl) ?_
  refine wseq (wreg (wl rfl (oassign (v:=.slice none 0 0) rfl rfl evc ?_)))
  refine wl rfl (oassign (v:=.int .i64 4) rfl rfl evc ?_)
  refine wnil (thenN ?_)
  refine wleave ?_
  refine thenR ?_
  refine wret2 Tryd.results19 (tellT (v:=.slice none 0 0) rfl rfl) (tellT (v:=.int .i64 4) rfl rfl) ?_
  exact ⟨_,_,rfl,isI,hS.new0⟩
theorem whOf {pt:Option Addr} {nt ct p:Nat} {T:List (List Int)} {w:World} (ht:Tb w) (hT:TB w pt nt T 67108864) (hp2:p < 4294967296) (hb2:∀ L ∈ T,L.length ≤ 1048576) (hp:MR.Pr p) (hr:RectT T) (hl:T.length ≤ 24) (hw:colsT T ≤ 24) :
  Calls Tryd.prog 19 #[.slice pt nt ct,.int .u32 ((p:Nat):Int)] w (Ret (MOt nt (modT p T)) w):=by
 have hTl:=hT.1
 have hTb:=hT.2.1
 have hp1:=hp.1
 have hp0:0 < p:=by omega
 have hS:=Sep.init w
 refine went Tryd.func19 rfl (n:=80) rfl rfl ?_
 refine wseq (wreg (wl rfl (oassign (v:=.slice none 0 0) rfl rfl evc ?_)))
 refine wl rfl (oassign (v:=.int .i64 0) rfl rfl evc ?_)
 refine wnil (thenN (wseq (wseq (wreg (wl rfl (omove (v:=.int .u32 (p:Int)) rfl rfl (ev rfl rfl) ?_))))))
 refine wl rfl (ocall rfl rfl Tryd.call31 rfl (wpis (b:=true) hp2 (ht.at hS) ⟨fun _ => hp,fun _ => rfl⟩) (args1 (ev rfl rfl)) ?_)
 rintro _ w1 ⟨_,_,rfl,⟨rfl,rfl⟩,hN⟩
 refine ⟨_,rfl,?_⟩
 replace hS:=hS.news hN; clear hN
 refine wl rfl (onot (b:=true) rfl rfl (ev rfl rfl) ?_)
 refine wnil (thenN ?_)
 refine wF (ev rfl rfl) ?_
 refine wskip (thenN (wseq (wseq (wreg (wl rfl (omove (v:=.slice pt nt ct) rfl rfl (ev rfl rfl) ?_))))))
 refine wl rfl (olen rfl rfl rfl Tryd.runUnderlying45 (p:=pt) (k:=nt) (m:=ct) (ev rfl rfl) ?_)
 refine wl rfl (omove (v:=.int .i64 0) rfl rfl evc ?_)
 refine wnil (thenN (wblock ?_))
 refine wloop (σ := Nat) (fun i a9 w' => ∃ (fb:Nat → Value),a9 = act 80 (sets fb [(0,.slice pt nt ct),(1,.int .u32 (p:Int)),(19,.slice pt nt ct),(20,.int .i64 (nt:Int)),(21,.int .i64 (i:Int))]) ∧ Sep w [] w' ∧ (i ≤ nt)) (fun i => nt - i) (0) ⟨_,act_sets (l:=[(0,.slice pt nt ct),(1,.int .u32 (p:Int)),(19,.slice pt nt ct),(20,.int .i64 (nt:Int)),(21,.int .i64 0)]) ⟨rfl,rfl,rfl,rfl,rfl,trivial⟩,hS,Nat.zero_le _⟩ ?_
 clear hS; rintro i _ w2 ⟨fb,rfl,hS,hi⟩
 refine wseq (wreg ?_)
 by_cases hli:i < nt
 ·
  obtain ⟨xr,hxr⟩:∃ r,(T)[i]? = some r:=⟨_,List.getElem?_eq_getElem (by have:=hT.1; omega)⟩
  obtain ⟨br,ofr,pr,cr,hpr,hcr,hsr⟩:=hT.2.2 i _ hxr
  obtain ⟨xz,hxz⟩:∃ r,(T)[0]? = some r:=⟨_,List.getElem?_eq_getElem (by have:=hT.1; omega)⟩
  obtain ⟨bz,ofz,pz,cz,hpz,hcz,hsz⟩:=hT.2.2 0 _ hxz
  have hcol:=colsT_zero hxz
  have hrl:=hr xr (List.mem_of_getElem? hxr)
  refine wl rfl (obin (u:=.int .i64 (i:Int)) (v:=.int .i64 (nt:Int)) (z:=.bool true) rfl rfl (ev rfl rfl) (ev rfl rfl) (bin_lss (decide_eq_true (by omega))) ?_)
  refine wnil (thenN (wseq ?_))
  refine wT (ev rfl rfl) ?_
  refine wskip (thenN (wseq (wblock (wseq (wreg (wl rfl (oindex (p:=pt) (g:=br) (off:=ofr) (m:=nt) (k:=i) (j:=(ofr + i * 1)) rfl rfl Tryd.runUnderlying45 Tryd.sizeOf49 (ev rfl rfl) (hpr) (ev rfl rfl) (by omega) rfl ?_)))))))
  refine wl rfl (oloadc (v:=.slice pr xr.length cr) (show One Tryd.prog 49 from ⟨Tryd.isAgg49,Tryd.sizeOf49⟩) rfl rfl (ev (v:=.pointer (some ⟨br,(ofr + i * 1),none⟩)) rfl rfl) (hS.cellAt (hcr 0 _ rfl)) ?_)
  refine wl rfl (oassign (v:=.slice pr xr.length cr) rfl rfl (ev rfl rfl) ?_)
  refine wnil (thenN (wseq (wreg (wl rfl (omove (v:=.slice pr xr.length cr) rfl rfl (ev rfl rfl) ?_)))))
  refine wl rfl (olen rfl rfl rfl Tryd.runUnderlying49 (p:=pr) (k:=xr.length) (m:=cr) (ev rfl rfl) ?_)
  refine wl rfl (omove (v:=.slice pt nt ct) rfl rfl (ev rfl rfl) ?_)
  refine wl rfl (oindex (p:=pt) (g:=bz) (off:=ofz) (m:=nt) (k:=0) (j:=(ofz + 0 * 1)) rfl rfl Tryd.runUnderlying45 Tryd.sizeOf49 (ev rfl rfl) (hpz) evc (by omega) rfl ?_)
  refine wl rfl (oloadc (v:=.slice pz xz.length cz) (show One Tryd.prog 49 from ⟨Tryd.isAgg49,Tryd.sizeOf49⟩) rfl rfl (ev (v:=.pointer (some ⟨bz,(ofz + 0 * 1),none⟩)) rfl rfl) (hS.cellAt (hcz 0 _ rfl)) ?_)
  refine wl rfl (olen rfl rfl rfl Tryd.runUnderlying49 (p:=pz) (k:=xz.length) (m:=cz) (ev rfl rfl) ?_)
  refine wl rfl (obin (u:=.int .i64 (xr.length:Int)) (v:=.int .i64 (xz.length:Int)) (z:=.bool false) rfl rfl (ev rfl rfl) (ev rfl rfl) (bin_neq (neF (by rw [← hcol]; omega))) ?_)
  refine wnil (thenN ?_)
  refine wF (ev rfl rfl) ?_
  refine wskip (blkN (thenN (wreg (wl rfl (obin (u:=.int .i64 (i:Int)) (v:=.int .i64 1) (z:=.int .i64 (((i + 1:Nat):Int))) rfl rfl (ev rfl rfl) evc (bin_add (wrap_i64 (by omega) (by omega))) ?_)))))
  refine wl rfl (omove (v:=.int .i64 (((i + 1:Nat):Int))) rfl rfl (ev rfl rfl) ?_)
  refine wnil (thenN ?_)
  exact ⟨(i + 1),⟨_,act_sets (l:=[(0,.slice pt nt ct),(1,.int .u32 (p:Int)),(19,.slice pt nt ct),(20,.int .i64 (nt:Int)),(21,.int .i64 (((i + 1:Nat):Int)))]) ⟨rfl,rfl,rfl,rfl,rfl,trivial⟩,hS.pick [] (by decide) rfl,by omega⟩,by omega⟩
 ·
  refine wl rfl (obin (u:=.int .i64 (i:Int)) (v:=.int .i64 (nt:Int)) (z:=.bool false) rfl rfl (ev rfl rfl) (ev rfl rfl) (bin_lss (decide_eq_false (by omega))) ?_)
  refine wnil (thenN (wseq ?_))
  refine wF (ev rfl rfl) ?_
  refine wexit ?_
  refine thenE ?_
  refine thenE ?_
  refine blkE ?_
  refine thenN (wseq (wseq (wreg (wl rfl (omove (v:=.slice pt nt ct) rfl rfl (ev rfl rfl) ?_)))))
  refine wl rfl (olen rfl rfl rfl Tryd.runUnderlying45 (p:=pt) (k:=nt) (m:=ct) (ev rfl rfl) ?_)
  refine wl rfl (obin (u:=.int .i64 (nt:Int)) (v:=.int .i64 24) (z:=.bool false) rfl rfl (ev rfl rfl) evc (bin_gtr (decide_eq_false (by omega))) ?_)
  refine wl rfl (omove (v:=.bool false) rfl rfl (ev rfl rfl) ?_)
  refine wlOn (e:=36) rfl rfl rfl rfl (omove (v:=.slice pt nt ct) rfl rfl (ev rfl rfl) ?_)
  refine wlOn (e:=36) rfl rfl rfl rfl (olen rfl rfl rfl Tryd.runUnderlying45 (p:=pt) (k:=nt) (m:=ct) (ev rfl rfl) ?_)
  by_cases h0:0 < nt
  ·
   refine wlOn (e:=36) rfl rfl rfl rfl (obin (u:=.int .i64 (nt:Int)) (v:=.int .i64 0) (z:=.bool true) rfl rfl (ev rfl rfl) evc (bin_gtr (decide_eq_true (by omega))) ?_)
   refine wlOn (e:=36) rfl rfl rfl rfl (omove (v:=.bool true) rfl rfl (ev rfl rfl) ?_)
   refine wlOn (e:=40) rfl rfl rfl rfl (omove (v:=.slice pt nt ct) rfl rfl (ev rfl rfl) ?_)
   obtain ⟨xz,hxz⟩:∃ r,(T)[0]? = some r:=⟨_,List.getElem?_eq_getElem (by have:=hT.1; omega)⟩
   obtain ⟨bz,ofz,pz,cz,hpz,hcz,hsz⟩:=hT.2.2 0 _ hxz
   have hcol:=colsT_zero hxz
   refine wlOn (e:=40) rfl rfl rfl rfl (oindex (p:=pt) (g:=bz) (off:=ofz) (m:=nt) (k:=0) (j:=(ofz + 0 * 1)) rfl rfl Tryd.runUnderlying45 Tryd.sizeOf49 (ev rfl rfl) (hpz) evc (by omega) rfl ?_)
   refine wlOn (e:=40) rfl rfl rfl rfl (oloadc (v:=.slice pz xz.length cz) (show One Tryd.prog 49 from ⟨Tryd.isAgg49,Tryd.sizeOf49⟩) rfl rfl (ev (v:=.pointer (some ⟨bz,(ofz + 0 * 1),none⟩)) rfl rfl) (hS.cellAt (hcz 0 _ rfl)) ?_)
   refine wlOn (e:=40) rfl rfl rfl rfl (olen rfl rfl rfl Tryd.runUnderlying49 (p:=pz) (k:=xz.length) (m:=cz) (ev rfl rfl) ?_)
   refine wlOn (e:=40) rfl rfl rfl rfl (obin (u:=.int .i64 (xz.length:Int)) (v:=.int .i64 24) (z:=.bool false) rfl rfl (ev rfl rfl) evc (bin_gtr (decide_eq_false (by omega))) ?_)
   refine wlOn (e:=36) rfl rfl rfl rfl (opick (b:=true) (v:=.bool false) rfl rfl (ev rfl rfl) (ev rfl rfl) ?_)
   refine wl rfl (opick (b:=false) (v:=.bool false) rfl rfl (ev rfl rfl) (ev rfl rfl) ?_)
   refine wnil (thenN ?_)
   refine wF (ev rfl rfl) ?_
   refine wskip (thenN (wseq (wreg (wl rfl (oassign (v:=.slice none 0 0) rfl rfl evc ?_)))))
   refine wnil (thenN (wseq (wseq (wreg (wl rfl (omove (v:=.slice pt nt ct) rfl rfl (ev rfl rfl) ?_))))))
   refine wl rfl (olen rfl rfl rfl Tryd.runUnderlying45 (p:=pt) (k:=nt) (m:=ct) (ev rfl rfl) ?_)
   refine wl rfl (omove (v:=.int .i64 0) rfl rfl evc ?_)
   refine wnil (thenN (wblock ?_))
   replace hS:=hS.nilLst 29 1
   refine wloop (σ := Nat) (fun i a9 w' => ∃ (fb:Nat → Value) (Q:List Rw) (pX:Option Addr) (cX:Nat),a9 = act 80 (sets fb [(1,.int .u32 (p:Int)),(8,.slice pX i cX),(48,.slice pt nt ct),(49,.int .i64 (nt:Int)),(50,.int .i64 (i:Int))]) ∧ Sep w [.lst 29 1 pX i cX (mmE Q)] w' ∧ (i ≤ nt) ∧ (nums Q = modT p (T.take i))) (fun i => nt - i) (0) ⟨_,[],none,0,act_sets (l:=[(1,.int .u32 (p:Int)),(8,.slice none 0 0),(48,.slice pt nt ct),(49,.int .i64 (nt:Int)),(50,.int .i64 0)]) ⟨rfl,rfl,rfl,rfl,rfl,trivial⟩,hS,Nat.zero_le _,rfl⟩ ?_
   clear hS; rintro i _ w3 ⟨fb,Q,pX,cX,rfl,hS,hi,hQ⟩
   refine wseq (wreg ?_)
   by_cases hli3:i < nt
   ·
    obtain ⟨xr,hxr⟩:∃ r,(T)[i]? = some r:=⟨_,List.getElem?_eq_getElem (by have:=hT.1; omega)⟩
    obtain ⟨br,ofr,pr,cr,hpr,hcr,hsr⟩:=hT.2.2 i _ hxr
    have hrb:=hb2 xr (List.mem_of_getElem? hxr)
    refine wl rfl (obin (u:=.int .i64 (i:Int)) (v:=.int .i64 (nt:Int)) (z:=.bool true) rfl rfl (ev rfl rfl) (ev rfl rfl) (bin_lss (decide_eq_true (by omega))) ?_)
    refine wnil (thenN (wseq ?_))
    refine wT (ev rfl rfl) ?_
    refine wskip (thenN (wseq (wblock (wseq (wreg (wl rfl (oindex (p:=pt) (g:=br) (off:=ofr) (m:=nt) (k:=i) (j:=(ofr + i * 1)) rfl rfl Tryd.runUnderlying45 Tryd.sizeOf49 (ev rfl rfl) (hpr) (ev rfl rfl) (by omega) rfl ?_)))))))
    refine wl rfl (oloadc (v:=.slice pr xr.length cr) (show One Tryd.prog 49 from ⟨Tryd.isAgg49,Tryd.sizeOf49⟩) rfl rfl (ev (v:=.pointer (some ⟨br,(ofr + i * 1),none⟩)) rfl rfl) (hS.cellAt (hcr 0 _ rfl)) ?_)
    refine wl rfl (oassign (v:=.slice pr xr.length cr) rfl rfl (ev rfl rfl) ?_)
    refine wnil (thenN (wseq (wreg (wl rfl (omove (v:=.slice pr xr.length cr) rfl rfl (ev rfl rfl) ?_)))))
    refine wl rfl (olen rfl rfl rfl Tryd.runUnderlying49 (p:=pr) (k:=xr.length) (m:=cr) (ev rfl rfl) ?_)
    refine wl rfl (omakeL (zs:=[.int .u32 0]) (k:=0) (m:=xr.length) hS rfl rfl Tryd.underlying29 infouint32 rfl rfl (by decide) rfl (evc (v:=.int .i64 ((0:Nat):Int))) (ev (v:=.int .i64 (xr.length:Int)) rfl rfl) (by omega) (by omega) (by omega) ?_)
    clear hS; intro g4 w5 hS
    refine wl rfl (oassign (v:=.slice (some ⟨g4,0,none⟩) 0 xr.length) rfl rfl (ev rfl rfl) ?_)
    refine wnil (thenN (wseq (wseq (wreg (wl rfl (omove (v:=.slice pr xr.length cr) rfl rfl (ev rfl rfl) ?_))))))
    refine wl rfl (olen rfl rfl rfl Tryd.runUnderlying49 (p:=pr) (k:=xr.length) (m:=cr) (ev rfl rfl) ?_)
    refine wl rfl (omove (v:=.int .i64 0) rfl rfl evc ?_)
    refine wnil (thenN (wblock ?_))
    rw [show (List.replicate 0 (⟨[.int .u32 0],[]⟩:El)) = u32E ((modZ p xr).take 0) from rfl] at hS
    refine wloop (σ := Nat) (fun k a9 w' => ∃ (fb:Nat → Value) (pO:Option Addr) (cO:Nat),a9 = act 80 (sets fb [(1,.int .u32 (p:Int)),(8,.slice pX i cX),(11,.slice pO k cO),(48,.slice pt nt ct),(49,.int .i64 (nt:Int)),(50,.int .i64 (i:Int)),(57,.slice pr xr.length cr),(58,.int .i64 (xr.length:Int)),(59,.int .i64 (k:Int))]) ∧ Sep w [.lst 24 1 pO k cO (u32E ((modZ p xr).take k)),.lst 29 1 pX i cX (mmE Q)] w' ∧ (k ≤ xr.length)) (fun k => xr.length - k) (0) ⟨_,some ⟨g4,0,none⟩,xr.length,act_sets (l:=[(1,.int .u32 (p:Int)),(8,.slice pX i cX),(11,.slice (some ⟨g4,0,none⟩) 0 xr.length),(48,.slice pt nt ct),(49,.int .i64 (nt:Int)),(50,.int .i64 (i:Int)),(57,.slice pr xr.length cr),(58,.int .i64 (xr.length:Int)),(59,.int .i64 0)]) ⟨rfl,rfl,rfl,rfl,rfl,rfl,rfl,rfl,rfl,trivial⟩,hS,Nat.zero_le _⟩ ?_
    clear hS; rintro k _ w6 ⟨fb,pO,cO,rfl,hS,hk⟩
    refine wseq (wreg ?_)
    by_cases hlk:k < xr.length
    ·
     obtain ⟨ze,ge,oe,be,pe,ne,ce,hle,hpe,hce,hze⟩:=hsr.el hlk
     refine wl rfl (obin (u:=.int .i64 (k:Int)) (v:=.int .i64 (xr.length:Int)) (z:=.bool true) rfl rfl (ev rfl rfl) (ev rfl rfl) (bin_lss (decide_eq_true (by omega))) ?_)
     refine wnil (thenN (wseq ?_))
     refine wT (ev rfl rfl) ?_
     refine wskip (thenN (wseq (wblock (wseq (wreg (wl rfl (oindex (p:=pr) (g:=ge) (off:=oe) (m:=xr.length) (k:=k) (j:=(oe + k * 2)) rfl rfl Tryd.runUnderlying49 Tryd.sizeOf52 (ev rfl rfl) (hpe) (ev rfl rfl) (hlk) rfl ?_)))))))
     refine wl rfl (oloadA (vs:=[.bool be,.slice pe ne ce]) aggZ rfl rfl (ev (v:=.pointer (some ⟨ge,(oe + k * 2),none⟩)) rfl rfl) (fun j v hj => hS.cellAt (hce j v hj)) rfl ?_)
     refine wl rfl (oalloc [.bool false,.slice none 0 0] hS rfl rfl Tryd.zeroValue52 rfl ?_)
     clear hS; intro g7 w8 hS
     refine wl rfl (ostore [.bool be,.slice pe ne ce] [.bool be,.slice pe ne ce] Tryd.sizeOf52 hS 0 rfl rfl (ev rfl rfl) (ev (v:=.agg #[.bool be,.slice pe ne ce]) rfl rfl) rfl rfl rfl rfl rfl rfl ?_)
     clear hS; intro w9 hS
     refine wnil (thenN (wseq (wreg (wl rfl (oload (vs:=[.bool be,.slice pe ne ce]) aggZ hS 0 rfl rfl (ev rfl rfl) rfl rfl rfl ?_)))))
     refine wl rfl (omove (v:=.int .u32 (p:Int)) rfl rfl (ev rfl rfl) ?_)
     refine wl rfl (ocall rfl rfl Tryd.call32 rfl (wzmod ((hze.at hS).mono (by omega)) hp2 (by omega)) (args2 (ev rfl rfl) (ev rfl rfl)) ?_)
     rintro _ w10 ⟨_,_,rfl,⟨rfl,rfl⟩,hN⟩
     refine ⟨_,rfl,?_⟩
     replace hS:=hS.news hN; clear hN
     refine wl rfl (omove (v:=.tuple #[.int .u32 (((md p ze:Nat):Int)),.int .i64 0]) rfl rfl (ev rfl rfl) ?_)
     refine wl rfl (oextract (vs:=[.int .u32 (((md p ze:Nat):Int)),.int .i64 0]) (v:=.int .u32 (((md p ze:Nat):Int))) rfl rfl (ev rfl rfl) rfl ?_)
     refine wl rfl (oextract (vs:=[.int .u32 (((md p ze:Nat):Int)),.int .i64 0]) (v:=.int .i64 0) rfl rfl (ev rfl rfl) rfl ?_)
     refine wl rfl (oassign (v:=.int .u32 (((md p ze:Nat):Int))) rfl rfl (ev rfl rfl) ?_)
     refine wl rfl (oassign (v:=.int .i64 0) rfl rfl (ev rfl rfl) ?_)
     refine wnil (thenN (wreg (wl rfl (omove (v:=.slice pO k cO) rfl rfl (ev rfl rfl) ?_))))
     refine wl rfl (omove (v:=.int .u32 (((md p ze:Nat):Int))) rfl rfl (ev rfl rfl) ?_)
     refine wl rfl (obslice (ps:=#[(0,.int .u32 (((md p ze:Nat):Int)))]) (z:=.int .u32 0) [.int .u32 (((md p ze:Nat):Int))] hS rfl rfl Tryd.runUnderlying29 Tryd.sizeOf24 Tryd.zeroValue24 (parts1 (ev (v:=.int .u32 (((md p ze:Nat):Int))) rfl rfl)) rfl (by decide) (fill1_1s rfl rfl) ?_)
     clear hS; intro g11 w12 hS
     have hm9:=md_lt hp0 ze
     obtain hS:=(show Sep w [.lst 24 1 pO k cO (u32E ((modZ p xr).take k)),.blk g11 [.int .u32 (((md p ze:Nat):Int))] 24,.blk g7 [.bool be,.slice pe ne ce] 52,.lst 29 1 pX i cX (mmE Q)] w12 from hS.pick [2,0,1,3] (by decide) rfl)
     refine wl rfl (oappendL (p:=pO) (m:=k) (c:=cO) (g2:=g11) (c2:=1) (off:=0) [.int .u32 (((md p ze:Nat):Int))] [] hS rfl rfl Tryd.underlying29 infouint32 rfl (by decide) (ev (v:=.slice pO k cO) rfl rfl) (ev (v:=.slice (some ⟨g11,0,none⟩) 1 1) rfl rfl) (fun j v hj => by rw [Nat.zero_add]; exact (blk_cell (hS.blkAt 1 rfl) j).trans hj) rfl rfl rfl (by omega) (by omega) ?_)
     clear hS; intro p14 c15 w13 hS
     refine wl rfl (oassign (v:=.slice p14 ((k + 1)) c15) rfl rfl (ev rfl rfl) ?_)
     refine wnil (blkN (thenN (wreg (wl rfl (obin (u:=.int .i64 (k:Int)) (v:=.int .i64 1) (z:=.int .i64 (((k + 1:Nat):Int))) rfl rfl (ev rfl rfl) evc (bin_add (wrap_i64 (by omega) (by omega))) ?_)))))
     refine wl rfl (omove (v:=.int .i64 (((k + 1:Nat):Int))) rfl rfl (ev rfl rfl) ?_)
     refine wnil (thenN ?_)
     have hnx:u32E ((modZ p xr).take k) ++ [(⟨[.int .u32 ((md p ze:Nat):Int)],[]⟩:El)] = u32E ((modZ p xr).take (k + 1)):=by
      rw [take_next (show (modZ p xr)[k]? = some (md p ze) by unfold modZ; rw [List.getElem?_map,hle]; rfl),u32E_app]
     rw [hnx] at hS
     exact ⟨(k + 1),⟨_,_,_,act_sets (l:=[(1,.int .u32 (p:Int)),(8,.slice pX i cX),(11,.slice p14 ((k + 1)) c15),(48,.slice pt nt ct),(49,.int .i64 (nt:Int)),(50,.int .i64 (i:Int)),(57,.slice pr xr.length cr),(58,.int .i64 (xr.length:Int)),(59,.int .i64 (((k + 1:Nat):Int)))]) ⟨rfl,rfl,rfl,rfl,rfl,rfl,rfl,rfl,rfl,trivial⟩,hS.pick [0,3] (by decide) rfl,by omega⟩,by omega⟩
    ·
     refine wl rfl (obin (u:=.int .i64 (k:Int)) (v:=.int .i64 (xr.length:Int)) (z:=.bool false) rfl rfl (ev rfl rfl) (ev rfl rfl) (bin_lss (decide_eq_false (by omega))) ?_)
     refine wnil (thenN (wseq ?_))
     refine wF (ev rfl rfl) ?_
     refine wexit ?_
     refine thenE ?_
     refine thenE ?_
     refine blkE ?_
     refine thenN (wreg (wl rfl (omove (v:=.slice pX i cX) rfl rfl (ev rfl rfl) ?_)))
     refine wl rfl (omove (v:=.slice pO k cO) rfl rfl (ev rfl rfl) ?_)
     refine wl rfl (obslice (ps:=#[(0,.slice pO k cO)]) (z:=.slice none 0 0) [.slice pO k cO] hS rfl rfl Tryd.runUnderlying23 Tryd.sizeOf29 Tryd.zeroValue29 (parts1 (ev (v:=.slice pO k cO) rfl rfl)) rfl (by decide) (fill1_1s rfl rfl) ?_)
     clear hS; intro g7 w8 hS
     have hkl:k = xr.length:=by omega
     obtain hS:=(show Sep w [.lst 24 1 pO k cO (u32E ((modZ p xr).take k)),.blk g7 [.slice pO k cO] 29,.lst 29 1 pX i cX (mmE Q)] w8 from hS.pick [1,0,2] (by decide) rfl)
     rw [hkl,List.take_of_length_le (by rw [modZ_len]; exact Nat.le_refl _)] at hS
     obtain hS:=hS.lstRow (modZ_lims hp0 hp2)
     obtain hS:=(show Sep w [.rowm pO xr.length cO (modZ p xr),.lst 29 1 pX i cX (mmE Q),.blk g7 [.slice pO xr.length cO] 29] w8 from hS.pick [0,2,1] (by decide) rfl)
     refine wl rfl (oappendL (p:=pX) (m:=i) (c:=cX) (g2:=g7) (c2:=1) (off:=0) [.slice pO xr.length cO] [.rowm pO xr.length cO (modZ p xr)] hS rfl rfl Tryd.underlying23 infoRow rfl (by decide) (ev (v:=.slice pX i cX) rfl rfl) (ev (v:=.slice (some ⟨g7,0,none⟩) 1 1) rfl rfl) (fun j v hj => by rw [Nat.zero_add]; exact (blk_cell (hS.blkAt 2 rfl) j).trans hj) rfl rfl rfl (by omega) (by omega) ?_)
     clear hS; intro p10 c11 w9 hS
     refine wl rfl (oassign (v:=.slice p10 ((i + 1)) c11) rfl rfl (ev rfl rfl) ?_)
     refine wnil (blkN (thenN (wreg (wl rfl (obin (u:=.int .i64 (i:Int)) (v:=.int .i64 1) (z:=.int .i64 (((i + 1:Nat):Int))) rfl rfl (ev rfl rfl) evc (bin_add (wrap_i64 (by omega) (by omega))) ?_)))))
     refine wl rfl (omove (v:=.int .i64 (((i + 1:Nat):Int))) rfl rfl (ev rfl rfl) ?_)
     refine wnil (thenN ?_)
     rw [mmE_snoc (xs:=modZ p xr) (n:=xr.length) (modZ_len _ _)] at hS
     exact ⟨(i + 1),⟨_,_,_,_,act_sets (l:=[(1,.int .u32 (p:Int)),(8,.slice p10 ((i + 1)) c11),(48,.slice pt nt ct),(49,.int .i64 (nt:Int)),(50,.int .i64 (((i + 1:Nat):Int)))]) ⟨rfl,rfl,rfl,rfl,rfl,trivial⟩,hS.pick [0] (by decide) rfl,by omega,by rw [nums_app,hQ,modT_take hxr]⟩,by omega⟩
   ·
    refine wl rfl (obin (u:=.int .i64 (i:Int)) (v:=.int .i64 (nt:Int)) (z:=.bool false) rfl rfl (ev rfl rfl) (ev rfl rfl) (bin_lss (decide_eq_false (by omega))) ?_)
    refine wnil (thenN (wseq ?_))
    refine wF (ev rfl rfl) ?_
    refine wexit ?_
    refine thenE ?_
    refine thenE ?_
    refine blkE ?_
    refine thenN (wseq (wreg (wl rfl (omove (v:=.slice pX i cX) rfl rfl (ev rfl rfl) ?_))))
    refine wl rfl (oassign (v:=.slice pX i cX) rfl rfl (ev rfl rfl) ?_)
    refine wl rfl (oassign (v:=.int .i64 0) rfl rfl evc ?_)
    refine wnil (thenN ?_)
    refine wleave ?_
    have hin:i = nt:=by omega
    refine wret2 Tryd.results19 (tellT (v:=.slice pX i cX) rfl rfl) (tellT (v:=.int .i64 0) rfl rfl) ?_
    exact ⟨_,_,rfl,⟨pX,cX,Q,by rw [hQ,hin,List.take_of_length_le (by omega)],by rw [hin],by rw [hin]⟩,hS.newR 0 rfl rfl⟩
  ·
   refine wlOn (e:=36) rfl rfl rfl rfl (obin (u:=.int .i64 (nt:Int)) (v:=.int .i64 0) (z:=.bool false) rfl rfl (ev rfl rfl) evc (bin_gtr (decide_eq_false (by omega))) ?_)
   refine wlOn (e:=36) rfl rfl rfl rfl (omove (v:=.bool false) rfl rfl (ev rfl rfl) ?_)
   refine wlOff (e:=40) (d:=41) (b':=false) rfl rfl rfl rfl rfl rfl ?_
   refine wlOff (e:=40) (d:=42) (b':=false) rfl rfl rfl rfl rfl rfl ?_
   refine wlOff (e:=40) (d:=43) (b':=false) rfl rfl rfl rfl rfl rfl ?_
   refine wlOff (e:=40) (d:=44) (b':=false) rfl rfl rfl rfl rfl rfl ?_
   refine wlOff (e:=40) (d:=45) (b':=false) rfl rfl rfl rfl rfl rfl ?_
   refine wlOn (e:=36) rfl rfl rfl rfl (opick (b:=false) (v:=.bool false) rfl rfl (ev rfl rfl) evc ?_)
   refine wl rfl (opick (b:=false) (v:=.bool false) rfl rfl (ev rfl rfl) (ev rfl rfl) ?_)
   refine wnil (thenN ?_)
   refine wF (ev rfl rfl) ?_
   refine wskip (thenN (wseq (wreg (wl rfl (oassign (v:=.slice none 0 0) rfl rfl evc ?_)))))
   refine wnil (thenN (wseq (wseq (wreg (wl rfl (omove (v:=.slice pt nt ct) rfl rfl (ev rfl rfl) ?_))))))
   refine wl rfl (olen rfl rfl rfl Tryd.runUnderlying45 (p:=pt) (k:=nt) (m:=ct) (ev rfl rfl) ?_)
   refine wl rfl (omove (v:=.int .i64 0) rfl rfl evc ?_)
   refine wnil (thenN (wblock ?_))
   replace hS:=hS.nilLst 29 1
   refine wloop (σ := Nat) (fun i a9 w' => ∃ (fb:Nat → Value) (Q:List Rw) (pX:Option Addr) (cX:Nat),a9 = act 80 (sets fb [(1,.int .u32 (p:Int)),(8,.slice pX i cX),(48,.slice pt nt ct),(49,.int .i64 (nt:Int)),(50,.int .i64 (i:Int))]) ∧ Sep w [.lst 29 1 pX i cX (mmE Q)] w' ∧ (i ≤ nt) ∧ (nums Q = modT p (T.take i))) (fun i => nt - i) (0) ⟨_,[],none,0,act_sets (l:=[(1,.int .u32 (p:Int)),(8,.slice none 0 0),(48,.slice pt nt ct),(49,.int .i64 (nt:Int)),(50,.int .i64 0)]) ⟨rfl,rfl,rfl,rfl,rfl,trivial⟩,hS,Nat.zero_le _,rfl⟩ ?_
   clear hS; rintro i _ w3 ⟨fb,Q,pX,cX,rfl,hS,hi,hQ⟩
   refine wseq (wreg ?_)
   by_cases hli3:i < nt
   ·
    obtain ⟨xr,hxr⟩:∃ r,(T)[i]? = some r:=⟨_,List.getElem?_eq_getElem (by have:=hT.1; omega)⟩
    obtain ⟨br,ofr,pr,cr,hpr,hcr,hsr⟩:=hT.2.2 i _ hxr
    have hrb:=hb2 xr (List.mem_of_getElem? hxr)
    refine wl rfl (obin (u:=.int .i64 (i:Int)) (v:=.int .i64 (nt:Int)) (z:=.bool true) rfl rfl (ev rfl rfl) (ev rfl rfl) (bin_lss (decide_eq_true (by omega))) ?_)
    refine wnil (thenN (wseq ?_))
    refine wT (ev rfl rfl) ?_
    refine wskip (thenN (wseq (wblock (wseq (wreg (wl rfl (oindex (p:=pt) (g:=br) (off:=ofr) (m:=nt) (k:=i) (j:=(ofr + i * 1)) rfl rfl Tryd.runUnderlying45 Tryd.sizeOf49 (ev rfl rfl) (hpr) (ev rfl rfl) (by omega) rfl ?_)))))))
    refine wl rfl (oloadc (v:=.slice pr xr.length cr) (show One Tryd.prog 49 from ⟨Tryd.isAgg49,Tryd.sizeOf49⟩) rfl rfl (ev (v:=.pointer (some ⟨br,(ofr + i * 1),none⟩)) rfl rfl) (hS.cellAt (hcr 0 _ rfl)) ?_)
    refine wl rfl (oassign (v:=.slice pr xr.length cr) rfl rfl (ev rfl rfl) ?_)
    refine wnil (thenN (wseq (wreg (wl rfl (omove (v:=.slice pr xr.length cr) rfl rfl (ev rfl rfl) ?_)))))
    refine wl rfl (olen rfl rfl rfl Tryd.runUnderlying49 (p:=pr) (k:=xr.length) (m:=cr) (ev rfl rfl) ?_)
    refine wl rfl (omakeL (zs:=[.int .u32 0]) (k:=0) (m:=xr.length) hS rfl rfl Tryd.underlying29 infouint32 rfl rfl (by decide) rfl (evc (v:=.int .i64 ((0:Nat):Int))) (ev (v:=.int .i64 (xr.length:Int)) rfl rfl) (by omega) (by omega) (by omega) ?_)
    clear hS; intro g4 w5 hS
    refine wl rfl (oassign (v:=.slice (some ⟨g4,0,none⟩) 0 xr.length) rfl rfl (ev rfl rfl) ?_)
    refine wnil (thenN (wseq (wseq (wreg (wl rfl (omove (v:=.slice pr xr.length cr) rfl rfl (ev rfl rfl) ?_))))))
    refine wl rfl (olen rfl rfl rfl Tryd.runUnderlying49 (p:=pr) (k:=xr.length) (m:=cr) (ev rfl rfl) ?_)
    refine wl rfl (omove (v:=.int .i64 0) rfl rfl evc ?_)
    refine wnil (thenN (wblock ?_))
    rw [show (List.replicate 0 (⟨[.int .u32 0],[]⟩:El)) = u32E ((modZ p xr).take 0) from rfl] at hS
    refine wloop (σ := Nat) (fun k a9 w' => ∃ (fb:Nat → Value) (pO:Option Addr) (cO:Nat),a9 = act 80 (sets fb [(1,.int .u32 (p:Int)),(8,.slice pX i cX),(11,.slice pO k cO),(48,.slice pt nt ct),(49,.int .i64 (nt:Int)),(50,.int .i64 (i:Int)),(57,.slice pr xr.length cr),(58,.int .i64 (xr.length:Int)),(59,.int .i64 (k:Int))]) ∧ Sep w [.lst 24 1 pO k cO (u32E ((modZ p xr).take k)),.lst 29 1 pX i cX (mmE Q)] w' ∧ (k ≤ xr.length)) (fun k => xr.length - k) (0) ⟨_,some ⟨g4,0,none⟩,xr.length,act_sets (l:=[(1,.int .u32 (p:Int)),(8,.slice pX i cX),(11,.slice (some ⟨g4,0,none⟩) 0 xr.length),(48,.slice pt nt ct),(49,.int .i64 (nt:Int)),(50,.int .i64 (i:Int)),(57,.slice pr xr.length cr),(58,.int .i64 (xr.length:Int)),(59,.int .i64 0)]) ⟨rfl,rfl,rfl,rfl,rfl,rfl,rfl,rfl,rfl,trivial⟩,hS,Nat.zero_le _⟩ ?_
    clear hS; rintro k _ w6 ⟨fb,pO,cO,rfl,hS,hk⟩
    refine wseq (wreg ?_)
    by_cases hlk:k < xr.length
    ·
     obtain ⟨ze,ge,oe,be,pe,ne,ce,hle,hpe,hce,hze⟩:=hsr.el hlk
     refine wl rfl (obin (u:=.int .i64 (k:Int)) (v:=.int .i64 (xr.length:Int)) (z:=.bool true) rfl rfl (ev rfl rfl) (ev rfl rfl) (bin_lss (decide_eq_true (by omega))) ?_)
     refine wnil (thenN (wseq ?_))
     refine wT (ev rfl rfl) ?_
     refine wskip (thenN (wseq (wblock (wseq (wreg (wl rfl (oindex (p:=pr) (g:=ge) (off:=oe) (m:=xr.length) (k:=k) (j:=(oe + k * 2)) rfl rfl Tryd.runUnderlying49 Tryd.sizeOf52 (ev rfl rfl) (hpe) (ev rfl rfl) (hlk) rfl ?_)))))))
     refine wl rfl (oloadA (vs:=[.bool be,.slice pe ne ce]) aggZ rfl rfl (ev (v:=.pointer (some ⟨ge,(oe + k * 2),none⟩)) rfl rfl) (fun j v hj => hS.cellAt (hce j v hj)) rfl ?_)
     refine wl rfl (oalloc [.bool false,.slice none 0 0] hS rfl rfl Tryd.zeroValue52 rfl ?_)
     clear hS; intro g7 w8 hS
     refine wl rfl (ostore [.bool be,.slice pe ne ce] [.bool be,.slice pe ne ce] Tryd.sizeOf52 hS 0 rfl rfl (ev rfl rfl) (ev (v:=.agg #[.bool be,.slice pe ne ce]) rfl rfl) rfl rfl rfl rfl rfl rfl ?_)
     clear hS; intro w9 hS
     refine wnil (thenN (wseq (wreg (wl rfl (oload (vs:=[.bool be,.slice pe ne ce]) aggZ hS 0 rfl rfl (ev rfl rfl) rfl rfl rfl ?_)))))
     refine wl rfl (omove (v:=.int .u32 (p:Int)) rfl rfl (ev rfl rfl) ?_)
     refine wl rfl (ocall rfl rfl Tryd.call32 rfl (wzmod ((hze.at hS).mono (by omega)) hp2 (by omega)) (args2 (ev rfl rfl) (ev rfl rfl)) ?_)
     rintro _ w10 ⟨_,_,rfl,⟨rfl,rfl⟩,hN⟩
     refine ⟨_,rfl,?_⟩
     replace hS:=hS.news hN; clear hN
     refine wl rfl (omove (v:=.tuple #[.int .u32 (((md p ze:Nat):Int)),.int .i64 0]) rfl rfl (ev rfl rfl) ?_)
     refine wl rfl (oextract (vs:=[.int .u32 (((md p ze:Nat):Int)),.int .i64 0]) (v:=.int .u32 (((md p ze:Nat):Int))) rfl rfl (ev rfl rfl) rfl ?_)
     refine wl rfl (oextract (vs:=[.int .u32 (((md p ze:Nat):Int)),.int .i64 0]) (v:=.int .i64 0) rfl rfl (ev rfl rfl) rfl ?_)
     refine wl rfl (oassign (v:=.int .u32 (((md p ze:Nat):Int))) rfl rfl (ev rfl rfl) ?_)
     refine wl rfl (oassign (v:=.int .i64 0) rfl rfl (ev rfl rfl) ?_)
     refine wnil (thenN (wreg (wl rfl (omove (v:=.slice pO k cO) rfl rfl (ev rfl rfl) ?_))))
     refine wl rfl (omove (v:=.int .u32 (((md p ze:Nat):Int))) rfl rfl (ev rfl rfl) ?_)
     refine wl rfl (obslice (ps:=#[(0,.int .u32 (((md p ze:Nat):Int)))]) (z:=.int .u32 0) [.int .u32 (((md p ze:Nat):Int))] hS rfl rfl Tryd.runUnderlying29 Tryd.sizeOf24 Tryd.zeroValue24 (parts1 (ev (v:=.int .u32 (((md p ze:Nat):Int))) rfl rfl)) rfl (by decide) (fill1_1s rfl rfl) ?_)
     clear hS; intro g11 w12 hS
     have hm9:=md_lt hp0 ze
     obtain hS:=(show Sep w [.lst 24 1 pO k cO (u32E ((modZ p xr).take k)),.blk g11 [.int .u32 (((md p ze:Nat):Int))] 24,.blk g7 [.bool be,.slice pe ne ce] 52,.lst 29 1 pX i cX (mmE Q)] w12 from hS.pick [2,0,1,3] (by decide) rfl)
     refine wl rfl (oappendL (p:=pO) (m:=k) (c:=cO) (g2:=g11) (c2:=1) (off:=0) [.int .u32 (((md p ze:Nat):Int))] [] hS rfl rfl Tryd.underlying29 infouint32 rfl (by decide) (ev (v:=.slice pO k cO) rfl rfl) (ev (v:=.slice (some ⟨g11,0,none⟩) 1 1) rfl rfl) (fun j v hj => by rw [Nat.zero_add]; exact (blk_cell (hS.blkAt 1 rfl) j).trans hj) rfl rfl rfl (by omega) (by omega) ?_)
     clear hS; intro p14 c15 w13 hS
     refine wl rfl (oassign (v:=.slice p14 ((k + 1)) c15) rfl rfl (ev rfl rfl) ?_)
     refine wnil (blkN (thenN (wreg (wl rfl (obin (u:=.int .i64 (k:Int)) (v:=.int .i64 1) (z:=.int .i64 (((k + 1:Nat):Int))) rfl rfl (ev rfl rfl) evc (bin_add (wrap_i64 (by omega) (by omega))) ?_)))))
     refine wl rfl (omove (v:=.int .i64 (((k + 1:Nat):Int))) rfl rfl (ev rfl rfl) ?_)
     refine wnil (thenN ?_)
     have hnx:u32E ((modZ p xr).take k) ++ [(⟨[.int .u32 ((md p ze:Nat):Int)],[]⟩:El)] = u32E ((modZ p xr).take (k + 1)):=by
      rw [take_next (show (modZ p xr)[k]? = some (md p ze) by unfold modZ; rw [List.getElem?_map,hle]; rfl),u32E_app]
     rw [hnx] at hS
     exact ⟨(k + 1),⟨_,_,_,act_sets (l:=[(1,.int .u32 (p:Int)),(8,.slice pX i cX),(11,.slice p14 ((k + 1)) c15),(48,.slice pt nt ct),(49,.int .i64 (nt:Int)),(50,.int .i64 (i:Int)),(57,.slice pr xr.length cr),(58,.int .i64 (xr.length:Int)),(59,.int .i64 (((k + 1:Nat):Int)))]) ⟨rfl,rfl,rfl,rfl,rfl,rfl,rfl,rfl,rfl,trivial⟩,hS.pick [0,3] (by decide) rfl,by omega⟩,by omega⟩
    ·
     refine wl rfl (obin (u:=.int .i64 (k:Int)) (v:=.int .i64 (xr.length:Int)) (z:=.bool false) rfl rfl (ev rfl rfl) (ev rfl rfl) (bin_lss (decide_eq_false (by omega))) ?_)
     refine wnil (thenN (wseq ?_))
     refine wF (ev rfl rfl) ?_
     refine wexit ?_
     refine thenE ?_
     refine thenE ?_
     refine blkE ?_
     refine thenN (wreg (wl rfl (omove (v:=.slice pX i cX) rfl rfl (ev rfl rfl) ?_)))
     refine wl rfl (omove (v:=.slice pO k cO) rfl rfl (ev rfl rfl) ?_)
     refine wl rfl (obslice (ps:=#[(0,.slice pO k cO)]) (z:=.slice none 0 0) [.slice pO k cO] hS rfl rfl Tryd.runUnderlying23 Tryd.sizeOf29 Tryd.zeroValue29 (parts1 (ev (v:=.slice pO k cO) rfl rfl)) rfl (by decide) (fill1_1s rfl rfl) ?_)
     clear hS; intro g7 w8 hS
     have hkl:k = xr.length:=by omega
     obtain hS:=(show Sep w [.lst 24 1 pO k cO (u32E ((modZ p xr).take k)),.blk g7 [.slice pO k cO] 29,.lst 29 1 pX i cX (mmE Q)] w8 from hS.pick [1,0,2] (by decide) rfl)
     rw [hkl,List.take_of_length_le (by rw [modZ_len]; exact Nat.le_refl _)] at hS
     obtain hS:=hS.lstRow (modZ_lims hp0 hp2)
     obtain hS:=(show Sep w [.rowm pO xr.length cO (modZ p xr),.lst 29 1 pX i cX (mmE Q),.blk g7 [.slice pO xr.length cO] 29] w8 from hS.pick [0,2,1] (by decide) rfl)
     refine wl rfl (oappendL (p:=pX) (m:=i) (c:=cX) (g2:=g7) (c2:=1) (off:=0) [.slice pO xr.length cO] [.rowm pO xr.length cO (modZ p xr)] hS rfl rfl Tryd.underlying23 infoRow rfl (by decide) (ev (v:=.slice pX i cX) rfl rfl) (ev (v:=.slice (some ⟨g7,0,none⟩) 1 1) rfl rfl) (fun j v hj => by rw [Nat.zero_add]; exact (blk_cell (hS.blkAt 2 rfl) j).trans hj) rfl rfl rfl (by omega) (by omega) ?_)
     clear hS; intro p10 c11 w9 hS
     refine wl rfl (oassign (v:=.slice p10 ((i + 1)) c11) rfl rfl (ev rfl rfl) ?_)
     refine wnil (blkN (thenN (wreg (wl rfl (obin (u:=.int .i64 (i:Int)) (v:=.int .i64 1) (z:=.int .i64 (((i + 1:Nat):Int))) rfl rfl (ev rfl rfl) evc (bin_add (wrap_i64 (by omega) (by omega))) ?_)))))
     refine wl rfl (omove (v:=.int .i64 (((i + 1:Nat):Int))) rfl rfl (ev rfl rfl) ?_)
     refine wnil (thenN ?_)
     rw [mmE_snoc (xs:=modZ p xr) (n:=xr.length) (modZ_len _ _)] at hS
     exact ⟨(i + 1),⟨_,_,_,_,act_sets (l:=[(1,.int .u32 (p:Int)),(8,.slice p10 ((i + 1)) c11),(48,.slice pt nt ct),(49,.int .i64 (nt:Int)),(50,.int .i64 (((i + 1:Nat):Int)))]) ⟨rfl,rfl,rfl,rfl,rfl,trivial⟩,hS.pick [0] (by decide) rfl,by omega,by rw [nums_app,hQ,modT_take hxr]⟩,by omega⟩
   ·
    refine wl rfl (obin (u:=.int .i64 (i:Int)) (v:=.int .i64 (nt:Int)) (z:=.bool false) rfl rfl (ev rfl rfl) (ev rfl rfl) (bin_lss (decide_eq_false (by omega))) ?_)
    refine wnil (thenN (wseq ?_))
    refine wF (ev rfl rfl) ?_
    refine wexit ?_
    refine thenE ?_
    refine thenE ?_
    refine blkE ?_
    refine thenN (wseq (wreg (wl rfl (omove (v:=.slice pX i cX) rfl rfl (ev rfl rfl) ?_))))
    refine wl rfl (oassign (v:=.slice pX i cX) rfl rfl (ev rfl rfl) ?_)
    refine wl rfl (oassign (v:=.int .i64 0) rfl rfl evc ?_)
    refine wnil (thenN ?_)
    refine wleave ?_
    have hin:i = nt:=by omega
    refine wret2 Tryd.results19 (tellT (v:=.slice pX i cX) rfl rfl) (tellT (v:=.int .i64 0) rfl rfl) ?_
    exact ⟨_,_,rfl,⟨pX,cX,Q,by rw [hQ,hin,List.take_of_length_le (by omega)],by rw [hin],by rw [hin]⟩,hS.newR 0 rfl rfl⟩
end Go.Proofs.YtcfcdbeemhjhgaaDoor
