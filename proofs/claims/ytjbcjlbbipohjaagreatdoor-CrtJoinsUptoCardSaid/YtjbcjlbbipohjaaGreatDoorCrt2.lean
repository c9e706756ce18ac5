
/-
  crt's methods, Of, Digits, Lift.
-/
import Derived.Test.YtjbcjlbbipohjaaGreatDoorCB
import Derived.Test.YtjbcjlbbipohjaaGreatDoorErr
set_option linter.unusedVariables false
set_option linter.unusedSimpArgs false
set_option maxRecDepth 100000
set_option maxHeartbeats 16000000
namespace Go.Proofs.YtjbcjlbbipohjaaGreatDoor
open Go.RowKit
theorem Sep.new {S:List Res} {w w':World} (h:Sep w S w') (ha:S.all (fun r => !r.arg) = true):New w S w' :=
  ⟨h.below,h.holds,fun r hr g hg => h.low r hr (by have:=List.all_eq_true.1 ha r hr; simpa using this) g hg,h.apart⟩
def AllT (L:List (Nat × Nat)):Tell:=fun v r => ∃ g s,v = .tuple #[.pointer (some ⟨g,0,none⟩),.nilIface] ∧ r = [.pack (crtR g s L)]
def NNEt (x y:Nat) (e:Int):Tell:=fun v r => ∃ p n c q m d,v = .tuple #[.slice p n c,.slice q m d,.int .i64 e] ∧ r = [.rowm p n c (lim x),.rowm q m d (lim y)]
def Nx (x k:Nat):Tell:=fun v r => ∃ p n c xs,v = .slice p n c ∧ r = [.rowm p n c xs] ∧ val xs = x ∧ n ≤ k
def DGt (L:List (Nat × Nat)):Tell:=fun v r => ∃ p c,v = .tuple #[.slice p L.length c,.int .i64 0] ∧ r = [.lst 40 1 p L.length c (dgE (dgs L))]
theorem wcon {v:Value} {w:World} :
  Calls Tryz.prog 71 #[v] w (Ret (Is (.bool true)) w):=by
 have hS:=Sep.init w
 refine went Tryz.func71 rfl (n:=3) rfl rfl ?_
 refine wseq (wreg (wl rfl (oassign (v:=.bool false) rfl rfl evc ?_)))
 refine wnil (thenN (wseq (wreg (wl rfl (oassign (v:=.bool true) rfl rfl evc ?_)))))
 refine wnil (thenN ?_)
 refine wleave ?_
 refine wret1 Tryz.results71 (tellT (v:=.bool true) rfl rfl) ?_
 exact ⟨_,_,rfl,isI,hS.new0⟩
theorem take_next {α : Type} {L:List α} {i:Nat} {x : α} (h:L[i]? = some x):L.take (i + 1) = L.take i ++ [x]:=by
  rw [List.take_add_one,h]; rfl
theorem Gd.take {l:List (Nat × Nat)} (h:Gd l) (i:Nat):Gd (l.take i) :=
  ⟨fun x hx => h.1 x (List.mem_of_mem_take hx),(List.Sublist.map _ (List.take_sublist i l)).nodup h.2⟩
theorem gd_at {l:List (Nat × Nat)} (h:Gd l) {i:Nat} {x:Nat × Nat} (hx:l[i]? = some x):MR.Pr x.2 ∧ x.2 ∉ mods (l.take i):=by
  have h1:=h.take (i + 1)
  rw [take_next hx] at h1
  exact (Gd.snoc.1 h1).2
theorem wcall0 {p:Option Addr} {n c:Nat} {L:List (Nat × Nat)} {w:World} (ht:Tb w) (hL:RS w p n L) (h32:∀ x ∈ L,x.1 < 4294967296 ∧ x.2 < 4294967296) (hlen:L.length ≤ 1048576) (hgd:Gd L) :
  Calls Tryz.prog 70 #[.slice p n c,.func (.func 71) #[] #[]] w (Ret (AllT L) w):=by
 have hS:=Sep.init w
 refine went Tryz.func70 rfl (n:=33) rfl rfl ?_
 refine wseq (wreg (wl rfl (oassign (v:=.pointer none) rfl rfl evc ?_)))
 refine wl rfl (oassign (v:=.nilIface) rfl rfl evc ?_)
 refine wnil (thenN (wseq (wreg (wl rfl (ocall rfl rfl Tryz.call37 rfl (wcnew) (args0 ) ?_)))))
 rintro _ w1 ⟨_,_,rfl,⟨g1,s1,rfl,rfl⟩,hN⟩
 refine ⟨_,rfl,?_⟩
 replace hS:=hS.news hN; clear hN
 refine wl rfl (oassign (v:=.pointer (some ⟨g1,0,none⟩)) rfl rfl (ev rfl rfl) ?_)
 refine wnil (thenN (wseq (wseq (wreg (wl rfl (omove (v:=.slice p n c) rfl rfl (ev rfl rfl) ?_))))))
 refine wl rfl (olen rfl rfl rfl Tryz.runUnderlying37 (p:=p) (k:=n) (m:=c) (ev rfl rfl) ?_)
 refine wl rfl (omove (v:=.int .i64 0) rfl rfl evc ?_)
 refine wnil (thenN (wblock ?_))
 refine wloop (σ := Nat) (fun i a9 w' => ∃ (fb:Nat → Value) (sg:Gh),a9 = act 33 (sets fb [(1,.func (.func 71) #[] #[]),(6,.pointer (some ⟨g1,0,none⟩)),(11,.slice p n c),(12,.int .i64 (n:Int)),(13,.int .i64 (i:Int))]) ∧ Sep w [.pack (crtR g1 sg (L.take i))] w' ∧ (i ≤ n) ∧ (Okl (L.take i))) (fun i => n - i) (0) ⟨_,s1,act_sets (l:=[(1,.func (.func 71) #[] #[]),(6,.pointer (some ⟨g1,0,none⟩)),(11,.slice p n c),(12,.int .i64 (n:Int)),(13,.int .i64 0)]) ⟨rfl,rfl,rfl,rfl,rfl,trivial⟩,hS,Nat.zero_le _,(by rw [List.take_zero]; exact Okl.nil)⟩ ?_
 clear hS; rintro i _ w2 ⟨fb,sg,rfl,hS,hi,hg⟩
 refine wseq (wreg ?_)
 by_cases hlt:i < n
 ·
  obtain ⟨x,hx⟩:∃ x,L[i]? = some x:=⟨_,List.getElem?_eq_getElem (by have:=hL.1; omega)⟩
  obtain ⟨b,off,hpx,hcx⟩:=hL.2.2 i x hx
  have hx32:=h32 x (List.mem_of_getElem? hx)
  have hn1:=hL.1
  refine wl rfl (obin (u:=.int .i64 (i:Int)) (v:=.int .i64 (n:Int)) (z:=.bool true) rfl rfl (ev rfl rfl) (ev rfl rfl) (bin_lss (decide_eq_true (by omega))) ?_)
  refine wnil (thenN (wseq ?_))
  refine wT (ev rfl rfl) ?_
  refine wskip (thenN (wseq (wblock (wseq (wreg (wl rfl (oindex (p:=p) (g:=b) (off:=off) (m:=n) (k:=i) (j:=(off + i * 2)) rfl rfl Tryz.runUnderlying37 Tryz.sizeOf42 (ev rfl rfl) (hpx) (ev rfl rfl) (hlt) rfl ?_)))))))
  refine wl rfl (oloadA (vs:=[.int .u32 (x.1:Int),.int .u32 (x.2:Int)]) (show Agg Tryz.prog 42 2 from ⟨Tryz.isAgg42,Tryz.sizeOf42⟩) rfl rfl (ev (v:=.pointer (some ⟨b,(off + i * 2),none⟩)) rfl rfl) (fun j v hj => hS.cellAt (hcx j v hj)) rfl ?_)
  refine wl rfl (oalloc [.int .u32 0,.int .u32 0] hS rfl rfl Tryz.zeroValue42 rfl ?_)
  clear hS; intro g3 w4 hS
  refine wl rfl (ostore [.int .u32 (x.1:Int),.int .u32 (x.2:Int)] [.int .u32 (x.1:Int),.int .u32 (x.2:Int)] Tryz.sizeOf42 hS 0 rfl rfl (ev rfl rfl) (ev (v:=.agg #[.int .u32 (x.1:Int),.int .u32 (x.2:Int)]) rfl rfl) rfl rfl rfl rfl rfl rfl ?_)
  clear hS; intro w5 hS
  refine wnil (thenN (wseq (wseq (wreg (wl rfl (omove (v:=.pointer (some ⟨g1,0,none⟩)) rfl rfl (ev rfl rfl) ?_))))))
  refine wl rfl (ofieldAddr (g:=g3) (off:=0) 0 rfl rfl (ev rfl rfl) Tryz.runUnderlying42 rfl Tryz.sizeOf40 rfl ?_)
  refine wl rfl (oload1 (v:=.int .u32 (x.1:Int)) one32 hS 0 rfl rfl (ev rfl rfl) rfl rfl ?_)
  refine wl rfl (ofieldAddr (g:=g3) (off:=0) 1 rfl rfl (ev rfl rfl) Tryz.runUnderlying42 rfl Tryz.sizeOf40 rfl ?_)
  refine wl rfl (oload1 (v:=.int .u32 (x.2:Int)) one32 hS 0 rfl rfl (ev rfl rfl) rfl rfl ?_)
  obtain ⟨hp,hm⟩:=gd_at hgd hx
  obtain hS:=(show Sep w [.pack (crtR g1 sg (L.take i)),.blk g3 [.int .u32 (((x.1:Nat):Int)),.int .u32 (((x.2:Nat):Int))] 42] w5 from hS.pick [1,0] (by decide) rfl)
  refine wl rfl (ocall rfl rfl Tryz.call38 rfl (wcadd ht hg (by rw [List.length_take]; omega) hx32.1 hx32.2 hS hp hm) (args3 (ev rfl rfl) (ev rfl rfl) (ev rfl rfl)) ?_)
  rintro _ w6 ⟨_,_,rfl,⟨s2,rfl,rfl⟩,hN⟩
  refine ⟨_,rfl,?_⟩
  clear hS; have hS:=hN; clear hN
  refine wl rfl (oassign (v:=.int .i64 0) rfl rfl (ev rfl rfl) ?_)
  refine wnil (thenN (wseq (wreg (wl rfl (omove (v:=.int .i64 0) rfl rfl (ev rfl rfl) ?_)))))
  refine wl rfl (obin (u:=.int .i64 0) (v:=.int .i64 0) (z:=.bool false) rfl rfl (ev rfl rfl) evc (bin_neq (by decide)) ?_)
  refine wnil (thenN ?_)
  refine wF (ev rfl rfl) ?_
  refine wskip (thenN (wseq (wreg (wl rfl (omove (v:=.func (.func 71) #[] #[]) rfl rfl (ev rfl rfl) ?_)))))
  refine wl rfl (omove (v:=.pointer (some ⟨g1,0,none⟩)) rfl rfl (ev rfl rfl) ?_)
  refine wl rfl (ocallv rfl rfl (ev (v:=.func (.func 71) #[] #[]) rfl rfl) Tryz.call71 rfl (wcon) (args1 (ev rfl rfl)) ?_)
  rintro _ w7 ⟨_,_,rfl,⟨rfl,rfl⟩,hN⟩
  refine ⟨_,rfl,?_⟩
  replace hS:=hS.news hN; clear hN
  refine wl rfl (onot (b:=true) rfl rfl (ev rfl rfl) ?_)
  refine wnil (thenN ?_)
  refine wF (ev rfl rfl) ?_
  refine wskip (blkN (thenN (wreg (wl rfl (obin (u:=.int .i64 (i:Int)) (v:=.int .i64 1) (z:=.int .i64 (((i + 1:Nat):Int))) rfl rfl (ev rfl rfl) evc (bin_add (wrap_i64 (by omega) (by omega))) ?_)))))
  refine wl rfl (omove (v:=.int .i64 (((i + 1:Nat):Int))) rfl rfl (ev rfl rfl) ?_)
  refine wnil (thenN ?_)
  rw [show L.take i ++ [(x.1,x.2)] = L.take (i + 1) from (take_next hx).symm] at hS
  exact ⟨(i + 1),⟨_,_,act_sets (l:=[(1,.func (.func 71) #[] #[]),(6,.pointer (some ⟨g1,0,none⟩)),(11,.slice p n c),(12,.int .i64 (n:Int)),(13,.int .i64 (((i + 1:Nat):Int)))]) ⟨rfl,rfl,rfl,rfl,rfl,trivial⟩,hS.pick [0] (by decide) rfl,by omega,(take_next hx) ▸ hg.snoc hp hx32.2 hm (by rw [List.length_take]; omega)⟩,by omega⟩
 ·
  refine wl rfl (obin (u:=.int .i64 (i:Int)) (v:=.int .i64 (n:Int)) (z:=.bool false) rfl rfl (ev rfl rfl) (ev rfl rfl) (bin_lss (decide_eq_false (by omega))) ?_)
  refine wnil (thenN (wseq ?_))
  refine wF (ev rfl rfl) ?_
  refine wexit ?_
  refine thenE ?_
  refine thenE ?_
  refine blkE ?_
  refine thenN (wseq (wreg (wl rfl (omove (v:=.pointer (some ⟨g1,0,none⟩)) rfl rfl (ev rfl rfl) ?_))))
  refine wl rfl (oassign (v:=.pointer (some ⟨g1,0,none⟩)) rfl rfl (ev rfl rfl) ?_)
  refine wl rfl (oassign (v:=.nilIface) rfl rfl evc ?_)
  refine wnil (thenN ?_)
  refine wleave ?_
  have hLt:L.take i = L:=List.take_of_length_le (by have:=hL.1; omega)
  rw [hLt] at hS
  refine wret2 Tryz.results70 (tellT (v:=.pointer (some ⟨g1,0,none⟩)) rfl rfl) (tellT (v:=.nilIface) rfl rfl) ?_
  exact ⟨_,_,rfl,⟨_,_,rfl,rfl⟩,hS.newR 0 rfl rfl⟩
end Go.Proofs.YtjbcjlbbipohjaaGreatDoor
