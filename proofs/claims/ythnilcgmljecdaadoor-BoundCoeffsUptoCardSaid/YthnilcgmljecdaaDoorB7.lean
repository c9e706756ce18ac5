/-
  Contracts and lemmas, joined in one text.
-/
import Derived.Test.YthnilcgmljecdaaDoorOP
import Derived.Test.YthnilcgmljecdaaDoorB4
import Derived.Test.YthnilcgmljecdaaDoorB6
set_option linter.unusedVariables false
set_option linter.unusedSimpArgs false
/-
  A table of integers as it came in.
-/
set_option maxRecDepth 100000
set_option maxHeartbeats 16000000
namespace Go.Proofs.YthnilcgmljecdaaDoor
open Go.ChangeShapes Go.WideShapes Go.ChangeAt Go.RowKit Go.Joins Go.Deep
def TRw (w:World) (p:Option Addr) (n:Nat) (RT:List (List (Bool × List Nat))) (K:Nat):Prop:=RT.length = n ∧ n ≤ 1048576 ∧ ∀ (i:Nat) (L:List (Bool × List Nat)),RT[i]? = some L → ∃ b off q c,p = some ⟨b,off,none⟩ ∧ (∀ j v,[Value.slice q L.length c][j]? = some v → w.cell? ⟨b,off + i * 1 + j,none⟩ = some v) ∧ ZL w q L.length L K
theorem TRw.at {w w':World} {R:List Res} {p:Option Addr} {n K:Nat} {RT:List (List (Bool × List Nat))} (h:TRw w p n RT K) (hS:Sep w R w'):TRw w' p n RT K:=by
  refine ⟨h.1,h.2.1,fun i L hL => ?_⟩
  obtain ⟨b,off,q,c,hp,hc,hs⟩:=h.2.2 i L hL
  exact ⟨b,off,q,c,hp,fun j v hj => hS.cellAt (hc j v hj),hs.at hS⟩
def tvr (RT:List (List (Bool × List Nat))):List (List Int):=RT.map fun L => L.map zvr
theorem ZL.mono {w:World} {p:Option Addr} {m K K2:Nat} {L:List (Bool × List Nat)} (h:ZL w p m L K) (hK:K ≤ K2):ZL w p m L K2:=by
  refine ⟨h.1,h.2.1,fun i e he => ?_⟩
  obtain ⟨g,off,q,n,k,h1,h2,h3,h4,h5⟩:=h.2.2 i e he
  exact ⟨g,off,q,n,k,h1,h2,h3,h4,Nat.le_trans h5 hK⟩
theorem TRw.tb {w:World} {p:Option Addr} {n K K2:Nat} {RT:List (List (Bool × List Nat))} (h:TRw w p n RT K) (hK:K ≤ K2):TB w p n (tvr RT) K2:=by
  refine ⟨by unfold tvr; rw [List.length_map]; exact h.1,h.2.1,fun i L hL => ?_⟩
  unfold tvr at hL
  rw [List.getElem?_map] at hL
  obtain ⟨L0,h0,rfl⟩:=Option.map_eq_some_iff.1 hL
  obtain ⟨b,off,q,c,hp,hc,hs⟩:=h.2.2 i L0 h0
  exact ⟨b,off,q,c,hp,by rw [List.length_map]; exact hc,by rw [List.length_map]; exact (hs.mono hK).zs⟩
set_option maxRecDepth 100000 in
theorem open_zints_cell {H:Type} {enc:TypeId × Value → H} {W:World} {v:Value} {y:DataW H × List MemPlace} {fuel:Nat} (h:DataW.trod enc Tryd.prog W 0 (fun _ => true) true fuel 38 [v] = some y) (hbd:Rows.uptoBulk y.1 ≤ 1048576) :
  ∃ p m c L,v = .slice p m c ∧ ZL W p m L 1048576 ∧ (L.map fun e => e.2.length + 1).sum + 1 ≤ Rows.uptoBulk y.1:=by
 obtain ⟨d,ps⟩:=y
 replace hbd:Rows.uptoBulk d ≤ 1048576:=hbd
 rcases open_slice Tryd.underlying38 h with ⟨h1,h2⟩ | ⟨a',len,cap,m,n,D,Pl,h1,_,hlc,hcm,hm,hx,hel⟩
 ·simp at h1
  subst h1
  exact ⟨none,0,0,[],rfl,⟨rfl,by omega,fun i e h => by simp at h⟩,by have:=bulk_one d; simpa using this⟩
 ·simp at h1
  subst h1
  rw [if_pos rfl] at hm
  subst hm
  rw [show Tryd.prog.cellsOf 28 = 2 by kernel_rfl] at hel
  simp only [Prod.mk.injEq] at hx
  obtain ⟨hd, -⟩:=hx
  obtain ⟨L,hl1,hl2,hl3⟩:=build_list (α := Bool × List Nat) (Pp:=fun i e => ∃ q n c,W.cell? ((a'.add (i * 2)).add 0) = some (.bool e.1) ∧ W.cell? ((a'.add (i * 2)).add 1) = some (.slice q n c) ∧ Sl W q n c e.2 ∧ n + 1 ≤ Rows.uptoBulk (D i)) (g:=fun e => e.2.length + 1) (h:=fun i => Rows.uptoBulk (D i))
   (fun i e ⟨q,n,c,_,_,hs,hn⟩ => by rw [hs.len]; exact hn) len (fun i hi => by
    obtain ⟨cs',hc,ht⟩:=hel i (by omega)
    obtain ⟨b,q,n,c,xs,rfl,hs,hn⟩:=open_int_cells ht
    exact ⟨(b,xs),q,n,c,cells_get hc (i:=0) rfl (by omega),cells_get hc (i:=1) rfl (by omega),hs,hn⟩)
  have hbs:Rows.uptoBulk d = Rows.uptoBulk d:=rfl
  have hsum:(L.map fun e => e.2.length + 1).sum + 1 ≤ Rows.uptoBulk d:=by
   rw [hd]
   simp only [Rows.uptoBulk]
   rw [bulkAll_sum,List.map_map]
   have e:(Rows.uptoBulk ∘ D) = fun i => Rows.uptoBulk (D i):=rfl
   rw [e]
   omega
  have hlen:len ≤ (L.map fun e => e.2.length + 1).sum:=by
   rw [← hl1]
   clear hl1 hl2 hl3 hsum
   induction L with
   | nil => simp
   | cons x l ih => simp only [List.length_cons,List.map_cons,List.sum_cons]; omega
  refine ⟨some a',len,_,L,rfl,⟨hl1.symm,by omega,fun i e hi => ?_⟩,hsum⟩
  obtain ⟨q,n,c,h1,h2,hs,hn⟩:=hl2 i e hi
  obtain ⟨b,off,spot⟩:=a'
  have hspot:spot = none:=by
   have hil:=(List.getElem?_eq_some_iff.1 hi).1
   obtain ⟨_,_,_,h0,_⟩:=hl2 0 _ (List.getElem?_eq_getElem (show 0 < L.length by omega))
   have:=World.cell?_spot h0
   simpa [Addr.add] using this
  subst hspot
  rw [Addr.add_mid,Addr.add_mid] at h1 h2
  refine ⟨b,off,q,n,c,rfl,h1,h2,hs,?_⟩
  have hle:e.2.length + 1 ≤ (L.map fun e => e.2.length + 1).sum:=by
   have hmem:e ∈ L:=List.mem_of_getElem? hi
   clear hl1 hl2 hl3 hsum hlen hi
   induction L with
   | nil => cases hmem
   | cons x l ih =>
    simp only [List.map_cons,List.sum_cons]
    rcases List.mem_cons.1 hmem with rfl | hm
    ·omega
    ·have:=ih hm; omega
  have:=hs.len
  omega
theorem tsum_len (L:List (List (Bool × List Nat))):L.length ≤ (L.map fun e => e.length + 1).sum:=by
  induction L with
  | nil => simp
  | cons x l ih => simp only [List.length_cons,List.map_cons,List.sum_cons]; omega
theorem zsum_len (L:List (Bool × List Nat)):L.length ≤ (L.map fun e => e.2.length + 1).sum:=by
  induction L with
  | nil => simp
  | cons x l ih => simp only [List.length_cons,List.map_cons,List.sum_cons]; omega
theorem range_mem {h:Nat → Nat} {m i:Nat} (hi:i < m):h i ≤ ((List.range m).map h).sum:=by
 induction m with
 | zero => omega
 | succ m ih =>
  rw [List.range_succ]
  simp only [List.map_append,List.map_cons,List.map_nil,List.sum_append_nat,List.sum_cons,List.sum_nil]
  by_cases e:i = m
  ·subst e; omega
  ·have:=ih (by omega); omega
set_option maxRecDepth 100000 in
theorem open_ztab {H:Type} {enc:TypeId × Value → H} {W:World} {v:Value} {d:DataW H} {ps:List MemPlace} {base:Nat} (hok:Value.okWide Tryd.prog W .any base 36 v) (h:DataW.Trod enc Tryd.prog W 0 (fun _ => true) true 36 v d ps) (hbd:Rows.uptoBulk d ≤ 1048576) :
  ∃ p m c L,v = .slice p m c ∧ TRw W p m L 1048576 ∧ (L.map fun e => e.length + 1).sum + 1 ≤ Rows.uptoBulk d:=by
 obtain ⟨a,len,cap,rfl⟩:=okWide_slice Tryd.underlying36 hok
 obtain ⟨fuel,h⟩:=h
 rcases open_slice Tryd.underlying36 h with ⟨h1,h2⟩ | ⟨a',len',cap',m,n,D,Pl,h1,_,hlc,hcm,hm,hx,hel⟩
 ·simp [Value.cells] at h1
  obtain ⟨rfl,rfl,rfl⟩:=h1
  exact ⟨none,0,0,[],rfl,⟨rfl,by omega,fun i e h => by simp at h⟩,by have:=bulk_one d; simpa using this⟩
 ·simp [Value.cells] at h1
  obtain ⟨rfl,rfl,rfl⟩:=h1
  rw [if_pos rfl] at hm
  subst hm
  rw [show Tryd.prog.cellsOf 38 = 1 by kernel_rfl] at hel
  simp only [Prod.mk.injEq] at hx
  obtain ⟨hd, -⟩:=hx
  have hdb:((List.range len).map fun i => Rows.uptoBulk (D i)).sum + 1 ≤ Rows.uptoBulk d:=by
   rw [hd]
   simp only [Rows.uptoBulk]
   rw [bulkAll_sum,List.map_map]
   have e:(Rows.uptoBulk ∘ D) = fun i => Rows.uptoBulk (D i):=rfl
   rw [e]
   omega
  obtain ⟨L,hl1,hl2,hl3⟩:=build_list (α := List (Bool × List Nat)) (Pp:=fun i e => ∃ q c,W.cell? ((a'.add (i * 1)).add 0) = some (.slice q e.length c) ∧ ZL W q e.length e 1048576 ∧ e.length + 1 ≤ Rows.uptoBulk (D i)) (g:=fun e => e.length + 1) (h:=fun i => Rows.uptoBulk (D i))
   (fun i e ⟨q,c,_,hs,hn⟩ => hn) len (fun i hi => by
    obtain ⟨cs',hc,ht⟩:=hel i (by omega)
    have hcl:cs'.length = 1:=by obtain ⟨_,h2,_⟩:=World.cells?_some hc; exact h2
    match cs',hcl with
    | [v0],_ =>
     have hbi:Rows.uptoBulk (D i) ≤ 1048576:=by
      have h9:=range_mem (h:=fun i => Rows.uptoBulk (D i)) hi
      omega
     obtain ⟨q,n,c,xs,rfl,hs,hn⟩:=open_zints_cell ht hbi
     have h9:=zsum_len xs
     have h8:n = xs.length:=hs.1
     subst h8
     exact ⟨xs,q,c,cells_get hc (i:=0) rfl (by omega),hs,by simp only at hn; omega⟩)
  have hsum:(L.map fun e => e.length + 1).sum + 1 ≤ Rows.uptoBulk d:=by omega
  have hlen:=tsum_len L
  refine ⟨some a',len,_,L,rfl,⟨hl1,by omega,fun i e hi => ?_⟩,hsum⟩
  obtain ⟨q,c,h1,hs,hn⟩:=hl2 i e hi
  obtain ⟨b,off,spot⟩:=a'
  have hspot:spot = none:=by
   have hil:=(List.getElem?_eq_some_iff.1 hi).1
   obtain ⟨_,_,h0,_⟩:=hl2 0 _ (List.getElem?_eq_getElem (show 0 < L.length by omega))
   have:=World.cell?_spot h0
   simpa [Addr.add] using this
  subst hspot
  rw [Addr.add_mid,Addr.add_mid] at h1
  refine ⟨b,off,q,c,rfl,fun j v hj => ?_,hs⟩
  have h0:j = 0:=by have:=(List.getElem?_eq_some_iff.1 hj).1; simp at this; omega
  subst h0
  simp at hj
  subst hj
  exact h1
end Go.Proofs.YthnilcgmljecdaaDoor
/-
  The law's list,number,nothing.
-/
namespace Go.Proofs.YthnilcgmljecdaaDoor
open Go.RowKit
theorem wbnothing {w:World} :
  Calls Tryd.prog 64 #[.agg #[.bool false,.slice none 0 0]] w (Ret (Is (.bool true)) w):=by
 have hS:=Sep.init w
 refine went Tryd.func64 rfl (n:=12) rfl rfl ?_
 refine wseq (wreg (wl rfl (obox [.bool false,.slice none 0 0] hS rfl rfl (ev (v:=.agg #[.bool false,.slice none 0 0]) rfl rfl) rfl ?_)))
 clear hS; intro g1 w2 hS
 refine wl rfl (oassign (v:=.bool false) rfl rfl evc ?_)
 refine wnil (thenN (wseq (wreg (wl rfl (ofieldAddr (g:=g1) (off:=0) 0 rfl rfl (ev rfl rfl) Tryd.runUnderlying28 rfl Tryd.sizeOf4 rfl ?_)))))
 refine wl rfl (oload1 (v:=.bool false) oneB hS 0 rfl rfl (ev rfl rfl) rfl rfl ?_)
 refine wl rfl (onot (b:=false) rfl rfl (ev rfl rfl) ?_)
 refine wl rfl (omove (v:=.bool true) rfl rfl (ev rfl rfl) ?_)
 refine wlOn (e:=6) rfl rfl rfl rfl (ofieldAddr (g:=g1) (off:=0) 1 rfl rfl (ev rfl rfl) Tryd.runUnderlying28 rfl Tryd.sizeOf26 rfl ?_)
 refine wlOn (e:=6) rfl rfl rfl rfl (oload1 (v:=.slice none 0 0) oneN hS 0 rfl rfl (ev rfl rfl) rfl rfl ?_)
 refine wlOn (e:=6) rfl rfl rfl rfl (olen rfl rfl rfl Tryd.runUnderlying26 (p:=none) (k:=0) (m:=0) (ev rfl rfl) ?_)
 refine wlOn (e:=6) rfl rfl rfl rfl (obin (u:=.int .i64 (((0:Nat):Int))) (v:=.int .i64 0) (z:=.bool true) rfl rfl (ev rfl rfl) evc (bin_eql (eqT rfl)) ?_)
 refine wl rfl (opick (b:=true) (v:=.bool true) rfl rfl (ev rfl rfl) (ev rfl rfl) ?_)
 refine wl rfl (oassign (v:=.bool true) rfl rfl (ev rfl rfl) ?_)
 refine wnil (thenN ?_)
 refine wleave ?_
 refine wret1 Tryd.results64 (tellT (v:=.bool true) rfl rfl) ?_
 exact ⟨_,_,rfl,isI,hS.new0⟩
theorem wblistE {e:Int} {w:World} (h0:e ≠ 0) :
  Calls Tryd.prog 27 #[.slice none 0 0,.int .i64 e,.slice none 0 0,.int .i64 e] w (Ret (Is (.bool true)) w):=by
 have hS:=Sep.init w
 refine went Tryd.func27 rfl (n:=28) rfl rfl ?_
 refine wseq (wreg (wl rfl (oassign (v:=.bool false) rfl rfl evc ?_)))
 refine wnil (thenN (wseq (wseq (wreg (wl rfl (omove (v:=.int .i64 e) rfl rfl (ev rfl rfl) ?_))))))
 refine wl rfl (obin (u:=.int .i64 e) (v:=.int .i64 0) (z:=.bool true) rfl rfl (ev rfl rfl) evc (bin_neq (neT h0)) ?_)
 refine wnil (thenN ?_)
 refine wT (ev rfl rfl) ?_
 refine wseq (wreg (wl rfl (omove (v:=.int .i64 e) rfl rfl (ev rfl rfl) ?_)))
 refine wl rfl (ocall rfl rfl Tryd.call9 rfl (wbnum) (args1 (ev rfl rfl)) ?_)
 rintro _ w1 ⟨_,_,rfl,⟨rfl,rfl⟩,hN⟩
 refine ⟨_,rfl,?_⟩
 replace hS:=hS.news hN; clear hN
 refine wl rfl (omove (v:=.int .i64 e) rfl rfl (ev rfl rfl) ?_)
 refine wl rfl (obin (u:=.int .i64 e) (v:=.int .i64 e) (z:=.bool true) rfl rfl (ev rfl rfl) (ev rfl rfl) (bin_eql (eqT rfl)) ?_)
 refine wl rfl (omove (v:=.bool true) rfl rfl (ev rfl rfl) ?_)
 refine wlOn (e:=15) rfl rfl rfl rfl (omove (v:=.slice none 0 0) rfl rfl (ev rfl rfl) ?_)
 refine wlOn (e:=15) rfl rfl rfl rfl (olen rfl rfl rfl Tryd.runUnderlying38 (p:=none) (k:=0) (m:=0) (ev rfl rfl) ?_)
 refine wlOn (e:=15) rfl rfl rfl rfl (obin (u:=.int .i64 (((0:Nat):Int))) (v:=.int .i64 0) (z:=.bool true) rfl rfl (ev rfl rfl) evc (bin_eql (eqT rfl)) ?_)
 refine wl rfl (opick (b:=true) (v:=.bool true) rfl rfl (ev rfl rfl) (ev rfl rfl) ?_)
 refine wl rfl (oassign (v:=.bool true) rfl rfl (ev rfl rfl) ?_)
 refine wnil (thenN ?_)
 refine wleave ?_
 refine thenR ?_
 refine wret1 Tryd.results27 (tellT (v:=.bool true) rfl rfl) ?_
 exact ⟨_,_,rfl,isI,hS.new0⟩
theorem wblist0 {L:List (Bool × List Nat)} {p q:Option Addr} {m c d:Nat} {w:World} (hx:ZL w p m L 67108864) (hy:ZL w q m L 67108864) :
  Calls Tryd.prog 27 #[.slice p m c,.int .i64 0,.slice q m d,.int .i64 0] w (Ret (Is (.bool true)) w):=by
 have hS:=Sep.init w
 refine went Tryd.func27 rfl (n:=28) rfl rfl ?_
 refine wseq (wreg (wl rfl (oassign (v:=.bool false) rfl rfl evc ?_)))
 refine wnil (thenN (wseq (wseq (wreg (wl rfl (omove (v:=.int .i64 0) rfl rfl (ev rfl rfl) ?_))))))
 refine wl rfl (obin (u:=.int .i64 0) (v:=.int .i64 0) (z:=.bool false) rfl rfl (ev rfl rfl) evc (bin_neq (by decide)) ?_)
 refine wnil (thenN ?_)
 refine wF (ev rfl rfl) ?_
 refine wskip (thenN (wseq (wreg (wl rfl (omove (v:=.int .i64 0) rfl rfl (ev rfl rfl) ?_)))))
 refine wl rfl (ocall rfl rfl Tryd.call9 rfl (wbnum) (args1 (ev rfl rfl)) ?_)
 rintro _ w1 ⟨_,_,rfl,⟨rfl,rfl⟩,hN⟩
 refine ⟨_,rfl,?_⟩
 replace hS:=hS.news hN; clear hN
 refine wl rfl (obin (u:=.int .i64 0) (v:=.int .i64 0) (z:=.bool true) rfl rfl (ev rfl rfl) evc (bin_eql (by decide)) ?_)
 refine wl rfl (omove (v:=.bool true) rfl rfl (ev rfl rfl) ?_)
 refine wlOn (e:=23) rfl rfl rfl rfl (omove (v:=.slice p m c) rfl rfl (ev rfl rfl) ?_)
 refine wlOn (e:=23) rfl rfl rfl rfl (omove (v:=.slice q m d) rfl rfl (ev rfl rfl) ?_)
 refine wlOn (e:=23) rfl rfl rfl rfl (ocall rfl rfl Tryd.call35 rfl (wqSameAll (hx.at hS) (hy.at hS)) (args2 (ev rfl rfl) (ev rfl rfl)) ?_)
 rintro _ w2 ⟨_,_,rfl,⟨rfl,rfl⟩,hN⟩
 refine ⟨_,rfl,?_⟩
 replace hS:=hS.news hN; clear hN
 refine wl rfl (opick (b:=true) (v:=.bool true) rfl rfl (ev rfl rfl) (ev rfl rfl) ?_)
 refine wl rfl (oassign (v:=.bool true) rfl rfl (ev rfl rfl) ?_)
 refine wnil (thenN ?_)
 refine wleave ?_
 refine wret1 Tryd.results27 (tellT (v:=.bool true) rfl rfl) ?_
 exact ⟨_,_,rfl,isI,hS.new0⟩
theorem wbnumE {e:Int} {w:World} (h0:e ≠ 0) :
  Calls Tryd.prog 28 #[.agg #[.bool false,.slice none 0 0],.int .i64 e,.agg #[.bool false,.slice none 0 0],.int .i64 e] w (Ret (Is (.bool true)) w):=by
 have hS:=Sep.init w
 refine went Tryd.func28 rfl (n:=27) rfl rfl ?_
 refine wseq (wreg (wl rfl (obox [.bool false,.slice none 0 0] hS rfl rfl (ev (v:=.agg #[.bool false,.slice none 0 0]) rfl rfl) rfl ?_)))
 clear hS; intro g1 w2 hS
 refine wl rfl (obox [.bool false,.slice none 0 0] hS rfl rfl (ev (v:=.agg #[.bool false,.slice none 0 0]) rfl rfl) rfl ?_)
 clear hS; intro g3 w4 hS
 refine wl rfl (oassign (v:=.bool false) rfl rfl evc ?_)
 refine wnil (thenN (wseq (wseq (wreg (wl rfl (omove (v:=.int .i64 e) rfl rfl (ev rfl rfl) ?_))))))
 refine wl rfl (obin (u:=.int .i64 e) (v:=.int .i64 0) (z:=.bool true) rfl rfl (ev rfl rfl) evc (bin_neq (neT h0)) ?_)
 refine wnil (thenN ?_)
 refine wT (ev rfl rfl) ?_
 refine wseq (wreg (wl rfl (omove (v:=.int .i64 e) rfl rfl (ev rfl rfl) ?_)))
 refine wl rfl (ocall rfl rfl Tryd.call9 rfl (wbnum) (args1 (ev rfl rfl)) ?_)
 rintro _ w5 ⟨_,_,rfl,⟨rfl,rfl⟩,hN⟩
 refine ⟨_,rfl,?_⟩
 replace hS:=hS.news hN; clear hN
 refine wl rfl (omove (v:=.int .i64 e) rfl rfl (ev rfl rfl) ?_)
 refine wl rfl (obin (u:=.int .i64 e) (v:=.int .i64 e) (z:=.bool true) rfl rfl (ev rfl rfl) (ev rfl rfl) (bin_eql (eqT rfl)) ?_)
 refine wl rfl (omove (v:=.bool true) rfl rfl (ev rfl rfl) ?_)
 refine wlOn (e:=15) rfl rfl rfl rfl (oload (vs:=[.bool false,.slice none 0 0]) aggZ hS 1 rfl rfl (ev rfl rfl) rfl rfl rfl ?_)
 refine wlOn (e:=15) rfl rfl rfl rfl (ocall rfl rfl Tryd.call64 rfl (wbnothing) (args1 (ev rfl rfl)) ?_)
 rintro _ w6 ⟨_,_,rfl,⟨rfl,rfl⟩,hN⟩
 refine ⟨_,rfl,?_⟩
 replace hS:=hS.news hN; clear hN
 refine wl rfl (opick (b:=true) (v:=.bool true) rfl rfl (ev rfl rfl) (ev rfl rfl) ?_)
 refine wl rfl (oassign (v:=.bool true) rfl rfl (ev rfl rfl) ?_)
 refine wnil (thenN ?_)
 refine wleave ?_
 refine thenR ?_
 refine wret1 Tryd.results28 (tellT (v:=.bool true) rfl rfl) ?_
 exact ⟨_,_,rfl,isI,hS.new0⟩
theorem wbnum0 {x:Int} {p q:Option Addr} {n c m d:Nat} {w:World} (hx:Sl w p n c (lim x.natAbs)) (hy:Sl w q m d (lim x.natAbs)) :
  Calls Tryd.prog 28 #[.agg #[.bool (ng x),.slice p n c],.int .i64 0,.agg #[.bool (ng x),.slice q m d],.int .i64 0] w (Ret (Is (.bool true)) w):=by
 have hS:=Sep.init w
 refine went Tryd.func28 rfl (n:=27) rfl rfl ?_
 refine wseq (wreg (wl rfl (obox [.bool (ng x),.slice p n c] hS rfl rfl (ev (v:=.agg #[.bool (ng x),.slice p n c]) rfl rfl) rfl ?_)))
 clear hS; intro g1 w2 hS
 refine wl rfl (obox [.bool (ng x),.slice q m d] hS rfl rfl (ev (v:=.agg #[.bool (ng x),.slice q m d]) rfl rfl) rfl ?_)
 clear hS; intro g3 w4 hS
 refine wl rfl (oassign (v:=.bool false) rfl rfl evc ?_)
 refine wnil (thenN (wseq (wseq (wreg (wl rfl (omove (v:=.int .i64 0) rfl rfl (ev rfl rfl) ?_))))))
 refine wl rfl (obin (u:=.int .i64 0) (v:=.int .i64 0) (z:=.bool false) rfl rfl (ev rfl rfl) evc (bin_neq (by decide)) ?_)
 refine wnil (thenN ?_)
 refine wF (ev rfl rfl) ?_
 refine wskip (thenN (wseq (wreg (wl rfl (omove (v:=.int .i64 0) rfl rfl (ev rfl rfl) ?_)))))
 refine wl rfl (ocall rfl rfl Tryd.call9 rfl (wbnum) (args1 (ev rfl rfl)) ?_)
 rintro _ w5 ⟨_,_,rfl,⟨rfl,rfl⟩,hN⟩
 refine ⟨_,rfl,?_⟩
 replace hS:=hS.news hN; clear hN
 refine wl rfl (obin (u:=.int .i64 0) (v:=.int .i64 0) (z:=.bool true) rfl rfl (ev rfl rfl) evc (bin_eql (by decide)) ?_)
 refine wl rfl (omove (v:=.bool true) rfl rfl (ev rfl rfl) ?_)
 refine wlOn (e:=22) rfl rfl rfl rfl (oload (vs:=[.bool (ng x),.slice p n c]) aggZ hS 1 rfl rfl (ev rfl rfl) rfl rfl rfl ?_)
 refine wlOn (e:=22) rfl rfl rfl rfl (oload (vs:=[.bool (ng x),.slice q m d]) aggZ hS 0 rfl rfl (ev rfl rfl) rfl rfl rfl ?_)
 refine wlOn (e:=22) rfl rfl rfl rfl (ocall rfl rfl Tryd.call65 rfl (wqsame (x:=x) (y:=x) (hx.below hS.below (Nat.le_refl _)) (hy.below hS.below (Nat.le_refl _)) rfl) (args2 (ev rfl rfl) (ev rfl rfl)) ?_)
 rintro _ w6 ⟨_,_,rfl,⟨rfl,rfl⟩,hN⟩
 refine ⟨_,rfl,?_⟩
 replace hS:=hS.news hN; clear hN
 refine wl rfl (opick (b:=true) (v:=.bool true) rfl rfl (ev rfl rfl) (ev rfl rfl) ?_)
 refine wl rfl (oassign (v:=.bool true) rfl rfl (ev rfl rfl) ?_)
 refine wnil (thenN ?_)
 refine wleave ?_
 refine wret1 Tryd.results28 (tellT (v:=.bool true) rfl rfl) ?_
 exact ⟨_,_,rfl,isI,hS.new0⟩
end Go.Proofs.YthnilcgmljecdaaDoor
