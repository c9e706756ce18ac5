/-
  Contracts and lemmas, joined in one text.
-/
import Derived.Test.YtnlnibngpeempaaGreatDoorZLaw
import Derived.Test.YtnlnibngpeempaaGreatDoorRC
import Derived.Deep.Slices
import Derived.DataReads
import Derived.Test.YtnlnibngpeempaaGreatDoorQA
set_option linter.unusedVariables false
set_option linter.unusedSimpArgs false
/-
  A list of integers as it came in.
-/
namespace Go.Proofs.YtnlnibngpeempaaGreatDoor
open Go.ChangeShapes Go.WideShapes Go.ChangeAt Go.RowKit Go.Joins Go.Deep
theorem build_list {α : Type} {Pp:Nat → α → Prop} {g : α → Nat} {h:Nat → Nat} (hp:∀ i e,Pp i e → g e ≤ h i):∀ m,(∀ i,i < m → ∃ e,Pp i e) → ∃ L:List α,L.length = m ∧ (∀ i e,L[i]? = some e → Pp i e) ∧ (L.map g).sum ≤ ((List.range m).map h).sum
 | 0,_ => ⟨[],rfl,(fun i e h => by simp at h),by simp⟩
 | m + 1,hm => by
  obtain ⟨L,h1,h2,h3⟩:=build_list hp m (fun i hi => hm i (by omega))
  obtain ⟨e,he⟩:=hm m (by omega)
  refine ⟨L ++ [e],by simp [h1],fun i e' hi => ?_,?_⟩
  ·rcases Nat.lt_trichotomy i L.length with hl | hl | hl
   ·rw [List.getElem?_append_left hl] at hi; exact h2 i e' hi
   ·subst hl
    simp at hi; subst hi
    rw [h1]; exact he
   rw [List.getElem?_append_right (by omega)] at hi
   have:=(List.getElem?_eq_some_iff.1 hi).1
   simp at this; omega
  rw [List.range_succ]
  have:=hp m e he
  simp only [List.map_append,List.map_cons,List.map_nil,List.sum_append_nat,List.sum_cons,List.sum_nil]
  omega
theorem bulkAll_sum {H:Type}:∀ l:List (DataW H),Rows.uptoBulkAll l = (l.map Rows.uptoBulk).sum
  | [] => by simp [Rows.uptoBulkAll]
  | d :: l => by simp only [Rows.uptoBulkAll,List.map_cons,List.sum_cons]; rw [bulkAll_sum l]
set_option maxRecDepth 100000 in
theorem open_int_cells {H:Type} {enc:TypeId × Value → H} {W:World} {cs:List Value} {y:DataW H × List MemPlace} {fuel:Nat} (h:DataW.trod enc Tryz.prog W 0 (fun _ => true) true fuel 28 cs = some y) :
  ∃ b p n c xs,cs = [.bool b,.slice p n c] ∧ Sl W p n c xs ∧ n + 1 ≤ Rows.uptoBulk y.1:=by
 obtain ⟨y0,y1,n,rfl,hl,h0,h1⟩:=trod_struct2 Tryz.underlying28 h
 rw [show Tryz.prog.cellsOf 28 = 2 by kernel_rfl] at hl
 match cs,hl with
 | [v0,v1],_ =>
  have h0':DataW.trod enc Tryz.prog W 0 (fun _ => true) true n 4 [v0] = some y0:=by simpa [show Tryz.prog.cellsOf 4 = 1 by kernel_rfl] using h0
  have h1':DataW.trod enc Tryz.prog W 0 (fun _ => true) true n 26 [v1] = some y1:=by simpa [show Tryz.prog.cellsOf 26 = 1 by kernel_rfl] using h1
  obtain ⟨p,m,c,xs,rfl,hs,hb⟩:=open_nat_cell h1'
  obtain ⟨b,hb0,_⟩:=DataW.trod_bool Tryz.underlying4 h0'
  simp at hb0
  subst hb0
  refine ⟨b,p,m,c,xs,rfl,hs,?_⟩
  simp only [Rows.uptoBulk,Rows.uptoBulkAll]
  omega
theorem cells_get {w:World} {a:Addr} {n:Nat} {cs:List Value} (h:w.cells? 0 a n = some cs) {i:Nat} {v:Value} (hi:cs[i]? = some v) (hn:i < n):w.cell? (a.add i) = some v:=by
  obtain ⟨_,_,h3⟩:=World.cells?_some h
  rw [h3 i hn,hi]
open Go.ChangeShapes Go.WideShapes Go.ChangeAt Go.RowKit Go.Joins Go.Deep
def TRw (w:World) (p:Option Addr) (n:Nat) (RT:List (List (Bool × List Nat))) (K:Nat):Prop:=RT.length = n ∧ n ≤ 1048576 ∧ ∀ (i:Nat) (L:List (Bool × List Nat)),RT[i]? = some L → ∃ b off q c,p = some ⟨b,off,none⟩ ∧ (∀ j v,[Value.slice q L.length c][j]? = some v → w.cell? ⟨b,off + i * 1 + j,none⟩ = some v) ∧ ZL w q L.length L K
theorem TRw.at {w w':World} {R:List Res} {p:Option Addr} {n K:Nat} {RT:List (List (Bool × List Nat))} (h:TRw w p n RT K) (hS:Sep w R w'):TRw w' p n RT K:=by
  refine ⟨h.1,h.2.1,fun i L hL => ?_⟩
  obtain ⟨b,off,q,c,hp,hc,hs⟩:=h.2.2 i L hL
  exact ⟨b,off,q,c,hp,fun j v hj => hS.cellAt (hc j v hj),hs.at hS⟩
def tvr (RT:List (List (Bool × List Nat))):List (List Int):=RT.map fun L => L.map zvr
theorem ZL.mono {w:World} {p:Option Addr} {m K K2:Nat} {L:List (Bool × List Nat)} (h:ZL w p m L K) (hK:K ≤ K2):ZL w p m L K2:=by
  refine ⟨h.1,h.2.1,fun i e he => ?_⟩
  obtain ⟨g,off,q,n,k,h1,h2,h3,h4,h5⟩:=h.2.2 i e he
  exact ⟨g,off,q,n,k,h1,h2,h3,h4,Nat.le_trans h5 hK⟩
theorem TRw.tb {w:World} {p:Option Addr} {n K K2:Nat} {RT:List (List (Bool × List Nat))} (h:TRw w p n RT K) (hK:K ≤ K2):TB w p n (tvr RT) K2:=by
  refine ⟨by unfold tvr; rw [List.length_map]; exact h.1,h.2.1,fun i L hL => ?_⟩
  unfold tvr at hL
  rw [List.getElem?_map] at hL
  obtain ⟨L0,h0,rfl⟩:=Option.map_eq_some_iff.1 hL
  obtain ⟨b,off,q,c,hp,hc,hs⟩:=h.2.2 i L0 h0
  exact ⟨b,off,q,c,hp,by rw [List.length_map]; exact hc,by rw [List.length_map]; exact (hs.mono hK).zs⟩
set_option maxRecDepth 100000 in
theorem open_zints_cell {H:Type} {enc:TypeId × Value → H} {W:World} {v:Value} {y:DataW H × List MemPlace} {fuel:Nat} (h:DataW.trod enc Tryz.prog W 0 (fun _ => true) true fuel 32 [v] = some y) (hbd:Rows.uptoBulk y.1 ≤ 1048576) :
  ∃ p m c L,v = .slice p m c ∧ ZL W p m L 1048576 ∧ (L.map fun e => e.2.length + 1).sum + 1 ≤ Rows.uptoBulk y.1:=by
 obtain ⟨d,ps⟩:=y
 replace hbd:Rows.uptoBulk d ≤ 1048576:=hbd
 rcases open_slice Tryz.underlying32 h with ⟨h1,h2⟩ | ⟨a',len,cap,m,n,D,Pl,h1,_,hlc,hcm,hm,hx,hel⟩
 ·simp at h1
  subst h1
  exact ⟨none,0,0,[],rfl,⟨rfl,by omega,fun i e h => by simp at h⟩,by have:=bulk_one d; simpa using this⟩
 simp at h1
 subst h1
 rw [if_pos rfl] at hm
 subst hm
 rw [show Tryz.prog.cellsOf 28 = 2 by kernel_rfl] at hel
 simp only [Prod.mk.injEq] at hx
 obtain ⟨hd, -⟩:=hx
 obtain ⟨L,hl1,hl2,hl3⟩:=build_list (α := Bool × List Nat) (Pp:=fun i e => ∃ q n c,W.cell? ((a'.add (i * 2)).add 0) = some (.bool e.1) ∧ W.cell? ((a'.add (i * 2)).add 1) = some (.slice q n c) ∧ Sl W q n c e.2 ∧ n + 1 ≤ Rows.uptoBulk (D i)) (g:=fun e => e.2.length + 1) (h:=fun i => Rows.uptoBulk (D i))
  (fun i e ⟨q,n,c,_,_,hs,hn⟩ => by rw [hs.len]; exact hn) len (fun i hi => by
   obtain ⟨cs',hc,ht⟩:=hel i (by omega)
   obtain ⟨b,q,n,c,xs,rfl,hs,hn⟩:=open_int_cells ht
   exact ⟨(b,xs),q,n,c,cells_get hc (i:=0) rfl (by omega),cells_get hc (i:=1) rfl (by omega),hs,hn⟩)
 have hbs:Rows.uptoBulk d = Rows.uptoBulk d:=rfl
 have hsum:(L.map fun e => e.2.length + 1).sum + 1 ≤ Rows.uptoBulk d:=by
  rw [hd]
  simp only [Rows.uptoBulk]
  rw [bulkAll_sum,List.map_map]
  have e:(Rows.uptoBulk ∘ D) = fun i => Rows.uptoBulk (D i):=rfl
  rw [e]
  omega
 have hlen:len ≤ (L.map fun e => e.2.length + 1).sum:=by
  rw [← hl1]
  clear hl1 hl2 hl3 hsum
  induction L with
  | nil => simp
  | cons x l ih => simp only [List.length_cons,List.map_cons,List.sum_cons]; omega
 refine ⟨some a',len,_,L,rfl,⟨hl1.symm,by omega,fun i e hi => ?_⟩,hsum⟩
 obtain ⟨q,n,c,h1,h2,hs,hn⟩:=hl2 i e hi
 obtain ⟨b,off,spot⟩:=a'
 have hspot:spot = none:=by
  have hil:=(List.getElem?_eq_some_iff.1 hi).1
  obtain ⟨_,_,_,h0,_⟩:=hl2 0 _ (List.getElem?_eq_getElem (show 0 < L.length by omega))
  have:=World.cell?_spot h0
  simpa [Addr.add] using this
 subst hspot
 rw [Addr.add_mid,Addr.add_mid] at h1 h2
 refine ⟨b,off,q,n,c,rfl,h1,h2,hs,?_⟩
 have hle:e.2.length + 1 ≤ (L.map fun e => e.2.length + 1).sum:=by
  have hmem:e ∈ L:=List.mem_of_getElem? hi
  clear hl1 hl2 hl3 hsum hlen hi
  induction L with
  | nil => cases hmem
  | cons x l ih =>
   simp only [List.map_cons,List.sum_cons]
   rcases List.mem_cons.1 hmem with rfl | hm
   ·omega
   have:=ih hm; omega
 have:=hs.len
 omega
theorem range_mem {h:Nat → Nat} {m i:Nat} (hi:i < m):h i ≤ ((List.range m).map h).sum:=by
 induction m with
 | zero => omega
 | succ m ih =>
  rw [List.range_succ]
  simp only [List.map_append,List.map_cons,List.map_nil,List.sum_append_nat,List.sum_cons,List.sum_nil]
  by_cases e:i = m
  ·subst e; omega
  have:=ih (by omega); omega
open Go.ChangeShapes Go.WideShapes Go.ChangeAt Go.RowKit Go.Joins Go.Deep
set_option maxRecDepth 100000 in
theorem open_ztabS {H:Type} {enc:TypeId × Value → H} {W:World} {v:Value} {d:DataW H} {ps:List MemPlace} {base:Nat} (hok:Value.okWide Tryz.prog W .any base 22 v) (h:DataW.Trod enc Tryz.prog W 0 (fun _ => true) true 22 v d ps) (hbd:Rows.uptoBulk d ≤ 1048576) :
  ∃ p m c L,v = .slice p m c ∧ TRw W p m L 1048576 ∧ (L.map fun r => (r.map fun e => e.2.length + 1).sum + 1).sum + 1 ≤ Rows.uptoBulk d:=by
 obtain ⟨a,len,cap,rfl⟩:=okWide_slice Tryz.underlying22 hok
 obtain ⟨fuel,h⟩:=h
 rcases open_slice Tryz.underlying22 h with ⟨h1,h2⟩ | ⟨a',len',cap',m,n,D,Pl,h1,_,hlc,hcm,hm,hx,hel⟩
 ·simp [Value.cells] at h1
  obtain ⟨rfl,rfl,rfl⟩:=h1
  exact ⟨none,0,0,[],rfl,⟨rfl,by omega,fun i e h => by simp at h⟩,by have:=bulk_one d; simpa using this⟩
 simp [Value.cells] at h1
 obtain ⟨rfl,rfl,rfl⟩:=h1
 rw [if_pos rfl] at hm
 subst hm
 rw [show Tryz.prog.cellsOf 32 = 1 by kernel_rfl] at hel
 simp only [Prod.mk.injEq] at hx
 obtain ⟨hd, -⟩:=hx
 have hdb:((List.range len).map fun i => Rows.uptoBulk (D i)).sum + 1 ≤ Rows.uptoBulk d:=by
  rw [hd]
  simp only [Rows.uptoBulk]
  rw [bulkAll_sum,List.map_map]
  have e:(Rows.uptoBulk ∘ D) = fun i => Rows.uptoBulk (D i):=rfl
  rw [e]
  omega
 obtain ⟨L,hl1,hl2,hl3⟩:=build_list (α := List (Bool × List Nat)) (Pp:=fun i e => ∃ q c,W.cell? ((a'.add (i * 1)).add 0) = some (.slice q e.length c) ∧ ZL W q e.length e 1048576 ∧ (e.map fun x => x.2.length + 1).sum + 1 ≤ Rows.uptoBulk (D i)) (g:=fun e => (e.map fun x => x.2.length + 1).sum + 1) (h:=fun i => Rows.uptoBulk (D i))
  (fun i e ⟨q,c,_,hs,hn⟩ => hn) len (fun i hi => by
   obtain ⟨cs',hc,ht⟩:=hel i (by omega)
   have hcl:cs'.length = 1:=by obtain ⟨_,h2,_⟩:=World.cells?_some hc; exact h2
   match cs',hcl with
   | [v0],_ =>
    have hbi:Rows.uptoBulk (D i) ≤ 1048576:=by
     have h9:=range_mem (h:=fun i => Rows.uptoBulk (D i)) hi
     omega
    obtain ⟨q,n,c,xs,rfl,hs,hn⟩:=open_zints_cell ht hbi
    have h8:n = xs.length:=hs.1
    subst h8
    exact ⟨xs,q,c,cells_get hc (i:=0) rfl (by omega),hs,hn⟩)
 have hsum:(L.map fun r => (r.map fun e => e.2.length + 1).sum + 1).sum + 1 ≤ Rows.uptoBulk d:=by omega
 have hlen:L.length ≤ (L.map fun r => (r.map fun e => e.2.length + 1).sum + 1).sum:=by
  clear hl1 hl2 hl3 hsum
  induction L with
  | nil => simp
  | cons a l ih => simp only [List.length_cons,List.map_cons,List.sum_cons]; omega
 refine ⟨some a',len,_,L,rfl,⟨hl1,by omega,fun i e hi => ?_⟩,hsum⟩
 obtain ⟨q,c,h1,hs,hn⟩:=hl2 i e hi
 obtain ⟨b,off,spot⟩:=a'
 have hspot:spot = none:=by
  have hil:=(List.getElem?_eq_some_iff.1 hi).1
  obtain ⟨_,_,h0,_⟩:=hl2 0 _ (List.getElem?_eq_getElem (show 0 < L.length by omega))
  have:=World.cell?_spot h0
  simpa [Addr.add] using this
 subst hspot
 rw [Addr.add_mid,Addr.add_mid] at h1
 refine ⟨b,off,q,c,rfl,fun j v hj => ?_,hs⟩
 have h0:j = 0:=by have:=(List.getElem?_eq_some_iff.1 hj).1; simp at this; omega
 subst h0
 simp at hj
 subst hj
 exact h1
theorem limbs_le:∀ L:List (Bool × List Nat),(L.map fun e => e.2.length).sum ≤ (L.map fun e => e.2.length + 1).sum
  | [] => Nat.le_refl _
  | e :: L => by have:=limbs_le L; simp only [List.map_cons,List.sum_cons]; omega
theorem limbs_all:∀ L:List (List (Bool × List Nat)),(L.map fun r => (r.map fun e => e.2.length).sum).sum ≤ (L.map fun r => (r.map fun e => e.2.length + 1).sum + 1).sum
  | [] => Nat.le_refl _
  | r :: L => by have:=limbs_all L; have:=limbs_le r; simp only [List.map_cons,List.sum_cons]; omega
end Go.Proofs.YtnlnibngpeempaaGreatDoor
