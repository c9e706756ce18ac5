/-
  Contracts and lemmas, joined in one text.
-/
import Derived.Test.YtjnpdpcldmjdjaaGreatDoorZLaw
import Derived.Test.YtjnpdpcldmjdjaaGreatDoorRC
import Derived.Deep.Slices
import Derived.DataReads
import Derived.Test.YtjnpdpcldmjdjaaGreatDoorCB
set_option linter.unusedVariables false
set_option linter.unusedSimpArgs false
/-
  A list of integers as it came in.
-/
namespace Go.Proofs.YtjnpdpcldmjdjaaGreatDoor
open Go.ChangeShapes Go.WideShapes Go.ChangeAt Go.RowKit Go.Joins Go.Deep
theorem build_list {α : Type} {Pp:Nat → α → Prop} {g : α → Nat} {h:Nat → Nat} (hp:∀ i e,Pp i e → g e ≤ h i):∀ m,(∀ i,i < m → ∃ e,Pp i e) → ∃ L:List α,L.length = m ∧ (∀ i e,L[i]? = some e → Pp i e) ∧ (L.map g).sum ≤ ((List.range m).map h).sum
 | 0,_ => ⟨[],rfl,(fun i e h => by simp at h),by simp⟩
 | m + 1,hm => by
  obtain ⟨L,h1,h2,h3⟩:=build_list hp m (fun i hi => hm i (by omega))
  obtain ⟨e,he⟩:=hm m (by omega)
  refine ⟨L ++ [e],by simp [h1],fun i e' hi => ?_,?_⟩
  ·rcases Nat.lt_trichotomy i L.length with hl | hl | hl
   ·rw [List.getElem?_append_left hl] at hi; exact h2 i e' hi
   ·subst hl
    simp at hi; subst hi
    rw [h1]; exact he
   rw [List.getElem?_append_right (by omega)] at hi
   have:=(List.getElem?_eq_some_iff.1 hi).1
   simp at this; omega
  rw [List.range_succ]
  have:=hp m e he
  simp only [List.map_append,List.map_cons,List.map_nil,List.sum_append_nat,List.sum_cons,List.sum_nil]
  omega
theorem bulkAll_sum {H:Type}:∀ l:List (DataW H),Rows.uptoBulkAll l = (l.map Rows.uptoBulk).sum
  | [] => by simp [Rows.uptoBulkAll]
  | d :: l => by simp only [Rows.uptoBulkAll,List.map_cons,List.sum_cons]; rw [bulkAll_sum l]
theorem cells_get {w:World} {a:Addr} {n:Nat} {cs:List Value} (h:w.cells? 0 a n = some cs) {i:Nat} {v:Value} (hi:cs[i]? = some v) (hn:i < n):w.cell? (a.add i) = some v:=by
  obtain ⟨_,_,h3⟩:=World.cells?_some h
  rw [h3 i hn,hi]
open Go.ChangeShapes Go.WideShapes Go.ChangeAt Go.RowKit Go.Joins Go.Deep
theorem wf_u32_inv {n:Int} (h:(Lit.int .u32 n).wf = true):0 ≤ n ∧ n < 4294967296:=by
  simp only [Lit.wf,Bool.and_eq_true,decide_eq_true_eq] at h
  obtain ⟨h1,h2⟩:=h
  have h1':(0:Int) ≤ n:=h1
  have h2':n ≤ 4294967295:=h2
  omega
set_option maxRecDepth 100000 in
theorem open_rest_cells {H:Type} {enc:TypeId × Value → H} {W:World} {cs:List Value} {y:DataW H × List MemPlace} {fuel:Nat} (h:DataW.trod enc Tryz.prog W 0 (fun _ => true) true fuel 45 cs = some y) :
  ∃ a b:Nat,cs = [.int .u32 ((a:Nat):Int),.int .u32 ((b:Nat):Int)] ∧ a < 4294967296 ∧ b < 4294967296 ∧ 1 ≤ Rows.uptoBulk y.1:=by
 obtain ⟨y0,y1,n,rfl,hl,h0,h1⟩:=trod_struct2 Tryz.underlying45 h
 rw [show Tryz.prog.cellsOf 45 = 2 by kernel_rfl] at hl
 match cs,hl with
 | [v0,v1],_ =>
  have h0':DataW.trod enc Tryz.prog W 0 (fun _ => true) true n 38 [v0] = some y0:=by simpa [show Tryz.prog.cellsOf 38 = 1 by kernel_rfl] using h0
  have h1':DataW.trod enc Tryz.prog W 0 (fun _ => true) true n 38 [v1] = some y1:=by simpa [show Tryz.prog.cellsOf 38 = 1 by kernel_rfl] using h1
  obtain ⟨a,e1,_,ha⟩:=DataW.trod_int Tryz.underlying38 h0'
  obtain ⟨b,e2,_,hb⟩:=DataW.trod_int Tryz.underlying38 h1'
  have ha:=wf_u32_inv ha
  have hb:=wf_u32_inv hb
  simp only [List.cons.injEq,and_true] at e1 e2
  subst e1; subst e2
  obtain ⟨a',rfl⟩:=Int.eq_ofNat_of_zero_le ha.1
  obtain ⟨b',rfl⟩:=Int.eq_ofNat_of_zero_le hb.1
  exact ⟨a',b',rfl,by omega,by omega,bulk_one _⟩
set_option maxRecDepth 100000 in
theorem open_restsc {H:Type} {enc:TypeId × Value → H} {W:World} {v:Value} {d:DataW H} {ps:List MemPlace} {base:Nat} (hok:Value.okWide Tryz.prog W .any base 22 v) (h:DataW.Trod enc Tryz.prog W 0 (fun _ => true) true 22 v d ps) (hbd:Rows.uptoBulk d ≤ 1048576) :
  ∃ p m c L,v = .slice p m c ∧ (RS W p m L ∧ (∀ x ∈ L,x.1 < 4294967296 ∧ x.2 < 4294967296) ∧ (p = none → c = 0)) ∧ L.length + 1 ≤ Rows.uptoBulk d:=by
 obtain ⟨a,len,cap,rfl⟩:=okWide_slice Tryz.underlying22 hok
 obtain ⟨fuel,h⟩:=h
 rcases open_slice Tryz.underlying22 h with ⟨h1,h2⟩ | ⟨a',len',cap',m,n,D,Pl,h1,_,hlc,hcm,hm,hx,hel⟩
 ·simp [Value.cells] at h1
  obtain ⟨rfl,rfl,rfl⟩:=h1
  exact ⟨none,0,0,[],rfl,⟨⟨rfl,fun _ => rfl,fun i e h => by simp at h⟩,(fun x hx => by cases hx),fun _ => rfl⟩,by have:=bulk_one d; simpa using this⟩
 simp [Value.cells] at h1
 obtain ⟨rfl,rfl,rfl⟩:=h1
 rw [if_pos rfl] at hm
 subst hm
 rw [show Tryz.prog.cellsOf 45 = 2 by kernel_rfl] at hel
 simp only [Prod.mk.injEq] at hx
 obtain ⟨hd, -⟩:=hx
 obtain ⟨L,hl1,hl2,hl3⟩:=build_list (α := Nat × Nat) (Pp:=fun i e => W.cell? ((a'.add (i * 2)).add 0) = some (.int .u32 ((e.1:Nat):Int)) ∧ W.cell? ((a'.add (i * 2)).add 1) = some (.int .u32 ((e.2:Nat):Int)) ∧ e.1 < 4294967296 ∧ e.2 < 4294967296 ∧ 1 ≤ Rows.uptoBulk (D i)) (g:=fun _ => 1) (h:=fun i => Rows.uptoBulk (D i))
  (fun i e ⟨_,_,_,_,hn⟩ => hn) len (fun i hi => by
   obtain ⟨cs',hc,ht⟩:=hel i (by omega)
   obtain ⟨x,y,rfl,h1,h2,hn⟩:=open_rest_cells ht
   exact ⟨(x,y),cells_get hc (i:=0) rfl (by omega),cells_get hc (i:=1) rfl (by omega),h1,h2,hn⟩)
 have hsum:(L.map fun _ => 1).sum + 1 ≤ Rows.uptoBulk d:=by
  rw [hd]
  simp only [Rows.uptoBulk]
  rw [bulkAll_sum,List.map_map]
  have e:(Rows.uptoBulk ∘ D) = fun i => Rows.uptoBulk (D i):=rfl
  rw [e]
  omega
 have hlen:(L.map fun _ => 1).sum = L.length:=by
  clear hl1 hl2 hl3 hsum
  induction L with
  | nil => rfl
  | cons x l ih => simp only [List.length_cons,List.map_cons,List.sum_cons]; omega
 refine ⟨some a',len,_,L,rfl,⟨⟨hl1,(fun h => by cases h),fun i e hi => ?_⟩,fun x hx => ?_,(fun h => by cases h)⟩,by omega⟩
 ·obtain ⟨h1,h2,_⟩:=hl2 i e hi
  obtain ⟨b,off,spot⟩:=a'
  have hspot:spot = none:=by
   have hil:=(List.getElem?_eq_some_iff.1 hi).1
   obtain ⟨h0,_⟩:=hl2 0 _ (List.getElem?_eq_getElem (show 0 < L.length by omega))
   have:=World.cell?_spot h0
   simpa [Addr.add] using this
  subst hspot
  rw [Addr.add_mid,Addr.add_mid] at h1 h2
  refine ⟨b,off,rfl,fun j v hj => ?_⟩
  match j,hj with
  | 0,hj => cases hj; exact h1
  | 1,hj => cases hj; exact h2
  | j + 2,hj => simp at hj
 obtain ⟨i,hi⟩:=List.mem_iff_getElem?.1 hx
 obtain ⟨_,_,h3,h4,_⟩:=hl2 i x hi
 exact ⟨h3,h4⟩
end Go.Proofs.YtjnpdpcldmjdjaaGreatDoor
