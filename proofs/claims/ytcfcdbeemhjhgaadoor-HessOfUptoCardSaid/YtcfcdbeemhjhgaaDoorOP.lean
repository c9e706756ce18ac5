/-
  Contracts and lemmas, joined in one text.
-/
import Derived.Test.YtcfcdbeemhjhgaaDoorZLaw
import Derived.Test.YtcfcdbeemhjhgaaDoorRC
import Derived.Deep.Slices
import Derived.DataReads
set_option linter.unusedVariables false
set_option linter.unusedSimpArgs false
/-
  A list of integers as it came in.
-/
namespace Go.Proofs.YtcfcdbeemhjhgaaDoor
open Go.ChangeShapes Go.WideShapes Go.ChangeAt Go.RowKit Go.Joins Go.Deep
theorem build_list {α : Type} {Pp:Nat → α → Prop} {g : α → Nat} {h:Nat → Nat} (hp:∀ i e,Pp i e → g e ≤ h i):∀ m,(∀ i,i < m → ∃ e,Pp i e) → ∃ L:List α,L.length = m ∧ (∀ i e,L[i]? = some e → Pp i e) ∧ (L.map g).sum ≤ ((List.range m).map h).sum
 | 0,_ => ⟨[],rfl,(fun i e h => by simp at h),by simp⟩
 | m + 1,hm => by
  obtain ⟨L,h1,h2,h3⟩:=build_list hp m (fun i hi => hm i (by omega))
  obtain ⟨e,he⟩:=hm m (by omega)
  refine ⟨L ++ [e],by simp [h1],fun i e' hi => ?_,?_⟩
  ·rcases Nat.lt_trichotomy i L.length with hl | hl | hl
   ·rw [List.getElem?_append_left hl] at hi; exact h2 i e' hi
   ·subst hl
    simp at hi; subst hi
    rw [h1]; exact he
   ·rw [List.getElem?_append_right (by omega)] at hi
    have:=(List.getElem?_eq_some_iff.1 hi).1
    simp at this; omega
  ·rw [List.range_succ]
   have:=hp m e he
   simp only [List.map_append,List.map_cons,List.map_nil,List.sum_append_nat,List.sum_cons,List.sum_nil]
   omega
theorem bulkAll_sum {H:Type}:∀ l:List (DataW H),Rows.uptoBulkAll l = (l.map Rows.uptoBulk).sum
  | [] => by simp [Rows.uptoBulkAll]
  | d :: l => by simp only [Rows.uptoBulkAll,List.map_cons,List.sum_cons]; rw [bulkAll_sum l]
set_option maxRecDepth 100000 in
theorem open_int_cells {H:Type} {enc:TypeId × Value → H} {W:World} {cs:List Value} {y:DataW H × List MemPlace} {fuel:Nat} (h:DataW.trod enc Tryd.prog W 0 (fun _ => true) true fuel 52 cs = some y) :
  ∃ b p n c xs,cs = [.bool b,.slice p n c] ∧ Sl W p n c xs ∧ n + 1 ≤ Rows.uptoBulk y.1:=by
 obtain ⟨y0,y1,n,rfl,hl,h0,h1⟩:=trod_struct2 Tryd.underlying52 h
 rw [show Tryd.prog.cellsOf 52 = 2 by kernel_rfl] at hl
 match cs,hl with
 | [v0,v1],_ =>
  have h0':DataW.trod enc Tryd.prog W 0 (fun _ => true) true n 4 [v0] = some y0:=by simpa [show Tryd.prog.cellsOf 4 = 1 by kernel_rfl] using h0
  have h1':DataW.trod enc Tryd.prog W 0 (fun _ => true) true n 50 [v1] = some y1:=by simpa [show Tryd.prog.cellsOf 50 = 1 by kernel_rfl] using h1
  obtain ⟨p,m,c,xs,rfl,hs,hb⟩:=open_nat_cell h1'
  obtain ⟨b,hb0,_⟩:=DataW.trod_bool Tryd.underlying4 h0'
  simp at hb0
  subst hb0
  refine ⟨b,p,m,c,xs,rfl,hs,?_⟩
  simp only [Rows.uptoBulk,Rows.uptoBulkAll]
  omega
theorem cells_get {w:World} {a:Addr} {n:Nat} {cs:List Value} (h:w.cells? 0 a n = some cs) {i:Nat} {v:Value} (hi:cs[i]? = some v) (hn:i < n):w.cell? (a.add i) = some v:=by
  obtain ⟨_,_,h3⟩:=World.cells?_some h
  rw [h3 i hn,hi]
end Go.Proofs.YtcfcdbeemhjhgaaDoor
