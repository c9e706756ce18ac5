/-
  Contracts and lemmas, joined in one text.
-/
import Derived.Test.YtjbcjlbbipohjaaGreatDoorZLaw
import Derived.Test.YtjbcjlbbipohjaaGreatDoorRC
import Derived.Deep.Slices
import Derived.DataReads
import Derived.Test.YtjbcjlbbipohjaaGreatDoorCB
set_option linter.unusedVariables false
set_option linter.unusedSimpArgs false
/-
  A list of integers as it came in.
-/
namespace Go.Proofs.YtjbcjlbbipohjaaGreatDoor
open Go.ChangeShapes Go.WideShapes Go.ChangeAt Go.RowKit Go.Joins Go.Deep
set_option maxRecDepth 100000 in
theorem open_int_cells {H:Type} {enc:TypeId × Value → H} {W:World} {cs:List Value} {y:DataW H × List MemPlace} {fuel:Nat} (h:DataW.trod enc Tryz.prog W 0 (fun _ => true) true fuel 28 cs = some y) :
  ∃ b p n c xs,cs = [.bool b,.slice p n c] ∧ Sl W p n c xs ∧ n + 1 ≤ Rows.uptoBulk y.1:=by
 obtain ⟨y0,y1,n,rfl,hl,h0,h1⟩:=trod_struct2 Tryz.underlying28 h
 rw [show Tryz.prog.cellsOf 28 = 2 by kernel_rfl] at hl
 match cs,hl with
 | [v0,v1],_ =>
  have h0':DataW.trod enc Tryz.prog W 0 (fun _ => true) true n 4 [v0] = some y0:=by simpa [show Tryz.prog.cellsOf 4 = 1 by kernel_rfl] using h0
  have h1':DataW.trod enc Tryz.prog W 0 (fun _ => true) true n 26 [v1] = some y1:=by simpa [show Tryz.prog.cellsOf 26 = 1 by kernel_rfl] using h1
  obtain ⟨p,m,c,xs,rfl,hs,hb⟩:=open_nat_cell h1'
  obtain ⟨b,hb0,_⟩:=DataW.trod_bool Tryz.underlying4 h0'
  simp at hb0
  subst hb0
  refine ⟨b,p,m,c,xs,rfl,hs,?_⟩
  simp only [Rows.uptoBulk,Rows.uptoBulkAll]
  omega
end Go.Proofs.YtjbcjlbbipohjaaGreatDoor
/-
  A fraction as it came in; a list of them.
-/
namespace Go.Proofs.YtjbcjlbbipohjaaGreatDoor
open Go.ChangeShapes Go.WideShapes Go.ChangeAt Go.RowKit Go.Joins Go.Deep
set_option maxRecDepth 100000 in
theorem open_rat_cells {H:Type} {enc:TypeId × Value → H} {W:World} {cs:List Value} {y:DataW H × List MemPlace} {fuel:Nat} (h:DataW.trod enc Tryz.prog W 0 (fun _ => true) true fuel 30 cs = some y) :
  ∃ b p n c xs b2 q m d ys,cs = [.bool b,.slice p n c,.bool b2,.slice q m d] ∧ Sl W p n c xs ∧ Sl W q m d ys ∧ n + m + 1 ≤ Rows.uptoBulk y.1:=by
 obtain ⟨y0,y1,n,rfl,hl,h0,h1⟩:=trod_struct2 Tryz.underlying30 h
 rw [show Tryz.prog.cellsOf 30 = 4 by kernel_rfl] at hl
 match cs,hl with
 | [v0,v1,v2,v3],_ =>
  have h0':DataW.trod enc Tryz.prog W 0 (fun _ => true) true n 28 [v0,v1] = some y0:=by simpa [show Tryz.prog.cellsOf 28 = 2 by kernel_rfl] using h0
  have h1':DataW.trod enc Tryz.prog W 0 (fun _ => true) true n 28 [v2,v3] = some y1:=by simpa [show Tryz.prog.cellsOf 28 = 2 by kernel_rfl] using h1
  obtain ⟨b,p,m,c,xs,e1,hs,hb⟩:=open_int_cells h0'
  obtain ⟨b2,q,m2,d,ys,e2,hs2,hb2⟩:=open_int_cells h1'
  simp only [List.cons.injEq,and_true] at e1 e2
  obtain ⟨rfl,rfl⟩:=e1
  obtain ⟨rfl,rfl⟩:=e2
  refine ⟨b,p,m,c,xs,b2,q,m2,d,ys,rfl,hs,hs2,?_⟩
  simp only [Rows.uptoBulk,Rows.uptoBulkAll]
  omega
set_option maxRecDepth 100000 in
theorem open_rat {H:Type} {enc:TypeId × Value → H} {W:World} {v:Value} {d:DataW H} {ps:List MemPlace} {base:Nat} (hok:Value.okWide Tryz.prog W .any base 30 v) (h:DataW.Trod enc Tryz.prog W 0 (fun _ => true) true 30 v d ps) :
  ∃ b p n c xs b2 q m e ys,v = .agg #[.bool b,.slice p n c,.bool b2,.slice q m e] ∧ Sl W p n c xs ∧ Sl W q m e ys ∧ n + m + 1 ≤ Rows.uptoBulk d:=by
 obtain ⟨cs,rfl,hsz⟩:=okWide_struct Tryz.underlying30 hok
 obtain ⟨fuel,h⟩:=h
 obtain ⟨b,p,n,c,xs,b2,q,m,e,ys,hcs,h1,h2,h3⟩:=open_rat_cells h
 have e1:cs = #[.bool b,.slice p n c,.bool b2,.slice q m e]:=by
  apply Array.toList_inj.1
  simpa [Value.cells] using hcs
 exact ⟨b,p,n,c,xs,b2,q,m,e,ys,by rw [e1],h1,h2,h3⟩
end Go.Proofs.YtjbcjlbbipohjaaGreatDoor
/-
  A list of pairs as it came in; a list of words.
-/
namespace Go.Proofs.YtjbcjlbbipohjaaGreatDoor
open Go.ChangeShapes Go.WideShapes Go.ChangeAt Go.RowKit Go.Joins Go.Deep
end Go.Proofs.YtjbcjlbbipohjaaGreatDoor
