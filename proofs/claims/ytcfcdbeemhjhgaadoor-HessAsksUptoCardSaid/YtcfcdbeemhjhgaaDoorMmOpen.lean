/-
  Contracts and lemmas, joined in one text.
-/
import Derived.Test.YtcfcdbeemhjhgaaDoorH8
import Derived.Test.YtcfcdbeemhjhgaaDoorLaw
import Derived.Lib.SmallJoins
import Derived.Deep.Slices
import Derived.DataReads
set_option linter.unusedVariables false
set_option linter.unusedSimpArgs false
/-
  A matrix as it came in.
-/
namespace Go.Proofs.YtcfcdbeemhjhgaaDoor
open Go.ChangeShapes Go.WideShapes Go.ChangeAt Go.RowKit Go.Joins Go.Deep
theorem open_row_cell {H:Type} {enc:TypeId × Value → H} {W:World} {v:Value} {y:DataW H × List MemPlace} {fuel:Nat} (h:DataW.trod enc Tryd.prog W 0 (fun _ => true) true fuel 29 [v] = some y) :
  ∃ p n c xs,v = .slice p n c ∧ Sl W p n c xs ∧ n + 1 ≤ Rows.uptoBulk y.1:=by
 rcases open_ints Tryd.underlying29 Tryd.underlying24 (by kernel_rfl) h with ⟨h1,h2⟩ | ⟨a,len,cap,zs,h1,hb,hlc,hcm,hzl,h2,hc,hw⟩
 ·simp at h1
  subst h1
  exact ⟨none,0,0,[],rfl,Sl.nil W,by have:=bulk_one y.1; omega⟩
 simp at h1
 subst h1
 rw [if_pos rfl] at hzl
 have hwn:∀ z ∈ zs,0 ≤ z ∧ z < 4294967296:=fun z hz => by have:=bounds_u32 (hw z hz); omega
 have hnd:∀ i,i < len → ((nd ((zs.take len).map Int.toNat) i:Nat):Int) = zs.getD i 0 ∧ nd ((zs.take len).map Int.toNat) i < 4294967296:=by
  intro i hi
  have hi2:i < zs.length:=by omega
  have hm:=hwn zs[i] (List.getElem_mem hi2)
  have e:nd ((zs.take len).map Int.toNat) i = zs[i].toNat:=by
   rw [nd_get (by simp; omega)]
   simp
  have e2:zs.getD i 0 = zs[i]:=by simp [List.getD,hi2]
  rw [e,e2]
  omega
 refine ⟨some a,len,cap,(zs.take len).map Int.toNat,rfl,⟨by simp; omega,hlc,hcm,fun i hi => (hnd i (by simp at hi; omega)).2,(fun h => by cases h),fun i hi => ?_⟩,?_⟩
 ·obtain ⟨b,off,rfl,hcc⟩:=ints_at hc (by omega)
  refine ⟨b,off,rfl,?_⟩
  rw [hcc i (by omega),(hnd i hi).1]
 rw [h2]
 simp only [Rows.uptoBulk]
 have h3:=bulk_length (lits (H:=H) .u32 (zs.take len))
 have h4:(lits (H:=H) .u32 (zs.take len)).length = len:=by simp [lits]; omega
 omega
theorem mm_build {α : Type} {Pp:Nat → α → Prop} {g : α → Nat} {h:Nat → Nat} (hp:∀ i e,Pp i e → g e ≤ h i):∀ m,(∀ i,i < m → ∃ e,Pp i e) → ∃ L:List α,L.length = m ∧ (∀ i e,L[i]? = some e → Pp i e) ∧ (L.map g).sum ≤ ((List.range m).map h).sum
 | 0,_ => ⟨[],rfl,(fun i e h => by simp at h),by simp⟩
 | m + 1,hm => by
  obtain ⟨L,h1,h2,h3⟩:=mm_build hp m (fun i hi => hm i (by omega))
  obtain ⟨e,he⟩:=hm m (by omega)
  refine ⟨L ++ [e],by simp [h1],fun i e' hi => ?_,?_⟩
  ·rcases Nat.lt_trichotomy i L.length with hl | hl | hl
   ·rw [List.getElem?_append_left hl] at hi; exact h2 i e' hi
   ·subst hl
    simp at hi; subst hi
    rw [h1]; exact he
   rw [List.getElem?_append_right (by omega)] at hi
   have:=(List.getElem?_eq_some_iff.1 hi).1
   simp at this; omega
  rw [List.range_succ]
  have:=hp m e he
  simp only [List.map_append,List.map_cons,List.map_nil,List.sum_append_nat,List.sum_cons,List.sum_nil]
  omega
theorem mm_bulk {H:Type}:∀ l:List (DataW H),Rows.uptoBulkAll l = (l.map Rows.uptoBulk).sum
  | [] => by simp [Rows.uptoBulkAll]
  | d :: l => by simp only [Rows.uptoBulkAll,List.map_cons,List.sum_cons]; rw [mm_bulk l]
theorem mm_cells {w:World} {a:Addr} {n:Nat} {cs:List Value} (h:w.cells? 0 a n = some cs) {i:Nat} {v:Value} (hi:cs[i]? = some v) (hn:i < n):w.cell? (a.add i) = some v:=by
  obtain ⟨_,_,h3⟩:=World.cells?_some h
  rw [h3 i hn,hi]
theorem sum_mem {L:List (List Nat)} {x:List Nat} (h:x ∈ L):x.length + 1 ≤ (L.map fun e => e.length + 1).sum:=by
 induction L with
 | nil => cases h
 | cons y l ih =>
  simp only [List.map_cons,List.sum_cons]
  rcases List.mem_cons.1 h with rfl | hm
  ·omega
  have:=ih hm; omega
theorem sum_len (L:List (List Nat)):L.length ≤ (L.map fun e => e.length + 1).sum:=by
  induction L with
  | nil => simp
  | cons x l ih => simp only [List.length_cons,List.map_cons,List.sum_cons]; omega
set_option maxRecDepth 100000 in
theorem open_mm {H:Type} {enc:TypeId × Value → H} {W:World} {v:Value} {d:DataW H} {ps:List MemPlace} {base:Nat} (hok:Value.okWide Tryd.prog W .any base 23 v) (h:DataW.Trod enc Tryd.prog W 0 (fun _ => true) true 23 v d ps) (hbd:Rows.uptoBulk d ≤ 1048576) :
  ∃ p m c L,v = .slice p m c ∧ (MS W p m L ∧ SmallM L) ∧ (L.map fun e => e.length + 1).sum + 1 ≤ Rows.uptoBulk d:=by
 obtain ⟨a,len,cap,rfl⟩:=okWide_slice Tryd.underlying23 hok
 obtain ⟨fuel,h⟩:=h
 rcases open_slice Tryd.underlying23 h with ⟨h1,h2⟩ | ⟨a',len',cap',m,n,D,Pl,h1,_,hlc,hcm,hm,hx,hel⟩
 ·simp [Value.cells] at h1
  obtain ⟨rfl,rfl,rfl⟩:=h1
  exact ⟨none,0,0,[],rfl,⟨⟨rfl,by simp [maxLen],fun i e h => by simp at h⟩,by simp,fun r h => by cases h⟩,by have:=bulk_one d; simpa using this⟩
 simp [Value.cells] at h1
 obtain ⟨rfl,rfl,rfl⟩:=h1
 rw [if_pos rfl] at hm
 subst hm
 rw [show Tryd.prog.cellsOf 29 = 1 by kernel_rfl] at hel
 simp only [Prod.mk.injEq] at hx
 obtain ⟨hd, -⟩:=hx
 obtain ⟨L,hl1,hl2,hl3⟩:=mm_build (α := List Nat) (Pp:=fun i e => ∃ q n c,W.cell? ((a'.add (i * 1)).add 0) = some (.slice q n c) ∧ Sl W q n c e ∧ n + 1 ≤ Rows.uptoBulk (D i)) (g:=fun e => e.length + 1) (h:=fun i => Rows.uptoBulk (D i))
  (fun i e ⟨q,n,c,_,hs,hn⟩ => by rw [hs.len]; exact hn) len (fun i hi => by
   obtain ⟨cs',hc,ht⟩:=hel i (by omega)
   have hcl:cs'.length = 1:=by obtain ⟨_,h2,_⟩:=World.cells?_some hc; exact h2
   match cs',hcl with
   | [v0],_ =>
    obtain ⟨q,n,c,xs,rfl,hs,hn⟩:=open_row_cell ht
    exact ⟨xs,q,n,c,mm_cells hc (i:=0) rfl (by omega),hs,hn⟩)
 have hsum:(L.map fun e => e.length + 1).sum + 1 ≤ Rows.uptoBulk d:=by
  rw [hd]
  simp only [Rows.uptoBulk]
  rw [mm_bulk,List.map_map]
  have e:(Rows.uptoBulk ∘ D) = fun i => Rows.uptoBulk (D i):=rfl
  rw [e]
  omega
 have hlen:=sum_len L
 refine ⟨some a',len,_,L,rfl,⟨⟨hl1,by simp only [maxLen]; omega,fun i e hi => ?_⟩,by omega,fun r hr => by have:=sum_mem hr; omega⟩,hsum⟩
 obtain ⟨q,n,c,h1,hs,hn⟩:=hl2 i e hi
 obtain ⟨b,off,spot⟩:=a'
 have hspot:spot = none:=by
  have hil:=(List.getElem?_eq_some_iff.1 hi).1
  obtain ⟨_,_,_,h0,_⟩:=hl2 0 _ (List.getElem?_eq_getElem (show 0 < L.length by omega))
  have:=World.cell?_spot h0
  simpa [Addr.add] using this
 subst hspot
 rw [Addr.add_mid,Addr.add_mid] at h1
 refine ⟨b,off,q,c,rfl,fun j v hj => ?_,hs.len ▸ hs⟩
 have h0:j = 0:=by have:=(List.getElem?_eq_some_iff.1 hj).1; simp at this; omega
 subst h0
 simp at hj
 subst hj
 rw [h1,hs.len]
end Go.Proofs.YtcfcdbeemhjhgaaDoor
