/-
  Contracts and lemmas, joined in one text.
-/
import Derived.Test.YthnilcgmljecdaaDoorOP
import Derived.Test.YthnilcgmljecdaaDoorB4
set_option linter.unusedVariables false
set_option linter.unusedSimpArgs false
/-
  A table of integers as it came in.
-/
namespace Go.Proofs.YthnilcgmljecdaaDoor
open Go.ChangeShapes Go.WideShapes Go.ChangeAt Go.RowKit Go.Joins Go.Deep
def TRw (w:World) (p:Option Addr) (n:Nat) (RT:List (List (Bool × List Nat))) (K:Nat):Prop:=RT.length = n ∧ n ≤ 1048576 ∧ ∀ (i:Nat) (L:List (Bool × List Nat)),RT[i]? = some L → ∃ b off q c,p = some ⟨b,off,none⟩ ∧ (∀ j v,[Value.slice q L.length c][j]? = some v → w.cell? ⟨b,off + i * 1 + j,none⟩ = some v) ∧ ZL w q L.length L K
theorem TRw.at {w w':World} {R:List Res} {p:Option Addr} {n K:Nat} {RT:List (List (Bool × List Nat))} (h:TRw w p n RT K) (hS:Sep w R w'):TRw w' p n RT K:=by
  refine ⟨h.1,h.2.1,fun i L hL => ?_⟩
  obtain ⟨b,off,q,c,hp,hc,hs⟩:=h.2.2 i L hL
  exact ⟨b,off,q,c,hp,fun j v hj => hS.cellAt (hc j v hj),hs.at hS⟩
def tvr (RT:List (List (Bool × List Nat))):List (List Int):=RT.map fun L => L.map zvr
theorem ZL.mono {w:World} {p:Option Addr} {m K K2:Nat} {L:List (Bool × List Nat)} (h:ZL w p m L K) (hK:K ≤ K2):ZL w p m L K2:=by
  refine ⟨h.1,h.2.1,fun i e he => ?_⟩
  obtain ⟨g,off,q,n,k,h1,h2,h3,h4,h5⟩:=h.2.2 i e he
  exact ⟨g,off,q,n,k,h1,h2,h3,h4,Nat.le_trans h5 hK⟩
theorem TRw.tb {w:World} {p:Option Addr} {n K K2:Nat} {RT:List (List (Bool × List Nat))} (h:TRw w p n RT K) (hK:K ≤ K2):TB w p n (tvr RT) K2:=by
  refine ⟨by unfold tvr; rw [List.length_map]; exact h.1,h.2.1,fun i L hL => ?_⟩
  unfold tvr at hL
  rw [List.getElem?_map] at hL
  obtain ⟨L0,h0,rfl⟩:=Option.map_eq_some_iff.1 hL
  obtain ⟨b,off,q,c,hp,hc,hs⟩:=h.2.2 i L0 h0
  exact ⟨b,off,q,c,hp,by rw [List.length_map]; exact hc,by rw [List.length_map]; exact (hs.mono hK).zs⟩
set_option maxRecDepth 100000 in
theorem open_zints_cell {H:Type} {enc:TypeId × Value → H} {W:World} {v:Value} {y:DataW H × List MemPlace} {fuel:Nat} (h:DataW.trod enc Tryd.prog W 0 (fun _ => true) true fuel 38 [v] = some y) (hbd:Rows.uptoBulk y.1 ≤ 1048576) :
  ∃ p m c L,v = .slice p m c ∧ ZL W p m L 1048576 ∧ (L.map fun e => e.2.length + 1).sum + 1 ≤ Rows.uptoBulk y.1:=by
 obtain ⟨d,ps⟩:=y
 replace hbd:Rows.uptoBulk d ≤ 1048576:=hbd
 rcases open_slice Tryd.underlying38 h with ⟨h1,h2⟩ | ⟨a',len,cap,m,n,D,Pl,h1,_,hlc,hcm,hm,hx,hel⟩
 ·simp at h1
  subst h1
  exact ⟨none,0,0,[],rfl,⟨rfl,by omega,fun i e h => by simp at h⟩,by have:=bulk_one d; simpa using this⟩
 ·simp at h1
  subst h1
  rw [if_pos rfl] at hm
  subst hm
  rw [show Tryd.prog.cellsOf 28 = 2 by kernel_rfl] at hel
  simp only [Prod.mk.injEq] at hx
  obtain ⟨hd, -⟩:=hx
  obtain ⟨L,hl1,hl2,hl3⟩:=build_list (α := Bool × List Nat) (Pp:=fun i e => ∃ q n c,W.cell? ((a'.add (i * 2)).add 0) = some (.bool e.1) ∧ W.cell? ((a'.add (i * 2)).add 1) = some (.slice q n c) ∧ Sl W q n c e.2 ∧ n + 1 ≤ Rows.uptoBulk (D i)) (g:=fun e => e.2.length + 1) (h:=fun i => Rows.uptoBulk (D i))
   (fun i e ⟨q,n,c,_,_,hs,hn⟩ => by rw [hs.len]; exact hn) len (fun i hi => by
    obtain ⟨cs',hc,ht⟩:=hel i (by omega)
    obtain ⟨b,q,n,c,xs,rfl,hs,hn⟩:=open_int_cells ht
    exact ⟨(b,xs),q,n,c,cells_get hc (i:=0) rfl (by omega),cells_get hc (i:=1) rfl (by omega),hs,hn⟩)
  have hbs:Rows.uptoBulk d = Rows.uptoBulk d:=rfl
  have hsum:(L.map fun e => e.2.length + 1).sum + 1 ≤ Rows.uptoBulk d:=by
   rw [hd]
   simp only [Rows.uptoBulk]
   rw [bulkAll_sum,List.map_map]
   have e:(Rows.uptoBulk ∘ D) = fun i => Rows.uptoBulk (D i):=rfl
   rw [e]
   omega
  have hlen:len ≤ (L.map fun e => e.2.length + 1).sum:=by
   rw [← hl1]
   clear hl1 hl2 hl3 hsum
   induction L with
   | nil => simp
   | cons x l ih => simp only [List.length_cons,List.map_cons,List.sum_cons]; omega
  refine ⟨some a',len,_,L,rfl,⟨hl1.symm,by omega,fun i e hi => ?_⟩,hsum⟩
  obtain ⟨q,n,c,h1,h2,hs,hn⟩:=hl2 i e hi
  obtain ⟨b,off,spot⟩:=a'
  have hspot:spot = none:=by
   have hil:=(List.getElem?_eq_some_iff.1 hi).1
   obtain ⟨_,_,_,h0,_⟩:=hl2 0 _ (List.getElem?_eq_getElem (show 0 < L.length by omega))
   have:=World.cell?_spot h0
   simpa [Addr.add] using this
  subst hspot
  rw [Addr.add_mid,Addr.add_mid] at h1 h2
  refine ⟨b,off,q,n,c,rfl,h1,h2,hs,?_⟩
  have hle:e.2.length + 1 ≤ (L.map fun e => e.2.length + 1).sum:=by
   have hmem:e ∈ L:=List.mem_of_getElem? hi
   clear hl1 hl2 hl3 hsum hlen hi
   induction L with
   | nil => cases hmem
   | cons x l ih =>
    simp only [List.map_cons,List.sum_cons]
    rcases List.mem_cons.1 hmem with rfl | hm
    ·omega
    ·have:=ih hm; omega
  have:=hs.len
  omega
theorem tsum_len (L:List (List (Bool × List Nat))):L.length ≤ (L.map fun e => e.length + 1).sum:=by
  induction L with
  | nil => simp
  | cons x l ih => simp only [List.length_cons,List.map_cons,List.sum_cons]; omega
theorem zsum_len (L:List (Bool × List Nat)):L.length ≤ (L.map fun e => e.2.length + 1).sum:=by
  induction L with
  | nil => simp
  | cons x l ih => simp only [List.length_cons,List.map_cons,List.sum_cons]; omega
theorem range_mem {h:Nat → Nat} {m i:Nat} (hi:i < m):h i ≤ ((List.range m).map h).sum:=by
 induction m with
 | zero => omega
 | succ m ih =>
  rw [List.range_succ]
  simp only [List.map_append,List.map_cons,List.map_nil,List.sum_append_nat,List.sum_cons,List.sum_nil]
  by_cases e:i = m
  ·subst e; omega
  ·have:=ih (by omega); omega
set_option maxRecDepth 100000 in
theorem open_ztab {H:Type} {enc:TypeId × Value → H} {W:World} {v:Value} {d:DataW H} {ps:List MemPlace} {base:Nat} (hok:Value.okWide Tryd.prog W .any base 36 v) (h:DataW.Trod enc Tryd.prog W 0 (fun _ => true) true 36 v d ps) (hbd:Rows.uptoBulk d ≤ 1048576) :
  ∃ p m c L,v = .slice p m c ∧ TRw W p m L 1048576 ∧ (L.map fun e => e.length + 1).sum + 1 ≤ Rows.uptoBulk d:=by
 obtain ⟨a,len,cap,rfl⟩:=okWide_slice Tryd.underlying36 hok
 obtain ⟨fuel,h⟩:=h
 rcases open_slice Tryd.underlying36 h with ⟨h1,h2⟩ | ⟨a',len',cap',m,n,D,Pl,h1,_,hlc,hcm,hm,hx,hel⟩
 ·simp [Value.cells] at h1
  obtain ⟨rfl,rfl,rfl⟩:=h1
  exact ⟨none,0,0,[],rfl,⟨rfl,by omega,fun i e h => by simp at h⟩,by have:=bulk_one d; simpa using this⟩
 ·simp [Value.cells] at h1
  obtain ⟨rfl,rfl,rfl⟩:=h1
  rw [if_pos rfl] at hm
  subst hm
  rw [show Tryd.prog.cellsOf 38 = 1 by kernel_rfl] at hel
  simp only [Prod.mk.injEq] at hx
  obtain ⟨hd, -⟩:=hx
  have hdb:((List.range len).map fun i => Rows.uptoBulk (D i)).sum + 1 ≤ Rows.uptoBulk d:=by
   rw [hd]
   simp only [Rows.uptoBulk]
   rw [bulkAll_sum,List.map_map]
   have e:(Rows.uptoBulk ∘ D) = fun i => Rows.uptoBulk (D i):=rfl
   rw [e]
   omega
  obtain ⟨L,hl1,hl2,hl3⟩:=build_list (α := List (Bool × List Nat)) (Pp:=fun i e => ∃ q c,W.cell? ((a'.add (i * 1)).add 0) = some (.slice q e.length c) ∧ ZL W q e.length e 1048576 ∧ e.length + 1 ≤ Rows.uptoBulk (D i)) (g:=fun e => e.length + 1) (h:=fun i => Rows.uptoBulk (D i))
   (fun i e ⟨q,c,_,hs,hn⟩ => hn) len (fun i hi => by
    obtain ⟨cs',hc,ht⟩:=hel i (by omega)
    have hcl:cs'.length = 1:=by obtain ⟨_,h2,_⟩:=World.cells?_some hc; exact h2
    match cs',hcl with
    | [v0],_ =>
     have hbi:Rows.uptoBulk (D i) ≤ 1048576:=by
      have h9:=range_mem (h:=fun i => Rows.uptoBulk (D i)) hi
      omega
     obtain ⟨q,n,c,xs,rfl,hs,hn⟩:=open_zints_cell ht hbi
     have h9:=zsum_len xs
     have h8:n = xs.length:=hs.1
     subst h8
     exact ⟨xs,q,c,cells_get hc (i:=0) rfl (by omega),hs,by simp only at hn; omega⟩)
  have hsum:(L.map fun e => e.length + 1).sum + 1 ≤ Rows.uptoBulk d:=by omega
  have hlen:=tsum_len L
  refine ⟨some a',len,_,L,rfl,⟨hl1,by omega,fun i e hi => ?_⟩,hsum⟩
  obtain ⟨q,c,h1,hs,hn⟩:=hl2 i e hi
  obtain ⟨b,off,spot⟩:=a'
  have hspot:spot = none:=by
   have hil:=(List.getElem?_eq_some_iff.1 hi).1
   obtain ⟨_,_,h0,_⟩:=hl2 0 _ (List.getElem?_eq_getElem (show 0 < L.length by omega))
   have:=World.cell?_spot h0
   simpa [Addr.add] using this
  subst hspot
  rw [Addr.add_mid,Addr.add_mid] at h1
  refine ⟨b,off,q,c,rfl,fun j v hj => ?_,hs⟩
  have h0:j = 0:=by have:=(List.getElem?_eq_some_iff.1 hj).1; simp at this; omega
  subst h0
  simp at hj
  subst hj
  exact h1
end Go.Proofs.YthnilcgmljecdaaDoor
/-
  A greater entry makes no lesser bound; a table of one's own.
-/
namespace Go.Proofs.YthnilcgmljecdaaDoor
open Go.RowKit
def szs:List Int → Int
  | [] => 0
  | x :: r => (x.natAbs:Int) + szs r
theorem foldl_abs:∀ (l:List Int) (a:Int),l.foldl absA a = a + szs l
  | [],a => by rw [szs,List.foldl_nil,Int.add_zero]
  | x :: r,a => by rw [szs,List.foldl_cons,foldl_abs r]; unfold absA; omega
theorem rsum_eq (L:List Int):rsum L = szs L:=by
  unfold rsum facc
  rw [List.take_of_length_le (Nat.le_refl _),foldl_abs,Int.zero_add]
theorem szs_set:∀ {L:List Int} {k:Nat} {y:Int},(L.getD k 0).natAbs ≤ y.natAbs → szs L ≤ szs (L.set k y)
 | [],_,_,_ => Int.le_refl _
 | x :: r,0,y,h => by
  have h1:x.natAbs ≤ y.natAbs:=h
  rw [List.set_cons_zero,szs,szs]; omega
 | x :: r,k + 1,y,h => by
  have h1:=szs_set (L:=r) (k:=k) (y:=y) h
  rw [List.set_cons_succ,szs,szs]; omega
theorem rsums_le {T:List (List Int)} {i k:Nat} {L:List Int} {y:Int} (hL:T[i]? = some L) (h:(L.getD k 0).natAbs ≤ y.natAbs) (j:Nat):(rsums T).getD j 0 ≤ (rsums (T.set i (L.set k y))).getD j 0:=by
 unfold rsums
 rw [List.getD,List.getD,List.getElem?_map,List.getElem?_map]
 by_cases e:j = i
 ·subst e
  rw [List.getElem?_set_self (List.getElem?_eq_some_iff.1 hL).1,hL]
  show rsum L ≤ rsum (L.set k y)
  rw [rsum_eq,rsum_eq]; exact szs_set h
 ·rw [List.getElem?_set_ne (fun h => e h.symm)]; exact Int.le_refl _
theorem esym_le {l m:List Int} (h0:∀ i,0 ≤ l.getD i 0) (h:∀ i,l.getD i 0 ≤ m.getD i 0):∀ i k,esym l i k ≤ esym m i k
 | 0,k => by rw [esym,esym]; exact Int.le_refl _
 | i + 1,k => by
  have h1:=esym_le h0 h i k
  rw [esym,esym]
  split
  ·omega
  ·have h2:=esym_le h0 h i (k - 1)
   have h3:=esym_nn h0 i (k - 1)
   have h4:esym l i (k - 1) * l.getD i 0 ≤ esym m i (k - 1) * m.getD i 0:=Int.mul_le_mul h2 (h i) (h0 i) (Int.le_trans h3 h2)
   omega
theorem coefs_le {T U:List (List Int)} (hl:T.length = U.length) (h:∀ j,(rsums T).getD j 0 ≤ (rsums U).getD j 0) (k:Nat):(coefs T).getD k 0 ≤ (coefs U).getD k 0:=by
  rw [coefs_get,coefs_get,hl]
  split
  · exact esym_le (rsums_nn T) h _ _
  · exact Int.le_refl _
theorem mxA_le {l m:List Int} (h0:∀ i,0 ≤ l.getD i 0) (h:∀ i,l.getD i 0 ≤ m.getD i 0):∀ i,mxA l i ≤ mxA m i
 | 0 => Int.le_refl _
 | i + 1 => by
  have h1:=mxA_le h0 h i
  have h2:=h i
  have h3:=h0 i
  rw [mxA,mxA]
  split <;> split <;> omega
theorem bound_grows {T:List (List Int)} {i k n:Nat} {L:List Int} {y:Int} (hL:T[i]? = some L) (h:(L.getD k 0).natAbs ≤ y.natAbs):mxA (coefs T) n ≤ mxA (coefs (T.set i (L.set k y))) n :=
  mxA_le (coefs_nn T) (coefs_le (List.length_set ..).symm (rsums_le hL h)) n
structure Ur where
  g:Nat
  m:Nat
  es:List El
def urE (u:Ur):El:=⟨[.slice (some ⟨u.g,0,none⟩) u.m u.m],[.lst 28 2 (some ⟨u.g,0,none⟩) u.m u.m u.es]⟩
def uuE (U:List Ur):List El:=U.map urE
theorem uu_snoc {U:List Ur} {g m:Nat} {es:List El}:uuE U ++ [(⟨[.slice (some ⟨g,0,none⟩) m m],[.lst 28 2 (some ⟨g,0,none⟩) m m es]⟩:El)] = uuE (U ++ [⟨g,m,es⟩]):=by simp [uuE,urE]
theorem uuE_len (U:List Ur):(uuE U).length = U.length:=List.length_map _
theorem uuE_get {U:List Ur} {i:Nat} {u:Ur} (h:U[i]? = some u):(uuE U)[i]? = some (urE u):=by simp [uuE,h]
theorem els_uuE (U:List Ur):Els 1 (uuE U):=fun el hel => by
  obtain ⟨u,_,rfl⟩:=List.mem_map.1 hel
  exact ⟨rfl,rfl,fun r hr => by rw [List.mem_singleton.1 hr]; exact ⟨rfl,rfl⟩⟩
def urR (u:Ur):Res:=.lst 28 2 (some ⟨u.g,0,none⟩) u.m u.m u.es
def urV (u:Ur):Value:=.slice (some ⟨u.g,0,none⟩) u.m u.m
theorem flatR_uuE (U:List Ur):flatR (uuE U) = U.map urR:=by
  induction U with
  | nil => rfl
  | cons u U ih => unfold flatR uuE at ih ⊢; rw [List.map_cons,List.flatMap_cons,List.map_cons,ih]; rfl
theorem flatC_uuE (U:List Ur):flatC (uuE U) = U.map urV:=by
  induction U with
  | nil => rfl
  | cons u U ih => unfold flatC uuE at ih ⊢; rw [List.map_cons,List.flatMap_cons,List.map_cons,ih]; rfl
theorem perm_erase {α : Type}:∀ {l:List α} {i:Nat} {a : α},l[i]? = some a → l.Perm (a :: l.eraseIdx i)
 | [],_,_,h => by simp at h
 | x :: l,0,a,h => by simp at h; subst h; exact List.Perm.refl _
 | x :: l,i + 1,a,h => by
  have h1:=perm_erase (l:=l) (i:=i) (a:=a) (by simpa using h)
  rw [List.eraseIdx_cons_succ]
  exact (h1.cons x).trans (List.Perm.swap _ _ _)
theorem erase_set {α : Type}:∀ (l:List α) (i:Nat) (a : α),(l.set i a).eraseIdx i = l.eraseIdx i
  | [],_,_ => rfl
  | x :: l,0,a => rfl
  | x :: l,i + 1,a => by rw [List.set_cons_succ,List.eraseIdx_cons_succ,List.eraseIdx_cons_succ,erase_set l i a]
theorem Sep.uOpen {w0 w:World} {R:List Res} {t:TypeId} {p:Option Addr} {n c i:Nat} {U:List Ur} {u:Ur} (h:Sep w0 (.lst t 1 p n c (uuE U) :: R) w) (hu:U[i]? = some u) :
  Sep w0 (.lst 28 2 (some ⟨u.g,0,none⟩) u.m u.m u.es :: .own' t 1 p n c (U.map urV) :: .pack ((U.eraseIdx i).map urR) :: R) w:=by
 obtain ⟨_,_,h1⟩:=h.openL
 rw [flatR_uuE,flatC_uuE] at h1
 have h2:((Res.own' t 1 p n c (U.map urV)) :: (U.map urR ++ R)).Perm ((U.eraseIdx i).map urR ++ (urR u :: .own' t 1 p n c (U.map urV) :: R)):=by
  have h3:(U.map urR).Perm (urR u :: (U.eraseIdx i).map urR):=by
   have:=(perm_erase hu).map urR
   simpa using this
  refine (List.Perm.cons _ (h3.append_right R)).trans ?_
  refine (List.Perm.swap _ _ _).trans ?_
  refine List.Perm.trans (List.Perm.cons _ ?_) List.perm_middle.symm
  exact List.perm_middle.symm
 have h4:=Sep.pack ((U.eraseIdx i).map urR) (by
  refine List.all_eq_true.2 fun r hr => ?_
  obtain ⟨u',_,rfl⟩:=List.mem_map.1 hr
  rfl) (h1.perm h2)
 exact h4.perm ((List.Perm.swap _ _ _).trans (List.Perm.cons _ (List.Perm.swap _ _ _)))
theorem Sep.uClose {w0 w:World} {R:List Res} {t:TypeId} {p:Option Addr} {n c i:Nat} {U:List Ur} {u:Ur} {es:List El} (hu:U[i]? = some u) (hn:U.length = n)
  (h:Sep w0 (.lst 28 2 (some ⟨u.g,0,none⟩) u.m u.m es :: .own' t 1 p n c (U.map urV) :: .pack ((U.eraseIdx i).map urR) :: R) w) :
  Sep w0 (.lst t 1 p n c (uuE (U.set i ⟨u.g,u.m,es⟩)) :: R) w:=by
 have hi:=(List.getElem?_eq_some_iff.1 hu).1
 have h0:Sep w0 (.pack ((U.eraseIdx i).map urR) :: .lst 28 2 (some ⟨u.g,0,none⟩) u.m u.m es :: .own' t 1 p n c (U.map urV) :: R) w:=h.perm (List.Perm.symm ((List.Perm.swap _ _ _).trans (List.Perm.cons _ (List.Perm.swap _ _ _))))
 have h1:=h0.unpack
 refine Sep.closeL (els_uuE _) (by rw [uuE_len,List.length_set,hn]) ?_
 have hV:(U.set i ⟨u.g,u.m,es⟩).map urV = U.map urV:=by
  rw [List.map_set]
  apply List.ext_getElem?
  intro j
  by_cases e:j = i
  ·subst e
   rw [List.getElem?_set_self (by rw [List.length_map]; exact hi),List.getElem?_map,hu]; rfl
  ·rw [List.getElem?_set_ne (fun h => e h.symm)]
 rw [flatR_uuE,flatC_uuE,hV]
 refine h1.perm ?_
 have h3:((U.set i ⟨u.g,u.m,es⟩).map urR).Perm (urR ⟨u.g,u.m,es⟩ :: (U.eraseIdx i).map urR):=by
  have:=(perm_erase (l:=U.set i ⟨u.g,u.m,es⟩) (i:=i) (a:=⟨u.g,u.m,es⟩) (List.getElem?_set_self hi)).map urR
  rw [erase_set] at this
  simpa using this
 refine List.Perm.trans ?_ (List.Perm.cons _ (h3.append_right R)).symm
 refine List.Perm.trans ?_ (List.Perm.swap _ _ _)
 refine List.Perm.trans List.perm_middle (List.Perm.cons _ ?_)
 exact List.perm_middle
theorem Sep.ownAt {w0 w:World} {R:List Res} (hS:Sep w0 R w) (k:Nat) {t:TypeId} {p:Option Addr} {g m c sz:Nat} {cs:List Value} (hk:R[k]? = some (.own' t sz p m c cs)) (hp:p = some ⟨g,0,none⟩) (j:Nat) (v:Value) (hv:cs[j]? = some v):w.cell? ⟨g,0 + j,none⟩ = some v:=by
  subst hp
  have hown:w.ownsRow 0 t sz (.slice (some ⟨g,0,none⟩) m c) m cs:=hS.get k hk
  have h1:=hown.cells (g:=g) rfl j v hv
  rwa [Addr.add_mid] at h1
def URs (U:List Ur) (RT:List (List (Bool × List Nat))):Prop:=U.length = RT.length ∧ ∀ (j:Nat) (u:Ur) (L:List (Bool × List Nat)),U[j]? = some u → RT[j]? = some L → u.m = L.length ∧ ZEls L L.length u.es
theorem Sep.uTB {w0 w:World} {R:List Res} (hS:Sep w0 R w) (k:Nat) {t:TypeId} {p:Option Addr} {n c K:Nat} {U:List Ur} {RT:List (List (Bool × List Nat))} (hk:R[k]? = some (.lst t 1 p n c (uuE U))) (hU:URs U RT) (hn:n ≤ 1048576) (hm:∀ L ∈ RT,L.length ≤ 1048576) (hK:∀ L ∈ RT, ∀ e ∈ L,e.2.length ≤ K):TB w p n (tvr RT) K:=by
 have hl:=hS.lstLen k hk
 rw [uuE_len,hU.1] at hl
 refine ⟨by unfold tvr; rw [List.length_map]; exact hl,hn,fun i L hL => ?_⟩
 unfold tvr at hL
 rw [List.getElem?_map] at hL
 obtain ⟨L0,h0,rfl⟩:=Option.map_eq_some_iff.1 hL
 obtain ⟨u,hu⟩:∃ u,U[i]? = some u:=⟨_,List.getElem?_eq_getElem (by have:=(List.getElem?_eq_some_iff.1 h0).1; have:=hU.1; omega)⟩
 obtain ⟨hum,hue⟩:=hU.2 i u L0 hu h0
 obtain ⟨g,e1,e2,e3⟩:=hS.lstCell k hk (uuE_get hu) (by decide)
 have hh:(urR u).holds w:=e3 _ List.mem_cons_self
 have hmem:=List.mem_of_getElem? h0
 have hS2:Sep w [] w:=Sep.init w
 refine ⟨g,0,some ⟨u.g,0,none⟩,u.m,e1,fun j v hj => ?_,?_⟩
 ·rw [List.length_map, ← hum] at hj
  exact e2 j v hj
 ·obtain ⟨h1,h2,h3,h4⟩:=hh
  have hz:ZL w (some ⟨u.g,0,none⟩) L0.length L0 K:=by
   refine ⟨rfl,hm L0 hmem,fun j e he => ?_⟩
   have hjl:=(List.getElem?_eq_some_iff.1 he).1
   obtain ⟨q,n9,c9,hq⟩:=hue j e hjl he
   have hown:w.ownsRow 0 28 2 (.slice (some ⟨u.g,0,none⟩) u.m u.m) u.m (flatC u.es):=h3 _ List.mem_cons_self
   have hcell:∀ (x:Nat) (v:Value),(elZ e.1 q n9 c9 e.2).cs[x]? = some v → w.cell? ⟨u.g,0 + j * 2 + x,none⟩ = some v:=fun x v hx => by
    have hx2:x < 2:=(List.getElem?_eq_some_iff.1 hx).1
    have hc:=h1.cell hq x hx2
    rw [hx] at hc
    have:=hown.cells (g:=u.g) rfl (j * 2 + x) v hc
    rw [Addr.add_mid] at this
    rwa [← Nat.add_assoc] at this
   have hr:(Res.rowm q n9 c9 e.2).holds w:=h3 _ (List.mem_cons_of_mem _ (List.mem_flatMap.2 ⟨_,List.mem_of_getElem? hq,List.mem_cons_self⟩))
   have hf:Fr 0 w q n9 c9 e.2:=hr
   have hc0:=hcell 0 _ rfl
   have hc1:=hcell 1 _ rfl
   refine ⟨u.g,0,q,n9,c9,rfl,hc0,hc1,hf.sl,?_⟩
   rw [← hf.len]; exact hK L0 hmem e (List.mem_of_getElem? he)
  rw [List.length_map]
  exact hz.zs
end Go.Proofs.YthnilcgmljecdaaDoor
/-
  The law of growing bounds: lemmas.
-/
namespace Go.Proofs.YthnilcgmljecdaaDoor
open Go.RowKit
section
variable {P:Program} {o:Oper} {n:Nat} {f:Nat → Value} {w w0:World} {R:List Res} {K:Act → World → Prop} {Q:Exit → Act → World → Prop} {d:Nat}
theorem oindexU {t e:TypeId} {x i:Operand} {p:Option Addr} {g off m c k sz j:Nat} (hop:o.op = .indexAddr t x i) (ho:o.dst = some d) (ht:∀ w,(underlying t).run P w = .ok (.slice e) w) (hs:∀ w,(sizeOf e).run P w = .ok sz w)
  (hx:(act n f).eval x = .slice p m c) (hp:p = some ⟨g,off,none⟩) (hi:(act n f).eval i = .int .u32 (k:Int)) (hk:k < m) (hj:off + k * sz = j)
  (hK:K (act n (upd f d (.pointer (some ⟨g,j,none⟩)))) w):OW P o (act n f) w K Q:=by
 subst hp; subst hj
 refine oval ho ?_ rfl hK
 have e:(⟨g,off,none⟩:Addr).add (k * sz) = ⟨g,off + k * sz,none⟩:=Addr.add_mid _ _ _
 have h1:(0:Int) ≤ (k:Int) ∧ (k:Int) < (m:Int):=by omega
 simp [execOp,hop,hx,hi,Instr.indexAt,asIntOf,ht,hs,h1,e,hk]
end
theorem infoZRow:(Tryd.prog.info? 38).map (fun i => (i.zero,i.size,i.bytes)) = some (some (.slice none 0 0),1,24):=by kernel_rfl
theorem wrap_nat32 {x:Nat} (h:x < 4294967296):IntKind.u32.wrap (x:Int) = (x:Int):=wrap_u32 (by omega) (by omega)
theorem Sep.elzZr {w0 w:World} {R:List Res} (hS:Sep w0 R w) (k:Nat) {t:TypeId} {p q:Option Addr} {m c n cc i K:Nat} {b:Bool} {xs:List Nat} {es:List El} (hk:R[k]? = some (.lst t 2 p m c es)) (hq:es[i]? = some (elZ b q n cc xs)) (hK:xs.length ≤ K):Zr w b q n cc (zvr (b,xs)) K:=by
  obtain ⟨g,h1,h2,h3⟩:=hS.lstCell k hk hq (by decide)
  have hf:Fr 0 w q n cc xs:=h3 _ List.mem_cons_self
  exact ⟨xs,hf.sl,rfl,by rw [← hf.len]; exact hK⟩
theorem urs_snoc {U:List Ur} {RT:List (List (Bool × List Nat))} {j g:Nat} {L:List (Bool × List Nat)} {es:List El} (hU:URs U (RT.take j)) (hL:RT[j]? = some L) (he:ZEls L L.length es):URs (U ++ [⟨g,L.length,es⟩]) (RT.take (j + 1)):=by
 have hj:=(List.getElem?_eq_some_iff.1 hL).1
 have hl:U.length = j:=by rw [hU.1,List.length_take]; omega
 have ht:RT.take (j + 1) = RT.take j ++ [L]:=by rw [List.take_add_one,hL]; rfl
 refine ⟨by rw [ht,List.length_append,List.length_append,hU.1]; rfl,fun i u M hu hM => ?_⟩
 rw [ht] at hM
 by_cases e:i < j
 ·rw [List.getElem?_append_left (by omega)] at hu
  rw [List.getElem?_append_left (by rw [List.length_take]; omega)] at hM
  exact hU.2 i u M hu hM
 ·have h1:=(List.getElem?_eq_some_iff.1 hu).1
  rw [List.length_append,hl] at h1
  obtain rfl:i = j:=by simp at h1; omega
  rw [List.getElem?_append_right (by omega),hl,Nat.sub_self] at hu
  rw [List.getElem?_append_right (by rw [List.length_take]; omega),List.length_take,Nat.min_eq_left (by omega),Nat.sub_self] at hM
  simp at hu hM
  subst hu; subst hM
  exact ⟨rfl,he⟩
theorem zels_set {L:List (Bool × List Nat)} {es:List El} {k n c:Nat} {b:Bool} {q:Option Addr} {xs:List Nat} (h:ZEls L L.length es) (hk:k < es.length):ZEls (L.set k (b,xs)) (L.set k (b,xs)).length (es.set k (elZ b q n c xs)):=by
 intro j e hj he
 by_cases e0:j = k
 ·subst e0
  rw [List.length_set] at hj
  rw [List.getElem?_set_self hj] at he
  obtain rfl:=Option.some.inj he
  exact ⟨q,n,c,by rw [List.getElem?_set_self hk]⟩
 ·rw [List.getElem?_set_ne (fun h => e0 h.symm)] at he
  rw [List.length_set] at hj
  obtain ⟨q',n',c',h'⟩:=h j e hj he
  exact ⟨q',n',c',by rw [List.getElem?_set_ne (fun h => e0 h.symm)]; exact h'⟩
theorem urs_set {U:List Ur} {RT:List (List (Bool × List Nat))} {i k n c:Nat} {u:Ur} {L:List (Bool × List Nat)} {b:Bool} {q:Option Addr} {xs:List Nat} (hU:URs U RT) (hu:U[i]? = some u) (hL:RT[i]? = some L) (hk:k < u.es.length):URs (U.set i ⟨u.g,u.m,u.es.set k (elZ b q n c xs)⟩) (RT.set i (L.set k (b,xs))):=by
 obtain ⟨h1,h2⟩:=hU.2 i u L hu hL
 refine ⟨by rw [List.length_set,List.length_set,hU.1],fun j u' M hu' hM => ?_⟩
 by_cases e:j = i
 ·subst e
  rw [List.getElem?_set_self (List.getElem?_eq_some_iff.1 hu).1] at hu'
  rw [List.getElem?_set_self (List.getElem?_eq_some_iff.1 hL).1] at hM
  obtain rfl:=Option.some.inj hu'
  obtain rfl:=Option.some.inj hM
  exact ⟨by rw [List.length_set]; exact h1,zels_set h2 hk⟩
 ·rw [List.getElem?_set_ne (fun h => e h.symm)] at hu' hM
  exact hU.2 j u' M hu' hM
theorem tvr_set {RT:List (List (Bool × List Nat))} {i k:Nat} {L:List (Bool × List Nat)} {y:Int}:tvr (RT.set i (L.set k (ng y,lim y.natAbs))) = (tvr RT).set i ((L.map zvr).set k y):=by
  unfold tvr
  rw [List.map_set,List.map_set,zvr_ng]
theorem tvr_get {RT:List (List (Bool × List Nat))} {i:Nat} {L:List (Bool × List Nat)} (h:RT[i]? = some L):(tvr RT)[i]? = some (L.map zvr):=by unfold tvr; rw [List.getElem?_map,h]; rfl
theorem more_abs {e:Bool × List Nat} {m:Nat} {zn y:Int} (hn:Hid (zv e.1 (val [m]) = zn)) (hy:Hid (zvr e + zn = y)):(zvr e).natAbs ≤ y.natAbs:=by
  rw [← hy.out, ← hn.out]
  unfold zvr zv
  cases e.1 <;> simp <;> omega
theorem TRw.bd {w:World} {p:Option Addr} {n K:Nat} {RT:List (List (Bool × List Nat))} (h:TRw w p n RT K):(∀ L ∈ RT,L.length ≤ 1048576) ∧ ∀ L ∈ RT, ∀ e ∈ L,e.2.length ≤ K:=by
  constructor <;> intro L hL <;> obtain ⟨i,hi⟩:=List.mem_iff_getElem?.1 hL <;> obtain ⟨b,off,q,c,hp,hc,hs⟩:=h.2.2 i L hi
  · exact hs.2.1
  · exact hs.bd
theorem mem_set {α : Type} {l:List α} {i:Nat} {a x : α} (h:x ∈ l.set i a):x ∈ l ∨ x = a:=List.mem_or_eq_of_mem_set h
theorem tset_bd {RT:List (List (Bool × List Nat))} {i k K K2:Nat} {L:List (Bool × List Nat)} {b:Bool} {xs:List Nat} (h1:∀ L ∈ RT,L.length ≤ 1048576) (h2:∀ L ∈ RT, ∀ e ∈ L,e.2.length ≤ K) (hL:RT[i]? = some L) (hx:xs.length ≤ K2) (hK:K ≤ K2):(∀ M ∈ RT.set i (L.set k (b,xs)),M.length ≤ 1048576) ∧ ∀ M ∈ RT.set i (L.set k (b,xs)), ∀ e ∈ M,e.2.length ≤ K2:=by
 have hm:=List.mem_of_getElem? hL
 constructor
 ·intro M hM
  rcases mem_set hM with h | rfl
  ·exact h1 M h
  ·rw [List.length_set]; exact h1 L hm
 ·intro M hM e he
  rcases mem_set hM with h | rfl
  ·exact Nat.le_trans (h2 M h e he) hK
  ·rcases mem_set he with h | rfl
   ·exact Nat.le_trans (h2 L hm e h) hK
   ·exact hx
theorem tset_rows {T:List (List Int)} {i k n:Nat} {L:List Int} {y:Int} (hL:T[i]? = some L) (h:∀ M ∈ T,M.length = n):∀ M ∈ T.set i (L.set k y),M.length = n:=fun M hM => by
  rcases mem_set hM with h1 | rfl
  · exact h M h1
  · rw [List.length_set]; exact h L (List.mem_of_getElem? hL)
end Go.Proofs.YthnilcgmljecdaaDoor
