/-
  Contracts and lemmas, joined in one text.
-/
import Derived.Test.YtnlnibngpeempaaGreatDoorOP
import Derived.Test.YtnlnibngpeempaaGreatDoorB4
set_option linter.unusedVariables false
set_option linter.unusedSimpArgs false
/-
  A greater entry makes no lesser bound; a table of one's own.
-/
namespace Go.Proofs.YtnlnibngpeempaaGreatDoor
open Go.RowKit
def szs:List Int → Int
  | [] => 0
  | x :: r => (x.natAbs:Int) + szs r
structure Ur where
  g:Nat
  m:Nat
  es:List El
def urE (u:Ur):El:=⟨[.slice (some ⟨u.g,0,none⟩) u.m u.m],[.lst 28 2 (some ⟨u.g,0,none⟩) u.m u.m u.es]⟩
def uuE (U:List Ur):List El:=U.map urE
theorem uu_snoc {U:List Ur} {g m:Nat} {es:List El}:uuE U ++ [(⟨[.slice (some ⟨g,0,none⟩) m m],[.lst 28 2 (some ⟨g,0,none⟩) m m es]⟩:El)] = uuE (U ++ [⟨g,m,es⟩]):=by simp [uuE,urE]
theorem uuE_len (U:List Ur):(uuE U).length = U.length:=List.length_map _
theorem uuE_get {U:List Ur} {i:Nat} {u:Ur} (h:U[i]? = some u):(uuE U)[i]? = some (urE u):=by simp [uuE,h]
def urR (u:Ur):Res:=.lst 28 2 (some ⟨u.g,0,none⟩) u.m u.m u.es
def urV (u:Ur):Value:=.slice (some ⟨u.g,0,none⟩) u.m u.m
def URs (U:List Ur) (RT:List (List (Bool × List Nat))):Prop:=U.length = RT.length ∧ ∀ (j:Nat) (u:Ur) (L:List (Bool × List Nat)),U[j]? = some u → RT[j]? = some L → u.m = L.length ∧ ZEls L L.length u.es
theorem Sep.uTB {w0 w:World} {R:List Res} (hS:Sep w0 R w) (k:Nat) {t:TypeId} {p:Option Addr} {n c K:Nat} {U:List Ur} {RT:List (List (Bool × List Nat))} (hk:R[k]? = some (.lst t 1 p n c (uuE U))) (hU:URs U RT) (hn:n ≤ 1048576) (hm:∀ L ∈ RT,L.length ≤ 1048576) (hK:∀ L ∈ RT, ∀ e ∈ L,e.2.length ≤ K):TB w p n (tvr RT) K:=by
 have hl:=hS.lstLen k hk
 rw [uuE_len,hU.1] at hl
 refine ⟨by unfold tvr; rw [List.length_map]; exact hl,hn,fun i L hL => ?_⟩
 unfold tvr at hL
 rw [List.getElem?_map] at hL
 obtain ⟨L0,h0,rfl⟩:=Option.map_eq_some_iff.1 hL
 obtain ⟨u,hu⟩:∃ u,U[i]? = some u:=⟨_,List.getElem?_eq_getElem (by have:=(List.getElem?_eq_some_iff.1 h0).1; have:=hU.1; omega)⟩
 obtain ⟨hum,hue⟩:=hU.2 i u L0 hu h0
 obtain ⟨g,e1,e2,e3⟩:=hS.lstCell k hk (uuE_get hu) (by decide)
 have hh:(urR u).holds w:=e3 _ List.mem_cons_self
 have hmem:=List.mem_of_getElem? h0
 have hS2:Sep w [] w:=Sep.init w
 refine ⟨g,0,some ⟨u.g,0,none⟩,u.m,e1,fun j v hj => ?_,?_⟩
 ·rw [List.length_map, ← hum] at hj
  exact e2 j v hj
 obtain ⟨h1,h2,h3,h4⟩:=hh
 have hz:ZL w (some ⟨u.g,0,none⟩) L0.length L0 K:=by
  refine ⟨rfl,hm L0 hmem,fun j e he => ?_⟩
  have hjl:=(List.getElem?_eq_some_iff.1 he).1
  obtain ⟨q,n9,c9,hq⟩:=hue j e hjl he
  have hown:w.ownsRow 0 28 2 (.slice (some ⟨u.g,0,none⟩) u.m u.m) u.m (flatC u.es):=h3 _ List.mem_cons_self
  have hcell:∀ (x:Nat) (v:Value),(elZ e.1 q n9 c9 e.2).cs[x]? = some v → w.cell? ⟨u.g,0 + j * 2 + x,none⟩ = some v:=fun x v hx => by
   have hx2:x < 2:=(List.getElem?_eq_some_iff.1 hx).1
   have hc:=h1.cell hq x hx2
   rw [hx] at hc
   have:=hown.cells (g:=u.g) rfl (j * 2 + x) v hc
   rw [Addr.add_mid] at this
   rwa [← Nat.add_assoc] at this
  have hr:(Res.rowm q n9 c9 e.2).holds w:=h3 _ (List.mem_cons_of_mem _ (List.mem_flatMap.2 ⟨_,List.mem_of_getElem? hq,List.mem_cons_self⟩))
  have hf:Fr 0 w q n9 c9 e.2:=hr
  have hc0:=hcell 0 _ rfl
  have hc1:=hcell 1 _ rfl
  refine ⟨u.g,0,q,n9,c9,rfl,hc0,hc1,hf.sl,?_⟩
  rw [← hf.len]; exact hK L0 hmem e (List.mem_of_getElem? he)
 rw [List.length_map]
 exact hz.zs
open Go.RowKit
section
variable {P:Program} {o:Oper} {n:Nat} {f:Nat → Value} {w w0:World} {R:List Res} {K:Act → World → Prop} {Q:Exit → Act → World → Prop} {d:Nat}
end
theorem urs_snoc {U:List Ur} {RT:List (List (Bool × List Nat))} {j g:Nat} {L:List (Bool × List Nat)} {es:List El} (hU:URs U (RT.take j)) (hL:RT[j]? = some L) (he:ZEls L L.length es):URs (U ++ [⟨g,L.length,es⟩]) (RT.take (j + 1)):=by
 have hj:=(List.getElem?_eq_some_iff.1 hL).1
 have hl:U.length = j:=by rw [hU.1,List.length_take]; omega
 have ht:RT.take (j + 1) = RT.take j ++ [L]:=by rw [List.take_add_one,hL]; rfl
 refine ⟨by rw [ht,List.length_append,List.length_append,hU.1]; rfl,fun i u M hu hM => ?_⟩
 rw [ht] at hM
 by_cases e:i < j
 ·rw [List.getElem?_append_left (by omega)] at hu
  rw [List.getElem?_append_left (by rw [List.length_take]; omega)] at hM
  exact hU.2 i u M hu hM
 have h1:=(List.getElem?_eq_some_iff.1 hu).1
 rw [List.length_append,hl] at h1
 obtain rfl:i = j:=by simp at h1; omega
 rw [List.getElem?_append_right (by omega),hl,Nat.sub_self] at hu
 rw [List.getElem?_append_right (by rw [List.length_take]; omega),List.length_take,Nat.min_eq_left (by omega),Nat.sub_self] at hM
 simp at hu hM
 subst hu; subst hM
 exact ⟨rfl,he⟩
theorem TRw.bd {w:World} {p:Option Addr} {n K:Nat} {RT:List (List (Bool × List Nat))} (h:TRw w p n RT K):(∀ L ∈ RT,L.length ≤ 1048576) ∧ ∀ L ∈ RT, ∀ e ∈ L,e.2.length ≤ K:=by
  constructor <;> intro L hL <;> obtain ⟨i,hi⟩:=List.mem_iff_getElem?.1 hL <;> obtain ⟨b,off,q,c,hp,hc,hs⟩:=h.2.2 i L hi
  · exact hs.2.1
  exact hs.bd
end Go.Proofs.YtnlnibngpeempaaGreatDoor
