/-
  Contracts and lemmas, joined in one text.
-/
import Derived.Test.YtnlnibngpeempaaGreatDoorWA
import Derived.RangeFuncLeaves
import Derived.RangeFuncSeq
import Derived.RangeFuncCalls
import Derived.RangeFuncRecord
import Derived.TacticsIn
set_option linter.unusedVariables false
set_option linter.unusedSimpArgs false
/-
  A region that draws its order,where one that may come late waits for another that may.
-/
namespace Go.Proofs.YtnlnibngpeempaaGreatDoor
open Go.RowKit
def stageP (ops:Array Oper) (ds:List Nat) (nd sr:List (List Nat)) (pu:List Nat) (m:Nat):Bool :=
 ds.length == m && Nat.ble m ops.size && decide ds.Nodup &&
 ((List.range m).all fun i => match ops[i]? with
  | some o => o.dst == ds[i]? && ((nd.getD i []).all fun k => (needs o).contains k || (needs o).any fun j => (nd.getD j []).contains k) && decide (nd.getD i []).Nodup && ((sr.getD i []).all fun j => (nd.getD i []).contains j && Nat.blt j i) && ((nd.getD i []).all fun j => Nat.blt j i) && (needs o).all fun j => Nat.blt j i
  | none => false) &&
 ((List.range ops.size).all fun j => Nat.blt j m || match ops[j]? with
  | some o => ((needs o).any fun k => Nat.ble m k) || (List.range m).all fun i => pu.contains i || (needs o).contains i || (needs o).any fun j => (nd.getD j []).contains i
  | none => true) &&
 (pu.all fun i => match ops[i]? with
  | some o => (List.range ops.size).all fun j => j == i || (Nat.blt j m && !pu.contains j) || match ops[j]? with
   | some oj => (needs oj).contains i || (needs o).contains j || o.apart ops oj
   | none => true
  | none => true)
section
variable {P:Program} {ops:Array Oper} {n:Nat} {w0:World} {Q:Exit → Act → World → Prop}
theorem wstageP_go {f:Nat → Value} {R0:List Res} {m:Nat} {ds:List Nat} {nd sr:List (List Nat)} {pu:List Nat} {Bl:List (Nat × List Value × TypeId)} {T:Nat → List Value → Tell} (hsel:Region.noSelect ops = true) (hQ:∀ (d:Option Tmp) v c a w,Q (.panic c) (a.put d v) w → Q (.panic c) a w) (hpure:∀ i o,pu.contains i = true → i < m → ops[i]? = some o → PureOk P ops n f ds nd sr Bl T i o) (hst:stageP ops ds nd sr pu m = true)
  (hstep:∀ i o,i < m → ops[i]? = some o → StepOk P ops n f ds nd sr Bl T w0 R0 i o)
  (hend:∀ (vs:Nat → Value) (ρ : Nat → List Res) (w':World) (f':Nat → Value),f' = layf vs ds 0 f → (∀ i,i < m → T i ((sr.getD i []).map fun l => vs l) (vs i) (ρ i)) → Sep w0 (pool (fun _ => true) ρ m ++ R0) w' → Late P ops Q Bl m (act n f') w') :
  ∀ (todo fuel:Nat) (listed:Array Bool) (f':Nat → Value) (w':World) (ρ : Nat → List Res),listed.size = ops.size → ((List.range m).countP fun i => !Up listed i) = todo → ops.size + todo ≤ fuel + m → (∀ i,m ≤ i → Up listed i = false) →
   (∀ i,Up listed i = true → ∀ o,ops[i]? = some o → ∀ j ∈ needs o,Up listed j = true) → (∀ d,ds.contains d = false → f' d = f d) → (∀ i d,i < m → Up listed i = true → ds[i]? = some d → T i ((sr.getD i []).map fun l => f' (ds.getD l 0)) (f' d) (ρ i)) → Sep w0 (pool (Up listed) ρ m ++ R0) w' → HeldS Bl w' →
   wpAnyH P .any ops Q (HeldS Bl) fuel listed (act n f') w':=by
 have h6:∀ i ∈ pu, ∀ o,ops[i]? = some o → ∀ j oj,ops[j]? = some oj → j ≠ i → (m ≤ j ∨ j ∈ pu) → (i ∈ needs oj ∨ j ∈ needs o) ∨ o.apart ops oj = true:=by
  unfold stageP at hst
  simp only [Bool.and_eq_true] at hst
  intro i hi o ho j oj hoj hji hj
  have h:=List.all_eq_true.1 hst.2 i hi
  rw [ho] at h
  have h':=List.all_eq_true.1 h j (List.mem_range.2 (Array.getElem?_eq_some_iff.1 hoj).1)
  rw [hoj] at h'
  simp only [Bool.or_eq_true,Bool.and_eq_true] at h'
  rcases h' with (h' | h') | h'
  ·exact absurd (by simpa using h') hji
  ·exfalso
   rw [Nat.blt_eq] at h'
   rcases hj with hj | hj
   ·omega
   have:=h'.2; simp at this; exact this hj
  exact h'.imp (fun h => h.imp (fun h => by simpa using h) (fun h => by simpa using h)) id
 obtain ⟨⟨⟨⟨h1,h2⟩,h3⟩,h4⟩,h5⟩:(((ds.length = m ∧ m ≤ ops.size) ∧ ds.Nodup) ∧ (∀ i,i < m → ∃ o,ops[i]? = some o ∧ o.dst = ds[i]? ∧ (∀ k ∈ nd.getD i [],k ∈ needs o ∨ ∃ j ∈ needs o,k ∈ nd.getD j []) ∧ (nd.getD i []).Nodup ∧ (∀ j ∈ sr.getD i [],j ∈ nd.getD i [] ∧ j < i) ∧ (∀ j ∈ nd.getD i [],j < i) ∧ ∀ j ∈ needs o,j < i)) ∧ (∀ j,m ≤ j → ∀ o,ops[j]? = some o → (∃ k ∈ needs o,m ≤ k) ∨ ∀ i,i < m → pu.contains i = true ∨ i ∈ needs o ∨ ∃ j ∈ needs o,i ∈ nd.getD j []):=by
  unfold stageP at hst
  simp only [Bool.and_eq_true] at hst
  obtain ⟨⟨⟨⟨⟨h1,h2⟩,h3⟩,h4⟩,h5⟩,_⟩:=hst
  refine ⟨⟨⟨⟨by simpa using h1,Nat.le_of_ble_eq_true h2⟩,of_decide_eq_true h3⟩,fun i hi => ?_⟩,fun j hj o ho => ?_⟩
  ·have h:=List.all_eq_true.1 h4 i (List.mem_range.2 hi)
   cases ho:ops[i]? with
   | none => rw [ho] at h; cases h
   | some o =>
    rw [ho] at h
    simp only [Bool.and_eq_true] at h
    obtain ⟨⟨⟨⟨⟨a1,a2⟩,a3⟩,a4⟩,a5⟩,a6⟩:=h
    refine ⟨o,rfl,by simpa using a1,fun j hj => by simpa using List.all_eq_true.1 a2 j hj,of_decide_eq_true a3,fun j hj => ?_,fun j hj => ?_,fun j hj => ?_⟩
    ·have:=List.all_eq_true.1 a4 j hj
     rw [Bool.and_eq_true,Nat.blt_eq] at this
     exact ⟨by simpa using this.1,this.2⟩
    ·have:=List.all_eq_true.1 a5 j hj
     rw [Nat.blt_eq] at this
     exact this
    have:=List.all_eq_true.1 a6 j hj
    rw [Nat.blt_eq] at this
    exact this
  have h:=List.all_eq_true.1 h5 j (List.mem_range.2 (Array.getElem?_eq_some_iff.1 ho).1)
  have hb:Nat.blt j m = false:=by
   cases e:Nat.blt j m with
   | false => rfl
   | true => rw [Nat.blt_eq] at e; omega
  rw [hb,Bool.false_or,ho] at h
  rcases Bool.or_eq_true_iff.1 h with h | h
  ·obtain ⟨k,hk,hle⟩:=List.any_eq_true.1 h
   exact .inl ⟨k,hk,Nat.le_of_ble_eq_true hle⟩
  refine .inr fun i hi => ?_
  have h9:=List.all_eq_true.1 h i (List.mem_range.2 hi)
  simp only [Bool.or_eq_true] at h9
  rcases h9 with (h9 | h9) | h9
  ·exact .inl h9
  ·exact .inr (.inl (by simpa using h9))
  obtain ⟨j,hj,h10⟩:=List.any_eq_true.1 h9
  exact .inr (.inr ⟨j,hj,by simpa using h10⟩)
 have anc:∀ (L:Nat → Bool),(∀ i,L i = true → ∀ o,ops[i]? = some o → ∀ j ∈ needs o,L j = true) → ∀ i,i < m → ∀ o,ops[i]? = some o → (∀ j ∈ needs o,L j = true) → ∀ k ∈ nd.getD i [],L k = true:=by
  intro L hc i
  induction i using Nat.strongRecOn with
  | _ i ih =>
   intro hi o ho hn k hk
   obtain ⟨o',ho',_,hnd0,_,_,_,hlt⟩:=h4 i hi
   obtain rfl:o' = o:=by rw [ho] at ho'; exact (Option.some.inj ho').symm
   rcases hnd0 k hk with h | ⟨j,hj,hkj⟩
   ·exact hn k h
   have hjm:=hlt j hj
   obtain ⟨oj,hoj,_⟩:=h4 j (by omega)
   exact ih j hjm (by omega) oj hoj (hc j (hn j hj) oj hoj) k hkj
 intro todo
 induction todo with
 | zero =>
  intro fuel listed f' w' ρ hsz htodo hfuel hlate hclosed hother htold hsep hBl
  have hall:∀ i,i < m → Up listed i = true:=fun i hi => by
   have:=(List.countP_eq_zero.1 htodo) i (List.mem_range.2 hi)
   simpa using this
  refine hend (fun i => f' (ds.getD i 0)) ρ w' f' (layf_ext h3 (fun d hd => hother d (by simpa using hd)) (fun i d hid => by simp [List.getD,hid])).symm (fun i hi => ?_) (by rw [pool_all ρ _ m hall] at hsep; exact hsep) |>.out fuel listed (by omega) hsz (fun i _ => ?_)
  ·obtain ⟨d,hd⟩:∃ d,ds[i]? = some d:=⟨_,List.getElem?_eq_getElem (by omega)⟩
   have:=htold i d hi (hall i hi) hd
   simpa [List.getD,hd] using this
  rcases Nat.lt_or_ge i m with hi | hi
  ·rw [hall i hi]; exact ((Nat.blt_eq).mpr hi).symm
  rw [hlate i hi]
  cases e:Nat.blt i m with
  | false => rfl
  | true => rw [Nat.blt_eq] at e; omega
 | succ k ih =>
  intro fuel listed f' w' ρ hsz htodo hfuel hlate hclosed hother htold hsep hBl
  obtain ⟨fuel,rfl⟩:∃ k,fuel = k + 1:=⟨fuel - 1,by omega⟩
  have hex:∃ i,i < m ∧ Up listed i = false:=by
   rcases Classical.em (∃ i,i < m ∧ Up listed i = false) with h | h
   ·exact h
   exfalso
   have:((List.range m).countP fun i => !Up listed i) = 0:=List.countP_eq_zero.2 fun i hi => by
    cases e:Up listed i with
    | true => simp
    | false => exact absurd ⟨i,List.mem_range.1 hi,e⟩ h
   omega
  have hready:∀ i,i ∈ Region.ready .any ops listed → Up listed i = false ∧ ∃ o,ops[i]? = some o ∧ ∀ j ∈ needs o,Up listed j = true:=fun i hi => by
   obtain ⟨hu,o,ho,hall⟩:=mem_ready.1 hi
   have hlt:i < listed.size:=by have:=(Array.getElem?_eq_some_iff.1 ho).1; omega
   exact ⟨(getD_same hlt).symm.trans hu,o,ho,fun j hj => by obtain ⟨e,he,hb,rfl⟩:=mem_needs.1 hj; exact hall e he hb⟩
  have core:∀ i o,ops[i]? = some o → i < m → Up listed i = false → (∀ j ∈ needs o,Up listed j = true) →
    o.dst = ds[i]? ∧ ds[i]? = some (ds.getD i 0) ∧ (∃ S,Sep w0 (R0 ++ ((nd.getD i []).flatMap ρ ++ S)) w') ∧ (∀ j d,(nd.getD i []).contains j = true → ds[j]? = some d → T j ((sr.getD j []).map fun l => f' (ds.getD l 0)) (f' d) (ρ j)) ∧
    ∀ (v:Value) (r:List Res) (w'':World),T i ((sr.getD i []).map fun l => f' (ds.getD l 0)) v r → New w' r w'' → HeldS Bl w'' ∧ wpAnyH P .any ops Q (HeldS Bl) fuel (listed.setIfInBounds i true) (act n (upd f' (ds.getD i 0) v)) w'':=by
   intro i o ho him hu hneed
   obtain ⟨o',ho',hdst,hnd0,hnd,hsr,hndlt,hlt⟩:=h4 i him
   obtain rfl:o' = o:=by rw [ho] at ho'; exact (Option.some.inj ho').symm
   have hil:i < ds.length:=by omega
   have hdi:ds[i]? = some (ds.getD i 0):=by simp [List.getD,hil]
   have hanc:∀ j ∈ nd.getD i [],Up listed j = true:=anc (Up listed) hclosed i him o' ho hneed
   obtain ⟨S,hS⟩:=pool_some (L:=Up listed) (ρ := ρ) (m:=m) (nd.getD i []) hnd (fun j hj => ⟨Nat.lt_trans (hndlt j hj) him,hanc j hj⟩)
   have hsep':Sep w0 (R0 ++ ((nd.getD i []).flatMap ρ ++ S)) w':=hsep.perm ((List.Perm.append_right R0 hS.symm).trans List.perm_append_comm)
   have hmemc:∀ d,d ∉ ds ↔ ds.contains d = false:=fun d => by simp
   refine ⟨hdst,hdi,⟨S,hsep'⟩,fun j d hj hd => have hj':j ∈ nd.getD i []:=(by simpa using hj); htold j d (Nat.lt_trans (hndlt j hj') him) (hanc j hj') hd,?_⟩
   -- behind the step
   show ∀ (v:Value) (r:List Res) (w'':World),T i ((sr.getD i []).map fun l => f' (ds.getD l 0)) v r → New w' r w'' → HeldS Bl w'' ∧ wpAnyH P .any ops Q (HeldS Bl) fuel (listed.setIfInBounds i true) (act n (upd f' (ds.getD i 0) v)) w''
   intro v r w'' hT hN
   refine ⟨hBl.grow hN.below,?_⟩
   have his:i < listed.size:=by have:=(Array.getElem?_eq_some_iff.1 ho).1; omega
   have hup:=up_set (listed:=listed) his
   refine ih fuel (listed.setIfInBounds i true) (upd f' (ds.getD i 0) v) w'' (fun j => if j = i then r else ρ j) (by simp [hsz]) ?_ (by omega) ?_ ?_ ?_ ?_ ?_ (hBl.grow hN.below)
   ·rw [hup]
    have e:=count_less (L:=Up listed) (i:=i) hu (List.range m) List.nodup_range (List.mem_range.2 him)
    show ((List.range m).countP fun j => !(Up listed j || j == i)) = k
    omega
   ·intro j hj
    rw [hup]
    have:(j == i) = false:=by simp; omega
    simp [hlate j hj,this]
   ·intro j hj o2 ho2 l hl
    rw [hup] at hj ⊢
    simp only [Bool.or_eq_true] at hj ⊢
    rcases hj with hj | hj
    ·exact .inl (hclosed j hj o2 ho2 l hl)
    have:j = i:=by simpa using hj
    subst this
    rw [ho] at ho2
    obtain rfl:=Option.some.inj ho2
    exact .inl (hneed l hl)
   ·intro d hd
    have hne:d ≠ ds.getD i 0:=fun e => by
     have:ds.getD i 0 ∈ ds:=List.mem_of_getElem? hdi
     rw [← e] at this
     exact (hmemc d).2 hd this
    rw [upd_ne _ _ hne]; exact hother d hd
   ·intro j d hj hup' hjd
    have hsrc:∀ j,(∀ l ∈ sr.getD j [],l < m ∧ l ≠ i) → ((sr.getD j []).map fun l => upd f' (ds.getD i 0) v (ds.getD l 0)) = ((sr.getD j []).map fun l => f' (ds.getD l 0)):=fun j hj => List.map_congr_left fun l hl => by
     obtain ⟨hlm,hli⟩:=hj l hl
     have hlds:l < ds.length:=by omega
     refine upd_ne _ _ fun e9 => ?_
     have e1:ds[l] = ds[i]:=by simpa [List.getD,hlds,hil] using e9
     rcases Nat.lt_or_gt_of_ne hli with hlt' | hlt'
     ·exact (List.pairwise_iff_getElem.1 h3 l i hlds hil hlt') e1
     exact (List.pairwise_iff_getElem.1 h3 i l hil hlds hlt') e1.symm
    rw [hup] at hup'
    replace hup':(Up listed j || j == i) = true:=hup'
    by_cases e:j = i
    ·subst e
     rw [hdi] at hjd
     obtain rfl:=Option.some.inj hjd
     rw [upd_same,if_pos rfl,hsrc j (fun l hl => ⟨Nat.lt_trans (hsr l hl).2 him,Nat.ne_of_lt (hsr l hl).2⟩)]; exact hT
    have hne:d ≠ ds.getD i 0:=fun e2 => by
     subst e2
     obtain ⟨hjl,hje⟩:=List.getElem?_eq_some_iff.1 hjd
     obtain ⟨hil',hie⟩:=List.getElem?_eq_some_iff.1 hdi
     rcases Nat.lt_or_gt_of_ne e with hlt' | hlt'
     ·exact (List.pairwise_iff_getElem.1 h3 j i hjl hil' hlt') (hje.trans hie.symm)
     exact (List.pairwise_iff_getElem.1 h3 i j hil' hjl hlt') (hie.trans hje.symm)
    have:(j == i) = false:=by simpa using e
    rw [this,Bool.or_false] at hup'
    rw [upd_ne _ _ hne,if_neg e,hsrc j (fun l hl => ?_)]
    ·exact htold j d hj hup' hjd
    obtain ⟨oj,hoj,_,hjn,_,hjs,_,_⟩:=h4 j hj
    obtain ⟨hl1,hl2⟩:=hjs l hl
    have hlu:Up listed l = true:=anc (Up listed) hclosed j hj oj hoj (hclosed j hup' oj hoj) l hl1
    exact ⟨Nat.lt_trans hl2 hj,fun e9 => by subst e9; rw [hu] at hlu; cases hlu⟩
   rw [hup]
   have hs2:=hsep.news hN
   refine hs2.perm ?_
   rw [← List.append_assoc]
   exact List.Perm.append_right R0 (pool_upd (Up listed) ρ i r hu m him).symm
  obtain ⟨i0,hi0⟩:=hex
  obtain ⟨i,⟨hi,hu⟩,hmin⟩:=least (p:=fun i => i < m ∧ Up listed i = false) i0 hi0
  have hfirst:∃ o,ops[i]? = some o ∧ i ∈ Region.ready .any ops listed:=by
   obtain ⟨o,ho,hdst,_,_,_,_,hlt⟩:=h4 i hi
   have hir:i ∈ Region.ready .any ops listed:=mem_ready.2 ⟨by unfold Up at hu; rw [← hu]; exact getD_same (by have:=(Array.getElem?_eq_some_iff.1 ho).1; omega),o,ho,fun e he hb => by
    have hjlt:=hlt e.on (mem_needs.2 ⟨e,he,hb,rfl⟩)
    cases hup:Up listed e.on with
    | true => exact hup
    | false => have:=hmin e.on ⟨by omega,hup⟩; omega⟩
   exact ⟨o,ho,hir⟩
  obtain ⟨o,ho,hir⟩:=hfirst
  rcases Classical.em (∃ i,i < m ∧ pu.contains i = false ∧ Up listed i = false) with hA | hA
  ·refine ⟨fun hnil => (by rw [hnil] at hir; cases hir),fun i hi => ?_⟩
   obtain ⟨hu,o,ho,hneed⟩:=hready i hi
   have him:i < m:=by
    rcases Nat.lt_or_ge i m with h | h
    ·exact h
    exfalso
    obtain ⟨i0,hi0,hp0,hu0⟩:=hA
    rcases h5 i h o ho with ⟨k,hk,hmk⟩ | h9
    ·have:=hneed k hk
     rw [hlate k hmk] at this; cases this
    rcases h9 i0 hi0 with h9 | h9 | ⟨k,hk,hik⟩
    ·rw [h9] at hp0; cases hp0
    ·rw [hneed i0 h9] at hu0; cases hu0
    have hkm:k < m:=by
     rcases Nat.lt_or_ge k m with h8 | h8
     ·exact h8
     have:=hneed k hk
     rw [hlate k h8] at this; cases this
    obtain ⟨ok,hok,_⟩:=h4 k hkm
    have:=anc (Up listed) hclosed k hkm ok hok (hclosed k (hneed k hk) ok hok) i0 hik
    rw [this] at hu0; cases hu0
   obtain ⟨hdst,hdi,⟨S,hsep'⟩,hanc,next⟩:=core i o ho him hu hneed
   unfold wpOp
   rw [ho]
   rcases hstep i o him ho Q f' w' ρ S hother hanc hsep' hBl with ⟨hw,hwp⟩ | ⟨hw,hT⟩
   ·simp only [hw,if_true]
    refine .inl (Oper.wp_mono (fun a'' w'' h => ?_) hwp.out)
    obtain ⟨v,r,rfl,hT,hN⟩:=h
    exact next v r w'' hT hN
   simp only [hw,Bool.false_eq_true,if_false]
   rw [hdst,hdi,act_put]
   exact next undef [] w' hT (New.same w')
  have hpi:pu.contains i = true:=by
   cases e:pu.contains i with
   | true => rfl
   | false => exact absurd ⟨i,hi,e,hu⟩ hA
  obtain ⟨_,o2,ho2,hneed⟩:=hready i hir
  obtain rfl:o2 = o:=by rw [ho] at ho2; exact (Option.some.inj ho2).symm
  obtain ⟨hdst,hdi,_,hanc,next⟩:=core i o2 ho hi hu hneed
  obtain ⟨v,hy,hT⟩:=hpure i o2 hpi hi ho f' ρ hother hanc
  refine wpAnyH_first ho (Region.noSelect_spec hsel) (fun c a w h => hQ o2.dst v c a w h) fuel listed (act n f') w' (fun j oj hoj hji hju hno => ?_) hir hy hBl ?_
  ·have hjl:j < listed.size:=by have:=(Array.getElem?_eq_some_iff.1 hoj).1; omega
   have hju':Up listed j = false:=(getD_same hjl).symm.trans hju
   have hcase:m ≤ j ∨ j ∈ pu:=by
    rcases Nat.lt_or_ge j m with h | h
    ·right
     cases e:pu.contains j with
     | true => simpa using e
     | false => exact absurd ⟨j,h,e,hju'⟩ hA
    exact .inl h
   rcases h6 i (by simpa using hpi) o2 ho j oj hoj hji hcase with (h | h) | h
   ·obtain ⟨e,he,hb,heq⟩:=mem_needs.1 h
    exact absurd heq (hno e he hb)
   ·rw [hneed j h] at hju'; cases hju'
   exact h
  rw [hdst,hdi,act_put]
  exact (next v [] w' hT (New.same w')).2
theorem wstageP {id:Nat} {f:Nat → Value} {R0:List Res} {w:World} {l:List Oper} (m:Nat) (ds:List Nat) (nd sr:List (List Nat)) (pu:List Nat) (Bl:List (Nat × List Value × TypeId)) (T:Nat → List Value → Tell) (hBl:HeldS Bl w) (hQ:∀ (d:Option Tmp) v c a w,Q (.panic c) (a.put d v) w → Q (.panic c) a w) (hsel:Region.noSelect l.toArray = true) (hm:P.follows .mixedOrders = true) (hst:stageP l.toArray ds nd sr pu m = true) (hS:Sep w0 R0 w)
  (hstep:Steps P l.toArray n f ds nd sr pu Bl T w0 R0 m 0 l)
  (hend:∀ (vs:Nat → Value) (ρ : Nat → List Res) (w':World) (f':Nat → Value),f' = layf vs ds 0 f → (∀ i,i < m → T i ((sr.getD i []).map fun l => vs l) (vs i) (ρ i)) → Sep w0 (pool (fun _ => true) ρ m ++ R0) w' → Late P l.toArray Q Bl m (act n f') w') :
  CW P (Code.region id l.toArray true) Q (act n f) w:=by
 refine ⟨wp_region_any hm (wpAny_of_held (S:=HeldS Bl) _ _ _ _ ?_)⟩
 have hup:∀ i,Up (Array.replicate l.toArray.size false) i = false:=fun i => by
  unfold Up; simp [Array.getElem?_replicate]; split <;> rfl
 have hcount:((List.range m).countP fun i => !Up (Array.replicate l.toArray.size false) i) = m:=by
  have:((List.range m).countP fun i => !Up (Array.replicate l.toArray.size false) i) = (List.range m).length:=List.countP_eq_length.2 fun i _ => by rw [hup]; rfl
  rw [this,List.length_range]
 have hat:∀ i o,i < m → l.toArray[i]? = some o → StepOk P l.toArray n f ds nd sr Bl T w0 R0 i o ∧ (pu.contains i = true → PureOk P l.toArray n f ds nd sr Bl T i o):=fun i o hi ho => by have:=stepsAt hstep.out i o hi (by simpa using ho); rwa [Nat.zero_add] at this
 refine wstageP_go hsel hQ (fun i o hp hi ho => (hat i o hi ho).2 hp) hst (fun i o hi ho => (hat i o hi ho).1) hend m _ _ f w.drew (fun _ => []) (by simp) hcount (Nat.le_refl _) (fun i _ => hup i) (fun i hi => by rw [hup i] at hi; cases hi) (fun _ _ => rfl) (fun i d _ hi => by rw [hup i] at hi; cases hi) ?_ ?_
 have e:∀ k,pool (Up (Array.replicate l.toArray.size false)) (fun _ => []) k = []:=fun k => by
  induction k with
  | zero => rfl
  | succ k ih => simp only [pool,ih]; split <;> rfl
 ·rw [e,List.nil_append]
  exact hS.drew
 exact hBl.grow (Below.refl _ _).drew
end
theorem yfieldAddr {P:Program} {n:Nat} {o:Oper} {f:Nat → Value} {s:TypeId} {x:Operand} {i:Nat} {g off:Nat} {fs:Array Field} {fd:Field} {k:Nat} (off':Nat) (hop:o.op = .fieldAddr s x i) (hx:(act n f).eval x = .pointer (some ⟨g,off,none⟩)) (hu:∀ w,(underlying s).run P w = .ok (.struct fs) w) (hf:fs[i]? = some fd) (hz:∀ w,(sizeOf fd.type).run P w = .ok (k + 1) w) (he:off + fd.offset = off') (w:World) :
  (execOp (act n f).eval o).run P w = .ok (.value (.pointer (some ⟨g,off',none⟩))) w:=by
 subst he
 have e:(⟨g,off,none⟩:Addr).add fd.offset = ⟨g,off + fd.offset,none⟩:=Addr.add_mid _ _ _
 simp [execOp,hop,hx,Instr.fieldAt,hu,hf,Instr.sureAddr,fieldPlace,hz,e]
theorem run_field_agg {P:Program} {s:TypeId} {i sz:Nat} {cs vs:List Value} {fs:Array Field} {fd:Field} (hu:∀ w,(underlying s).run P w = .ok (.struct fs) w) (hf:fs[i]? = some fd) (hA:Agg P fd.type sz) (hv:(cs.drop fd.offset).take sz = vs) (w:World):(Instr.field s (.agg cs.toArray) i).run P w = .ok (.agg vs.toArray) w:=by
  subst hv
  simp [Instr.field,hu,hf,asAgg,Go.part,hA.isAgg,hA.size,List.extract_toArray,List.extract]
open Go.RowKit
def Res.obj (g:Nat) (o:Obj):Res where
  own:=true
  arg:=false
  foot k:=k = g
  holds w:=w.heap[g]? = some o
  lt w h k hk:=by subst hk; exact (Array.getElem?_eq_some_iff.1 h).1
  stays w w' he h:=(he g rfl).trans h
theorem Sep.addObj {w0:World} {R:List Res} {w:World} (h:Sep w0 R w) (o:Obj):Sep w0 (.obj w.heap.size o :: R) (w.alloc o) :=
  h.add ((Below.refl _ _).alloc (Nat.le_refl _) _) _ (World.alloc_heap_new w o) (fun g hg => by have hg':g = w.heap.size:=hg; omega)
theorem Sep.putObj {w0:World} {R:List Res} {w:World} {g:Nat} {o:Obj} (h:Sep w0 (.obj g o :: R) w) (o':Obj):Sep w0 (.obj g o' :: R) (w.putObj g o'):=by
  have hg:w.heap[g]? = some o:=h.get 0 rfl
  exact h.change 0 rfl rfl rfl (fun _ h => h) ⟨rfl,rfl,rfl,by simp [World.putObj],fun j hj => World.putObj_heap_other (fun e => hj e)⟩ (World.putObj_heap_same (Array.getElem?_eq_some_iff.1 hg).1)
def Fz (r:Option Nat):Fence := { fn:=fun _ => True,depth:=none,alive:=false,round:=r }
def noDefer (o:Oper):Bool:=match o.op with
  | .defer _ => false
  | _ => true
structure LR (r:Option Nat) (m:Nat) (P:Program) (ops:Array Oper) (Q:Exit → Act → World → Prop) (l:List Oper) (a:Act) (w:World):Prop where
  out:wpListIn (Fz r) m P ops Q l a w
structure CR (r:Option Nat) (m:Nat) (P:Program) (c:Code) (Q:Exit → Act → World → Prop) (a:Act) (w:World):Prop where
  out:c.wpIn (Fz r) m P Q a w
section
variable {P:Program} {r:Option Nat} {m n:Nat} {Q:Exit → Act → World → Prop} {a:Act} {w:World} {f:Nat → Value} {o:Oper} {K:Act → World → Prop} {d:Nat}
theorem calls_z {F:FuncId} {args:Array Value} {R:Ending → World → Prop}:CallsIn (Fz r) m P F args w R ↔ Calls P F args w R :=
  (show CallsIn Fence.wide m P F args w R ↔ Calls P F args w R from callsIn_wide)
theorem rows_z {row:String} {args:Array Value} {R:Value → World → Prop} (h:Rows P row args w R):RowsIn (Fz r) m P row args w R:=fun c cs _ => by
  obtain ⟨v,w',hr,hs⟩:=h c cs
  exact ⟨v,w',hr,stepsIn_wide.2 hs⟩
theorem OW.inn (hd:noDefer o = true) (h:OW P o a w K Q):o.wpIn (Fz r) m P a w K Q:=by
 refine ⟨fun _ _ => trivial,?_⟩
 rw [Oper.semAt_eq _ _ _ (fun c hc => by unfold noDefer at hd; rw [hc] at hd; cases hd)]
 have h:=h.out
 unfold Oper.wp at h
 generalize (execOp a.eval o).run P w = x at h ⊢
 cases x with
 | ok nx w' =>
  cases nx with
  | value v => exact h
  | skip => exact h
  | defer d => exact h
  | enter F args => exact ⟨(fun h0 => by cases h0),calls_z.2 h⟩
  | row row args => exact ⟨(fun h0 => by cases h0),rows_z h⟩
  | _ => exact h.elim
 | halt s w' =>
  cases s with
  | panic v => exact h
  | _ => exact h.elim
theorem rskip (h:Q .normal a w):CR r m P .skip Q a w:=⟨wpIn_skip h⟩
theorem rblock {id:Nat} {c:Code} (h:CR r m P c (Exit.inBlock id Q) a w):CR r m P (.block id c) Q a w:=⟨wpIn_block h.out⟩
theorem rexit {id:Nat} (h:Q (.exit id) a w):CR r m P (.exit id) Q a w:=⟨wpIn_exit h⟩
theorem rseq {x y:Code} (h:CR r m P x (Exit.then (fun a w => CR r m P y Q a w) Q) a w):CR r m P (Code.seq x y) Q a w :=
  ⟨wpIn_seq (wpIn_mono h.out (fun e a w q => by cases e <;> first | exact q | exact CR.out q))⟩
theorem rT {c:Operand} {x y:Code} (hc:a.eval c = .bool true) (h:CR r m P x Q a w):CR r m P (Code.cond c x y) Q a w:=⟨wpIn_cond_true hc h.out⟩
theorem rF {c:Operand} {x y:Code} (hc:a.eval c = .bool false) (h:CR r m P y Q a w):CR r m P (Code.cond c x y) Q a w:=⟨wpIn_cond_false hc h.out⟩
theorem rreg {id:Nat} {l:List Oper} (h:LR r m P l.toArray Q l a w):CR r m P (Code.region id l.toArray false) Q a w:=⟨wpIn_region_lit h.out⟩
theorem rnil {ops:Array Oper} (h:Q .normal a w):LR r m P ops Q [] a w:=⟨h⟩
theorem rl {ops:Array Oper} {rest:List Oper} (hg:o.guard = none) (hd:noDefer o = true) (h:OW P o a w (fun a' w' => LR r m P ops Q rest a' w') Q):LR r m P ops Q (o :: rest) a w:=by
  refine ⟨?_⟩
  have hw:Region.wanted o (yielded ops a.tmps) = true:=by simp [Region.wanted,hg]
  simp only [wpListIn,hw,if_true]
  exact OW.inn hd (h.mono fun a w h => h.out)
theorem cw_of_cr {c:Code} (h:CR none m P c Q a w):CW P c Q a w:=⟨wpIn_wide.1 h.out⟩
theorem ryield {ops:Array Oper} {rest:List Oper} {l:Nat} {c:Call} {x:Operand} {xs:Array Operand} {ts:Array TypeId} {vs:Array Value} {Rp:Ending → World → Prop} (hg:o.guard = none) (hop:o.op = .call c) (hc:c = { callee:=.value x,args:=xs,argTypes:=ts }) (ho:o.dst = some d)
  (hv:(act n f).eval x = .func (.yield l) #[] #[]) (hx:xs.map (act n f).eval = vs) (hY:YieldAt (Fz r) (m - 1) P l vs w Rp)
  (hK:∀ e w',Rp e w' → ∃ v,e = .returned v ∧ LR r m P ops Q rest (act n (upd f d v)) w'):LR r m P ops Q (o :: rest) (act n f) w:=by
 refine ⟨?_⟩
 have hw:Region.wanted o (yielded ops (act n f).tmps) = true:=by simp [Region.wanted,hg]
 simp only [wpListIn,hw,if_true]
 refine ⟨fun _ _ => trivial,?_⟩
 rw [Oper.semAt_eq _ _ _ (fun c' hc' => by rw [hop] at hc'; cases hc')]
 obtain ⟨fn,tmps,assign,body,hy,hR⟩:=hY
 have e:(execOp (act n f).eval o).run P w = .ok (.round l fn tmps assign body) w:=by
  subst hc
  simp only [execOp,hop,resolve,hx,hv]
  simp [Deferred.ofValue,invoke,hy]
 rw [e,Oper.uponIn_round]
 refine ⟨fun h => (by cases h),hR.mono fun e w' h => ?_⟩
 obtain ⟨v,rfl,hk⟩:=hK e w' h
 show wpListIn _ _ _ _ _ _ ((act n f).put o.dst v) w'
 rw [ho,act_put]
 exact hk.out
end
def YieldOk {α : Type} (P:Program) (w0:World) (T : α → Tell) (xs:List α) (l:Nat) (I Ix:List α → List Res → Prop):Prop :=
 ∀ (m:Nat) (pre:List α) (x : α) (v:Value) (r Rf Rc:List Res) (W:World),pre ++ [x] <+: xs → I pre Rc → T x v r → Sep w0 (r ++ (Rf ++ Rc)) W →
  YieldAt (Fz none) m P l #[v] W fun e W' => (e = .returned (.bool true) ∧ ∃ Rc',I (pre ++ [x]) Rc' ∧ Sep w0 (Rf ++ Rc') W') ∨ (e = .returned (.bool false) ∧ ∃ Rc',Ix (pre ++ [x]) Rc' ∧ Sep w0 (Rf ++ Rc') W')
def Iter {α : Type} (P:Program) (gf:FuncId) (lb:Array Value) (T : α → Tell) (xs:List α) (w0:World) (R:List Res):Prop :=
 ∀ (l:Nat) (I Ix:List α → List Res → Prop) (Rc:List Res) (W:World),YieldOk P w0 T xs l I Ix → I [] Rc → Sep w0 (R ++ Rc) W →
  Calls P gf (#[.func (.yield l) #[] #[]] ++ lb) W fun e W' => (∃ v,e = .returned v) ∧ ((∃ Rc',I xs Rc' ∧ Sep w0 Rc' W') ∨ ∃ pre Rc',pre <+: xs ∧ Ix pre Rc' ∧ Sep w0 Rc' W')
def roundEnd {α : Type} (w0:World) (I:List α → List Res → Prop) (Ix:Code → List α → List Res → Prop) (Rf:List Res) (xs:List α):Exit → Act → World → Prop
  | .normal,_,W => ∃ Rc,I xs Rc ∧ Sep w0 (Rf ++ Rc) W
  | .ret,_,W => ∃ Rc,Ix .ret xs Rc ∧ Sep w0 (Rf ++ Rc) W
  | .exit i,_,W => ∃ Rc,Ix (.exit i) xs Rc ∧ Sep w0 (Rf ++ Rc) W
  | .goto t,_,W => ∃ Rc,Ix (.goto t) xs Rc ∧ Sep w0 (Rf ++ Rc) W
  | _,_,_ => False
def marked (D:Nat) (a:Act):Act := { a with defers := { target:=.collected D,args:=#[] } :: a.defers }
section
variable {P:Program} {n:Nat} {Q:Exit → Act → World → Prop} {w w0:World} {f:Nat → Value}
theorem sep_mid {R1 R2:List Res} {x:Res} {W:World}:Sep w0 (R1 ++ x :: R2) W ↔ Sep w0 (x :: (R1 ++ R2)) W :=
  ⟨fun h => h.perm List.perm_middle,fun h => h.perm List.perm_middle.symm⟩
theorem wrange {α : Type} {g:Operand} {p:Nat} {assign body:Code} {R Rc:List Res} {gf:FuncId} {lb:Array Value} {T : α → Tell} {xs:List α}
  (hg:(act n f).eval g = .func (.func gf) #[] lb) (eg:∀ args w,(callFunc gf args).run P w = .ok (.enter gf args) w) (hIt:Iter P gf lb T xs w0 R) (hS:Sep w0 (R ++ Rc) w)
  (I:List α → List Res → Prop) (Ix:Code → List α → List Res → Prop) (h0:I [] Rc) (A:List α → α → (Nat → Value) → List Res → Prop)
  (hassign:∀ (l m:Nat) (pre:List α) (x : α) (v:Value) (r Rf Rc:List Res) (W:World),pre ++ [x] <+: xs → I pre Rc → T x v r → Sep w0 (r ++ (Rf ++ Rc)) W →
   CR (some l) m P assign (Exit.then (fun a W' => ∃ f' Rc',a = act n f' ∧ A pre x f' Rc' ∧ Sep w0 (Rf ++ Rc') W') (fun _ _ _ => False)) (act n (upd f p v)) W)
  (hbody:∀ (l m:Nat) (pre:List α) (x : α) (f':Nat → Value) (Rf Rc:List Res) (W:World),pre ++ [x] <+: xs → A pre x f' Rc → Sep w0 (Rf ++ Rc) W → CR (some l) m P body (roundEnd w0 I Ix Rf (pre ++ [x])) (act n f') W)
  (hdone:∀ (D:Nat) (Rc:List Res) (W:World),I xs Rc → Sep w0 (.obj D (.deferred (some [])) :: Rc) W → Q .normal (marked D (act n f)) W)
  (hstop:∀ (D:Nat) (c:Code) (pre:List α) (Rc:List Res) (W:World),pre <+: xs → Ix c pre Rc → Sep w0 (.obj D (.deferred (some [])) :: Rc) W → c.wp P Q (marked D (act n f)) W) :
  CW P (Code.rangeFunc g #[p] assign body) Q (act n f) w:=by
 refine ⟨(wpIn_wide (n:=0)).1 (wpIn_rangeFunc ?_)⟩
 intro fn _
 obtain ⟨rec,hrec⟩:∃ rec:LoopState → Option Code → Loop,rec = fun st pe => { state:=st,pending:=pe,fn,tmps:=(act n f).tmps,params:=#[p],assign,body,defers:=w.heap.size }:=⟨_,rfl⟩
 obtain ⟨W1,hW1⟩:∃ W1,(w.alloc (.deferred (some []))).alloc (.loop (rec .ready none)) = W1:=⟨_,rfl⟩
 have hs1:Sep w0 (.obj (w.heap.size + 1) (.loop (rec .ready none)) :: .obj w.heap.size (.deferred (some [])) :: (R ++ Rc)) W1:=by
  have h1:=(hS.addObj (.deferred (some []))).addObj (.loop (rec .ready none))
  rw [World.size_alloc,hW1] at h1
  exact h1
 have hround:∀ (st:LoopState) (pe:Option Code) (R':List Res) (W:World),Sep w0 (.obj (w.heap.size + 1) (.loop (rec st pe)) :: R') W → W.heap[w.heap.size + 1]? = some (.loop (rec st pe)):=fun st pe R' W h => h.get 0 rfl
 refine ⟨w.heap.size + 1,[{ target:=.collected w.heap.size,args:=#[] }],W1, { target:=.fn (.func gf) lb,args:=#[.func (.yield (w.heap.size + 1)) #[] #[]] },W1,gf,
  #[.func (.yield (w.heap.size + 1)) #[] #[]] ++ lb,W1,?_,?_,?_,?_,(fun h => by cases h),?_⟩
 ·rw [← hW1,hrec]; exact run_enterLoop_outer _ _ _ _ _
 ·simp only [resolve,hg]
  simp [go_sem]
 ·intro f' _; trivial
 ·simp [invoke,go_sem,eg]
 refine callsIn_wide.2 ((hIt (w.heap.size + 1)
  (fun pre R' => ∃ Rc,R' = .obj (w.heap.size + 1) (.loop (rec .ready none)) :: .obj w.heap.size (.deferred (some [])) :: Rc ∧ I pre Rc)
  (fun pre R' => ∃ c Rc,R' = .obj (w.heap.size + 1) (.loop (rec .done (some c))) :: .obj w.heap.size (.deferred (some [])) :: Rc ∧ Ix c pre Rc)
  (.obj (w.heap.size + 1) (.loop (rec .ready none)) :: .obj w.heap.size (.deferred (some [])) :: Rc) W1 ?_ ⟨Rc,rfl,h0⟩ (sep_mid.2 (by
   have:=sep_mid (R1:=.obj (w.heap.size + 1) (.loop (rec .ready none)) :: R) (R2:=Rc) (x:=.obj w.heap.size (.deferred (some []))) (w0:=w0) (W:=W1)
   exact this.2 (hs1.perm (List.Perm.swap _ _ _))))).mono ?_)
 ·-- one round
  rintro m pre x v r Rf _ W hpx ⟨Rc,rfl,hi⟩ hT hs
  have hs2:Sep w0 (.obj (w.heap.size + 1) (.loop (rec .ready none)) :: (r ++ (Rf ++ .obj w.heap.size (.deferred (some [])) :: Rc))) W:=by
   have h1:=hs
   rw [← List.append_assoc] at h1
   have h2:=sep_mid.1 h1
   rw [List.append_assoc] at h2
   exact h2
  have hl:=hround _ _ _ _ hs2
  have hy:=run_yield (P:=P) (args:=#[v]) hl (by rw [hrec]; rfl)
  refine ⟨_,_,_,_,hy,?_⟩
  have etm:((rec .ready none).params.zip #[v]).foldl (fun tmps (t,a) => tmps.setIfInBounds t a) (rec .ready none).tmps = (act n (upd f p v)).tmps:=by
   rw [← act_put,hrec]; simp [Act.put,Array.zip]
  rw [etm,show (rec .ready none).assign = assign by rw [hrec],show (rec .ready none).body = body by rw [hrec]]
  refine roundIn_of_wpIn trivial (wpIn_mono (hassign (w.heap.size + 1) m pre x v r (.obj (w.heap.size + 1) (.loop (rec .ready none)) :: .obj w.heap.size (.deferred (some [])) :: Rf) Rc W hpx hi hT ?_).out ?_)
  ·refine hs2.perm ?_
   have p1:(r ++ (Rf ++ .obj w.heap.size (.deferred (some [])) :: Rc)).Perm (r ++ (.obj w.heap.size (.deferred (some [])) :: (Rf ++ Rc))):=List.Perm.append_left r List.perm_middle
   exact (List.Perm.cons _ p1).trans List.perm_middle.symm
  intro e a' W2 hq
  cases e with
  | normal =>
   obtain ⟨f',Rc1,rfl,hA,hs3⟩:=hq
   refine ⟨_,run_beginRound (hround _ _ _ _ hs3) (by rw [hrec]),?_⟩
   have hs4:=hs3.putObj (.loop { rec .ready none with state:=.busy })
   refine wpIn_mono (hbody (w.heap.size + 1) m pre x f' (.obj (w.heap.size + 1) (.loop { rec .ready none with state:=.busy }) :: .obj w.heap.size (.deferred (some [])) :: Rf) Rc1 _ hpx hA hs4).out ?_
   have fin:∀ (jump:Option Code) (Rc2:List Res) (W3:World),Sep w0 (.obj (w.heap.size + 1) (.loop { rec .ready none with state:=.busy }) :: .obj w.heap.size (.deferred (some [])) :: (Rf ++ Rc2)) W3 →
     ∃ W4,(Instr.endRound (w.heap.size + 1) jump).run P W3 = .ok (.bool jump.isNone) W4 ∧ Sep w0 (Rf ++ .obj (w.heap.size + 1) (.loop (rec (if jump.isNone then .ready else .done) jump)) :: .obj w.heap.size (.deferred (some [])) :: Rc2) W4:=fun jump Rc2 W3 h3 => by
    have hl3:W3.heap[w.heap.size + 1]? = some (.loop { rec .ready none with state:=.busy }):=h3.get 0 rfl
    refine ⟨_,run_endRound jump hl3,?_⟩
    have h4:=h3.putObj (.loop { { rec .ready none with state:=.busy } with state:=if jump.isNone then .ready else .done,pending:=jump })
    have e4:({ { rec .ready none with state:=.busy } with state:=if jump.isNone then .ready else .done,pending:=jump }:Loop) = rec (if jump.isNone then .ready else .done) jump:=by rw [hrec]
    rw [e4] at h4 ⊢
    refine h4.perm ?_
    exact ((List.Perm.cons _ List.perm_middle.symm).trans List.perm_middle.symm)
   intro e a3 W3 hp
   cases e with
   | normal =>
    obtain ⟨Rc2,hI,h3⟩:=hp
    obtain ⟨W4,hr,h4⟩:=fin none Rc2 W3 h3
    exact ⟨_,_,hr,.inl ⟨rfl,_,⟨Rc2,rfl,hI⟩,h4⟩⟩
   | ret =>
    obtain ⟨Rc2,hI,h3⟩:=hp
    obtain ⟨W4,hr,h4⟩:=fin (some .ret) Rc2 W3 h3
    exact ⟨_,_,hr,.inr ⟨rfl,_,⟨_,Rc2,rfl,hI⟩,h4⟩⟩
   | exit id =>
    obtain ⟨Rc2,hI,h3⟩:=hp
    obtain ⟨W4,hr,h4⟩:=fin (some (.exit id)) Rc2 W3 h3
    exact ⟨_,_,hr,.inr ⟨rfl,_,⟨_,Rc2,rfl,hI⟩,h4⟩⟩
   | goto t =>
    obtain ⟨Rc2,hI,h3⟩:=hp
    obtain ⟨W4,hr,h4⟩:=fin (some (.goto t)) Rc2 W3 h3
    exact ⟨_,_,hr,.inr ⟨rfl,_,⟨_,Rc2,rfl,hI⟩,h4⟩⟩
   | panic ch => exact hp.elim
   | outgrown => exact hp.elim
  | _ => exact hq.elim
 -- behind the iterator
 rintro e W2 ⟨⟨v,rfl⟩,(⟨_,⟨Rc2,rfl,hi⟩,hs⟩ | ⟨pre,_,hpre,⟨c,Rc2,rfl,hi⟩,hs⟩)⟩
 ·refine ⟨none,_,by have:=run_endLoop (P:=P) (hround _ _ _ _ hs) (by rw [hrec]; simp); rw [hrec] at this; exact this,?_⟩
  exact hdone _ Rc2 _ hi ((hs.putObj _).sub (List.sublist_cons_self _ _))
 refine ⟨some c,_,by have:=run_endLoop (P:=P) (hround _ _ _ _ hs) (by rw [hrec]; simp); rw [hrec] at this; exact this,?_⟩
 exact wpIn_wide.2 (hstop _ c pre Rc2 _ hpre hi ((hs.putObj _).sub (List.sublist_cons_self _ _)))
end
open Go.RowKit
section
variable {P:Program} {n D d:Nat} {Q:Exit → Act → World → Prop} {w w0:World} {f:Nat → Value} {o:Oper} {R:List Res}
theorem put_mark (a:Act) (x:Option Tmp) (v:Value):(marked D a).put x v = marked D (a.put x v):=by cases x <;> rfl
theorem OW.mark {N K:Act → World → Prop} (hN:∀ a w,N a w → ∃ f',a = act n f' ∧ K (marked D (act n f')) w) (h:OW P o (act n f) w N (fun e a w => Q e (marked D a) w)):OW P o (marked D (act n f)) w K Q:=by
 refine ⟨?_⟩
 have h:=h.out
 unfold Oper.wp at h ⊢
 have e:execOp (marked D (act n f)).eval o = execOp (act n f).eval o:=rfl
 rw [e]
 have key:∀ (x:Option Tmp) (v:Value) (w':World),N ((act n f).put x v) w' → K ((marked D (act n f)).put x v) w':=fun x v w' h => by
  obtain ⟨f',e,hk⟩:=hN _ _ h
  rw [put_mark,e]; exact hk
 generalize (execOp (act n f).eval o).run P w = x at h ⊢
 cases x with
 | ok nx w' =>
  cases nx with
  | value v => exact key _ _ _ h
  | skip => exact key _ _ _ h
  | defer dd =>
   exfalso
   obtain ⟨f',e,_⟩:=hN _ _ h
   have:=congrArg Act.defers e
   cases hd:o.dst with
   | none => rw [hd] at this; cases this
   | some t => rw [hd] at this; cases this
  | enter F args =>
   refine Calls.mono h fun e w'' h => ?_
   cases e with
   | returned v => exact key _ _ _ h
   | panicked c => exact h
   | outgrown =>
    obtain ⟨a,w1,hq⟩:=h
    exact ⟨_,w1,hq⟩
  | row row args => exact Rows.mono h fun v w'' h => key _ _ _ h
  | _ => exact h.elim
 | halt s w' =>
  cases s with
  | panic v => exact h
  | _ => exact h.elim
structure LM (D n:Nat) (P:Program) (ops:Array Oper) (Q:Exit → Act → World → Prop) (l:List Oper) (a:Act) (w:World):Prop where
  out:∃ f',a = act n f' ∧ LW P ops Q l (marked D (act n f')) w
theorem mreg {id:Nat} {l:List Oper} (h:LM D n P l.toArray Q l (act n f) w):CW P (Code.region id l.toArray false) Q (marked D (act n f)) w:=by
  obtain ⟨f',e,h⟩:=h.out
  rw [e]; exact wreg h
theorem mnil {ops:Array Oper} (h:Q .normal (marked D (act n f)) w):LM D n P ops Q [] (act n f) w:=⟨f,rfl,wnil h⟩
theorem ml {ops:Array Oper} {rest:List Oper} (hg:o.guard = none) (h:OW P o (act n f) w (fun a' w' => LM D n P ops Q rest a' w') (fun e a w => Q e (marked D a) w)):LM D n P ops Q (o :: rest) (act n f) w :=
  ⟨f,rfl,wl hg (OW.mark (fun a w h => h.out) h)⟩
theorem mwT {c:Operand} {x y:Code} (hc:(act n f).eval c = .bool true) (h:CW P x Q (marked D (act n f)) w):CW P (Code.cond c x y) Q (marked D (act n f)) w:=wT hc h
theorem mwF {c:Operand} {x y:Code} (hc:(act n f).eval c = .bool false) (h:CW P y Q (marked D (act n f)) w):CW P (Code.cond c x y) Q (marked D (act n f)) w:=wF hc h
def postM (P:Program) (fn:Func) (R:Ending → World → Prop):Exit → Act → World → Prop
  | .panic chain,a,w => a.defers = [] ∧ R (.panicked chain) w
  | e,a,w => bodyPostM Fence.wide 0 P fn R e a w
theorem postM_m {fn:Func} {R:Ending → World → Prop} {e:Exit} {a:Act} (h:postM P fn R e a w):bodyPostM Fence.wide 0 P fn R e a w:=by
 cases e with
 | panic chain =>
  obtain ⟨h1,h2⟩:=h
  show LeavesInM Fence.wide 0 P fn a.tmps R a.defers (.panicking chain) w
  rw [h1]; exact h2
 | _ => exact h
theorem wentM {F:FuncId} {fn:Func} {c:Code} {args:Array Value} {R':Ending → World → Prop}
  (hf:P.funcs[F]? = some fn) (hb:fn.body = some c) (hn:fn.ntmps = n) (ha:Nat.ble args.size n = true)
  (h:CW P c (postM P fn R') (act n (fun i => args.getD i undef)) w):Calls P F args w R':=by
 refine (callsIn_wide (n:=0)).1 (callsIn_of_wp_marks (n:=0) hf hb trivial ((wpIn_wide (n:=0)).2 ?_))
 have e:({ tmps:=args ++ Array.replicate (fn.ntmps - args.size) undef,defers:=[] }:Act) = act n (fun i => args.getD i undef):=by
  have ha':args.size ≤ n:=Nat.le_of_ble_eq_true ha
  simp only [act,hn]
  congr 1
  apply Array.ext
  ·simp; omega
  intro i h1 h2
  simp at h1 h2
  by_cases hi:i < args.size
  ·simp [Array.getElem_append,hi,Array.getD]
  simp [Array.getElem_append,hi,Array.getD]
 rw [e]; exact wp_mono h.out (fun e a w h => postM_m h)
theorem mret1 {fn:Func} {r:ResultVar} {v:Value} {E:Ending → World → Prop} (hr:fn.results = #[r]) (hS:Sep w0 (.obj D (.deferred (some [])) :: R) w) (h1:∀ w',Sep w0 R w' → Tells P n f w' r v) (h:∀ w',Sep w0 R w' → E (.returned v) w'):postM P fn E .ret (marked D (act n f)) w:=by
  have hs:=(hS.putObj (.deferred none)).sub (List.sublist_cons_self _ _)
  obtain ⟨_,x⟩:=(wr1 hr (h1 _ hs) (h _ hs):bodyPost P fn E .ret (act n f) (w.putObj D (.deferred none)))
  exact ⟨by simp,.inl ⟨D,_,rfl,run_takeDeferred (hS.get 0 rfl),x⟩⟩
theorem tellC1 {t:Nat} {ty:TypeId} {g:Nat} {v:Value} {t':TypeId} (hA:One P ty) (hS:Sep w0 R w) (k:Nat) (h:Nat.blt t n = true) (hv:f t = .pointer (some ⟨g,0,none⟩)) (hk:R[k]? = some (.blk g [v] t')):Tells P n f w (.cell t ty) v:=by
  unfold Tells; simp only []
  rw [act_getD h,hv]
  have:=run_loadAt_one (P:=P) (w:=w) (g:=g) (off:=0) (v:=v) hA ((blk_cell (hS.blkAt k hk) 0).trans rfl)
  simpa [Instr.loadAt,Instr.sureAddr,asAddr] using this
theorem wret0 {fn:Func} {E:Ending → World → Prop} (hr:fn.results = #[]) (h:E (.returned (.tuple #[])) w):bodyPost P fn E .ret (act n f) w:=by
  refine wret hr ?_ h
  simp
theorem wret0n {fn:Func} {E:Ending → World → Prop} (hr:fn.results = #[]) (h:E (.returned (.tuple #[])) w):bodyPost P fn E .normal (act n f) w :=
  (wret0 hr h:bodyPost P fn E .ret (act n f) w)
end
open Go.RowKit
theorem Sep.pickT {w0 w:World} {T:List Res} (R S:List Res) (h:Sep w0 (R ++ T) w) (ks:List Nat) (hn:ks.Nodup) (he:ks.map (fun k => R[k]?) = S.map some):Sep w0 (S ++ T) w:=by
 refine h.pick (ks ++ List.range' R.length T.length) ?_ ?_
 ·have hlt:∀ k ∈ ks,k < R.length:=fun k hk => by
   have:R[k]? ∈ S.map some:=by rw [← he]; exact List.mem_map.2 ⟨k,hk,rfl⟩
   obtain ⟨s,_,hs⟩:=List.mem_map.1 this
   exact (List.getElem?_eq_some_iff.1 hs.symm).1
  refine List.nodup_append.2 ⟨hn,List.nodup_range',fun a ha b hb e => ?_⟩
  subst e
  have:=hlt a ha
  rw [List.mem_range'_1] at hb
  omega
 rw [List.map_append,List.map_append]
 congr 1
 ·rw [← he]
  refine List.map_congr_left fun k hk => ?_
  have:R[k]? ∈ S.map some:=by rw [← he]; exact List.mem_map.2 ⟨k,hk,rfl⟩
  obtain ⟨s,_,hs⟩:=List.mem_map.1 this
  exact List.getElem?_append_left (List.getElem?_eq_some_iff.1 hs.symm).1
 apply List.ext_getElem?
 intro i
 rw [List.getElem?_map,List.getElem?_map]
 by_cases hi:i < T.length
 ·rw [List.getElem?_range' hi,Option.map_some,List.getElem?_append_right (by omega)]
  simp [hi]
 rw [List.getElem?_eq_none (by simpa using hi),List.getElem?_eq_none (by omega)]; rfl
theorem Sep.behind {w0 w:World} {T:List Res} (R:List Res) (h:Sep w0 (R ++ T) w):Sep w0 T w:=h.sub (List.sublist_append_right R T)
theorem Sep.front1 {w0 w:World} {R S r:List Res} (h:Sep w0 (R ++ (r ++ S)) w):Sep w0 (r ++ (R ++ S)) w:=h.perm (by
  rw [← List.append_assoc, ← List.append_assoc]
  exact List.Perm.append_right S List.perm_append_comm)
theorem Sep.front2 {w0 w:World} {R S r0 r1:List Res} (h:Sep w0 (R ++ (r0 ++ (r1 ++ S))) w):Sep w0 (r0 ++ (r1 ++ (R ++ S))) w:=by
  have e:r0 ++ (r1 ++ S) = (r0 ++ r1) ++ S:=by simp
  rw [e] at h
  have:=Sep.front1 h
  simpa using this
open Go.RowKit
section
variable {P:Program} {r:Option Nat} {m n D d:Nat} {Q:Exit → Act → World → Prop} {a:Act} {w w0:World} {f:Nat → Value} {o:Oper}
theorem rlOn {ops:Array Oper} {rest:List Oper} {g:Nat} {b:Bool} (hg:o.guard = some (g,b)) {e:Nat} (hs:(ops[g]?).bind (·.dst) = some e) (hd:Nat.blt e n = true) (hv:f e = .bool b) (hn:noDefer o = true)
  (h:OW P o (act n f) w (fun a' w' => LR r m P ops Q rest a' w') Q):LR r m P ops Q (o :: rest) (act n f) w:=by
 refine ⟨?_⟩
 have hw:=want_on (ops:=ops) hg hs hd hv
 simp only [wpListIn,hw,if_true]
 exact OW.inn hn (h.mono fun a w h => h.out)
theorem rlOff {ops:Array Oper} {rest:List Oper} {g:Nat} {b b':Bool} (hg:o.guard = some (g,b)) {e:Nat} (hs:(ops[g]?).bind (·.dst) = some e) (hd:Nat.blt e n = true) (hv:f e = .bool b') (hne:(b' == b) = false)
  (ho:o.dst = some d) (h:LR r m P ops Q rest (act n (upd f d undef)) w):LR r m P ops Q (o :: rest) (act n f) w:=by
 refine ⟨?_⟩
 have hw:=want_off (ops:=ops) hg hs hd hv hne
 simp only [wpListIn,hw,Bool.false_eq_true,if_false,ho]
 rw [act_put]
 exact ⟨fun _ _ => trivial,h.out⟩
theorem mact_sets {l:List (Nat × Value)} (h:AllAt f l):marked D (act n f) = marked D (act n (sets f l)):=by rw [sets_self h]
end
theorem box_cells {w:World} {g:Nat} {cs:List Value} {t:TypeId} (h:w.heap[g]? = some (.cells cs.toArray t)):∀ j v,cs[j]? = some v → w.cell? ⟨g,0 + j,none⟩ = some v:=fun j v hj => by
  rw [Nat.zero_add]; exact (blk_cell h j).trans hj
def Nm (xs:List Nat):Tell:=fun v r => ∃ p n c,v = .slice p n c ∧ r = [.rowm p n c xs]
theorem RetN.m {w:World} {xs:List Nat} (e:Ending) (w':World) (h:RetN w xs e w'):Ret (Nm xs) w e w':=by
  obtain ⟨v,r,rfl,⟨p,n,c,rfl,rfl⟩,hN⟩:=RetN.u e w' h
  refine ⟨_,_,rfl,⟨p,n,c,rfl,rfl⟩,New.rowm hN.below ?_⟩
  have hf:Fr 0 w' p n c xs:=hN.holds _ List.mem_cons_self
  exact hf.raise (fun g hg => hN.high _ List.mem_cons_self g hg)
end Go.Proofs.YtnlnibngpeempaaGreatDoor
