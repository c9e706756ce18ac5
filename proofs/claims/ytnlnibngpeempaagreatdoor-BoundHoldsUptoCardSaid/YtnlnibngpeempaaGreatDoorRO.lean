/-
  Contracts and lemmas, joined in one text.
-/
import Derived.Test.YtnlnibngpeempaaGreatDoorRA
import Derived.Test.YtnlnibngpeempaaGreatDoorWA
set_option linter.unusedVariables false
set_option linter.unusedSimpArgs false
/-
  rat's functions of one fraction and of two.
-/
set_option maxRecDepth 100000
set_option maxHeartbeats 16000000
namespace Go.Proofs.YtnlnibngpeempaaGreatDoor
open Go.RowKit
theorem cell_sub {w:World} {g o:Nat} {vs:List Value} (h:∀ j v,vs[j]? = some v → w.cell? ⟨g,o + j,none⟩ = some v) (k:Nat) {us:List Value} (hu:us = (vs.drop k).take us.length):∀ j v,us[j]? = some v → w.cell? ⟨g,(o + k) + j,none⟩ = some v:=by
  intro j v hj
  rw [Nat.add_assoc]
  refine h _ _ ?_
  have hl:=(List.getElem?_eq_some_iff.1 hj).1
  rw [hu,List.getElem?_take,if_pos hl,List.getElem?_drop] at hj
  exact hj
theorem Rs.mono {w:World} {p:Option Addr} {m K K':Nat} {L:List (Int × Int)} (h:Rs w p m L K) (hK:K ≤ K'):Rs w p m L K':=by
  refine ⟨h.1,h.2.1,fun i z hi => ?_⟩
  obtain ⟨g,off,b,q,n,k,b2,q2,n2,k2,hp,h1,h2,h3⟩:=h.2.2 i z hi
  exact ⟨g,off,b,q,n,k,b2,q2,n2,k2,hp,h1,h2.mono hK,h3.mono hK⟩
theorem Rs.e0 {w:World} {p:Option Addr} {m K:Nat} {e:Int × Int} {L:List (Int × Int)} (h:Rs w p m (e :: L) K):∃ g off b q n k b2 q2 n2 k2,p = some ⟨g,off,none⟩ ∧ (∀ j v,[Value.bool b,.slice q n k,.bool b2,.slice q2 n2 k2][j]? = some v → w.cell? ⟨g,off + 0 * 4 + j,none⟩ = some v) ∧ Zr w b q n k e.1 K ∧ Zr w b2 q2 n2 k2 e.2 K:=h.2.2 0 e rfl
theorem Rs.e1 {w:World} {p:Option Addr} {m K:Nat} {e e2:Int × Int} {L:List (Int × Int)} (h:Rs w p m (e2 :: e :: L) K):∃ g off b q n k b2 q2 n2 k2,p = some ⟨g,off,none⟩ ∧ (∀ j v,[Value.bool b,.slice q n k,.bool b2,.slice q2 n2 k2][j]? = some v → w.cell? ⟨g,off + 1 * 4 + j,none⟩ = some v) ∧ Zr w b q n k e.1 K ∧ Zr w b2 q2 n2 k2 e.2 K:=h.2.2 1 e rfl
theorem ne_mul {a b:Int} (ha:a ≠ 0) (hb:b ≠ 0):a * b ≠ 0:=by
  intro h; rcases Int.mul_eq_zero.1 h with h | h
  · exact ha h
  exact hb h
open Go.RowKit
theorem wzmod {b:Bool} {p:Option Addr} {n c:Nat} {x:Int} {PP:Nat} {w:World} (hx:Zr w b p n c x 549755813000) (hP:PP < 4294967296) (hP0:PP ≠ 0) :
  Calls Tryz.prog 71 #[.agg #[.bool b,.slice p n c],.int .u32 (PP:Int)] w (Ret (Is (.tuple #[.int .u32 ((x % (PP:Int)).toNat:Int),.int .i64 0])) w):=by
 have hS:=Sep.init w
 refine went Tryz.func71 rfl (n:=30) rfl rfl ?_
 refine wsr (wl rfl (obox [.bool b,.slice p n c] hS rfl rfl (ev rfl rfl) rfl ?_))
 clear hS; intro g1 w2 hS
 refine wavc ?_
 refine wavc ?_
 refine wn1 (wSq (wsr (wmv rfl rfl ?_)))
 refine wbc rfl rfl (bEq (eqF (by omega))) ?_
 refine wn1 ?_
 refine wF (ev rfl rfl) ?_
 refine wSk (tNo (wSq ?_))
 have hk1:Wd ((PP:Int)) 2:=Wd.i64 (by omega) (by omega)
 obtain ⟨z2,hz2⟩:∃ z:Int,Hid (x / ((PP:Int)) = z):=⟨_,rfl⟩
 have hk2:Wd z2 549755813000:=Wd.ediv hx.wd hz2
 obtain ⟨z3,hz3⟩:∃ z:Int,Hid (x % ((PP:Int)) = z):=⟨_,rfl⟩
 have hk3:Wd z3 2:=Wd.emod hk1 (by omega) hz3
 refine wSg 11 [14,15,16,17,18,13,19,20,21,6,7] [[],[],[1],[2,1],[0,3,1,2],[4,0,1,2,3],[4,5,0,1,2,3],[4,5,0,1,2,3],[4,5,0,1,2,3],[],[]] [[],[],[],[],[],[4],[4],[4],[],[],[]] [7,8] [] (fun i => ([iSv (.agg #[.bool b,.slice p n c]),iSv (.int .u32 (PP:Int)),iSv (.int .i64 (PP:Int)),fun _ => Zt (PP:Int),fun _ => ZZEt z2 z3 0,fun us => Is (.tuple #[.agg #[.bool (ng z2),(vat (us.getD 0 undef) [0,1])],.agg #[.bool (ng z3),(vat (us.getD 0 undef) [1,1])],.int .i64 0]),fun us => Is (.agg #[.bool (ng z2),(vat (us.getD 0 undef) [0,1])]),fun us => Is (.agg #[.bool (ng z3),(vat (us.getD 0 undef) [1,1])]),iSv (.int .i64 0),fun _ => Ptr [.bool false,.slice none 0 0] 28,fun _ => Ptr [.bool false,.slice none 0 0] 28]:List (List Value → Tell)).getD i (fun _ _ _ => False)) hNi (fun d _ _ _ _ h => (by cases d <;> exact h)) (by kernel_rfl) (by kernel_rfl) (by kernel_rfl) hS ?_ ?_
 ·
  refine stH rfl (fun ho hS=>?_) ?_
  ·exact inNo rfl (oLd aggZ hS 0 rfl rfl (ev rfl (ho 2 rfl)) rfl rfl rfl (nSm rfl isI))
  refine stM rfl rfl rfl rfl rfl (fun _=>isI) ?_
  refine stT rfl (fun hT hS=>?_) ?_
  ·obtain ⟨hv1,hr1⟩:=hT 1 15 rfl rfl
   obtain hS:=hS.flat1 hr1
   exact inNo rfl (oCv (u:=.int .u32 (PP:Int)) (v:=.int .i64 (PP:Int)) rfl rfl (ev rfl hv1) (cvI Tryz.runUnderlying63 Tryz.runUnderlying2 (wI6 (by omega) (by omega))) (nSm rfl isI))
  refine stT rfl (fun hT hS=>?_) ?_
  ·obtain ⟨hv2,hr2⟩:=hT 2 16 rfl rfl
   obtain hS:=hS.flat1 hr2
   exact .inl ⟨wNo rfl,oCl rfl rfl Tryz.call33 rfl (wzof (z:=(PP:Int)) (by omega) (by omega)) (ar1 (ev rfl hv2)) cNw⟩
  refine stT rfl (fun hT hS=>?_) ?_
  ·obtain ⟨hv0,hr0⟩:=hT 0 14 rfl rfl
   obtain ⟨p1,n1,c1,hv3,hr3⟩:=(hT 3 17 rfl rfl:(Zt ((PP:Int))) _ _)
   obtain hS:=hS.flat2 hr0 hr3
   exact .inl ⟨wNo rfl,oCl rfl rfl Tryz.call108 rfl (wzeuclid ((hx.at hS).mono (by omega)) (((hS.sl 1 rfl).zr hk1).mono (by omega)) (by omega) hz2 hz3) (ar2 (ev rfl hv0) (ev rfl hv3)) cNw⟩
  refine stC rfl (fun _ f' _ _ _ _ hT hS _=>?_) ?_
  ·obtain ⟨p2,n2,c2,p3,n3,c3,hv4,hr4⟩:=(hT 4 18 rfl rfl:(ZZEt z2 z3 0) _ _)
   obtain hS:=hS.flat1 hr4
   have hQ:(.tuple #[.agg #[.bool (ng z2),.slice p2 n2 c2],.agg #[.bool (ng z3),.slice p3 n3 c3],.int .i64 0]:Value) = (fun (us:List Value) => (.tuple #[.agg #[.bool (ng z2),(vat (us.getD 0 undef) [0,1])],.agg #[.bool (ng z3),(vat (us.getD 0 undef) [1,1])],.int .i64 0]:Value)) [f' 18]:=by show _ = (.tuple #[.agg #[.bool (ng z2),(vat (f' 18) [0,1])],.agg #[.bool (ng z3),(vat (f' 18) [1,1])],.int .i64 0]:Value); rw [hv4]; rfl
   exact .inl ⟨wNo rfl,omove rfl rfl (ev rfl hv4) ⟨_,_,rfl,⟨hQ,rfl⟩,New.same _⟩⟩
  refine stC rfl (fun _ f' _ _ _ _ hT hS _=>?_) ?_
  ·obtain ⟨p2,n2,c2,p3,n3,c3,hv4,hr4⟩:=(hT 4 18 rfl rfl:(ZZEt z2 z3 0) _ _)
   obtain ⟨hv5,hr5⟩:=(hT 5 13 rfl rfl:(fun (us:List Value) => Is (.tuple #[.agg #[.bool (ng z2),(vat (us.getD 0 undef) [0,1])],.agg #[.bool (ng z3),(vat (us.getD 0 undef) [1,1])],.int .i64 0])) [f' 18] _ _)
   replace hv5:f' 13 = .tuple #[.agg #[.bool (ng z2),.slice p2 n2 c2],.agg #[.bool (ng z3),.slice p3 n3 c3],.int .i64 0]:=hv5.trans (by show (.tuple #[.agg #[.bool (ng z2),(vat (f' 18) [0,1])],.agg #[.bool (ng z3),(vat (f' 18) [1,1])],.int .i64 0]:Value) = _; rw [hv4]; rfl)
   obtain hS:=hS.flat2 hr4 hr5
   have hQ:(.agg #[.bool (ng z2),.slice p2 n2 c2]:Value) = (fun (us:List Value) => (.agg #[.bool (ng z2),(vat (us.getD 0 undef) [0,1])]:Value)) [f' 18]:=by show _ = (.agg #[.bool (ng z2),(vat (f' 18) [0,1])]:Value); rw [hv4]; rfl
   exact .inl ⟨wNo rfl,oEx rfl rfl (ev rfl hv5) rfl ⟨_,_,rfl,⟨hQ,rfl⟩,New.same _⟩⟩
  refine stepsPure rfl ?_ ?_
  ·intro f' ρ ho hT
   obtain ⟨p2,n2,c2,p3,n3,c3,hv4,hr4⟩:=(hT 4 18 rfl rfl:(ZZEt z2 z3 0) _ _)
   obtain ⟨hv5,hr5⟩:=(hT 5 13 rfl rfl:(fun (us:List Value) => Is (.tuple #[.agg #[.bool (ng z2),(vat (us.getD 0 undef) [0,1])],.agg #[.bool (ng z3),(vat (us.getD 0 undef) [1,1])],.int .i64 0])) [f' 18] _ _)
   replace hv5:f' 13 = .tuple #[.agg #[.bool (ng z2),.slice p2 n2 c2],.agg #[.bool (ng z3),.slice p3 n3 c3],.int .i64 0]:=hv5.trans (by show (.tuple #[.agg #[.bool (ng z2),(vat (f' 18) [0,1])],.agg #[.bool (ng z3),(vat (f' 18) [1,1])],.int .i64 0]:Value) = _; rw [hv4]; rfl)
   have hQ:(.agg #[.bool (ng z3),.slice p3 n3 c3]:Value) = (fun (us:List Value) => (.agg #[.bool (ng z3),(vat (us.getD 0 undef) [1,1])]:Value)) [f' 18]:=by show _ = (.agg #[.bool (ng z3),(vat (f' 18) [1,1])]:Value); rw [hv4]; rfl
   exact ⟨_,.inl ⟨wNo rfl,fun w hw => yextract (vs:=[.agg #[.bool (ng z2),.slice p2 n2 c2],.agg #[.bool (ng z3),.slice p3 n3 c3],.int .i64 0]) (v:=.agg #[.bool (ng z3),.slice p3 n3 c3]) rfl (ev rfl hv5) rfl w⟩,⟨hQ,rfl⟩⟩
  refine stepsPure rfl ?_ ?_
  ·intro f' ρ ho hT
   obtain ⟨p2,n2,c2,p3,n3,c3,hv4,hr4⟩:=(hT 4 18 rfl rfl:(ZZEt z2 z3 0) _ _)
   obtain ⟨hv5,hr5⟩:=(hT 5 13 rfl rfl:(fun (us:List Value) => Is (.tuple #[.agg #[.bool (ng z2),(vat (us.getD 0 undef) [0,1])],.agg #[.bool (ng z3),(vat (us.getD 0 undef) [1,1])],.int .i64 0])) [f' 18] _ _)
   replace hv5:f' 13 = .tuple #[.agg #[.bool (ng z2),.slice p2 n2 c2],.agg #[.bool (ng z3),.slice p3 n3 c3],.int .i64 0]:=hv5.trans (by show (.tuple #[.agg #[.bool (ng z2),(vat (f' 18) [0,1])],.agg #[.bool (ng z3),(vat (f' 18) [1,1])],.int .i64 0]:Value) = _; rw [hv4]; rfl)
   exact ⟨_,.inl ⟨wNo rfl,fun w hw => yextract (vs:=[.agg #[.bool (ng z2),.slice p2 n2 c2],.agg #[.bool (ng z3),.slice p3 n3 c3],.int .i64 0]) (v:=.int .i64 0) rfl (ev rfl hv5) rfl w⟩,isI⟩
  refine stT rfl (fun _ _=>?_) ?_
  ·exact .inl ⟨wNo rfl,oallocN [.bool false,.slice none 0 0] rfl rfl Tryz.zeroValue28 rfl ⟨_,_,rfl,ptrI,New.blk _ _ _⟩⟩
  refine stT rfl (fun _ _=>?_) ?_
  ·exact .inl ⟨wNo rfl,oallocN [.bool false,.slice none 0 0] rfl rfl Tryz.zeroValue28 rfl ⟨_,_,rfl,ptrI,New.blk _ _ _⟩⟩
  exact sNi
 intro vs ρ w5 f' hf hT hS
 obtain ⟨hv0,hr0⟩:=hT 0 (by decide)
 obtain ⟨hv1,hr1⟩:=hT 1 (by decide)
 obtain ⟨hv2,hr2⟩:=hT 2 (by decide)
 obtain ⟨p1,n1,c1,hv3,hr3⟩:=(hT 3 (by decide):(Zt ((PP:Int))) _ _)
 obtain ⟨p2,n2,c2,p3,n3,c3,hv4,hr4⟩:=(hT 4 (by decide):(ZZEt z2 z3 0) _ _)
 obtain ⟨hv5,hr5⟩:=(hT 5 (by decide):(fun (us:List Value) => Is (.tuple #[.agg #[.bool (ng z2),(vat (us.getD 0 undef) [0,1])],.agg #[.bool (ng z3),(vat (us.getD 0 undef) [1,1])],.int .i64 0])) [vs 4] _ _)
 replace hv5:vs 5 = .tuple #[.agg #[.bool (ng z2),.slice p2 n2 c2],.agg #[.bool (ng z3),.slice p3 n3 c3],.int .i64 0]:=hv5.trans (by show (.tuple #[.agg #[.bool (ng z2),(vat (vs 4) [0,1])],.agg #[.bool (ng z3),(vat (vs 4) [1,1])],.int .i64 0]:Value) = _; rw [hv4]; rfl)
 obtain ⟨hv6,hr6⟩:=(hT 6 (by decide):(fun (us:List Value) => Is (.agg #[.bool (ng z2),(vat (us.getD 0 undef) [0,1])])) [vs 4] _ _)
 replace hv6:vs 6 = .agg #[.bool (ng z2),.slice p2 n2 c2]:=hv6.trans (by show (.agg #[.bool (ng z2),(vat (vs 4) [0,1])]:Value) = _; rw [hv4]; rfl)
 obtain ⟨hv7,hr7⟩:=(hT 7 (by decide):(fun (us:List Value) => Is (.agg #[.bool (ng z3),(vat (us.getD 0 undef) [1,1])])) [vs 4] _ _)
 replace hv7:vs 7 = .agg #[.bool (ng z3),.slice p3 n3 c3]:=hv7.trans (by show (.agg #[.bool (ng z3),(vat (vs 4) [1,1])]:Value) = _; rw [hv4]; rfl)
 obtain ⟨hv8,hr8⟩:=hT 8 (by decide)
 obtain ⟨g3,hv9,hr9⟩:=(hT 9 (by decide):(Ptr [.bool false,.slice none 0 0] 28) _ _)
 obtain ⟨g4,hv10,hr10⟩:=(hT 10 (by decide):(Ptr [.bool false,.slice none 0 0] 28) _ _)
 simp only [pool,if_true,hr0,hr1,hr2,hr3,hr4,hr5,hr6,hr7,hr8,hr9,hr10,List.nil_append,List.cons_append,List.append_nil] at hS
 simp only [layf,hv0,hv1,hv2,hv3,hv4,hv5,hv6,hv7,hv8,hv9,hv10] at hf
 subst hf; clear hT hv0 hv1 hv2 hv3 hv4 hv5 hv6 hv7 hv8 hv9 hv10 hr0 hr1 hr2 hr3 hr4 hr5 hr6 hr7 hr8 hr9 hr10
 refine wLt 11 rfl (by kernel_rfl) (oSt _ _ Tryz.sizeOf28 hS 1 rfl rfl (ev rfl rfl) (ev rfl rfl) rfl rfl rfl rfl rfl rfl ?_)
 clear hS; intro w6 hS
 refine ⟨hNi,?_⟩
 refine wLt 12 rfl (by kernel_rfl) (oSt _ _ Tryz.sizeOf28 hS 0 rfl rfl (ev rfl rfl) (ev rfl rfl) rfl rfl rfl rfl rfl rfl ?_)
 clear hS; intro w7 hS
 refine ⟨hNi,?_⟩
 refine wLt 13 rfl (by kernel_rfl) (oassign rfl rfl (ev rfl rfl) ?_)
 refine ⟨hNi,?_⟩
 refine wdone rfl ?_
 refine tNo (wsr (wl rfl (oFA (g:=g4) (off:=0) 1 rfl rfl (ev rfl rfl) Tryz.runUnderlying28 rfl Tryz.sizeOf26 rfl ?_)))
 refine wl rfl (oL1 oneN hS 0 rfl rfl (ev rfl rfl) rfl rfl ?_)
 have hr0:=Int.emod_nonneg x (b:=(PP:Int)) (by omega)
 have hr1:=Int.emod_lt x (b:=(PP:Int)) (by omega)
 have hv:val (lim z3.natAbs) = (x % (PP:Int)).toNat:=by rw [vLm, ← hz3.out]; omega
 refine wcl Tryz.call109 (wuint64 (hS.sl 3 rfl) (by omega)) (ar1 (ev rfl rfl)) hS ?_
 clear hS; rintro _ _ w8 ⟨rfl,rfl⟩ hS
 refine wmv rfl rfl ?_
 refine wl rfl (oEx rfl rfl (ev rfl rfl) rfl ?_)
 refine wl rfl (oEx rfl rfl (ev rfl rfl) rfl ?_)
 refine wav rfl rfl ?_
 refine wav rfl rfl ?_
 refine wn2 (wmv rfl rfl ?_)
 refine wl rfl (oCv (u:=.int .u64 (((val (lim z3.natAbs):Nat):Int))) (v:=.int .u32 (((val (lim z3.natAbs):Nat):Int))) rfl rfl (ev rfl rfl) (cvI Tryz.runUnderlying71 Tryz.runUnderlying63 (wrap_u32 (by omega) (by omega))) ?_)
 refine wav rfl rfl ?_
 refine wavc ?_
 refine wn1 ?_
 refine wLv ?_
 refine wret2 Tryz.results71 (tlT (v:=.int .u32 (((val (lim z3.natAbs):Nat):Int))) rfl rfl) (tlT (v:=.int .i64 0) rfl rfl) ?_
 exact ⟨_,_,rfl,⟨by rw [hv],rfl⟩,hS.new0⟩
end Go.Proofs.YtnlnibngpeempaaGreatDoor
