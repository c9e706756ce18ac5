/-
  Contracts and lemmas, joined in one text.
-/
import Derived.Test.YthnilcgmljecdaaDoorRA
import Derived.Test.YthnilcgmljecdaaDoorWA
set_option linter.unusedVariables false
set_option linter.unusedSimpArgs false
/-
  rat's functions of one fraction and of two.
-/
set_option maxRecDepth 100000
set_option maxHeartbeats 16000000
namespace Go.Proofs.YthnilcgmljecdaaDoor
open Go.RowKit
theorem Rs.mono {w:World} {p:Option Addr} {m K K':Nat} {L:List (Int × Int)} (h:Rs w p m L K) (hK:K ≤ K'):Rs w p m L K':=by
  refine ⟨h.1,h.2.1,fun i z hi => ?_⟩
  obtain ⟨g,off,b,q,n,k,b2,q2,n2,k2,hp,h1,h2,h3⟩:=h.2.2 i z hi
  exact ⟨g,off,b,q,n,k,b2,q2,n2,k2,hp,h1,h2.mono hK,h3.mono hK⟩
theorem Rs.e0 {w:World} {p:Option Addr} {m K:Nat} {e:Int × Int} {L:List (Int × Int)} (h:Rs w p m (e :: L) K):∃ g off b q n k b2 q2 n2 k2,p = some ⟨g,off,none⟩ ∧ (∀ j v,[Value.bool b,.slice q n k,.bool b2,.slice q2 n2 k2][j]? = some v → w.cell? ⟨g,off + 0 * 4 + j,none⟩ = some v) ∧ Zr w b q n k e.1 K ∧ Zr w b2 q2 n2 k2 e.2 K:=h.2.2 0 e rfl
theorem Rs.e1 {w:World} {p:Option Addr} {m K:Nat} {e e2:Int × Int} {L:List (Int × Int)} (h:Rs w p m (e2 :: e :: L) K):∃ g off b q n k b2 q2 n2 k2,p = some ⟨g,off,none⟩ ∧ (∀ j v,[Value.bool b,.slice q n k,.bool b2,.slice q2 n2 k2][j]? = some v → w.cell? ⟨g,off + 1 * 4 + j,none⟩ = some v) ∧ Zr w b q n k e.1 K ∧ Zr w b2 q2 n2 k2 e.2 K:=h.2.2 1 e rfl
end Go.Proofs.YthnilcgmljecdaaDoor
/-
  The walks of simileref03.Euclid,Near,Mod and of zint.Mod.
-/
namespace Go.Proofs.YthnilcgmljecdaaDoor
open Go.RowKit
theorem wzmod {b:Bool} {p:Option Addr} {n c:Nat} {x:Int} {PP:Nat} {w:World} (hx:Zr w b p n c x 549755813000) (hP:PP < 4294967296) (hP0:PP ≠ 0) :
  Calls Tryd.prog 43 #[.agg #[.bool b,.slice p n c],.int .u32 (PP:Int)] w (Ret (Is (.tuple #[.int .u32 ((x % (PP:Int)).toNat:Int),.int .i64 0])) w):=by
 have hS:=Sep.init w
 refine went Tryd.func43 rfl (n:=30) rfl rfl ?_
 refine wseq (wreg (wl rfl (obox [.bool b,.slice p n c] hS rfl rfl (ev (v:=.agg #[.bool b,.slice p n c]) rfl rfl) rfl ?_)))
 clear hS; intro g1 w2 hS
 refine wl rfl (oassign (v:=.int .u32 0) rfl rfl evc ?_)
 refine wl rfl (oassign (v:=.int .i64 0) rfl rfl evc ?_)
 refine wnil (thenN (wseq (wseq (wreg (wl rfl (omove (v:=.int .u32 (PP:Int)) rfl rfl (ev rfl rfl) ?_))))))
 refine wl rfl (obin (u:=.int .u32 (PP:Int)) (v:=.int .u32 0) (z:=.bool false) rfl rfl (ev rfl rfl) evc (bin_eql (eqF (by omega))) ?_)
 refine wnil (thenN ?_)
 refine wF (ev rfl rfl) ?_
 refine wskip (thenN (wseq ?_))
 have hk1:Wd ((PP:Int)) 2:=Wd.i64 (by omega) (by omega)
 obtain ⟨z2,hz2⟩:∃ z:Int,Hid (x / ((PP:Int)) = z):=⟨_,rfl⟩
 have hk2:Wd z2 549755813000:=Wd.ediv hx.wd hz2
 obtain ⟨z3,hz3⟩:∃ z:Int,Hid (x % ((PP:Int)) = z):=⟨_,rfl⟩
 have hk3:Wd z3 2:=Wd.emod hk1 (by omega) hz3
 refine wstage 11 [14,15,16,17,18,13,19,20,21,6,7] [[],[],[1],[2,1],[0,3,1,2],[4,0,1,2,3],[4,5,0,1,2,3],[4,5,0,1,2,3],[4,5,0,1,2,3],[],[]] [[],[],[],[],[],[4],[4],[4],[],[],[]] [7,8] [] (fun i => ([fun _ => Is (.agg #[.bool b,.slice p n c]),fun _ => Is (.int .u32 (PP:Int)),fun _ => Is (.int .i64 (PP:Int)),fun _ => Zt (PP:Int),fun _ => ZZEt z2 z3 0,fun us => Is (.tuple #[.agg #[.bool (ng z2),(vat (us.getD 0 undef) [0,1])],.agg #[.bool (ng z3),(vat (us.getD 0 undef) [1,1])],.int .i64 0]),fun us => Is (.agg #[.bool (ng z2),(vat (us.getD 0 undef) [0,1])]),fun us => Is (.agg #[.bool (ng z3),(vat (us.getD 0 undef) [1,1])]),fun _ => Is (.int .i64 0),fun _ => Ptr [.bool false,.slice none 0 0] 28,fun _ => Ptr [.bool false,.slice none 0 0] 28]:List (List Value → Tell)).getD i (fun _ _ _ => False)) (heldNil) (fun d _ _ _ _ h => (by cases d <;> exact h)) (by kernel_rfl) (by kernel_rfl) (by kernel_rfl) hS ?_ ?_
 ·
  refine stepsCons rfl (fun Q f' w' ρ S ho hT hS hB => ?_) ?_
  ·exact .inl ⟨want_none rfl,oload (vs:=[.bool b,.slice p n c]) aggZ hS 0 rfl rfl (ev rfl (ho 2 rfl)) rfl rfl rfl ⟨_,_,rfl,isI,New.same _⟩⟩
  refine stepsCons rfl (fun Q f' w' ρ S ho hT hS hB => ?_) ?_
  ·exact .inl ⟨want_none rfl,omove (v:=.int .u32 (PP:Int)) rfl rfl (ev rfl (ho 1 rfl)) ⟨_,_,rfl,isI,New.same _⟩⟩
  refine stepsCons rfl (fun Q f' w' ρ S ho hT hS hB => ?_) ?_
  ·obtain ⟨hv1,hr1⟩:=(hT 1 15 rfl rfl:(Is (.int .u32 ((PP:Int)))) _ _)
   obtain hS:=hS.flat1 hr1
   exact .inl ⟨want_none rfl,oconvert (u:=.int .u32 (PP:Int)) (v:=.int .i64 (PP:Int)) rfl rfl (ev rfl hv1) (convert_int Tryd.runUnderlying34 Tryd.runUnderlying2 (wrap_i64 (by omega) (by omega))) ⟨_,_,rfl,isI,New.same _⟩⟩
  refine stepsCons rfl (fun Q f' w' ρ S ho hT hS hB => ?_) ?_
  ·obtain ⟨hv2,hr2⟩:=(hT 2 16 rfl rfl:(Is (.int .i64 ((PP:Int)))) _ _)
   obtain hS:=hS.flat1 hr2
   exact .inl ⟨want_none rfl,ocall rfl rfl Tryd.call40 rfl (wzof (z:=(PP:Int)) (by omega) (by omega)) (args1 (ev rfl hv2)) callN⟩
  refine stepsCons rfl (fun Q f' w' ρ S ho hT hS hB => ?_) ?_
  ·obtain ⟨hv0,hr0⟩:=(hT 0 14 rfl rfl:(Is (.agg #[.bool b,.slice p n c])) _ _)
   obtain ⟨p1,n1,c1,hv3,hr3⟩:=(hT 3 17 rfl rfl:(Zt ((PP:Int))) _ _)
   obtain hS:=hS.flat2 hr0 hr3
   exact .inl ⟨want_none rfl,ocall rfl rfl Tryd.call75 rfl (wzeuclid ((hx.at hS).mono (by omega)) (((hS.sl 1 rfl).zr hk1).mono (by omega)) (by omega) hz2 hz3) (args2 (ev rfl hv0) (ev rfl hv3)) callN⟩
  refine stepsCons rfl (fun Q f' w' ρ S ho hT hS hB => ?_) ?_
  ·obtain ⟨p2,n2,c2,p3,n3,c3,hv4,hr4⟩:=(hT 4 18 rfl rfl:(ZZEt z2 z3 0) _ _)
   obtain hS:=hS.flat1 hr4
   have hQ:(.tuple #[.agg #[.bool (ng z2),.slice p2 n2 c2],.agg #[.bool (ng z3),.slice p3 n3 c3],.int .i64 0]:Value) = (fun (us:List Value) => (.tuple #[.agg #[.bool (ng z2),(vat (us.getD 0 undef) [0,1])],.agg #[.bool (ng z3),(vat (us.getD 0 undef) [1,1])],.int .i64 0]:Value)) [f' 18]:=by show _ = (.tuple #[.agg #[.bool (ng z2),(vat (f' 18) [0,1])],.agg #[.bool (ng z3),(vat (f' 18) [1,1])],.int .i64 0]:Value); rw [hv4]; rfl
   exact .inl ⟨want_none rfl,omove (v:=.tuple #[.agg #[.bool (ng z2),.slice p2 n2 c2],.agg #[.bool (ng z3),.slice p3 n3 c3],.int .i64 0]) rfl rfl (ev rfl hv4) ⟨_,_,rfl,⟨hQ,rfl⟩,New.same _⟩⟩
  refine stepsCons rfl (fun Q f' w' ρ S ho hT hS hB => ?_) ?_
  ·obtain ⟨p2,n2,c2,p3,n3,c3,hv4,hr4⟩:=(hT 4 18 rfl rfl:(ZZEt z2 z3 0) _ _)
   obtain ⟨hv5,hr5⟩:=(hT 5 13 rfl rfl:(fun (us:List Value) => Is (.tuple #[.agg #[.bool (ng z2),(vat (us.getD 0 undef) [0,1])],.agg #[.bool (ng z3),(vat (us.getD 0 undef) [1,1])],.int .i64 0])) [f' 18] _ _)
   replace hv5:f' 13 = .tuple #[.agg #[.bool (ng z2),.slice p2 n2 c2],.agg #[.bool (ng z3),.slice p3 n3 c3],.int .i64 0]:=hv5.trans (by show (.tuple #[.agg #[.bool (ng z2),(vat (f' 18) [0,1])],.agg #[.bool (ng z3),(vat (f' 18) [1,1])],.int .i64 0]:Value) = _; rw [hv4]; rfl)
   obtain hS:=hS.flat2 hr4 hr5
   have hQ:(.agg #[.bool (ng z2),.slice p2 n2 c2]:Value) = (fun (us:List Value) => (.agg #[.bool (ng z2),(vat (us.getD 0 undef) [0,1])]:Value)) [f' 18]:=by show _ = (.agg #[.bool (ng z2),(vat (f' 18) [0,1])]:Value); rw [hv4]; rfl
   exact .inl ⟨want_none rfl,oextract (vs:=[.agg #[.bool (ng z2),.slice p2 n2 c2],.agg #[.bool (ng z3),.slice p3 n3 c3],.int .i64 0]) (v:=.agg #[.bool (ng z2),.slice p2 n2 c2]) rfl rfl (ev rfl hv5) rfl ⟨_,_,rfl,⟨hQ,rfl⟩,New.same _⟩⟩
  refine stepsPure rfl ?_ ?_
  ·intro f' ρ ho hT
   obtain ⟨p2,n2,c2,p3,n3,c3,hv4,hr4⟩:=(hT 4 18 rfl rfl:(ZZEt z2 z3 0) _ _)
   obtain ⟨hv5,hr5⟩:=(hT 5 13 rfl rfl:(fun (us:List Value) => Is (.tuple #[.agg #[.bool (ng z2),(vat (us.getD 0 undef) [0,1])],.agg #[.bool (ng z3),(vat (us.getD 0 undef) [1,1])],.int .i64 0])) [f' 18] _ _)
   replace hv5:f' 13 = .tuple #[.agg #[.bool (ng z2),.slice p2 n2 c2],.agg #[.bool (ng z3),.slice p3 n3 c3],.int .i64 0]:=hv5.trans (by show (.tuple #[.agg #[.bool (ng z2),(vat (f' 18) [0,1])],.agg #[.bool (ng z3),(vat (f' 18) [1,1])],.int .i64 0]:Value) = _; rw [hv4]; rfl)
   have hQ:(.agg #[.bool (ng z3),.slice p3 n3 c3]:Value) = (fun (us:List Value) => (.agg #[.bool (ng z3),(vat (us.getD 0 undef) [1,1])]:Value)) [f' 18]:=by show _ = (.agg #[.bool (ng z3),(vat (f' 18) [1,1])]:Value); rw [hv4]; rfl
   exact ⟨_,.inl ⟨want_none rfl,fun w hw => yextract (vs:=[.agg #[.bool (ng z2),.slice p2 n2 c2],.agg #[.bool (ng z3),.slice p3 n3 c3],.int .i64 0]) (v:=.agg #[.bool (ng z3),.slice p3 n3 c3]) rfl (ev (v:=.tuple #[.agg #[.bool (ng z2),.slice p2 n2 c2],.agg #[.bool (ng z3),.slice p3 n3 c3],.int .i64 0]) rfl hv5) rfl w⟩,⟨hQ,rfl⟩⟩
  refine stepsPure rfl ?_ ?_
  ·intro f' ρ ho hT
   obtain ⟨p2,n2,c2,p3,n3,c3,hv4,hr4⟩:=(hT 4 18 rfl rfl:(ZZEt z2 z3 0) _ _)
   obtain ⟨hv5,hr5⟩:=(hT 5 13 rfl rfl:(fun (us:List Value) => Is (.tuple #[.agg #[.bool (ng z2),(vat (us.getD 0 undef) [0,1])],.agg #[.bool (ng z3),(vat (us.getD 0 undef) [1,1])],.int .i64 0])) [f' 18] _ _)
   replace hv5:f' 13 = .tuple #[.agg #[.bool (ng z2),.slice p2 n2 c2],.agg #[.bool (ng z3),.slice p3 n3 c3],.int .i64 0]:=hv5.trans (by show (.tuple #[.agg #[.bool (ng z2),(vat (f' 18) [0,1])],.agg #[.bool (ng z3),(vat (f' 18) [1,1])],.int .i64 0]:Value) = _; rw [hv4]; rfl)
   exact ⟨_,.inl ⟨want_none rfl,fun w hw => yextract (vs:=[.agg #[.bool (ng z2),.slice p2 n2 c2],.agg #[.bool (ng z3),.slice p3 n3 c3],.int .i64 0]) (v:=.int .i64 0) rfl (ev (v:=.tuple #[.agg #[.bool (ng z2),.slice p2 n2 c2],.agg #[.bool (ng z3),.slice p3 n3 c3],.int .i64 0]) rfl hv5) rfl w⟩,isI⟩
  refine stepsCons rfl (fun Q f' w' ρ S ho hT hS hB => ?_) ?_
  ·exact .inl ⟨want_none rfl,oallocN [.bool false,.slice none 0 0] rfl rfl Tryd.zeroValue28 rfl ⟨_,_,rfl,ptrI,New.blk _ _ _⟩⟩
  refine stepsCons rfl (fun Q f' w' ρ S ho hT hS hB => ?_) ?_
  ·exact .inl ⟨want_none rfl,oallocN [.bool false,.slice none 0 0] rfl rfl Tryd.zeroValue28 rfl ⟨_,_,rfl,ptrI,New.blk _ _ _⟩⟩
  exact stepsNil
 ·
  intro vs ρ w5 f' hf hT hS
  obtain ⟨hv0,hr0⟩:=(hT 0 (by decide):(Is (.agg #[.bool b,.slice p n c])) _ _)
  obtain ⟨hv1,hr1⟩:=(hT 1 (by decide):(Is (.int .u32 ((PP:Int)))) _ _)
  obtain ⟨hv2,hr2⟩:=(hT 2 (by decide):(Is (.int .i64 ((PP:Int)))) _ _)
  obtain ⟨p1,n1,c1,hv3,hr3⟩:=(hT 3 (by decide):(Zt ((PP:Int))) _ _)
  obtain ⟨p2,n2,c2,p3,n3,c3,hv4,hr4⟩:=(hT 4 (by decide):(ZZEt z2 z3 0) _ _)
  obtain ⟨hv5,hr5⟩:=(hT 5 (by decide):(fun (us:List Value) => Is (.tuple #[.agg #[.bool (ng z2),(vat (us.getD 0 undef) [0,1])],.agg #[.bool (ng z3),(vat (us.getD 0 undef) [1,1])],.int .i64 0])) [vs 4] _ _)
  replace hv5:vs 5 = .tuple #[.agg #[.bool (ng z2),.slice p2 n2 c2],.agg #[.bool (ng z3),.slice p3 n3 c3],.int .i64 0]:=hv5.trans (by show (.tuple #[.agg #[.bool (ng z2),(vat (vs 4) [0,1])],.agg #[.bool (ng z3),(vat (vs 4) [1,1])],.int .i64 0]:Value) = _; rw [hv4]; rfl)
  obtain ⟨hv6,hr6⟩:=(hT 6 (by decide):(fun (us:List Value) => Is (.agg #[.bool (ng z2),(vat (us.getD 0 undef) [0,1])])) [vs 4] _ _)
  replace hv6:vs 6 = .agg #[.bool (ng z2),.slice p2 n2 c2]:=hv6.trans (by show (.agg #[.bool (ng z2),(vat (vs 4) [0,1])]:Value) = _; rw [hv4]; rfl)
  obtain ⟨hv7,hr7⟩:=(hT 7 (by decide):(fun (us:List Value) => Is (.agg #[.bool (ng z3),(vat (us.getD 0 undef) [1,1])])) [vs 4] _ _)
  replace hv7:vs 7 = .agg #[.bool (ng z3),.slice p3 n3 c3]:=hv7.trans (by show (.agg #[.bool (ng z3),(vat (vs 4) [1,1])]:Value) = _; rw [hv4]; rfl)
  obtain ⟨hv8,hr8⟩:=(hT 8 (by decide):(Is (.int .i64 0)) _ _)
  obtain ⟨g3,hv9,hr9⟩:=(hT 9 (by decide):(Ptr [.bool false,.slice none 0 0] 28) _ _)
  obtain ⟨g4,hv10,hr10⟩:=(hT 10 (by decide):(Ptr [.bool false,.slice none 0 0] 28) _ _)
  simp only [pool,if_true,hr0,hr1,hr2,hr3,hr4,hr5,hr6,hr7,hr8,hr9,hr10,List.nil_append,List.cons_append,List.append_nil] at hS
  simp only [layf,hv0,hv1,hv2,hv3,hv4,hv5,hv6,hv7,hv8,hv9,hv10] at hf
  subst hf; clear hT hv0 hv1 hv2 hv3 hv4 hv5 hv6 hv7 hv8 hv9 hv10 hr0 hr1 hr2 hr3 hr4 hr5 hr6 hr7 hr8 hr9 hr10
  refine wlate 11 rfl (by kernel_rfl) (ostore [.bool (ng z2),.slice p2 n2 c2] [.bool (ng z2),.slice p2 n2 c2] Tryd.sizeOf28 hS 1 rfl rfl (ev rfl rfl) (ev (v:=.agg #[.bool (ng z2),.slice p2 n2 c2]) rfl rfl) rfl rfl rfl rfl rfl rfl ?_)
  clear hS; intro w6 hS
  refine ⟨heldNil,?_⟩
  refine wlate 12 rfl (by kernel_rfl) (ostore [.bool (ng z3),.slice p3 n3 c3] [.bool (ng z3),.slice p3 n3 c3] Tryd.sizeOf28 hS 0 rfl rfl (ev rfl rfl) (ev (v:=.agg #[.bool (ng z3),.slice p3 n3 c3]) rfl rfl) rfl rfl rfl rfl rfl rfl ?_)
  clear hS; intro w7 hS
  refine ⟨heldNil,?_⟩
  refine wlate 13 rfl (by kernel_rfl) (oassign (v:=.int .i64 0) rfl rfl (ev rfl rfl) ?_)
  refine ⟨heldNil,?_⟩
  refine wdone rfl ?_
  refine thenN (wseq (wreg (wl rfl (ofieldAddr (g:=g4) (off:=0) 1 rfl rfl (ev rfl rfl) Tryd.runUnderlying28 rfl Tryd.sizeOf26 rfl ?_))))
  refine wl rfl (oload1 (v:=.slice p3 n3 c3) oneN hS 0 rfl rfl (ev rfl rfl) rfl rfl ?_)
  have hr0:=Int.emod_nonneg x (b:=(PP:Int)) (by omega)
  have hr1:=Int.emod_lt x (b:=(PP:Int)) (by omega)
  have hv:val (lim z3.natAbs) = (x % (PP:Int)).toNat:=by rw [val_lim, ← hz3.out]; omega
  refine wl rfl (ocall rfl rfl Tryd.call76 rfl (wuint64 (hS.sl 3 rfl) (by omega)) (args1 (ev rfl rfl)) ?_)
  rintro _ w8 ⟨_,_,rfl,⟨rfl,rfl⟩,hN⟩
  refine ⟨_,rfl,?_⟩
  replace hS:=hS.news hN; clear hN
  refine wl rfl (omove (v:=.tuple #[.int .u64 (((val (lim z3.natAbs):Nat):Int)),.bool true]) rfl rfl (ev rfl rfl) ?_)
  refine wl rfl (oextract (vs:=[.int .u64 (((val (lim z3.natAbs):Nat):Int)),.bool true]) (v:=.int .u64 (((val (lim z3.natAbs):Nat):Int))) rfl rfl (ev rfl rfl) rfl ?_)
  refine wl rfl (oextract (vs:=[.int .u64 (((val (lim z3.natAbs):Nat):Int)),.bool true]) (v:=.bool true) rfl rfl (ev rfl rfl) rfl ?_)
  refine wl rfl (oassign (v:=.int .u64 (((val (lim z3.natAbs):Nat):Int))) rfl rfl (ev rfl rfl) ?_)
  refine wl rfl (oassign (v:=.bool true) rfl rfl (ev rfl rfl) ?_)
  refine wnil (thenN (wseq (wreg (wl rfl (omove (v:=.int .u64 (((val (lim z3.natAbs):Nat):Int))) rfl rfl (ev rfl rfl) ?_)))))
  refine wl rfl (oconvert (u:=.int .u64 (((val (lim z3.natAbs):Nat):Int))) (v:=.int .u32 (((val (lim z3.natAbs):Nat):Int))) rfl rfl (ev rfl rfl) (convert_int Tryd.runUnderlying70 Tryd.runUnderlying34 (wrap_u32 (by omega) (by omega))) ?_)
  refine wl rfl (oassign (v:=.int .u32 (((val (lim z3.natAbs):Nat):Int))) rfl rfl (ev rfl rfl) ?_)
  refine wl rfl (oassign (v:=.int .i64 0) rfl rfl evc ?_)
  refine wnil (thenN ?_)
  refine wleave ?_
  refine wret2 Tryd.results43 (tellT (v:=.int .u32 (((val (lim z3.natAbs):Nat):Int))) rfl rfl) (tellT (v:=.int .i64 0) rfl rfl) ?_
  exact ⟨_,_,rfl,⟨by rw [hv],rfl⟩,hS.new0⟩
end Go.Proofs.YthnilcgmljecdaaDoor
