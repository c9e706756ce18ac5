/-
  Contracts and lemmas, joined in one text.
-/
import Derived.Test.YtjnpdpcldmjdjaaGreatDoorRA
import Derived.Test.YtjnpdpcldmjdjaaGreatDoorWA
set_option linter.unusedVariables false
set_option linter.unusedSimpArgs false
/-
  rat's functions of one fraction and of two.
-/
set_option maxRecDepth 100000
set_option maxHeartbeats 16000000
namespace Go.Proofs.YtjnpdpcldmjdjaaGreatDoor
open Go.RowKit
theorem cell_sub {w:World} {g o:Nat} {vs:List Value} (h:∀ j v,vs[j]? = some v → w.cell? ⟨g,o + j,none⟩ = some v) (k:Nat) {us:List Value} (hu:us = (vs.drop k).take us.length):∀ j v,us[j]? = some v → w.cell? ⟨g,(o + k) + j,none⟩ = some v:=by
  intro j v hj
  rw [Nat.add_assoc]
  refine h _ _ ?_
  have hl:=(List.getElem?_eq_some_iff.1 hj).1
  rw [hu,List.getElem?_take,if_pos hl,List.getElem?_drop] at hj
  exact hj
theorem Rs.mono {w:World} {p:Option Addr} {m K K':Nat} {L:List (Int × Int)} (h:Rs w p m L K) (hK:K ≤ K'):Rs w p m L K':=by
  refine ⟨h.1,h.2.1,fun i z hi => ?_⟩
  obtain ⟨g,off,b,q,n,k,b2,q2,n2,k2,hp,h1,h2,h3⟩:=h.2.2 i z hi
  exact ⟨g,off,b,q,n,k,b2,q2,n2,k2,hp,h1,h2.mono hK,h3.mono hK⟩
theorem Rs.e0 {w:World} {p:Option Addr} {m K:Nat} {e:Int × Int} {L:List (Int × Int)} (h:Rs w p m (e :: L) K):∃ g off b q n k b2 q2 n2 k2,p = some ⟨g,off,none⟩ ∧ (∀ j v,[Value.bool b,.slice q n k,.bool b2,.slice q2 n2 k2][j]? = some v → w.cell? ⟨g,off + 0 * 4 + j,none⟩ = some v) ∧ Zr w b q n k e.1 K ∧ Zr w b2 q2 n2 k2 e.2 K:=h.2.2 0 e rfl
theorem Rs.e1 {w:World} {p:Option Addr} {m K:Nat} {e e2:Int × Int} {L:List (Int × Int)} (h:Rs w p m (e2 :: e :: L) K):∃ g off b q n k b2 q2 n2 k2,p = some ⟨g,off,none⟩ ∧ (∀ j v,[Value.bool b,.slice q n k,.bool b2,.slice q2 n2 k2][j]? = some v → w.cell? ⟨g,off + 1 * 4 + j,none⟩ = some v) ∧ Zr w b q n k e.1 K ∧ Zr w b2 q2 n2 k2 e.2 K:=h.2.2 1 e rfl
open Go.RowKit
theorem euc_pp {x y:Int} {Q R:Nat} (hQ:Hid (x.natAbs / y.natAbs = Q)) (hR:Hid (x.natAbs % y.natAbs = R)) (hx:0 ≤ x) (hy:0 < y):x / y = Q ∧ x % y = R:=by
  have h1:=Nat.div_add_mod x.natAbs y.natAbs
  have h2:=Nat.mod_lt x.natAbs (y:=y.natAbs) (by omega)
  rw [hQ.out] at h1; rw [hR.out] at h1 h2
  have h3:((y.natAbs * Q:Nat):Int) = y * Q:=by rw [Int.natCast_mul,show (y.natAbs:Int) = y by omega]
  have:=euclid_unique (a:=x) (b:=y) (q:=Q) (r:=R) (by omega) (by omega) (by omega)
  exact ⟨this.1.symm,this.2.symm⟩
theorem sgn_neg {z s:Int} (h:Hid (z.sign = s)) (hz:z < 0):s < 0:=by rw [← h.out,Int.sign_eq_neg_one_of_neg hz]; omega
theorem sgn_nn {z s:Int} (h:Hid (z.sign = s)) (hz:0 ≤ z):0 ≤ s:=by rw [← h.out]; have:=sign_cases z; omega
theorem wqeu_pp {z r:Int} {b b2:Bool} {p q:Option Addr} {n m c d:Nat} {x y:Int} {w:World} (hx:Zr w b p n c x 549755813880) (hy:Zr w b2 q m d y 549755813880) (h0:y ≠ 0) (hx0:0 ≤ x) (hy0:0 < y) (hz:Hid (x / y = z)) (hr:Hid (x % y = r)) :
  Calls Tryz.prog 81 #[.agg #[.bool b,.slice p n c],.agg #[.bool b2,.slice q m d]] w (Ret (ZZt z r) w):=by
 have hS:=Sep.init w
 refine went Tryz.func81 rfl (n:=50) rfl rfl ?_
 refine wsr (wl rfl (obox [.bool b,.slice p n c] hS rfl rfl (ev rfl rfl) rfl ?_))
 clear hS; intro g1 w2 hS
 refine wl rfl (obox [.bool b2,.slice q m d] hS rfl rfl (ev rfl rfl) rfl ?_)
 clear hS; intro g3 w4 hS
 refine wl rfl (oAl [.bool false,.slice none 0 0] hS rfl rfl Tryz.zeroValue60 rfl ?_)
 clear hS; intro g5 w6 hS
 refine wl rfl (oAl [.bool false,.slice none 0 0] hS rfl rfl Tryz.zeroValue60 rfl ?_)
 clear hS; intro g7 w8 hS
 refine wn1 (wSq ?_)
 obtain ⟨z1,hz1⟩:∃ z:Int,Hid (x = z):=⟨_,rfl⟩
 have hk1:Wd z1 549755813880:=Wd.same hx.wd hz1
 obtain ⟨z2,hz2⟩:∃ z:Int,Hid (y = z):=⟨_,rfl⟩
 have hk2:Wd z2 549755813880:=Wd.same hy.wd hz2
 refine wSg 4 [10,11,12,13] [[],[0],[],[2,0,1]] [] [] [] (fun i => ([iSv (.agg #[.bool b,.slice p n c]),fun _ => Zt z1,iSv (.agg #[.bool b2,.slice q m d]),fun _ => Zt z2]:List (List Value → Tell)).getD i (fun _ _ _ => False)) hNi (fun d _ _ _ _ h => (by cases d <;> exact h)) (by kernel_rfl) (by kernel_rfl) (by kernel_rfl) hS ?_ ?_
 ·
  refine stH rfl (fun ho hS=>?_) ?_
  ·exact inNo rfl (oLd aggZ hS 3 rfl rfl (ev rfl (ho 2 rfl)) rfl rfl rfl (nSm rfl isI))
  refine stT rfl (fun hT hS=>?_) ?_
  ·obtain ⟨hv0,hr0⟩:=hT 0 10 rfl rfl
   obtain hS:=hS.flat1 hr0
   exact .inl ⟨wNo rfl,oCl rfl rfl Tryz.call75 rfl (wqnorm ((hx.at hS).mono (by omega)) hz1) (ar1 (ev rfl hv0)) cNw⟩
  refine stH rfl (fun ho hS=>?_) ?_
  ·exact inNo rfl (oLd aggZ hS 2 rfl rfl (ev rfl (ho 3 rfl)) rfl rfl rfl (nSm rfl isI))
  refine stT rfl (fun hT hS=>?_) ?_
  ·obtain ⟨hv2,hr2⟩:=hT 2 12 rfl rfl
   obtain hS:=hS.flat1 hr2
   exact .inl ⟨wNo rfl,oCl rfl rfl Tryz.call75 rfl (wqnorm ((hy.at hS).mono (by omega)) hz2) (ar1 (ev rfl hv2)) cNw⟩
  exact sNi
 intro vs ρ w9 f' hf hT hS
 obtain ⟨hv0,hr0⟩:=hT 0 (by decide)
 obtain ⟨p1,n1,c1,hv1,hr1⟩:=(hT 1 (by decide):(Zt z1) _ _)
 obtain ⟨hv2,hr2⟩:=hT 2 (by decide)
 obtain ⟨p2,n2,c2,hv3,hr3⟩:=(hT 3 (by decide):(Zt z2) _ _)
 simp only [pool,if_true,hr0,hr1,hr2,hr3,List.nil_append,List.cons_append,List.append_nil] at hS
 simp only [layf,hv0,hv1,hv2,hv3] at hf
 subst hf; clear hT hv0 hv1 hv2 hv3 hr0 hr1 hr2 hr3
 refine wLt 4 rfl (by kernel_rfl) (oSt _ _ Tryz.sizeOf60 hS 5 rfl rfl (ev rfl rfl) (ev rfl rfl) rfl rfl rfl rfl rfl rfl ?_)
 clear hS; intro w10 hS
 refine ⟨hNi,?_⟩
 refine wLt 5 rfl (by kernel_rfl) (oSt _ _ Tryz.sizeOf60 hS 4 rfl rfl (ev rfl rfl) (ev rfl rfl) rfl rfl rfl rfl rfl rfl ?_)
 clear hS; intro w11 hS
 refine ⟨hNi,?_⟩
 refine wdone rfl ?_
 refine tNo (wsr (wl rfl (oFA (g:=g1) (off:=0) 1 rfl rfl (ev rfl rfl) Tryz.runUnderlying60 rfl Tryz.sizeOf24 rfl ?_)))
 refine wl rfl (oL1 oneN hS 5 rfl rfl (ev rfl rfl) rfl rfl ?_)
 refine wl rfl (oFA (g:=g3) (off:=0) 1 rfl rfl (ev rfl rfl) Tryz.runUnderlying60 rfl Tryz.sizeOf24 rfl ?_)
 refine wl rfl (oL1 oneN hS 4 rfl rfl (ev rfl rfl) rfl rfl ?_)
 have h02:z2 ≠ 0:=by have:=hz2.out; omega
 obtain ⟨Q3,hQ3⟩:∃ q:Nat,Hid (z1.natAbs / z2.natAbs = q):=⟨_,rfl⟩
 obtain ⟨R3,hR3⟩:∃ q:Nat,Hid (z1.natAbs % z2.natAbs = q):=⟨_,rfl⟩
 have hkQ3:ll Q3 ≤ 549755813880:=llv_le (by rw [← hQ3.out]; exact Nat.div_le_self _ _) hk1
 have hkR3:ll R3 ≤ 549755813880:=llv_le (by rw [← hR3.out]; exact Nat.mod_le _ _) hk1
 refine wcl Tryz.call78 (wrdiv (hS.sl 1 rfl) (hS.sl 0 rfl) (hk1.mono (by omega)) (hk2.mono (by omega)) h02 hQ3 hR3) (ar2 (ev rfl rfl) (ev rfl rfl)) hS ?_
 clear hS; rintro _ _ w12 ⟨pq3,nq3,cq3,pr3,nr3,cr3,rfl,rfl⟩ hS
 refine wmv rfl rfl ?_
 refine wl rfl (oEx rfl rfl (ev rfl rfl) rfl ?_)
 refine wl rfl (oEx rfl rfl (ev rfl rfl) rfl ?_)
 refine wav rfl rfl ?_
 refine wav rfl rfl ?_
 refine wn2 (wmv rfl rfl ?_)
 refine wl rfl (obuild (ps:=#[(1,.slice pq3 nq3 cq3)]) (v:=.agg #[.bool false,.slice pq3 nq3 cq3]) rfl rfl (parts1 (ev rfl rfl)) (fun w => by simp [go_sem,Instr.build,Instr.fill]) ?_)
 refine wmv rfl rfl ?_
 refine wl rfl (obuild (ps:=#[(1,.slice pr3 nr3 cr3)]) (v:=.agg #[.bool false,.slice pr3 nr3 cr3]) rfl rfl (parts1 (ev rfl rfl)) (fun w => by simp [go_sem,Instr.build,Instr.fill]) ?_)
 refine wl rfl (oAl [.bool false,.slice none 0 0] hS rfl rfl Tryz.zeroValue60 rfl ?_)
 clear hS; intro g13 w14 hS
 refine wl rfl (oAl [.bool false,.slice none 0 0] hS rfl rfl Tryz.zeroValue60 rfl ?_)
 clear hS; intro g15 w16 hS
 refine wl rfl (oSt _ _ Tryz.sizeOf60 hS 1 rfl rfl (ev rfl rfl) (ev rfl rfl) rfl rfl rfl rfl rfl rfl ?_)
 clear hS; intro w17 hS
 refine wl rfl (oSt _ _ Tryz.sizeOf60 hS 0 rfl rfl (ev rfl rfl) (ev rfl rfl) rfl rfl rfl rfl rfl rfl ?_)
 clear hS; intro w18 hS
 refine wn1 (wSq (wsr (wl rfl (oFA (g:=g1) (off:=0) 0 rfl rfl (ev rfl rfl) Tryz.runUnderlying60 rfl Tryz.sizeOf4 rfl ?_))))
 have hbz1:0 ≤ z1:=by have:=hz1.out; omega
 have hbz2:0 ≤ z2:=by have:=hz2.out; omega
 refine wl rfl (oL1 oneB hS 9 rfl rfl (ev rfl rfl) rfl (congrArg (fun t => some (Value.bool t)) (ng_false hbz1)) ?_)
 refine wn1 ?_
 refine wF (ev rfl rfl) ?_
 refine wSk (tNo (wSq (wsr (wl rfl (oFA (g:=g3) (off:=0) 0 rfl rfl (ev rfl rfl) Tryz.runUnderlying60 rfl Tryz.sizeOf4 rfl ?_)))))
 refine wl rfl (oL1 oneB hS 8 rfl rfl (ev rfl rfl) rfl (congrArg (fun t => some (Value.bool t)) (ng_false hbz2)) ?_)
 refine wn1 ?_
 refine wF (ev rfl rfl) ?_
 refine wSk (tNo (wSq ?_))
 obtain ⟨z4,hz4⟩:∃ z:Int,Hid ((((Q3:Nat):Int)) = z):=⟨_,rfl⟩
 have hk4:Wd z4 549755813880:=Wd.same (Wd.ofN hkQ3) hz4
 obtain ⟨z5,hz5⟩:∃ z:Int,Hid ((((R3:Nat):Int)) = z):=⟨_,rfl⟩
 have hk5:Wd z5 549755813880:=Wd.same (Wd.ofN hkR3) hz5
 refine wSg 4 [46,47,48,49] [[],[0],[],[2,0,1]] [] [] [] (fun i => ([iSv (.agg #[.bool false,.slice pq3 nq3 cq3]),fun _ => Zt z4,iSv (.agg #[.bool false,.slice pr3 nr3 cr3]),fun _ => Zt z5]:List (List Value → Tell)).getD i (fun _ _ _ => False)) hNi (fun d _ _ _ _ h => (by cases d <;> exact h)) (by kernel_rfl) (by kernel_rfl) (by kernel_rfl) hS ?_ ?_
 ·
  refine stH rfl (fun ho hS=>?_) ?_
  ·exact inNo rfl (oLd aggZ hS 1 rfl rfl (ev rfl (ho 8 rfl)) rfl rfl rfl (nSm rfl isI))
  refine stT rfl (fun hT hS=>?_) ?_
  ·obtain ⟨hv0,hr0⟩:=hT 0 46 rfl rfl
   obtain hS:=hS.flat1 hr0
   exact .inl ⟨wNo rfl,oCl rfl rfl Tryz.call75 rfl (wqnorm (((hS.sl 2 rfl).zrN hkQ3).mono (by omega)) hz4) (ar1 (ev rfl hv0)) cNw⟩
  refine stH rfl (fun ho hS=>?_) ?_
  ·exact inNo rfl (oLd aggZ hS 0 rfl rfl (ev rfl (ho 9 rfl)) rfl rfl rfl (nSm rfl isI))
  refine stT rfl (fun hT hS=>?_) ?_
  ·obtain ⟨hv2,hr2⟩:=hT 2 48 rfl rfl
   obtain hS:=hS.flat1 hr2
   exact .inl ⟨wNo rfl,oCl rfl rfl Tryz.call75 rfl (wqnorm (((hS.sl 3 rfl).zrN hkR3).mono (by omega)) hz5) (ar1 (ev rfl hv2)) cNw⟩
  exact sNi
 intro vs ρ w19 f' hf hT hS
 obtain ⟨hv0,hr0⟩:=hT 0 (by decide)
 obtain ⟨p4,n4,c4,hv1,hr1⟩:=(hT 1 (by decide):(Zt z4) _ _)
 obtain ⟨hv2,hr2⟩:=hT 2 (by decide)
 obtain ⟨p5,n5,c5,hv3,hr3⟩:=(hT 3 (by decide):(Zt z5) _ _)
 simp only [pool,if_true,hr0,hr1,hr2,hr3,List.nil_append,List.cons_append,List.append_nil] at hS
 simp only [layf,hv0,hv1,hv2,hv3] at hf
 subst hf; clear hT hv0 hv1 hv2 hv3 hr0 hr1 hr2 hr3
 refine wLt 4 rfl (by kernel_rfl) (oSt _ _ Tryz.sizeOf60 hS 9 rfl rfl (ev rfl rfl) (ev rfl rfl) rfl rfl rfl rfl rfl rfl ?_)
 clear hS; intro w20 hS
 refine ⟨hNi,?_⟩
 refine wLt 5 rfl (by kernel_rfl) (oSt _ _ Tryz.sizeOf60 hS 8 rfl rfl (ev rfl rfl) (ev rfl rfl) rfl rfl rfl rfl rfl rfl ?_)
 clear hS; intro w21 hS
 refine ⟨hNi,?_⟩
 refine wdone rfl ?_
 refine tNo ?_
 refine wLv ?_
 refine wret2 Tryz.results81 (tellC (cs:=[.bool (ng z4),.slice p4 n4 c4]) aggZ hS 9 rfl rfl rfl rfl) (tellC (cs:=[.bool (ng z5),.slice p5 n5 c5]) aggZ hS 8 rfl rfl rfl rfl) ?_
 have hh:=euc_pp (x:=x) (y:=y) (Q:=Q3) (R:=R3) (by show _ = _; rw [hz1.out,hz2.out]; exact hQ3.out) (by show _ = _; rw [hz1.out,hz2.out]; exact hR3.out) hx0 hy0
 have e1:=hz1.out
 have e2:=hz2.out
 have e4:=hz4.out
 have e5:=hz5.out
 have t1:z4 = z:=by have:=hz.out; omega
 have t2:z5 = r:=by have:=hr.out; omega
 subst t1
 subst t2
 exact ⟨_,_,rfl,⟨_,_,_,_,_,_,rfl,rfl⟩,hS.new2 1 0 rfl rfl⟩
theorem lim_word {N:Nat} (h:N < 4294967296):nd (lim N) 0 = N:=by
 rcases Nat.eq_zero_or_pos N with h0 | h0
 ·subst h0; rfl
 have h1:ll N ≤ 1:=ll_le (by omega)
 have h2:=ll_pos (n:=N) (by omega)
 exact lim1 (by omega)
theorem wzmod {b:Bool} {p:Option Addr} {n c:Nat} {x:Int} {PP:Nat} {w:World} (hx:Zr w b p n c x 549755813000) (hP:PP < 4294967296) (hP0:PP ≠ 0) :
  Calls Tryz.prog 101 #[.agg #[.bool b,.slice p n c],.int .u32 (PP:Int)] w (Ret (Is (.tuple #[.int .u32 ((x % (PP:Int)).toNat:Int),.int .i64 0])) w):=by
 have hS:=Sep.init w
 refine went Tryz.func101 rfl (n:=30) rfl rfl ?_
 refine wsr (wl rfl (obox [.bool b,.slice p n c] hS rfl rfl (ev rfl rfl) rfl ?_))
 clear hS; intro g1 w2 hS
 refine wavc ?_
 refine wavc ?_
 refine wn1 (wSq (wsr (wmv rfl rfl ?_)))
 refine wbc rfl rfl (bEq (eqF (by omega))) ?_
 refine wn1 ?_
 refine wF (ev rfl rfl) ?_
 refine wSk (tNo (wSq ?_))
 have hk1:Wd ((PP:Int)) 2:=Wd.i64 (by omega) (by omega)
 obtain ⟨z2,hz2⟩:∃ z:Int,Hid (x / ((PP:Int)) = z):=⟨_,rfl⟩
 have hk2:Wd z2 549755813000:=Wd.ediv hx.wd hz2
 obtain ⟨z3,hz3⟩:∃ z:Int,Hid (x % ((PP:Int)) = z):=⟨_,rfl⟩
 have hk3:Wd z3 2:=Wd.emod hk1 (by omega) hz3
 refine wSg 11 [14,15,16,17,18,13,19,20,21,6,7] [[],[],[1],[2,1],[0,3,1,2],[4,0,1,2,3],[4,5,0,1,2,3],[4,5,0,1,2,3],[4,5,0,1,2,3],[],[]] [[],[],[],[],[],[4],[4],[4],[],[],[]] [7,8] [] (fun i => ([iSv (.agg #[.bool b,.slice p n c]),iSv (.int .u32 (PP:Int)),iSv (.int .i64 (PP:Int)),fun _ => Zt (PP:Int),fun _ => ZZEt z2 z3 0,fun us => Is (.tuple #[.agg #[.bool (ng z2),(vat (us.getD 0 undef) [0,1])],.agg #[.bool (ng z3),(vat (us.getD 0 undef) [1,1])],.int .i64 0]),fun us => Is (.agg #[.bool (ng z2),(vat (us.getD 0 undef) [0,1])]),fun us => Is (.agg #[.bool (ng z3),(vat (us.getD 0 undef) [1,1])]),iSv (.int .i64 0),fun _ => Ptr [.bool false,.slice none 0 0] 60,fun _ => Ptr [.bool false,.slice none 0 0] 60]:List (List Value → Tell)).getD i (fun _ _ _ => False)) hNi (fun d _ _ _ _ h => (by cases d <;> exact h)) (by kernel_rfl) (by kernel_rfl) (by kernel_rfl) hS ?_ ?_
 ·
  refine stH rfl (fun ho hS=>?_) ?_
  ·exact inNo rfl (oLd aggZ hS 0 rfl rfl (ev rfl (ho 2 rfl)) rfl rfl rfl (nSm rfl isI))
  refine stM rfl rfl rfl rfl rfl (fun _=>isI) ?_
  refine stT rfl (fun hT hS=>?_) ?_
  ·obtain ⟨hv1,hr1⟩:=hT 1 15 rfl rfl
   obtain hS:=hS.flat1 hr1
   exact inNo rfl (oCv (u:=.int .u32 (PP:Int)) (v:=.int .i64 (PP:Int)) rfl rfl (ev rfl hv1) (cvI Tryz.runUnderlying38 Tryz.runUnderlying2 (wI6 (by omega) (by omega))) (nSm rfl isI))
  refine stT rfl (fun hT hS=>?_) ?_
  ·obtain ⟨hv2,hr2⟩:=hT 2 16 rfl rfl
   obtain hS:=hS.flat1 hr2
   exact .inl ⟨wNo rfl,oCl rfl rfl Tryz.call57 rfl (wzof (z:=(PP:Int)) (by omega) (by omega)) (ar1 (ev rfl hv2)) cNw⟩
  refine stT rfl (fun hT hS=>?_) ?_
  ·obtain ⟨hv0,hr0⟩:=hT 0 14 rfl rfl
   obtain ⟨p1,n1,c1,hv3,hr3⟩:=(hT 3 17 rfl rfl:(Zt ((PP:Int))) _ _)
   obtain hS:=hS.flat2 hr0 hr3
   exact .inl ⟨wNo rfl,oCl rfl rfl Tryz.call59 rfl (wzeuclid ((hx.at hS).mono (by omega)) (((hS.sl 1 rfl).zr hk1).mono (by omega)) (by omega) hz2 hz3) (ar2 (ev rfl hv0) (ev rfl hv3)) cNw⟩
  refine stC rfl (fun _ f' _ _ _ _ hT hS _=>?_) ?_
  ·obtain ⟨p2,n2,c2,p3,n3,c3,hv4,hr4⟩:=(hT 4 18 rfl rfl:(ZZEt z2 z3 0) _ _)
   obtain hS:=hS.flat1 hr4
   have hQ:(.tuple #[.agg #[.bool (ng z2),.slice p2 n2 c2],.agg #[.bool (ng z3),.slice p3 n3 c3],.int .i64 0]:Value) = (fun (us:List Value) => (.tuple #[.agg #[.bool (ng z2),(vat (us.getD 0 undef) [0,1])],.agg #[.bool (ng z3),(vat (us.getD 0 undef) [1,1])],.int .i64 0]:Value)) [f' 18]:=by show _ = (.tuple #[.agg #[.bool (ng z2),(vat (f' 18) [0,1])],.agg #[.bool (ng z3),(vat (f' 18) [1,1])],.int .i64 0]:Value); rw [hv4]; rfl
   exact .inl ⟨wNo rfl,omove rfl rfl (ev rfl hv4) ⟨_,_,rfl,⟨hQ,rfl⟩,New.same _⟩⟩
  refine stC rfl (fun _ f' _ _ _ _ hT hS _=>?_) ?_
  ·obtain ⟨p2,n2,c2,p3,n3,c3,hv4,hr4⟩:=(hT 4 18 rfl rfl:(ZZEt z2 z3 0) _ _)
   obtain ⟨hv5,hr5⟩:=(hT 5 13 rfl rfl:(fun (us:List Value) => Is (.tuple #[.agg #[.bool (ng z2),(vat (us.getD 0 undef) [0,1])],.agg #[.bool (ng z3),(vat (us.getD 0 undef) [1,1])],.int .i64 0])) [f' 18] _ _)
   replace hv5:f' 13 = .tuple #[.agg #[.bool (ng z2),.slice p2 n2 c2],.agg #[.bool (ng z3),.slice p3 n3 c3],.int .i64 0]:=hv5.trans (by show (.tuple #[.agg #[.bool (ng z2),(vat (f' 18) [0,1])],.agg #[.bool (ng z3),(vat (f' 18) [1,1])],.int .i64 0]:Value) = _; rw [hv4]; rfl)
   obtain hS:=hS.flat2 hr4 hr5
   have hQ:(.agg #[.bool (ng z2),.slice p2 n2 c2]:Value) = (fun (us:List Value) => (.agg #[.bool (ng z2),(vat (us.getD 0 undef) [0,1])]:Value)) [f' 18]:=by show _ = (.agg #[.bool (ng z2),(vat (f' 18) [0,1])]:Value); rw [hv4]; rfl
   exact .inl ⟨wNo rfl,oEx rfl rfl (ev rfl hv5) rfl ⟨_,_,rfl,⟨hQ,rfl⟩,New.same _⟩⟩
  refine stepsPure rfl ?_ ?_
  ·intro f' ρ ho hT
   obtain ⟨p2,n2,c2,p3,n3,c3,hv4,hr4⟩:=(hT 4 18 rfl rfl:(ZZEt z2 z3 0) _ _)
   obtain ⟨hv5,hr5⟩:=(hT 5 13 rfl rfl:(fun (us:List Value) => Is (.tuple #[.agg #[.bool (ng z2),(vat (us.getD 0 undef) [0,1])],.agg #[.bool (ng z3),(vat (us.getD 0 undef) [1,1])],.int .i64 0])) [f' 18] _ _)
   replace hv5:f' 13 = .tuple #[.agg #[.bool (ng z2),.slice p2 n2 c2],.agg #[.bool (ng z3),.slice p3 n3 c3],.int .i64 0]:=hv5.trans (by show (.tuple #[.agg #[.bool (ng z2),(vat (f' 18) [0,1])],.agg #[.bool (ng z3),(vat (f' 18) [1,1])],.int .i64 0]:Value) = _; rw [hv4]; rfl)
   have hQ:(.agg #[.bool (ng z3),.slice p3 n3 c3]:Value) = (fun (us:List Value) => (.agg #[.bool (ng z3),(vat (us.getD 0 undef) [1,1])]:Value)) [f' 18]:=by show _ = (.agg #[.bool (ng z3),(vat (f' 18) [1,1])]:Value); rw [hv4]; rfl
   exact ⟨_,.inl ⟨wNo rfl,fun w hw => yextract (vs:=[.agg #[.bool (ng z2),.slice p2 n2 c2],.agg #[.bool (ng z3),.slice p3 n3 c3],.int .i64 0]) (v:=.agg #[.bool (ng z3),.slice p3 n3 c3]) rfl (ev rfl hv5) rfl w⟩,⟨hQ,rfl⟩⟩
  refine stepsPure rfl ?_ ?_
  ·intro f' ρ ho hT
   obtain ⟨p2,n2,c2,p3,n3,c3,hv4,hr4⟩:=(hT 4 18 rfl rfl:(ZZEt z2 z3 0) _ _)
   obtain ⟨hv5,hr5⟩:=(hT 5 13 rfl rfl:(fun (us:List Value) => Is (.tuple #[.agg #[.bool (ng z2),(vat (us.getD 0 undef) [0,1])],.agg #[.bool (ng z3),(vat (us.getD 0 undef) [1,1])],.int .i64 0])) [f' 18] _ _)
   replace hv5:f' 13 = .tuple #[.agg #[.bool (ng z2),.slice p2 n2 c2],.agg #[.bool (ng z3),.slice p3 n3 c3],.int .i64 0]:=hv5.trans (by show (.tuple #[.agg #[.bool (ng z2),(vat (f' 18) [0,1])],.agg #[.bool (ng z3),(vat (f' 18) [1,1])],.int .i64 0]:Value) = _; rw [hv4]; rfl)
   exact ⟨_,.inl ⟨wNo rfl,fun w hw => yextract (vs:=[.agg #[.bool (ng z2),.slice p2 n2 c2],.agg #[.bool (ng z3),.slice p3 n3 c3],.int .i64 0]) (v:=.int .i64 0) rfl (ev rfl hv5) rfl w⟩,isI⟩
  refine stT rfl (fun _ _=>?_) ?_
  ·exact .inl ⟨wNo rfl,oallocN [.bool false,.slice none 0 0] rfl rfl Tryz.zeroValue60 rfl ⟨_,_,rfl,ptrI,New.blk _ _ _⟩⟩
  refine stT rfl (fun _ _=>?_) ?_
  ·exact .inl ⟨wNo rfl,oallocN [.bool false,.slice none 0 0] rfl rfl Tryz.zeroValue60 rfl ⟨_,_,rfl,ptrI,New.blk _ _ _⟩⟩
  exact sNi
 intro vs ρ w5 f' hf hT hS
 obtain ⟨hv0,hr0⟩:=hT 0 (by decide)
 obtain ⟨hv1,hr1⟩:=hT 1 (by decide)
 obtain ⟨hv2,hr2⟩:=hT 2 (by decide)
 obtain ⟨p1,n1,c1,hv3,hr3⟩:=(hT 3 (by decide):(Zt ((PP:Int))) _ _)
 obtain ⟨p2,n2,c2,p3,n3,c3,hv4,hr4⟩:=(hT 4 (by decide):(ZZEt z2 z3 0) _ _)
 obtain ⟨hv5,hr5⟩:=(hT 5 (by decide):(fun (us:List Value) => Is (.tuple #[.agg #[.bool (ng z2),(vat (us.getD 0 undef) [0,1])],.agg #[.bool (ng z3),(vat (us.getD 0 undef) [1,1])],.int .i64 0])) [vs 4] _ _)
 replace hv5:vs 5 = .tuple #[.agg #[.bool (ng z2),.slice p2 n2 c2],.agg #[.bool (ng z3),.slice p3 n3 c3],.int .i64 0]:=hv5.trans (by show (.tuple #[.agg #[.bool (ng z2),(vat (vs 4) [0,1])],.agg #[.bool (ng z3),(vat (vs 4) [1,1])],.int .i64 0]:Value) = _; rw [hv4]; rfl)
 obtain ⟨hv6,hr6⟩:=(hT 6 (by decide):(fun (us:List Value) => Is (.agg #[.bool (ng z2),(vat (us.getD 0 undef) [0,1])])) [vs 4] _ _)
 replace hv6:vs 6 = .agg #[.bool (ng z2),.slice p2 n2 c2]:=hv6.trans (by show (.agg #[.bool (ng z2),(vat (vs 4) [0,1])]:Value) = _; rw [hv4]; rfl)
 obtain ⟨hv7,hr7⟩:=(hT 7 (by decide):(fun (us:List Value) => Is (.agg #[.bool (ng z3),(vat (us.getD 0 undef) [1,1])])) [vs 4] _ _)
 replace hv7:vs 7 = .agg #[.bool (ng z3),.slice p3 n3 c3]:=hv7.trans (by show (.agg #[.bool (ng z3),(vat (vs 4) [1,1])]:Value) = _; rw [hv4]; rfl)
 obtain ⟨hv8,hr8⟩:=hT 8 (by decide)
 obtain ⟨g3,hv9,hr9⟩:=(hT 9 (by decide):(Ptr [.bool false,.slice none 0 0] 60) _ _)
 obtain ⟨g4,hv10,hr10⟩:=(hT 10 (by decide):(Ptr [.bool false,.slice none 0 0] 60) _ _)
 simp only [pool,if_true,hr0,hr1,hr2,hr3,hr4,hr5,hr6,hr7,hr8,hr9,hr10,List.nil_append,List.cons_append,List.append_nil] at hS
 simp only [layf,hv0,hv1,hv2,hv3,hv4,hv5,hv6,hv7,hv8,hv9,hv10] at hf
 subst hf; clear hT hv0 hv1 hv2 hv3 hv4 hv5 hv6 hv7 hv8 hv9 hv10 hr0 hr1 hr2 hr3 hr4 hr5 hr6 hr7 hr8 hr9 hr10
 refine wLt 11 rfl (by kernel_rfl) (oSt _ _ Tryz.sizeOf60 hS 1 rfl rfl (ev rfl rfl) (ev rfl rfl) rfl rfl rfl rfl rfl rfl ?_)
 clear hS; intro w6 hS
 refine ⟨hNi,?_⟩
 refine wLt 12 rfl (by kernel_rfl) (oSt _ _ Tryz.sizeOf60 hS 0 rfl rfl (ev rfl rfl) (ev rfl rfl) rfl rfl rfl rfl rfl rfl ?_)
 clear hS; intro w7 hS
 refine ⟨hNi,?_⟩
 refine wLt 13 rfl (by kernel_rfl) (oassign rfl rfl (ev rfl rfl) ?_)
 refine ⟨hNi,?_⟩
 refine wdone rfl ?_
 refine tNo (wsr (wl rfl (oFA (g:=g4) (off:=0) 1 rfl rfl (ev rfl rfl) Tryz.runUnderlying60 rfl Tryz.sizeOf24 rfl ?_)))
 refine wl rfl (oL1 oneN hS 0 rfl rfl (ev rfl rfl) rfl rfl ?_)
 have hr0:=Int.emod_nonneg x (b:=(PP:Int)) (by omega)
 have hr1:=Int.emod_lt x (b:=(PP:Int)) (by omega)
 have hv:val (lim z3.natAbs) = (x % (PP:Int)).toNat:=by rw [vLm, ← hz3.out]; omega
 refine wcl Tryz.call110 (wuint64 (hS.sl 3 rfl) (by omega)) (ar1 (ev rfl rfl)) hS ?_
 clear hS; rintro _ _ w8 ⟨rfl,rfl⟩ hS
 refine wmv rfl rfl ?_
 refine wl rfl (oEx rfl rfl (ev rfl rfl) rfl ?_)
 refine wl rfl (oEx rfl rfl (ev rfl rfl) rfl ?_)
 refine wav rfl rfl ?_
 refine wav rfl rfl ?_
 refine wn2 (wmv rfl rfl ?_)
 refine wl rfl (oCv (u:=.int .u64 (((val (lim z3.natAbs):Nat):Int))) (v:=.int .u32 (((val (lim z3.natAbs):Nat):Int))) rfl rfl (ev rfl rfl) (cvI Tryz.runUnderlying69 Tryz.runUnderlying38 (wrap_u32 (by omega) (by omega))) ?_)
 refine wav rfl rfl ?_
 refine wavc ?_
 refine wn1 ?_
 refine wLv ?_
 refine wret2 Tryz.results101 (tlT (v:=.int .u32 (((val (lim z3.natAbs):Nat):Int))) rfl rfl) (tlT (v:=.int .i64 0) rfl rfl) ?_
 exact ⟨_,_,rfl,⟨by rw [hv],rfl⟩,hS.new0⟩
theorem wqeuclid0 {z r:Int} {PP:Nat} {b b2:Bool} {p q:Option Addr} {n m c d:Nat} {x:Int} {w:World} (hx0:0 ≤ x) (hx:Zr w b p n c x 549755813880) (hy:Zr w b2 q m d (PP:Int) 549755813880) (h0:(PP:Int) ≠ 0) (hz:Hid (x / (PP:Int) = z)) (hr:Hid (x % (PP:Int) = r)) :
  Calls Tryz.prog 81 #[.agg #[.bool b,.slice p n c],.agg #[.bool b2,.slice q m d]] w (Ret (ZZt z r) w):=wqeu_pp hx hy h0 hx0 (by omega) hz hr
theorem wqmodNN {b:Bool} {p:Option Addr} {n c:Nat} {x:Int} {PP:Nat} {w:World} (hx:Zr w b p n c x 549755813000) (hP:PP < 4294967296) (hP0:PP ≠ 0) (hx0:0 ≤ x) :
  Calls Tryz.prog 46 #[.agg #[.bool b,.slice p n c],.int .u32 (PP:Int)] w (Ret (Is (.int .u32 ((x % (PP:Int)).toNat:Int))) w):=by
 have hS:=Sep.init w
 refine went Tryz.func46 rfl (n:=23) rfl rfl ?_
 refine wsr (wl rfl (obox [.bool b,.slice p n c] hS rfl rfl (ev rfl rfl) rfl ?_))
 clear hS; intro g1 w2 hS
 refine wavc ?_
 refine wn1 (wSq ?_)
 have hk1:Wd ((PP:Int)) 2:=Wd.i64 (by omega) (by omega)
 obtain ⟨z2,hz2⟩:∃ z:Int,Hid (x / ((PP:Int)) = z):=⟨_,rfl⟩
 have hk2:Wd z2 549755813000:=Wd.ediv hx.wd hz2
 obtain ⟨z3,hz3⟩:∃ z:Int,Hid (x % ((PP:Int)) = z):=⟨_,rfl⟩
 have hk3:Wd z3 2:=Wd.emod hk1 (by omega) hz3
 refine wSg 10 [8,9,10,11,12,7,13,14,5,6] [[],[],[1],[2,1],[0,3,1,2],[4,0,1,2,3],[4,5,0,1,2,3],[4,5,0,1,2,3],[],[]] [[],[],[],[],[],[4],[4],[4],[],[]] [7] [] (fun i => ([iSv (.agg #[.bool b,.slice p n c]),iSv (.int .u32 (PP:Int)),iSv (.int .i64 (PP:Int)),fun _ => Zt (PP:Int),fun _ => ZZt z2 z3,fun us => Is (.tuple #[.agg #[.bool (ng z2),(vat (us.getD 0 undef) [0,1])],.agg #[.bool (ng z3),(vat (us.getD 0 undef) [1,1])]]),fun us => Is (.agg #[.bool (ng z2),(vat (us.getD 0 undef) [0,1])]),fun us => Is (.agg #[.bool (ng z3),(vat (us.getD 0 undef) [1,1])]),fun _ => Ptr [.bool false,.slice none 0 0] 60,fun _ => Ptr [.bool false,.slice none 0 0] 60]:List (List Value → Tell)).getD i (fun _ _ _ => False)) hNi (fun d _ _ _ _ h => (by cases d <;> exact h)) (by kernel_rfl) (by kernel_rfl) (by kernel_rfl) hS ?_ ?_
 ·
  refine stH rfl (fun ho hS=>?_) ?_
  ·exact inNo rfl (oLd aggZ hS 0 rfl rfl (ev rfl (ho 2 rfl)) rfl rfl rfl (nSm rfl isI))
  refine stM rfl rfl rfl rfl rfl (fun _=>isI) ?_
  refine stT rfl (fun hT hS=>?_) ?_
  ·obtain ⟨hv1,hr1⟩:=hT 1 9 rfl rfl
   obtain hS:=hS.flat1 hr1
   exact inNo rfl (oCv (u:=.int .u32 (PP:Int)) (v:=.int .i64 (PP:Int)) rfl rfl (ev rfl hv1) (cvI Tryz.runUnderlying38 Tryz.runUnderlying2 (wI6 (by omega) (by omega))) (nSm rfl isI))
  refine stT rfl (fun hT hS=>?_) ?_
  ·obtain ⟨hv2,hr2⟩:=hT 2 10 rfl rfl
   obtain hS:=hS.flat1 hr2
   exact .inl ⟨wNo rfl,oCl rfl rfl Tryz.call38 rfl (wqof (z:=(PP:Int)) (by omega) (by omega)) (ar1 (ev rfl hv2)) cNw⟩
  refine stT rfl (fun hT hS=>?_) ?_
  ·obtain ⟨hv0,hr0⟩:=hT 0 8 rfl rfl
   obtain ⟨p1,n1,c1,hv3,hr3⟩:=(hT 3 11 rfl rfl:(Zt ((PP:Int))) _ _)
   obtain hS:=hS.flat2 hr0 hr3
   exact .inl ⟨wNo rfl,oCl rfl rfl Tryz.call81 rfl (wqeuclid0 hx0 ((hx.at hS).mono (by omega)) (((hS.sl 1 rfl).zr hk1).mono (by omega)) (by omega) hz2 hz3) (ar2 (ev rfl hv0) (ev rfl hv3)) cNw⟩
  refine stC rfl (fun _ f' _ _ _ _ hT hS _=>?_) ?_
  ·obtain ⟨p2,n2,c2,p3,n3,c3,hv4,hr4⟩:=(hT 4 12 rfl rfl:(ZZt z2 z3) _ _)
   obtain hS:=hS.flat1 hr4
   have hQ:(.tuple #[.agg #[.bool (ng z2),.slice p2 n2 c2],.agg #[.bool (ng z3),.slice p3 n3 c3]]:Value) = (fun (us:List Value) => (.tuple #[.agg #[.bool (ng z2),(vat (us.getD 0 undef) [0,1])],.agg #[.bool (ng z3),(vat (us.getD 0 undef) [1,1])]]:Value)) [f' 12]:=by show _ = (.tuple #[.agg #[.bool (ng z2),(vat (f' 12) [0,1])],.agg #[.bool (ng z3),(vat (f' 12) [1,1])]]:Value); rw [hv4]; rfl
   exact .inl ⟨wNo rfl,omove rfl rfl (ev rfl hv4) ⟨_,_,rfl,⟨hQ,rfl⟩,New.same _⟩⟩
  refine stC rfl (fun _ f' _ _ _ _ hT hS _=>?_) ?_
  ·obtain ⟨p2,n2,c2,p3,n3,c3,hv4,hr4⟩:=(hT 4 12 rfl rfl:(ZZt z2 z3) _ _)
   obtain ⟨hv5,hr5⟩:=(hT 5 7 rfl rfl:(fun (us:List Value) => Is (.tuple #[.agg #[.bool (ng z2),(vat (us.getD 0 undef) [0,1])],.agg #[.bool (ng z3),(vat (us.getD 0 undef) [1,1])]])) [f' 12] _ _)
   replace hv5:f' 7 = .tuple #[.agg #[.bool (ng z2),.slice p2 n2 c2],.agg #[.bool (ng z3),.slice p3 n3 c3]]:=hv5.trans (by show (.tuple #[.agg #[.bool (ng z2),(vat (f' 12) [0,1])],.agg #[.bool (ng z3),(vat (f' 12) [1,1])]]:Value) = _; rw [hv4]; rfl)
   obtain hS:=hS.flat2 hr4 hr5
   have hQ:(.agg #[.bool (ng z2),.slice p2 n2 c2]:Value) = (fun (us:List Value) => (.agg #[.bool (ng z2),(vat (us.getD 0 undef) [0,1])]:Value)) [f' 12]:=by show _ = (.agg #[.bool (ng z2),(vat (f' 12) [0,1])]:Value); rw [hv4]; rfl
   exact .inl ⟨wNo rfl,oEx rfl rfl (ev rfl hv5) rfl ⟨_,_,rfl,⟨hQ,rfl⟩,New.same _⟩⟩
  refine stepsPure rfl ?_ ?_
  ·intro f' ρ ho hT
   obtain ⟨p2,n2,c2,p3,n3,c3,hv4,hr4⟩:=(hT 4 12 rfl rfl:(ZZt z2 z3) _ _)
   obtain ⟨hv5,hr5⟩:=(hT 5 7 rfl rfl:(fun (us:List Value) => Is (.tuple #[.agg #[.bool (ng z2),(vat (us.getD 0 undef) [0,1])],.agg #[.bool (ng z3),(vat (us.getD 0 undef) [1,1])]])) [f' 12] _ _)
   replace hv5:f' 7 = .tuple #[.agg #[.bool (ng z2),.slice p2 n2 c2],.agg #[.bool (ng z3),.slice p3 n3 c3]]:=hv5.trans (by show (.tuple #[.agg #[.bool (ng z2),(vat (f' 12) [0,1])],.agg #[.bool (ng z3),(vat (f' 12) [1,1])]]:Value) = _; rw [hv4]; rfl)
   have hQ:(.agg #[.bool (ng z3),.slice p3 n3 c3]:Value) = (fun (us:List Value) => (.agg #[.bool (ng z3),(vat (us.getD 0 undef) [1,1])]:Value)) [f' 12]:=by show _ = (.agg #[.bool (ng z3),(vat (f' 12) [1,1])]:Value); rw [hv4]; rfl
   exact ⟨_,.inl ⟨wNo rfl,fun w hw => yextract (vs:=[.agg #[.bool (ng z2),.slice p2 n2 c2],.agg #[.bool (ng z3),.slice p3 n3 c3]]) (v:=.agg #[.bool (ng z3),.slice p3 n3 c3]) rfl (ev rfl hv5) rfl w⟩,⟨hQ,rfl⟩⟩
  refine stT rfl (fun _ _=>?_) ?_
  ·exact .inl ⟨wNo rfl,oallocN [.bool false,.slice none 0 0] rfl rfl Tryz.zeroValue60 rfl ⟨_,_,rfl,ptrI,New.blk _ _ _⟩⟩
  refine stT rfl (fun _ _=>?_) ?_
  ·exact .inl ⟨wNo rfl,oallocN [.bool false,.slice none 0 0] rfl rfl Tryz.zeroValue60 rfl ⟨_,_,rfl,ptrI,New.blk _ _ _⟩⟩
  exact sNi
 intro vs ρ w5 f' hf hT hS
 obtain ⟨hv0,hr0⟩:=hT 0 (by decide)
 obtain ⟨hv1,hr1⟩:=hT 1 (by decide)
 obtain ⟨hv2,hr2⟩:=hT 2 (by decide)
 obtain ⟨p1,n1,c1,hv3,hr3⟩:=(hT 3 (by decide):(Zt ((PP:Int))) _ _)
 obtain ⟨p2,n2,c2,p3,n3,c3,hv4,hr4⟩:=(hT 4 (by decide):(ZZt z2 z3) _ _)
 obtain ⟨hv5,hr5⟩:=(hT 5 (by decide):(fun (us:List Value) => Is (.tuple #[.agg #[.bool (ng z2),(vat (us.getD 0 undef) [0,1])],.agg #[.bool (ng z3),(vat (us.getD 0 undef) [1,1])]])) [vs 4] _ _)
 replace hv5:vs 5 = .tuple #[.agg #[.bool (ng z2),.slice p2 n2 c2],.agg #[.bool (ng z3),.slice p3 n3 c3]]:=hv5.trans (by show (.tuple #[.agg #[.bool (ng z2),(vat (vs 4) [0,1])],.agg #[.bool (ng z3),(vat (vs 4) [1,1])]]:Value) = _; rw [hv4]; rfl)
 obtain ⟨hv6,hr6⟩:=(hT 6 (by decide):(fun (us:List Value) => Is (.agg #[.bool (ng z2),(vat (us.getD 0 undef) [0,1])])) [vs 4] _ _)
 replace hv6:vs 6 = .agg #[.bool (ng z2),.slice p2 n2 c2]:=hv6.trans (by show (.agg #[.bool (ng z2),(vat (vs 4) [0,1])]:Value) = _; rw [hv4]; rfl)
 obtain ⟨hv7,hr7⟩:=(hT 7 (by decide):(fun (us:List Value) => Is (.agg #[.bool (ng z3),(vat (us.getD 0 undef) [1,1])])) [vs 4] _ _)
 replace hv7:vs 7 = .agg #[.bool (ng z3),.slice p3 n3 c3]:=hv7.trans (by show (.agg #[.bool (ng z3),(vat (vs 4) [1,1])]:Value) = _; rw [hv4]; rfl)
 obtain ⟨g3,hv8,hr8⟩:=(hT 8 (by decide):(Ptr [.bool false,.slice none 0 0] 60) _ _)
 obtain ⟨g4,hv9,hr9⟩:=(hT 9 (by decide):(Ptr [.bool false,.slice none 0 0] 60) _ _)
 simp only [pool,if_true,hr0,hr1,hr2,hr3,hr4,hr5,hr6,hr7,hr8,hr9,List.nil_append,List.cons_append,List.append_nil] at hS
 simp only [layf,hv0,hv1,hv2,hv3,hv4,hv5,hv6,hv7,hv8,hv9] at hf
 subst hf; clear hT hv0 hv1 hv2 hv3 hv4 hv5 hv6 hv7 hv8 hv9 hr0 hr1 hr2 hr3 hr4 hr5 hr6 hr7 hr8 hr9
 refine wLt 10 rfl (by kernel_rfl) (oSt _ _ Tryz.sizeOf60 hS 1 rfl rfl (ev rfl rfl) (ev rfl rfl) rfl rfl rfl rfl rfl rfl ?_)
 clear hS; intro w6 hS
 refine ⟨hNi,?_⟩
 refine wLt 11 rfl (by kernel_rfl) (oSt _ _ Tryz.sizeOf60 hS 0 rfl rfl (ev rfl rfl) (ev rfl rfl) rfl rfl rfl rfl rfl rfl ?_)
 clear hS; intro w7 hS
 refine ⟨hNi,?_⟩
 refine wdone rfl ?_
 refine tNo (wSq (wsr (wl rfl (oFA (g:=g4) (off:=0) 1 rfl rfl (ev rfl rfl) Tryz.runUnderlying60 rfl Tryz.sizeOf24 rfl ?_))))
 refine wl rfl (oL1 oneN hS 0 rfl rfl (ev rfl rfl) rfl rfl ?_)
 refine wl rfl (olen rfl rfl rfl Tryz.runUnderlying24 (p:=p3) (k:=n3) (m:=c3) (ev rfl rfl) ?_)
 have hr0:=Int.emod_nonneg x (b:=(PP:Int)) (by omega)
 have hr1:=Int.emod_lt x (b:=(PP:Int)) (by omega)
 have hr2:=hz3.out
 by_cases hq0:z3 = 0
 ·
  refine wbc rfl rfl (bEq (eqT (by rw [((hS.sl 3 rfl)).lln,hq0]; rfl))) ?_
  refine wn1 ?_
  refine wT (ev rfl rfl) ?_
  refine wsr (wavc ?_)
  refine wn1 ?_
  refine wLv ?_
  refine thenR ?_
  have hfin:((x % (PP:Int)).toNat:Int) = 0:=by omega
  refine wr1 Tryz.results46 (tlT (v:=.int .u32 0) rfl rfl) ?_
  exact ⟨_,_,rfl,⟨by rw [hfin],rfl⟩,hS.new0⟩
 have hp:0 < n3:=by rw [((hS.sl 3 rfl)).lln]; exact ll_pos (by omega)
 refine wbc rfl rfl (bEq (eqF (by omega))) ?_
 refine wn1 ?_
 refine wF (ev rfl rfl) ?_
 refine wSk (tNo (wsr (wl rfl (oFA (g:=g4) (off:=0) 1 rfl rfl (ev rfl rfl) Tryz.runUnderlying60 rfl Tryz.sizeOf24 rfl ?_))))
 refine wl rfl (oL1 oneN hS 0 rfl rfl (ev rfl rfl) rfl rfl ?_)
 obtain ⟨gg,hpg,_,_⟩:=(hS.rowAt 3 rfl).pos hp
 refine wl rfl (oIx (p:=p3) (g:=gg) (off:=0) (m:=n3) (k:=0) (j:=0) rfl rfl Tryz.runUnderlying24 Tryz.sizeOf38 (ev rfl rfl) hpg evc hp (by simp) ?_)
 refine wl rfl (oLc one32 rfl rfl (ev rfl rfl) (by have h9:=(hS.rowAt 3 rfl); rw [hpg] at h9; exact h9.cellAt (i:=0) (by omega)) ?_)
 refine wav rfl rfl ?_
 refine wn1 ?_
 refine wLv ?_
 have hfin:((x % (PP:Int)).toNat:Int) = ((nd (lim z3.natAbs) 0:Nat):Int):=by rw [lim_word (by omega)]; omega
 refine wr1 Tryz.results46 (tlT (v:=.int .u32 (((nd (lim z3.natAbs) 0:Nat):Int))) rfl rfl) ?_
 exact ⟨_,_,rfl,⟨by rw [hfin],rfl⟩,hS.new0⟩
end Go.Proofs.YtjnpdpcldmjdjaaGreatDoor
