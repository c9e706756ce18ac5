/-
  Contracts and lemmas, joined in one text.
-/
import Derived.Test.YtcfcdbeemhjhgaaDoorRA
import Derived.Test.YtcfcdbeemhjhgaaDoorWA
set_option linter.unusedVariables false
set_option linter.unusedSimpArgs false
/-
  rat's functions of one fraction and of two.
-/
set_option maxRecDepth 100000
set_option maxHeartbeats 16000000
namespace Go.Proofs.YtcfcdbeemhjhgaaDoor
open Go.RowKit
theorem Rs.mono {w:World} {p:Option Addr} {m K K':Nat} {L:List (Int × Int)} (h:Rs w p m L K) (hK:K ≤ K'):Rs w p m L K':=by
  refine ⟨h.1,h.2.1,fun i z hi => ?_⟩
  obtain ⟨g,off,b,q,n,k,b2,q2,n2,k2,hp,h1,h2,h3⟩:=h.2.2 i z hi
  exact ⟨g,off,b,q,n,k,b2,q2,n2,k2,hp,h1,h2.mono hK,h3.mono hK⟩
theorem Rs.e0 {w:World} {p:Option Addr} {m K:Nat} {e:Int × Int} {L:List (Int × Int)} (h:Rs w p m (e :: L) K):∃ g off b q n k b2 q2 n2 k2,p = some ⟨g,off,none⟩ ∧ (∀ j v,[Value.bool b,.slice q n k,.bool b2,.slice q2 n2 k2][j]? = some v → w.cell? ⟨g,off + 0 * 4 + j,none⟩ = some v) ∧ Zr w b q n k e.1 K ∧ Zr w b2 q2 n2 k2 e.2 K:=h.2.2 0 e rfl
theorem Rs.e1 {w:World} {p:Option Addr} {m K:Nat} {e e2:Int × Int} {L:List (Int × Int)} (h:Rs w p m (e2 :: e :: L) K):∃ g off b q n k b2 q2 n2 k2,p = some ⟨g,off,none⟩ ∧ (∀ j v,[Value.bool b,.slice q n k,.bool b2,.slice q2 n2 k2][j]? = some v → w.cell? ⟨g,off + 1 * 4 + j,none⟩ = some v) ∧ Zr w b q n k e.1 K ∧ Zr w b2 q2 n2 k2 e.2 K:=h.2.2 1 e rfl
theorem ne_mul {a b:Int} (ha:a ≠ 0) (hb:b ≠ 0):a * b ≠ 0:=by
  intro h; rcases Int.mul_eq_zero.1 h with h | h
  · exact ha h
  exact hb h
open Go.RowKit
theorem euc_pp {x y:Int} {Q R:Nat} (hQ:Hid (x.natAbs / y.natAbs = Q)) (hR:Hid (x.natAbs % y.natAbs = R)) (hx:0 ≤ x) (hy:0 < y):x / y = Q ∧ x % y = R:=by
  have h1:=Nat.div_add_mod x.natAbs y.natAbs
  have h2:=Nat.mod_lt x.natAbs (y:=y.natAbs) (by omega)
  rw [hQ.out] at h1; rw [hR.out] at h1 h2
  have h3:((y.natAbs * Q:Nat):Int) = y * Q:=by rw [Int.natCast_mul,show (y.natAbs:Int) = y by omega]
  have:=euclid_unique (a:=x) (b:=y) (q:=Q) (r:=R) (by omega) (by omega) (by omega)
  exact ⟨this.1.symm,this.2.symm⟩
theorem euc_np {x y:Int} {Q R:Nat} (hQ:Hid (x.natAbs / y.natAbs = Q)) (hR:Hid (x.natAbs % y.natAbs = R)) (hx:x < 0) (hy:0 < y):(R = 0 → x / y = -(Q:Int) ∧ x % y = 0) ∧ (R ≠ 0 → x / y = -(Q:Int) - 1 ∧ x % y = -(R:Int) + y.natAbs):=by
 have h1:=Nat.div_add_mod x.natAbs y.natAbs
 have h2:=Nat.mod_lt x.natAbs (y:=y.natAbs) (by omega)
 rw [hQ.out] at h1; rw [hR.out] at h1 h2
 have h3:((y.natAbs * Q:Nat):Int) = y * Q:=by rw [Int.natCast_mul,show (y.natAbs:Int) = y by omega]
 have h4:y * -(Q:Int) = -(y * Q):=Int.mul_neg _ _
 have h5:y * (-(Q:Int) - 1) = -(y * Q) - y:=by rw [Int.mul_sub,Int.mul_neg,Int.mul_one]
 refine ⟨fun h => ?_,fun h => ?_⟩
 ·have:=euclid_unique (a:=x) (b:=y) (q := -(Q:Int)) (r:=0) (by omega) (by omega) (by omega)
  exact ⟨this.1.symm,this.2.symm⟩
 have:=euclid_unique (a:=x) (b:=y) (q := -(Q:Int) - 1) (r := -(R:Int) + y.natAbs) (by omega) (by omega) (by omega)
 exact ⟨this.1.symm,this.2.symm⟩
theorem sgn_neg {z s:Int} (h:Hid (z.sign = s)) (hz:z < 0):s < 0:=by rw [← h.out,Int.sign_eq_neg_one_of_neg hz]; omega
theorem sgn_nn {z s:Int} (h:Hid (z.sign = s)) (hz:0 ≤ z):0 ≤ s:=by rw [← h.out]; have:=sign_cases z; omega
theorem wqeu_pp {z r:Int} {b b2:Bool} {p q:Option Addr} {n m c d:Nat} {x y:Int} {w:World} (hx:Zr w b p n c x 549755813880) (hy:Zr w b2 q m d y 549755813880) (h0:y ≠ 0) (hx0:0 ≤ x) (hy0:0 < y) (hz:Hid (x / y = z)) (hr:Hid (x % y = r)) :
  Calls Tryd.prog 33 #[.agg #[.bool b,.slice p n c],.agg #[.bool b2,.slice q m d]] w (Ret (ZZt z r) w):=by
 have hS:=Sep.init w
 refine went Tryd.func33 rfl (n:=50) rfl rfl ?_
 refine wsr (wl rfl (obox [.bool b,.slice p n c] hS rfl rfl (ev (v:=.agg #[.bool b,.slice p n c]) rfl rfl) rfl ?_))
 clear hS; intro g1 w2 hS
 refine wl rfl (obox [.bool b2,.slice q m d] hS rfl rfl (ev (v:=.agg #[.bool b2,.slice q m d]) rfl rfl) rfl ?_)
 clear hS; intro g3 w4 hS
 refine wl rfl (oAl [.bool false,.slice none 0 0] hS rfl rfl Tryd.zeroValue52 rfl ?_)
 clear hS; intro g5 w6 hS
 refine wl rfl (oAl [.bool false,.slice none 0 0] hS rfl rfl Tryd.zeroValue52 rfl ?_)
 clear hS; intro g7 w8 hS
 refine wn1 (wSq ?_)
 obtain ⟨z1,hz1⟩:∃ z:Int,Hid (x = z):=⟨_,rfl⟩
 have hk1:Wd z1 549755813880:=Wd.same hx.wd hz1
 obtain ⟨z2,hz2⟩:∃ z:Int,Hid (y = z):=⟨_,rfl⟩
 have hk2:Wd z2 549755813880:=Wd.same hy.wd hz2
 refine wSg 4 [10,11,12,13] [[],[0],[],[2,0,1]] [] [] [] (fun i => ([iSv (.agg #[.bool b,.slice p n c]),fun _ => Zt z1,iSv (.agg #[.bool b2,.slice q m d]),fun _ => Zt z2]:List (List Value → Tell)).getD i (fun _ _ _ => False)) hNi (fun d _ _ _ _ h => (by cases d <;> exact h)) (by kernel_rfl) (by kernel_rfl) (by kernel_rfl) hS ?_ ?_
 ·
  refine stH rfl (fun ho hS=>?_) ?_
  ·exact inNo rfl (oLd (vs:=[.bool b,.slice p n c]) aggZ hS 3 rfl rfl (ev rfl (ho 2 rfl)) rfl rfl rfl (nSm rfl isI))
  refine stT rfl (fun hT hS=>?_) ?_
  ·obtain ⟨hv0,hr0⟩:=hT 0 10 rfl rfl
   obtain hS:=hS.flat1 hr0
   exact .inl ⟨wNo rfl,oCl rfl rfl Tryd.call60 rfl (wqnorm ((hx.at hS).mono (by omega)) hz1) (ar1 (ev rfl hv0)) cNw⟩
  refine stH rfl (fun ho hS=>?_) ?_
  ·exact inNo rfl (oLd (vs:=[.bool b2,.slice q m d]) aggZ hS 2 rfl rfl (ev rfl (ho 3 rfl)) rfl rfl rfl (nSm rfl isI))
  refine stT rfl (fun hT hS=>?_) ?_
  ·obtain ⟨hv2,hr2⟩:=hT 2 12 rfl rfl
   obtain hS:=hS.flat1 hr2
   exact .inl ⟨wNo rfl,oCl rfl rfl Tryd.call60 rfl (wqnorm ((hy.at hS).mono (by omega)) hz2) (ar1 (ev rfl hv2)) cNw⟩
  exact sNi
 intro vs ρ w9 f' hf hT hS
 obtain ⟨hv0,hr0⟩:=hT 0 (by decide)
 obtain ⟨p1,n1,c1,hv1,hr1⟩:=(hT 1 (by decide):(Zt z1) _ _)
 obtain ⟨hv2,hr2⟩:=hT 2 (by decide)
 obtain ⟨p2,n2,c2,hv3,hr3⟩:=(hT 3 (by decide):(Zt z2) _ _)
 simp only [pool,if_true,hr0,hr1,hr2,hr3,List.nil_append,List.cons_append,List.append_nil] at hS
 simp only [layf,hv0,hv1,hv2,hv3] at hf
 subst hf; clear hT hv0 hv1 hv2 hv3 hr0 hr1 hr2 hr3
 refine wLt 4 rfl (by kernel_rfl) (oSt [.bool (ng z1),.slice p1 n1 c1] [.bool (ng z1),.slice p1 n1 c1] Tryd.sizeOf52 hS 5 rfl rfl (ev rfl rfl) (ev (v:=.agg #[.bool (ng z1),.slice p1 n1 c1]) rfl rfl) rfl rfl rfl rfl rfl rfl ?_)
 clear hS; intro w10 hS
 refine ⟨hNi,?_⟩
 refine wLt 5 rfl (by kernel_rfl) (oSt [.bool (ng z2),.slice p2 n2 c2] [.bool (ng z2),.slice p2 n2 c2] Tryd.sizeOf52 hS 4 rfl rfl (ev rfl rfl) (ev (v:=.agg #[.bool (ng z2),.slice p2 n2 c2]) rfl rfl) rfl rfl rfl rfl rfl rfl ?_)
 clear hS; intro w11 hS
 refine ⟨hNi,?_⟩
 refine wdone rfl ?_
 refine tNo (wsr (wl rfl (oFA (g:=g1) (off:=0) 1 rfl rfl (ev rfl rfl) Tryd.runUnderlying52 rfl Tryd.sizeOf50 rfl ?_)))
 refine wl rfl (oL1 (v:=.slice p1 n1 c1) oneN hS 5 rfl rfl (ev rfl rfl) rfl rfl ?_)
 refine wl rfl (oFA (g:=g3) (off:=0) 1 rfl rfl (ev rfl rfl) Tryd.runUnderlying52 rfl Tryd.sizeOf50 rfl ?_)
 refine wl rfl (oL1 (v:=.slice p2 n2 c2) oneN hS 4 rfl rfl (ev rfl rfl) rfl rfl ?_)
 have h02:z2 ≠ 0:=by have:=hz2.out; omega
 obtain ⟨Q3,hQ3⟩:∃ q:Nat,Hid (z1.natAbs / z2.natAbs = q):=⟨_,rfl⟩
 obtain ⟨R3,hR3⟩:∃ q:Nat,Hid (z1.natAbs % z2.natAbs = q):=⟨_,rfl⟩
 have hkQ3:ll Q3 ≤ 549755813880:=llv_le (by rw [← hQ3.out]; exact Nat.div_le_self _ _) hk1
 have hkR3:ll R3 ≤ 549755813880:=llv_le (by rw [← hR3.out]; exact Nat.mod_le _ _) hk1
 refine wcl Tryd.call61 (wrdiv (hS.sl 1 rfl) (hS.sl 0 rfl) (hk1.mono (by omega)) (hk2.mono (by omega)) h02 hQ3 hR3) (ar2 (ev rfl rfl) (ev rfl rfl)) hS ?_
 clear hS; rintro _ _ w12 ⟨pq3,nq3,cq3,pr3,nr3,cr3,rfl,rfl⟩ hS
 refine wmv (v:=.tuple #[.slice pq3 nq3 cq3,.slice pr3 nr3 cr3]) rfl rfl ?_
 refine wl rfl (oEx (vs:=[.slice pq3 nq3 cq3,.slice pr3 nr3 cr3]) (v:=.slice pq3 nq3 cq3) rfl rfl (ev rfl rfl) rfl ?_)
 refine wl rfl (oEx (vs:=[.slice pq3 nq3 cq3,.slice pr3 nr3 cr3]) (v:=.slice pr3 nr3 cr3) rfl rfl (ev rfl rfl) rfl ?_)
 refine wav (v:=.slice pq3 nq3 cq3) rfl rfl ?_
 refine wav (v:=.slice pr3 nr3 cr3) rfl rfl ?_
 refine wn2 (wmv (v:=.slice pq3 nq3 cq3) rfl rfl ?_)
 refine wl rfl (obuild (ps:=#[(1,.slice pq3 nq3 cq3)]) (v:=.agg #[.bool false,.slice pq3 nq3 cq3]) rfl rfl (parts1 (ev (v:=.slice pq3 nq3 cq3) rfl rfl)) (fun w => by simp [go_sem,Instr.build,Instr.fill]) ?_)
 refine wmv (v:=.slice pr3 nr3 cr3) rfl rfl ?_
 refine wl rfl (obuild (ps:=#[(1,.slice pr3 nr3 cr3)]) (v:=.agg #[.bool false,.slice pr3 nr3 cr3]) rfl rfl (parts1 (ev (v:=.slice pr3 nr3 cr3) rfl rfl)) (fun w => by simp [go_sem,Instr.build,Instr.fill]) ?_)
 refine wl rfl (oAl [.bool false,.slice none 0 0] hS rfl rfl Tryd.zeroValue52 rfl ?_)
 clear hS; intro g13 w14 hS
 refine wl rfl (oAl [.bool false,.slice none 0 0] hS rfl rfl Tryd.zeroValue52 rfl ?_)
 clear hS; intro g15 w16 hS
 refine wl rfl (oSt [.bool false,.slice pq3 nq3 cq3] [.bool false,.slice pq3 nq3 cq3] Tryd.sizeOf52 hS 1 rfl rfl (ev rfl rfl) (ev (v:=.agg #[.bool false,.slice pq3 nq3 cq3]) rfl rfl) rfl rfl rfl rfl rfl rfl ?_)
 clear hS; intro w17 hS
 refine wl rfl (oSt [.bool false,.slice pr3 nr3 cr3] [.bool false,.slice pr3 nr3 cr3] Tryd.sizeOf52 hS 0 rfl rfl (ev rfl rfl) (ev (v:=.agg #[.bool false,.slice pr3 nr3 cr3]) rfl rfl) rfl rfl rfl rfl rfl rfl ?_)
 clear hS; intro w18 hS
 refine wn1 (wSq (wsr (wl rfl (oFA (g:=g1) (off:=0) 0 rfl rfl (ev rfl rfl) Tryd.runUnderlying52 rfl Tryd.sizeOf4 rfl ?_))))
 have hbz1:0 ≤ z1:=by have:=hz1.out; omega
 have hbz2:0 ≤ z2:=by have:=hz2.out; omega
 refine wl rfl (oL1 (v:=.bool false) oneB hS 9 rfl rfl (ev rfl rfl) rfl (congrArg (fun t => some (Value.bool t)) (ng_false hbz1)) ?_)
 refine wn1 ?_
 refine wF (ev rfl rfl) ?_
 refine wSk (tNo (wSq (wsr (wl rfl (oFA (g:=g3) (off:=0) 0 rfl rfl (ev rfl rfl) Tryd.runUnderlying52 rfl Tryd.sizeOf4 rfl ?_)))))
 refine wl rfl (oL1 (v:=.bool false) oneB hS 8 rfl rfl (ev rfl rfl) rfl (congrArg (fun t => some (Value.bool t)) (ng_false hbz2)) ?_)
 refine wn1 ?_
 refine wF (ev rfl rfl) ?_
 refine wSk (tNo (wSq ?_))
 obtain ⟨z4,hz4⟩:∃ z:Int,Hid ((((Q3:Nat):Int)) = z):=⟨_,rfl⟩
 have hk4:Wd z4 549755813880:=Wd.same (Wd.ofN hkQ3) hz4
 obtain ⟨z5,hz5⟩:∃ z:Int,Hid ((((R3:Nat):Int)) = z):=⟨_,rfl⟩
 have hk5:Wd z5 549755813880:=Wd.same (Wd.ofN hkR3) hz5
 refine wSg 4 [46,47,48,49] [[],[0],[],[2,0,1]] [] [] [] (fun i => ([iSv (.agg #[.bool false,.slice pq3 nq3 cq3]),fun _ => Zt z4,iSv (.agg #[.bool false,.slice pr3 nr3 cr3]),fun _ => Zt z5]:List (List Value → Tell)).getD i (fun _ _ _ => False)) hNi (fun d _ _ _ _ h => (by cases d <;> exact h)) (by kernel_rfl) (by kernel_rfl) (by kernel_rfl) hS ?_ ?_
 ·
  refine stH rfl (fun ho hS=>?_) ?_
  ·exact inNo rfl (oLd (vs:=[.bool false,.slice pq3 nq3 cq3]) aggZ hS 1 rfl rfl (ev rfl (ho 8 rfl)) rfl rfl rfl (nSm rfl isI))
  refine stT rfl (fun hT hS=>?_) ?_
  ·obtain ⟨hv0,hr0⟩:=hT 0 46 rfl rfl
   obtain hS:=hS.flat1 hr0
   exact .inl ⟨wNo rfl,oCl rfl rfl Tryd.call60 rfl (wqnorm (((hS.sl 2 rfl).zrN hkQ3).mono (by omega)) hz4) (ar1 (ev rfl hv0)) cNw⟩
  refine stH rfl (fun ho hS=>?_) ?_
  ·exact inNo rfl (oLd (vs:=[.bool false,.slice pr3 nr3 cr3]) aggZ hS 0 rfl rfl (ev rfl (ho 9 rfl)) rfl rfl rfl (nSm rfl isI))
  refine stT rfl (fun hT hS=>?_) ?_
  ·obtain ⟨hv2,hr2⟩:=hT 2 48 rfl rfl
   obtain hS:=hS.flat1 hr2
   exact .inl ⟨wNo rfl,oCl rfl rfl Tryd.call60 rfl (wqnorm (((hS.sl 3 rfl).zrN hkR3).mono (by omega)) hz5) (ar1 (ev rfl hv2)) cNw⟩
  exact sNi
 intro vs ρ w19 f' hf hT hS
 obtain ⟨hv0,hr0⟩:=hT 0 (by decide)
 obtain ⟨p4,n4,c4,hv1,hr1⟩:=(hT 1 (by decide):(Zt z4) _ _)
 obtain ⟨hv2,hr2⟩:=hT 2 (by decide)
 obtain ⟨p5,n5,c5,hv3,hr3⟩:=(hT 3 (by decide):(Zt z5) _ _)
 simp only [pool,if_true,hr0,hr1,hr2,hr3,List.nil_append,List.cons_append,List.append_nil] at hS
 simp only [layf,hv0,hv1,hv2,hv3] at hf
 subst hf; clear hT hv0 hv1 hv2 hv3 hr0 hr1 hr2 hr3
 refine wLt 4 rfl (by kernel_rfl) (oSt [.bool (ng z4),.slice p4 n4 c4] [.bool (ng z4),.slice p4 n4 c4] Tryd.sizeOf52 hS 9 rfl rfl (ev rfl rfl) (ev (v:=.agg #[.bool (ng z4),.slice p4 n4 c4]) rfl rfl) rfl rfl rfl rfl rfl rfl ?_)
 clear hS; intro w20 hS
 refine ⟨hNi,?_⟩
 refine wLt 5 rfl (by kernel_rfl) (oSt [.bool (ng z5),.slice p5 n5 c5] [.bool (ng z5),.slice p5 n5 c5] Tryd.sizeOf52 hS 8 rfl rfl (ev rfl rfl) (ev (v:=.agg #[.bool (ng z5),.slice p5 n5 c5]) rfl rfl) rfl rfl rfl rfl rfl rfl ?_)
 clear hS; intro w21 hS
 refine ⟨hNi,?_⟩
 refine wdone rfl ?_
 refine tNo ?_
 refine wLv ?_
 refine wret2 Tryd.results33 (tellC (cs:=[.bool (ng z4),.slice p4 n4 c4]) aggZ hS 9 rfl rfl rfl rfl) (tellC (cs:=[.bool (ng z5),.slice p5 n5 c5]) aggZ hS 8 rfl rfl rfl rfl) ?_
 have hh:=euc_pp (x:=x) (y:=y) (Q:=Q3) (R:=R3) (by show _ = _; rw [hz1.out,hz2.out]; exact hQ3.out) (by show _ = _; rw [hz1.out,hz2.out]; exact hR3.out) hx0 hy0
 have e1:=hz1.out
 have e2:=hz2.out
 have e4:=hz4.out
 have e5:=hz5.out
 have t1:z4 = z:=by have:=hz.out; omega
 have t2:z5 = r:=by have:=hr.out; omega
 subst t1
 subst t2
 exact ⟨_,_,rfl,⟨_,_,_,_,_,_,rfl,rfl⟩,hS.new2 1 0 rfl rfl⟩
theorem wqeu_np0 {z r:Int} {b b2:Bool} {p q:Option Addr} {n m c d:Nat} {x y:Int} {w:World} (hx:Zr w b p n c x 549755813880) (hy:Zr w b2 q m d y 549755813880) (h0:y ≠ 0) (hx0:x < 0) (hy0:0 < y) (hR0:x.natAbs % y.natAbs = 0) (hz:Hid (x / y = z)) (hr:Hid (x % y = r)) :
  Calls Tryd.prog 33 #[.agg #[.bool b,.slice p n c],.agg #[.bool b2,.slice q m d]] w (Ret (ZZt z r) w):=by
 have hS:=Sep.init w
 refine went Tryd.func33 rfl (n:=50) rfl rfl ?_
 refine wsr (wl rfl (obox [.bool b,.slice p n c] hS rfl rfl (ev (v:=.agg #[.bool b,.slice p n c]) rfl rfl) rfl ?_))
 clear hS; intro g1 w2 hS
 refine wl rfl (obox [.bool b2,.slice q m d] hS rfl rfl (ev (v:=.agg #[.bool b2,.slice q m d]) rfl rfl) rfl ?_)
 clear hS; intro g3 w4 hS
 refine wl rfl (oAl [.bool false,.slice none 0 0] hS rfl rfl Tryd.zeroValue52 rfl ?_)
 clear hS; intro g5 w6 hS
 refine wl rfl (oAl [.bool false,.slice none 0 0] hS rfl rfl Tryd.zeroValue52 rfl ?_)
 clear hS; intro g7 w8 hS
 refine wn1 (wSq ?_)
 obtain ⟨z1,hz1⟩:∃ z:Int,Hid (x = z):=⟨_,rfl⟩
 have hk1:Wd z1 549755813880:=Wd.same hx.wd hz1
 obtain ⟨z2,hz2⟩:∃ z:Int,Hid (y = z):=⟨_,rfl⟩
 have hk2:Wd z2 549755813880:=Wd.same hy.wd hz2
 refine wSg 4 [10,11,12,13] [[],[0],[],[2,0,1]] [] [] [] (fun i => ([iSv (.agg #[.bool b,.slice p n c]),fun _ => Zt z1,iSv (.agg #[.bool b2,.slice q m d]),fun _ => Zt z2]:List (List Value → Tell)).getD i (fun _ _ _ => False)) hNi (fun d _ _ _ _ h => (by cases d <;> exact h)) (by kernel_rfl) (by kernel_rfl) (by kernel_rfl) hS ?_ ?_
 ·
  refine stH rfl (fun ho hS=>?_) ?_
  ·exact inNo rfl (oLd (vs:=[.bool b,.slice p n c]) aggZ hS 3 rfl rfl (ev rfl (ho 2 rfl)) rfl rfl rfl (nSm rfl isI))
  refine stT rfl (fun hT hS=>?_) ?_
  ·obtain ⟨hv0,hr0⟩:=hT 0 10 rfl rfl
   obtain hS:=hS.flat1 hr0
   exact .inl ⟨wNo rfl,oCl rfl rfl Tryd.call60 rfl (wqnorm ((hx.at hS).mono (by omega)) hz1) (ar1 (ev rfl hv0)) cNw⟩
  refine stH rfl (fun ho hS=>?_) ?_
  ·exact inNo rfl (oLd (vs:=[.bool b2,.slice q m d]) aggZ hS 2 rfl rfl (ev rfl (ho 3 rfl)) rfl rfl rfl (nSm rfl isI))
  refine stT rfl (fun hT hS=>?_) ?_
  ·obtain ⟨hv2,hr2⟩:=hT 2 12 rfl rfl
   obtain hS:=hS.flat1 hr2
   exact .inl ⟨wNo rfl,oCl rfl rfl Tryd.call60 rfl (wqnorm ((hy.at hS).mono (by omega)) hz2) (ar1 (ev rfl hv2)) cNw⟩
  exact sNi
 intro vs ρ w9 f' hf hT hS
 obtain ⟨hv0,hr0⟩:=hT 0 (by decide)
 obtain ⟨p1,n1,c1,hv1,hr1⟩:=(hT 1 (by decide):(Zt z1) _ _)
 obtain ⟨hv2,hr2⟩:=hT 2 (by decide)
 obtain ⟨p2,n2,c2,hv3,hr3⟩:=(hT 3 (by decide):(Zt z2) _ _)
 simp only [pool,if_true,hr0,hr1,hr2,hr3,List.nil_append,List.cons_append,List.append_nil] at hS
 simp only [layf,hv0,hv1,hv2,hv3] at hf
 subst hf; clear hT hv0 hv1 hv2 hv3 hr0 hr1 hr2 hr3
 refine wLt 4 rfl (by kernel_rfl) (oSt [.bool (ng z1),.slice p1 n1 c1] [.bool (ng z1),.slice p1 n1 c1] Tryd.sizeOf52 hS 5 rfl rfl (ev rfl rfl) (ev (v:=.agg #[.bool (ng z1),.slice p1 n1 c1]) rfl rfl) rfl rfl rfl rfl rfl rfl ?_)
 clear hS; intro w10 hS
 refine ⟨hNi,?_⟩
 refine wLt 5 rfl (by kernel_rfl) (oSt [.bool (ng z2),.slice p2 n2 c2] [.bool (ng z2),.slice p2 n2 c2] Tryd.sizeOf52 hS 4 rfl rfl (ev rfl rfl) (ev (v:=.agg #[.bool (ng z2),.slice p2 n2 c2]) rfl rfl) rfl rfl rfl rfl rfl rfl ?_)
 clear hS; intro w11 hS
 refine ⟨hNi,?_⟩
 refine wdone rfl ?_
 refine tNo (wsr (wl rfl (oFA (g:=g1) (off:=0) 1 rfl rfl (ev rfl rfl) Tryd.runUnderlying52 rfl Tryd.sizeOf50 rfl ?_)))
 refine wl rfl (oL1 (v:=.slice p1 n1 c1) oneN hS 5 rfl rfl (ev rfl rfl) rfl rfl ?_)
 refine wl rfl (oFA (g:=g3) (off:=0) 1 rfl rfl (ev rfl rfl) Tryd.runUnderlying52 rfl Tryd.sizeOf50 rfl ?_)
 refine wl rfl (oL1 (v:=.slice p2 n2 c2) oneN hS 4 rfl rfl (ev rfl rfl) rfl rfl ?_)
 have h02:z2 ≠ 0:=by have:=hz2.out; omega
 obtain ⟨Q3,hQ3⟩:∃ q:Nat,Hid (z1.natAbs / z2.natAbs = q):=⟨_,rfl⟩
 obtain ⟨R3,hR3⟩:∃ q:Nat,Hid (z1.natAbs % z2.natAbs = q):=⟨_,rfl⟩
 have hkQ3:ll Q3 ≤ 549755813880:=llv_le (by rw [← hQ3.out]; exact Nat.div_le_self _ _) hk1
 have hkR3:ll R3 ≤ 549755813880:=llv_le (by rw [← hR3.out]; exact Nat.mod_le _ _) hk1
 refine wcl Tryd.call61 (wrdiv (hS.sl 1 rfl) (hS.sl 0 rfl) (hk1.mono (by omega)) (hk2.mono (by omega)) h02 hQ3 hR3) (ar2 (ev rfl rfl) (ev rfl rfl)) hS ?_
 clear hS; rintro _ _ w12 ⟨pq3,nq3,cq3,pr3,nr3,cr3,rfl,rfl⟩ hS
 refine wmv (v:=.tuple #[.slice pq3 nq3 cq3,.slice pr3 nr3 cr3]) rfl rfl ?_
 refine wl rfl (oEx (vs:=[.slice pq3 nq3 cq3,.slice pr3 nr3 cr3]) (v:=.slice pq3 nq3 cq3) rfl rfl (ev rfl rfl) rfl ?_)
 refine wl rfl (oEx (vs:=[.slice pq3 nq3 cq3,.slice pr3 nr3 cr3]) (v:=.slice pr3 nr3 cr3) rfl rfl (ev rfl rfl) rfl ?_)
 refine wav (v:=.slice pq3 nq3 cq3) rfl rfl ?_
 refine wav (v:=.slice pr3 nr3 cr3) rfl rfl ?_
 refine wn2 (wmv (v:=.slice pq3 nq3 cq3) rfl rfl ?_)
 refine wl rfl (obuild (ps:=#[(1,.slice pq3 nq3 cq3)]) (v:=.agg #[.bool false,.slice pq3 nq3 cq3]) rfl rfl (parts1 (ev (v:=.slice pq3 nq3 cq3) rfl rfl)) (fun w => by simp [go_sem,Instr.build,Instr.fill]) ?_)
 refine wmv (v:=.slice pr3 nr3 cr3) rfl rfl ?_
 refine wl rfl (obuild (ps:=#[(1,.slice pr3 nr3 cr3)]) (v:=.agg #[.bool false,.slice pr3 nr3 cr3]) rfl rfl (parts1 (ev (v:=.slice pr3 nr3 cr3) rfl rfl)) (fun w => by simp [go_sem,Instr.build,Instr.fill]) ?_)
 refine wl rfl (oAl [.bool false,.slice none 0 0] hS rfl rfl Tryd.zeroValue52 rfl ?_)
 clear hS; intro g13 w14 hS
 refine wl rfl (oAl [.bool false,.slice none 0 0] hS rfl rfl Tryd.zeroValue52 rfl ?_)
 clear hS; intro g15 w16 hS
 refine wl rfl (oSt [.bool false,.slice pq3 nq3 cq3] [.bool false,.slice pq3 nq3 cq3] Tryd.sizeOf52 hS 1 rfl rfl (ev rfl rfl) (ev (v:=.agg #[.bool false,.slice pq3 nq3 cq3]) rfl rfl) rfl rfl rfl rfl rfl rfl ?_)
 clear hS; intro w17 hS
 refine wl rfl (oSt [.bool false,.slice pr3 nr3 cr3] [.bool false,.slice pr3 nr3 cr3] Tryd.sizeOf52 hS 0 rfl rfl (ev rfl rfl) (ev (v:=.agg #[.bool false,.slice pr3 nr3 cr3]) rfl rfl) rfl rfl rfl rfl rfl rfl ?_)
 clear hS; intro w18 hS
 refine wn1 (wSq (wsr (wl rfl (oFA (g:=g1) (off:=0) 0 rfl rfl (ev rfl rfl) Tryd.runUnderlying52 rfl Tryd.sizeOf4 rfl ?_))))
 have hbz1:z1 < 0:=by have:=hz1.out; omega
 have hR9:R3 = 0:=by rw [← hR3.out, ← hz1.out, ← hz2.out]; exact hR0
 refine wl rfl (oL1 (v:=.bool true) oneB hS 9 rfl rfl (ev rfl rfl) rfl (congrArg (fun t => some (Value.bool t)) (ng_true hbz1)) ?_)
 refine wn1 ?_
 refine wT (ev rfl rfl) ?_
 refine wSq ?_
 obtain ⟨z4,hz4⟩:∃ z:Int,Hid (-(((Q3:Nat):Int)) = z):=⟨_,rfl⟩
 have hk4:Wd z4 549755813880:=Wd.neg (Wd.ofN hkQ3) hz4
 obtain ⟨z5,hz5⟩:∃ z:Int,Hid (-(((R3:Nat):Int)) = z):=⟨_,rfl⟩
 have hk5:Wd z5 549755813880:=Wd.neg (Wd.ofN hkR3) hz5
 refine wSg 4 [28,29,30,31] [[],[0],[],[2,0,1]] [] [] [] (fun i => ([iSv (.agg #[.bool false,.slice pq3 nq3 cq3]),fun _ => Zt z4,iSv (.agg #[.bool false,.slice pr3 nr3 cr3]),fun _ => Zt z5]:List (List Value → Tell)).getD i (fun _ _ _ => False)) hNi (fun d _ _ _ _ h => (by cases d <;> exact h)) (by kernel_rfl) (by kernel_rfl) (by kernel_rfl) hS ?_ ?_
 ·
  refine stH rfl (fun ho hS=>?_) ?_
  ·exact inNo rfl (oLd (vs:=[.bool false,.slice pq3 nq3 cq3]) aggZ hS 1 rfl rfl (ev rfl (ho 8 rfl)) rfl rfl rfl (nSm rfl isI))
  refine stT rfl (fun hT hS=>?_) ?_
  ·obtain ⟨hv0,hr0⟩:=hT 0 28 rfl rfl
   obtain hS:=hS.flat1 hr0
   exact .inl ⟨wNo rfl,oCl rfl rfl Tryd.call62 rfl (wqneg (((hS.sl 2 rfl).zrN hkQ3).mono (by omega)) hz4) (ar1 (ev rfl hv0)) cNw⟩
  refine stH rfl (fun ho hS=>?_) ?_
  ·exact inNo rfl (oLd (vs:=[.bool false,.slice pr3 nr3 cr3]) aggZ hS 0 rfl rfl (ev rfl (ho 9 rfl)) rfl rfl rfl (nSm rfl isI))
  refine stT rfl (fun hT hS=>?_) ?_
  ·obtain ⟨hv2,hr2⟩:=hT 2 30 rfl rfl
   obtain hS:=hS.flat1 hr2
   exact .inl ⟨wNo rfl,oCl rfl rfl Tryd.call62 rfl (wqneg (((hS.sl 3 rfl).zrN hkR3).mono (by omega)) hz5) (ar1 (ev rfl hv2)) cNw⟩
  exact sNi
 intro vs ρ w19 f' hf hT hS
 obtain ⟨hv0,hr0⟩:=hT 0 (by decide)
 obtain ⟨p4,n4,c4,hv1,hr1⟩:=(hT 1 (by decide):(Zt z4) _ _)
 obtain ⟨hv2,hr2⟩:=hT 2 (by decide)
 obtain ⟨p5,n5,c5,hv3,hr3⟩:=(hT 3 (by decide):(Zt z5) _ _)
 simp only [pool,if_true,hr0,hr1,hr2,hr3,List.nil_append,List.cons_append,List.append_nil] at hS
 simp only [layf,hv0,hv1,hv2,hv3] at hf
 subst hf; clear hT hv0 hv1 hv2 hv3 hr0 hr1 hr2 hr3
 refine wLt 4 rfl (by kernel_rfl) (oSt [.bool (ng z4),.slice p4 n4 c4] [.bool (ng z4),.slice p4 n4 c4] Tryd.sizeOf52 hS 3 rfl rfl (ev rfl rfl) (ev (v:=.agg #[.bool (ng z4),.slice p4 n4 c4]) rfl rfl) rfl rfl rfl rfl rfl rfl ?_)
 clear hS; intro w20 hS
 refine ⟨hNi,?_⟩
 refine wLt 5 rfl (by kernel_rfl) (oSt [.bool (ng z5),.slice p5 n5 c5] [.bool (ng z5),.slice p5 n5 c5] Tryd.sizeOf52 hS 2 rfl rfl (ev rfl rfl) (ev (v:=.agg #[.bool (ng z5),.slice p5 n5 c5]) rfl rfl) rfl rfl rfl rfl rfl rfl ?_)
 clear hS; intro w21 hS
 refine ⟨hNi,?_⟩
 refine wdone rfl ?_
 refine tNo (wsr (wl rfl (oLd (vs:=[.bool (ng z5),.slice p5 n5 c5]) aggZ hS 2 rfl rfl (ev rfl rfl) rfl rfl rfl ?_)))
 obtain ⟨s6,hs6⟩:∃ z:Int,Hid ((z5:Int).sign = z):=⟨_,rfl⟩
 refine wcl Tryd.call63 (wqsign (((hS.sl 0 rfl).zr hk5).mono (by omega)) hs6) (ar1 (ev rfl rfl)) hS ?_
 clear hS; rintro _ _ w22 ⟨rfl,rfl⟩ hS
 refine wbc (u:=.int .i64 s6) (v:=.int .i64 0) (z:=.bool false) rfl rfl (bLs (ltF (sgn_nn hs6 (by have:=hz5.out; omega)))) ?_
 refine wn1 ?_
 refine wF (ev rfl rfl) ?_
 refine wSk (tNo (wSq (wsr (wl rfl (oFA (g:=g3) (off:=0) 0 rfl rfl (ev rfl rfl) Tryd.runUnderlying52 rfl Tryd.sizeOf4 rfl ?_)))))
 have hbz2:0 ≤ z2:=by have:=hz2.out; omega
 refine wl rfl (oL1 (v:=.bool false) oneB hS 10 rfl rfl (ev rfl rfl) rfl (congrArg (fun t => some (Value.bool t)) (ng_false hbz2)) ?_)
 refine wn1 ?_
 refine wF (ev rfl rfl) ?_
 refine wSk (tNo (wSq ?_))
 obtain ⟨z7,hz7⟩:∃ z:Int,Hid (z4 = z):=⟨_,rfl⟩
 have hk7:Wd z7 549755813880:=Wd.same hk4 hz7
 obtain ⟨z8,hz8⟩:∃ z:Int,Hid (z5 = z):=⟨_,rfl⟩
 have hk8:Wd z8 549755813880:=Wd.same hk5 hz8
 refine wSg 4 [46,47,48,49] [[],[0],[],[2,0,1]] [] [] [] (fun i => ([iSv (.agg #[.bool (ng z4),.slice p4 n4 c4]),fun _ => Zt z7,iSv (.agg #[.bool (ng z5),.slice p5 n5 c5]),fun _ => Zt z8]:List (List Value → Tell)).getD i (fun _ _ _ => False)) hNi (fun d _ _ _ _ h => (by cases d <;> exact h)) (by kernel_rfl) (by kernel_rfl) (by kernel_rfl) hS ?_ ?_
 ·
  refine stH rfl (fun ho hS=>?_) ?_
  ·exact inNo rfl (oLd (vs:=[.bool (ng z4),.slice p4 n4 c4]) aggZ hS 3 rfl rfl (ev rfl (ho 8 rfl)) rfl rfl rfl (nSm rfl isI))
  refine stT rfl (fun hT hS=>?_) ?_
  ·obtain ⟨hv0,hr0⟩:=hT 0 46 rfl rfl
   obtain hS:=hS.flat1 hr0
   exact .inl ⟨wNo rfl,oCl rfl rfl Tryd.call60 rfl (wqnorm (((hS.sl 1 rfl).zr hk4).mono (by omega)) hz7) (ar1 (ev rfl hv0)) cNw⟩
  refine stH rfl (fun ho hS=>?_) ?_
  ·exact inNo rfl (oLd (vs:=[.bool (ng z5),.slice p5 n5 c5]) aggZ hS 2 rfl rfl (ev rfl (ho 9 rfl)) rfl rfl rfl (nSm rfl isI))
  refine stT rfl (fun hT hS=>?_) ?_
  ·obtain ⟨hv2,hr2⟩:=hT 2 48 rfl rfl
   obtain hS:=hS.flat1 hr2
   exact .inl ⟨wNo rfl,oCl rfl rfl Tryd.call60 rfl (wqnorm (((hS.sl 0 rfl).zr hk5).mono (by omega)) hz8) (ar1 (ev rfl hv2)) cNw⟩
  exact sNi
 intro vs ρ w23 f' hf hT hS
 obtain ⟨hv0,hr0⟩:=hT 0 (by decide)
 obtain ⟨p7,n7,c7,hv1,hr1⟩:=(hT 1 (by decide):(Zt z7) _ _)
 obtain ⟨hv2,hr2⟩:=hT 2 (by decide)
 obtain ⟨p8,n8,c8,hv3,hr3⟩:=(hT 3 (by decide):(Zt z8) _ _)
 simp only [pool,if_true,hr0,hr1,hr2,hr3,List.nil_append,List.cons_append,List.append_nil] at hS
 simp only [layf,hv0,hv1,hv2,hv3] at hf
 subst hf; clear hT hv0 hv1 hv2 hv3 hr0 hr1 hr2 hr3
 refine wLt 4 rfl (by kernel_rfl) (oSt [.bool (ng z7),.slice p7 n7 c7] [.bool (ng z7),.slice p7 n7 c7] Tryd.sizeOf52 hS 11 rfl rfl (ev rfl rfl) (ev (v:=.agg #[.bool (ng z7),.slice p7 n7 c7]) rfl rfl) rfl rfl rfl rfl rfl rfl ?_)
 clear hS; intro w24 hS
 refine ⟨hNi,?_⟩
 refine wLt 5 rfl (by kernel_rfl) (oSt [.bool (ng z8),.slice p8 n8 c8] [.bool (ng z8),.slice p8 n8 c8] Tryd.sizeOf52 hS 10 rfl rfl (ev rfl rfl) (ev (v:=.agg #[.bool (ng z8),.slice p8 n8 c8]) rfl rfl) rfl rfl rfl rfl rfl rfl ?_)
 clear hS; intro w25 hS
 refine ⟨hNi,?_⟩
 refine wdone rfl ?_
 refine tNo ?_
 refine wLv ?_
 refine wret2 Tryd.results33 (tellC (cs:=[.bool (ng z7),.slice p7 n7 c7]) aggZ hS 11 rfl rfl rfl rfl) (tellC (cs:=[.bool (ng z8),.slice p8 n8 c8]) aggZ hS 10 rfl rfl rfl rfl) ?_
 have hh:=(euc_np (x:=x) (y:=y) (Q:=Q3) (R:=R3) (by show _ = _; rw [hz1.out,hz2.out]; exact hQ3.out) (by show _ = _; rw [hz1.out,hz2.out]; exact hR3.out) hx0 hy0).1 hR9
 have e1:=hz1.out
 have e2:=hz2.out
 have e4:=hz4.out
 have e5:=hz5.out
 have e7:=hz7.out
 have e8:=hz8.out
 have t1:z7 = z:=by have:=hz.out; omega
 have t2:z8 = r:=by have:=hr.out; omega
 subst t1
 subst t2
 exact ⟨_,_,rfl,⟨_,_,_,_,_,_,rfl,rfl⟩,hS.new2 1 0 rfl rfl⟩
theorem wqeu_np1 {z r:Int} {b b2:Bool} {p q:Option Addr} {n m c d:Nat} {x y:Int} {w:World} (hx:Zr w b p n c x 549755813880) (hy:Zr w b2 q m d y 549755813880) (h0:y ≠ 0) (hx0:x < 0) (hy0:0 < y) (hR0:x.natAbs % y.natAbs ≠ 0) (hz:Hid (x / y = z)) (hr:Hid (x % y = r)) :
  Calls Tryd.prog 33 #[.agg #[.bool b,.slice p n c],.agg #[.bool b2,.slice q m d]] w (Ret (ZZt z r) w):=by
 have hS:=Sep.init w
 refine went Tryd.func33 rfl (n:=50) rfl rfl ?_
 refine wsr (wl rfl (obox [.bool b,.slice p n c] hS rfl rfl (ev (v:=.agg #[.bool b,.slice p n c]) rfl rfl) rfl ?_))
 clear hS; intro g1 w2 hS
 refine wl rfl (obox [.bool b2,.slice q m d] hS rfl rfl (ev (v:=.agg #[.bool b2,.slice q m d]) rfl rfl) rfl ?_)
 clear hS; intro g3 w4 hS
 refine wl rfl (oAl [.bool false,.slice none 0 0] hS rfl rfl Tryd.zeroValue52 rfl ?_)
 clear hS; intro g5 w6 hS
 refine wl rfl (oAl [.bool false,.slice none 0 0] hS rfl rfl Tryd.zeroValue52 rfl ?_)
 clear hS; intro g7 w8 hS
 refine wn1 (wSq ?_)
 obtain ⟨z1,hz1⟩:∃ z:Int,Hid (x = z):=⟨_,rfl⟩
 have hk1:Wd z1 549755813880:=Wd.same hx.wd hz1
 obtain ⟨z2,hz2⟩:∃ z:Int,Hid (y = z):=⟨_,rfl⟩
 have hk2:Wd z2 549755813880:=Wd.same hy.wd hz2
 refine wSg 4 [10,11,12,13] [[],[0],[],[2,0,1]] [] [] [] (fun i => ([iSv (.agg #[.bool b,.slice p n c]),fun _ => Zt z1,iSv (.agg #[.bool b2,.slice q m d]),fun _ => Zt z2]:List (List Value → Tell)).getD i (fun _ _ _ => False)) hNi (fun d _ _ _ _ h => (by cases d <;> exact h)) (by kernel_rfl) (by kernel_rfl) (by kernel_rfl) hS ?_ ?_
 ·
  refine stH rfl (fun ho hS=>?_) ?_
  ·exact inNo rfl (oLd (vs:=[.bool b,.slice p n c]) aggZ hS 3 rfl rfl (ev rfl (ho 2 rfl)) rfl rfl rfl (nSm rfl isI))
  refine stT rfl (fun hT hS=>?_) ?_
  ·obtain ⟨hv0,hr0⟩:=hT 0 10 rfl rfl
   obtain hS:=hS.flat1 hr0
   exact .inl ⟨wNo rfl,oCl rfl rfl Tryd.call60 rfl (wqnorm ((hx.at hS).mono (by omega)) hz1) (ar1 (ev rfl hv0)) cNw⟩
  refine stH rfl (fun ho hS=>?_) ?_
  ·exact inNo rfl (oLd (vs:=[.bool b2,.slice q m d]) aggZ hS 2 rfl rfl (ev rfl (ho 3 rfl)) rfl rfl rfl (nSm rfl isI))
  refine stT rfl (fun hT hS=>?_) ?_
  ·obtain ⟨hv2,hr2⟩:=hT 2 12 rfl rfl
   obtain hS:=hS.flat1 hr2
   exact .inl ⟨wNo rfl,oCl rfl rfl Tryd.call60 rfl (wqnorm ((hy.at hS).mono (by omega)) hz2) (ar1 (ev rfl hv2)) cNw⟩
  exact sNi
 intro vs ρ w9 f' hf hT hS
 obtain ⟨hv0,hr0⟩:=hT 0 (by decide)
 obtain ⟨p1,n1,c1,hv1,hr1⟩:=(hT 1 (by decide):(Zt z1) _ _)
 obtain ⟨hv2,hr2⟩:=hT 2 (by decide)
 obtain ⟨p2,n2,c2,hv3,hr3⟩:=(hT 3 (by decide):(Zt z2) _ _)
 simp only [pool,if_true,hr0,hr1,hr2,hr3,List.nil_append,List.cons_append,List.append_nil] at hS
 simp only [layf,hv0,hv1,hv2,hv3] at hf
 subst hf; clear hT hv0 hv1 hv2 hv3 hr0 hr1 hr2 hr3
 refine wLt 4 rfl (by kernel_rfl) (oSt [.bool (ng z1),.slice p1 n1 c1] [.bool (ng z1),.slice p1 n1 c1] Tryd.sizeOf52 hS 5 rfl rfl (ev rfl rfl) (ev (v:=.agg #[.bool (ng z1),.slice p1 n1 c1]) rfl rfl) rfl rfl rfl rfl rfl rfl ?_)
 clear hS; intro w10 hS
 refine ⟨hNi,?_⟩
 refine wLt 5 rfl (by kernel_rfl) (oSt [.bool (ng z2),.slice p2 n2 c2] [.bool (ng z2),.slice p2 n2 c2] Tryd.sizeOf52 hS 4 rfl rfl (ev rfl rfl) (ev (v:=.agg #[.bool (ng z2),.slice p2 n2 c2]) rfl rfl) rfl rfl rfl rfl rfl rfl ?_)
 clear hS; intro w11 hS
 refine ⟨hNi,?_⟩
 refine wdone rfl ?_
 refine tNo (wsr (wl rfl (oFA (g:=g1) (off:=0) 1 rfl rfl (ev rfl rfl) Tryd.runUnderlying52 rfl Tryd.sizeOf50 rfl ?_)))
 refine wl rfl (oL1 (v:=.slice p1 n1 c1) oneN hS 5 rfl rfl (ev rfl rfl) rfl rfl ?_)
 refine wl rfl (oFA (g:=g3) (off:=0) 1 rfl rfl (ev rfl rfl) Tryd.runUnderlying52 rfl Tryd.sizeOf50 rfl ?_)
 refine wl rfl (oL1 (v:=.slice p2 n2 c2) oneN hS 4 rfl rfl (ev rfl rfl) rfl rfl ?_)
 have h02:z2 ≠ 0:=by have:=hz2.out; omega
 obtain ⟨Q3,hQ3⟩:∃ q:Nat,Hid (z1.natAbs / z2.natAbs = q):=⟨_,rfl⟩
 obtain ⟨R3,hR3⟩:∃ q:Nat,Hid (z1.natAbs % z2.natAbs = q):=⟨_,rfl⟩
 have hkQ3:ll Q3 ≤ 549755813880:=llv_le (by rw [← hQ3.out]; exact Nat.div_le_self _ _) hk1
 have hkR3:ll R3 ≤ 549755813880:=llv_le (by rw [← hR3.out]; exact Nat.mod_le _ _) hk1
 refine wcl Tryd.call61 (wrdiv (hS.sl 1 rfl) (hS.sl 0 rfl) (hk1.mono (by omega)) (hk2.mono (by omega)) h02 hQ3 hR3) (ar2 (ev rfl rfl) (ev rfl rfl)) hS ?_
 clear hS; rintro _ _ w12 ⟨pq3,nq3,cq3,pr3,nr3,cr3,rfl,rfl⟩ hS
 refine wmv (v:=.tuple #[.slice pq3 nq3 cq3,.slice pr3 nr3 cr3]) rfl rfl ?_
 refine wl rfl (oEx (vs:=[.slice pq3 nq3 cq3,.slice pr3 nr3 cr3]) (v:=.slice pq3 nq3 cq3) rfl rfl (ev rfl rfl) rfl ?_)
 refine wl rfl (oEx (vs:=[.slice pq3 nq3 cq3,.slice pr3 nr3 cr3]) (v:=.slice pr3 nr3 cr3) rfl rfl (ev rfl rfl) rfl ?_)
 refine wav (v:=.slice pq3 nq3 cq3) rfl rfl ?_
 refine wav (v:=.slice pr3 nr3 cr3) rfl rfl ?_
 refine wn2 (wmv (v:=.slice pq3 nq3 cq3) rfl rfl ?_)
 refine wl rfl (obuild (ps:=#[(1,.slice pq3 nq3 cq3)]) (v:=.agg #[.bool false,.slice pq3 nq3 cq3]) rfl rfl (parts1 (ev (v:=.slice pq3 nq3 cq3) rfl rfl)) (fun w => by simp [go_sem,Instr.build,Instr.fill]) ?_)
 refine wmv (v:=.slice pr3 nr3 cr3) rfl rfl ?_
 refine wl rfl (obuild (ps:=#[(1,.slice pr3 nr3 cr3)]) (v:=.agg #[.bool false,.slice pr3 nr3 cr3]) rfl rfl (parts1 (ev (v:=.slice pr3 nr3 cr3) rfl rfl)) (fun w => by simp [go_sem,Instr.build,Instr.fill]) ?_)
 refine wl rfl (oAl [.bool false,.slice none 0 0] hS rfl rfl Tryd.zeroValue52 rfl ?_)
 clear hS; intro g13 w14 hS
 refine wl rfl (oAl [.bool false,.slice none 0 0] hS rfl rfl Tryd.zeroValue52 rfl ?_)
 clear hS; intro g15 w16 hS
 refine wl rfl (oSt [.bool false,.slice pq3 nq3 cq3] [.bool false,.slice pq3 nq3 cq3] Tryd.sizeOf52 hS 1 rfl rfl (ev rfl rfl) (ev (v:=.agg #[.bool false,.slice pq3 nq3 cq3]) rfl rfl) rfl rfl rfl rfl rfl rfl ?_)
 clear hS; intro w17 hS
 refine wl rfl (oSt [.bool false,.slice pr3 nr3 cr3] [.bool false,.slice pr3 nr3 cr3] Tryd.sizeOf52 hS 0 rfl rfl (ev rfl rfl) (ev (v:=.agg #[.bool false,.slice pr3 nr3 cr3]) rfl rfl) rfl rfl rfl rfl rfl rfl ?_)
 clear hS; intro w18 hS
 refine wn1 (wSq (wsr (wl rfl (oFA (g:=g1) (off:=0) 0 rfl rfl (ev rfl rfl) Tryd.runUnderlying52 rfl Tryd.sizeOf4 rfl ?_))))
 have hbz1:z1 < 0:=by have:=hz1.out; omega
 have hR9:R3 ≠ 0:=by rw [← hR3.out, ← hz1.out, ← hz2.out]; exact hR0
 refine wl rfl (oL1 (v:=.bool true) oneB hS 9 rfl rfl (ev rfl rfl) rfl (congrArg (fun t => some (Value.bool t)) (ng_true hbz1)) ?_)
 refine wn1 ?_
 refine wT (ev rfl rfl) ?_
 refine wSq ?_
 obtain ⟨z4,hz4⟩:∃ z:Int,Hid (-(((Q3:Nat):Int)) = z):=⟨_,rfl⟩
 have hk4:Wd z4 549755813880:=Wd.neg (Wd.ofN hkQ3) hz4
 obtain ⟨z5,hz5⟩:∃ z:Int,Hid (-(((R3:Nat):Int)) = z):=⟨_,rfl⟩
 have hk5:Wd z5 549755813880:=Wd.neg (Wd.ofN hkR3) hz5
 refine wSg 4 [28,29,30,31] [[],[0],[],[2,0,1]] [] [] [] (fun i => ([iSv (.agg #[.bool false,.slice pq3 nq3 cq3]),fun _ => Zt z4,iSv (.agg #[.bool false,.slice pr3 nr3 cr3]),fun _ => Zt z5]:List (List Value → Tell)).getD i (fun _ _ _ => False)) hNi (fun d _ _ _ _ h => (by cases d <;> exact h)) (by kernel_rfl) (by kernel_rfl) (by kernel_rfl) hS ?_ ?_
 ·
  refine stH rfl (fun ho hS=>?_) ?_
  ·exact inNo rfl (oLd (vs:=[.bool false,.slice pq3 nq3 cq3]) aggZ hS 1 rfl rfl (ev rfl (ho 8 rfl)) rfl rfl rfl (nSm rfl isI))
  refine stT rfl (fun hT hS=>?_) ?_
  ·obtain ⟨hv0,hr0⟩:=hT 0 28 rfl rfl
   obtain hS:=hS.flat1 hr0
   exact .inl ⟨wNo rfl,oCl rfl rfl Tryd.call62 rfl (wqneg (((hS.sl 2 rfl).zrN hkQ3).mono (by omega)) hz4) (ar1 (ev rfl hv0)) cNw⟩
  refine stH rfl (fun ho hS=>?_) ?_
  ·exact inNo rfl (oLd (vs:=[.bool false,.slice pr3 nr3 cr3]) aggZ hS 0 rfl rfl (ev rfl (ho 9 rfl)) rfl rfl rfl (nSm rfl isI))
  refine stT rfl (fun hT hS=>?_) ?_
  ·obtain ⟨hv2,hr2⟩:=hT 2 30 rfl rfl
   obtain hS:=hS.flat1 hr2
   exact .inl ⟨wNo rfl,oCl rfl rfl Tryd.call62 rfl (wqneg (((hS.sl 3 rfl).zrN hkR3).mono (by omega)) hz5) (ar1 (ev rfl hv2)) cNw⟩
  exact sNi
 intro vs ρ w19 f' hf hT hS
 obtain ⟨hv0,hr0⟩:=hT 0 (by decide)
 obtain ⟨p4,n4,c4,hv1,hr1⟩:=(hT 1 (by decide):(Zt z4) _ _)
 obtain ⟨hv2,hr2⟩:=hT 2 (by decide)
 obtain ⟨p5,n5,c5,hv3,hr3⟩:=(hT 3 (by decide):(Zt z5) _ _)
 simp only [pool,if_true,hr0,hr1,hr2,hr3,List.nil_append,List.cons_append,List.append_nil] at hS
 simp only [layf,hv0,hv1,hv2,hv3] at hf
 subst hf; clear hT hv0 hv1 hv2 hv3 hr0 hr1 hr2 hr3
 refine wLt 4 rfl (by kernel_rfl) (oSt [.bool (ng z4),.slice p4 n4 c4] [.bool (ng z4),.slice p4 n4 c4] Tryd.sizeOf52 hS 3 rfl rfl (ev rfl rfl) (ev (v:=.agg #[.bool (ng z4),.slice p4 n4 c4]) rfl rfl) rfl rfl rfl rfl rfl rfl ?_)
 clear hS; intro w20 hS
 refine ⟨hNi,?_⟩
 refine wLt 5 rfl (by kernel_rfl) (oSt [.bool (ng z5),.slice p5 n5 c5] [.bool (ng z5),.slice p5 n5 c5] Tryd.sizeOf52 hS 2 rfl rfl (ev rfl rfl) (ev (v:=.agg #[.bool (ng z5),.slice p5 n5 c5]) rfl rfl) rfl rfl rfl rfl rfl rfl ?_)
 clear hS; intro w21 hS
 refine ⟨hNi,?_⟩
 refine wdone rfl ?_
 refine tNo (wsr (wl rfl (oLd (vs:=[.bool (ng z5),.slice p5 n5 c5]) aggZ hS 2 rfl rfl (ev rfl rfl) rfl rfl rfl ?_)))
 obtain ⟨s6,hs6⟩:∃ z:Int,Hid ((z5:Int).sign = z):=⟨_,rfl⟩
 refine wcl Tryd.call63 (wqsign (((hS.sl 0 rfl).zr hk5).mono (by omega)) hs6) (ar1 (ev rfl rfl)) hS ?_
 clear hS; rintro _ _ w22 ⟨rfl,rfl⟩ hS
 refine wbc (u:=.int .i64 s6) (v:=.int .i64 0) (z:=.bool true) rfl rfl (bLs (ltT (sgn_neg hs6 (by have:=hz5.out; omega)))) ?_
 refine wn1 ?_
 refine wT (ev rfl rfl) ?_
 have hk7:Wd 1 2:=Wd.i64 (by omega) (by omega)
 obtain ⟨z8,hz8⟩:∃ z:Int,Hid (z4 - 1 = z):=⟨_,rfl⟩
 have hk8:Wd z8 549755813881:=Wd.sub hk4 hk7 hz8 (by omega)
 obtain ⟨z9,hz9⟩:∃ z:Int,Hid ((Int.natAbs z2:Int) = z):=⟨_,rfl⟩
 have hk9:Wd z9 549755813880:=Wd.nabs hk2 hz9
 obtain ⟨z10,hz10⟩:∃ z:Int,Hid (z5 + z9 = z):=⟨_,rfl⟩
 have hk10:Wd z10 549755813881:=Wd.add hk5 hk9 hz10 (by omega)
 refine wSg 7 [35,36,37,38,39,40,41] [[],[],[0,1],[],[],[4,0,1,2],[3,5,0,1,2,4]] [] [] [] (fun i => ([iSv (.agg #[.bool (ng z4),.slice p4 n4 c4]),fun _ => Zt 1,fun _ => Zt z8,iSv (.agg #[.bool (ng z5),.slice p5 n5 c5]),iSv (.agg #[.bool (ng z2),.slice p2 n2 c2]),fun _ => Zt z9,fun _ => Zt z10]:List (List Value → Tell)).getD i (fun _ _ _ => False)) hNi (fun d _ _ _ _ h => (by cases d <;> exact h)) (by kernel_rfl) (by kernel_rfl) (by kernel_rfl) hS ?_ ?_
 ·
  refine stH rfl (fun ho hS=>?_) ?_
  ·exact inNo rfl (oLd (vs:=[.bool (ng z4),.slice p4 n4 c4]) aggZ hS 3 rfl rfl (ev rfl (ho 8 rfl)) rfl rfl rfl (nSm rfl isI))
  refine stT rfl (fun _ _=>?_) ?_
  ·exact .inl ⟨wNo rfl,oCl rfl rfl Tryd.call34 rfl (wqof (z:=1) (by omega) (by omega)) (ar1 evc) cNw⟩
  refine stT rfl (fun hT hS=>?_) ?_
  ·obtain ⟨hv0,hr0⟩:=hT 0 35 rfl rfl
   obtain ⟨p7,n7,c7,hv1,hr1⟩:=(hT 1 36 rfl rfl:(Zt 1) _ _)
   obtain hS:=hS.flat2 hr0 hr1
   exact .inl ⟨wNo rfl,oCl rfl rfl Tryd.call64 rfl (wqsub (((hS.sl 1 rfl).zr hk4).mono (by omega)) (((hS.sl 12 rfl).zr hk7).mono (by omega)) hz8) (ar2 (ev rfl hv0) (ev rfl hv1)) cNw⟩
  refine stH rfl (fun ho hS=>?_) ?_
  ·exact inNo rfl (oLd (vs:=[.bool (ng z5),.slice p5 n5 c5]) aggZ hS 2 rfl rfl (ev rfl (ho 9 rfl)) rfl rfl rfl (nSm rfl isI))
  refine stH rfl (fun ho hS=>?_) ?_
  ·exact inNo rfl (oLd (vs:=[.bool (ng z2),.slice p2 n2 c2]) aggZ hS 10 rfl rfl (ev rfl (ho 3 rfl)) rfl rfl rfl (nSm rfl isI))
  refine stT rfl (fun hT hS=>?_) ?_
  ·obtain ⟨hv4,hr4⟩:=hT 4 39 rfl rfl
   obtain hS:=hS.flat1 hr4
   exact .inl ⟨wNo rfl,oCl rfl rfl Tryd.call66 rfl (wqabs (((hS.sl 6 rfl).zr hk2).mono (by omega)) hz9) (ar1 (ev rfl hv4)) cNw⟩
  refine stT rfl (fun hT hS=>?_) ?_
  ·obtain ⟨hv3,hr3⟩:=hT 3 38 rfl rfl
   obtain ⟨p9,n9,c9,hv5,hr5⟩:=(hT 5 40 rfl rfl:(Zt z9) _ _)
   obtain hS:=hS.flat2 hr3 hr5
   exact .inl ⟨wNo rfl,oCl rfl rfl Tryd.call65 rfl (wqadd (((hS.sl 0 rfl).zr hk5).mono (by omega)) (((hS.sl 12 rfl).zr hk9).mono (by omega)) hz10) (ar2 (ev rfl hv3) (ev rfl hv5)) cNw⟩
  exact sNi
 intro vs ρ w23 f' hf hT hS
 obtain ⟨hv0,hr0⟩:=hT 0 (by decide)
 obtain ⟨p7,n7,c7,hv1,hr1⟩:=(hT 1 (by decide):(Zt 1) _ _)
 obtain ⟨p8,n8,c8,hv2,hr2⟩:=(hT 2 (by decide):(Zt z8) _ _)
 obtain ⟨hv3,hr3⟩:=hT 3 (by decide)
 obtain ⟨hv4,hr4⟩:=hT 4 (by decide)
 obtain ⟨p9,n9,c9,hv5,hr5⟩:=(hT 5 (by decide):(Zt z9) _ _)
 obtain ⟨p10,n10,c10,hv6,hr6⟩:=(hT 6 (by decide):(Zt z10) _ _)
 simp only [pool,if_true,hr0,hr1,hr2,hr3,hr4,hr5,hr6,List.nil_append,List.cons_append,List.append_nil] at hS
 simp only [layf,hv0,hv1,hv2,hv3,hv4,hv5,hv6] at hf
 subst hf; clear hT hv0 hv1 hv2 hv3 hv4 hv5 hv6 hr0 hr1 hr2 hr3 hr4 hr5 hr6
 refine wLt 7 rfl (by kernel_rfl) (oSt [.bool (ng z8),.slice p8 n8 c8] [.bool (ng z8),.slice p8 n8 c8] Tryd.sizeOf52 hS 7 rfl rfl (ev rfl rfl) (ev (v:=.agg #[.bool (ng z8),.slice p8 n8 c8]) rfl rfl) rfl rfl rfl rfl rfl rfl ?_)
 clear hS; intro w24 hS
 refine ⟨hNi,?_⟩
 refine wLt 8 rfl (by kernel_rfl) (oSt [.bool (ng z10),.slice p10 n10 c10] [.bool (ng z10),.slice p10 n10 c10] Tryd.sizeOf52 hS 6 rfl rfl (ev rfl rfl) (ev (v:=.agg #[.bool (ng z10),.slice p10 n10 c10]) rfl rfl) rfl rfl rfl rfl rfl rfl ?_)
 clear hS; intro w25 hS
 refine ⟨hNi,?_⟩
 refine wdone rfl ?_
 refine tNo (wSq (wsr (wl rfl (oFA (g:=g3) (off:=0) 0 rfl rfl (ev rfl rfl) Tryd.runUnderlying52 rfl Tryd.sizeOf4 rfl ?_))))
 have hbz2:0 ≤ z2:=by have:=hz2.out; omega
 refine wl rfl (oL1 (v:=.bool false) oneB hS 14 rfl rfl (ev rfl rfl) rfl (congrArg (fun t => some (Value.bool t)) (ng_false hbz2)) ?_)
 refine wn1 ?_
 refine wF (ev rfl rfl) ?_
 refine wSk (tNo (wSq ?_))
 obtain ⟨z11,hz11⟩:∃ z:Int,Hid (z8 = z):=⟨_,rfl⟩
 have hk11:Wd z11 549755813881:=Wd.same hk8 hz11
 obtain ⟨z12,hz12⟩:∃ z:Int,Hid (z10 = z):=⟨_,rfl⟩
 have hk12:Wd z12 549755813881:=Wd.same hk10 hz12
 refine wSg 4 [46,47,48,49] [[],[0],[],[2,0,1]] [] [] [] (fun i => ([iSv (.agg #[.bool (ng z8),.slice p8 n8 c8]),fun _ => Zt z11,iSv (.agg #[.bool (ng z10),.slice p10 n10 c10]),fun _ => Zt z12]:List (List Value → Tell)).getD i (fun _ _ _ => False)) hNi (fun d _ _ _ _ h => (by cases d <;> exact h)) (by kernel_rfl) (by kernel_rfl) (by kernel_rfl) hS ?_ ?_
 ·
  refine stH rfl (fun ho hS=>?_) ?_
  ·exact inNo rfl (oLd (vs:=[.bool (ng z8),.slice p8 n8 c8]) aggZ hS 7 rfl rfl (ev rfl (ho 8 rfl)) rfl rfl rfl (nSm rfl isI))
  refine stT rfl (fun hT hS=>?_) ?_
  ·obtain ⟨hv0,hr0⟩:=hT 0 46 rfl rfl
   obtain hS:=hS.flat1 hr0
   exact .inl ⟨wNo rfl,oCl rfl rfl Tryd.call60 rfl (wqnorm (((hS.sl 2 rfl).zr hk8).mono (by omega)) hz11) (ar1 (ev rfl hv0)) cNw⟩
  refine stH rfl (fun ho hS=>?_) ?_
  ·exact inNo rfl (oLd (vs:=[.bool (ng z10),.slice p10 n10 c10]) aggZ hS 6 rfl rfl (ev rfl (ho 9 rfl)) rfl rfl rfl (nSm rfl isI))
  refine stT rfl (fun hT hS=>?_) ?_
  ·obtain ⟨hv2,hr2⟩:=hT 2 48 rfl rfl
   obtain hS:=hS.flat1 hr2
   exact .inl ⟨wNo rfl,oCl rfl rfl Tryd.call60 rfl (wqnorm (((hS.sl 0 rfl).zr hk10).mono (by omega)) hz12) (ar1 (ev rfl hv2)) cNw⟩
  exact sNi
 intro vs ρ w26 f' hf hT hS
 obtain ⟨hv0,hr0⟩:=hT 0 (by decide)
 obtain ⟨p11,n11,c11,hv1,hr1⟩:=(hT 1 (by decide):(Zt z11) _ _)
 obtain ⟨hv2,hr2⟩:=hT 2 (by decide)
 obtain ⟨p12,n12,c12,hv3,hr3⟩:=(hT 3 (by decide):(Zt z12) _ _)
 simp only [pool,if_true,hr0,hr1,hr2,hr3,List.nil_append,List.cons_append,List.append_nil] at hS
 simp only [layf,hv0,hv1,hv2,hv3] at hf
 subst hf; clear hT hv0 hv1 hv2 hv3 hr0 hr1 hr2 hr3
 refine wLt 4 rfl (by kernel_rfl) (oSt [.bool (ng z11),.slice p11 n11 c11] [.bool (ng z11),.slice p11 n11 c11] Tryd.sizeOf52 hS 15 rfl rfl (ev rfl rfl) (ev (v:=.agg #[.bool (ng z11),.slice p11 n11 c11]) rfl rfl) rfl rfl rfl rfl rfl rfl ?_)
 clear hS; intro w27 hS
 refine ⟨hNi,?_⟩
 refine wLt 5 rfl (by kernel_rfl) (oSt [.bool (ng z12),.slice p12 n12 c12] [.bool (ng z12),.slice p12 n12 c12] Tryd.sizeOf52 hS 14 rfl rfl (ev rfl rfl) (ev (v:=.agg #[.bool (ng z12),.slice p12 n12 c12]) rfl rfl) rfl rfl rfl rfl rfl rfl ?_)
 clear hS; intro w28 hS
 refine ⟨hNi,?_⟩
 refine wdone rfl ?_
 refine tNo ?_
 refine wLv ?_
 refine wret2 Tryd.results33 (tellC (cs:=[.bool (ng z11),.slice p11 n11 c11]) aggZ hS 15 rfl rfl rfl rfl) (tellC (cs:=[.bool (ng z12),.slice p12 n12 c12]) aggZ hS 14 rfl rfl rfl rfl) ?_
 have hh:=(euc_np (x:=x) (y:=y) (Q:=Q3) (R:=R3) (by show _ = _; rw [hz1.out,hz2.out]; exact hQ3.out) (by show _ = _; rw [hz1.out,hz2.out]; exact hR3.out) hx0 hy0).2 hR9
 have e1:=hz1.out
 have e2:=hz2.out
 have e4:=hz4.out
 have e5:=hz5.out
 have e8:=hz8.out
 have e9:=hz9.out
 have e10:=hz10.out
 have e11:=hz11.out
 have e12:=hz12.out
 have t1:z11 = z:=by have:=hz.out; omega
 have t2:z12 = r:=by have:=hr.out; omega
 subst t1
 subst t2
 exact ⟨_,_,rfl,⟨_,_,_,_,_,_,rfl,rfl⟩,hS.new2 1 0 rfl rfl⟩
theorem lim_word {N:Nat} (h:N < 4294967296):nd (lim N) 0 = N:=by
 rcases Nat.eq_zero_or_pos N with h0 | h0
 ·subst h0; rfl
 have h1:ll N ≤ 1:=ll_le (by omega)
 have h2:=ll_pos (n:=N) (by omega)
 exact lim1 (by omega)
theorem wqeuclidP {z r:Int} {PP:Nat} {b b2:Bool} {p q:Option Addr} {n m c d:Nat} {x:Int} {w:World} (hx:Zr w b p n c x 549755813880) (hy:Zr w b2 q m d (PP:Int) 549755813880) (h0:(PP:Int) ≠ 0) (hz:Hid (x / (PP:Int) = z)) (hr:Hid (x % (PP:Int) = r)) :
  Calls Tryd.prog 33 #[.agg #[.bool b,.slice p n c],.agg #[.bool b2,.slice q m d]] w (Ret (ZZt z r) w):=by
 rcases Int.lt_or_le x 0 with h1 | h1
 ·by_cases h3:x.natAbs % ((PP:Nat):Int).natAbs = 0
  ·exact wqeu_np0 hx hy h0 h1 (by omega) h3 hz hr
  exact wqeu_np1 hx hy h0 h1 (by omega) h3 hz hr
 exact wqeu_pp hx hy h0 h1 (by omega) hz hr
theorem wqmod {b:Bool} {p:Option Addr} {n c:Nat} {x:Int} {PP:Nat} {w:World} (hx:Zr w b p n c x 549755813000) (hP:PP < 4294967296) (hP0:PP ≠ 0) :
  Calls Tryd.prog 21 #[.agg #[.bool b,.slice p n c],.int .u32 (PP:Int)] w (Ret (Is (.int .u32 ((x % (PP:Int)).toNat:Int))) w):=by
 have hS:=Sep.init w
 refine went Tryd.func21 rfl (n:=23) rfl rfl ?_
 refine wsr (wl rfl (obox [.bool b,.slice p n c] hS rfl rfl (ev (v:=.agg #[.bool b,.slice p n c]) rfl rfl) rfl ?_))
 clear hS; intro g1 w2 hS
 refine wavc ?_
 refine wn1 (wSq ?_)
 have hk1:Wd ((PP:Int)) 2:=Wd.i64 (by omega) (by omega)
 obtain ⟨z2,hz2⟩:∃ z:Int,Hid (x / ((PP:Int)) = z):=⟨_,rfl⟩
 have hk2:Wd z2 549755813000:=Wd.ediv hx.wd hz2
 obtain ⟨z3,hz3⟩:∃ z:Int,Hid (x % ((PP:Int)) = z):=⟨_,rfl⟩
 have hk3:Wd z3 2:=Wd.emod hk1 (by omega) hz3
 refine wSg 10 [8,9,10,11,12,7,13,14,5,6] [[],[],[1],[2,1],[0,3,1,2],[4,0,1,2,3],[4,5,0,1,2,3],[4,5,0,1,2,3],[],[]] [[],[],[],[],[],[4],[4],[4],[],[]] [7] [] (fun i => ([iSv (.agg #[.bool b,.slice p n c]),iSv (.int .u32 (PP:Int)),iSv (.int .i64 (PP:Int)),fun _ => Zt (PP:Int),fun _ => ZZt z2 z3,fun us => Is (.tuple #[.agg #[.bool (ng z2),(vat (us.getD 0 undef) [0,1])],.agg #[.bool (ng z3),(vat (us.getD 0 undef) [1,1])]]),fun us => Is (.agg #[.bool (ng z2),(vat (us.getD 0 undef) [0,1])]),fun us => Is (.agg #[.bool (ng z3),(vat (us.getD 0 undef) [1,1])]),fun _ => Ptr [.bool false,.slice none 0 0] 52,fun _ => Ptr [.bool false,.slice none 0 0] 52]:List (List Value → Tell)).getD i (fun _ _ _ => False)) hNi (fun d _ _ _ _ h => (by cases d <;> exact h)) (by kernel_rfl) (by kernel_rfl) (by kernel_rfl) hS ?_ ?_
 ·
  refine stH rfl (fun ho hS=>?_) ?_
  ·exact inNo rfl (oLd (vs:=[.bool b,.slice p n c]) aggZ hS 0 rfl rfl (ev rfl (ho 2 rfl)) rfl rfl rfl (nSm rfl isI))
  refine stM rfl rfl rfl rfl rfl (fun _=>isI) ?_
  refine stT rfl (fun hT hS=>?_) ?_
  ·obtain ⟨hv1,hr1⟩:=hT 1 9 rfl rfl
   obtain hS:=hS.flat1 hr1
   exact inNo rfl (oCv (u:=.int .u32 (PP:Int)) (v:=.int .i64 (PP:Int)) rfl rfl (ev rfl hv1) (cvI Tryd.runUnderlying24 Tryd.runUnderlying2 (wI6 (by omega) (by omega))) (nSm rfl isI))
  refine stT rfl (fun hT hS=>?_) ?_
  ·obtain ⟨hv2,hr2⟩:=hT 2 10 rfl rfl
   obtain hS:=hS.flat1 hr2
   exact .inl ⟨wNo rfl,oCl rfl rfl Tryd.call34 rfl (wqof (z:=(PP:Int)) (by omega) (by omega)) (ar1 (ev rfl hv2)) cNw⟩
  refine stT rfl (fun hT hS=>?_) ?_
  ·obtain ⟨hv0,hr0⟩:=hT 0 8 rfl rfl
   obtain ⟨p1,n1,c1,hv3,hr3⟩:=(hT 3 11 rfl rfl:(Zt ((PP:Int))) _ _)
   obtain hS:=hS.flat2 hr0 hr3
   exact .inl ⟨wNo rfl,oCl rfl rfl Tryd.call33 rfl (wqeuclidP ((hx.at hS).mono (by omega)) (((hS.sl 1 rfl).zr hk1).mono (by omega)) (by omega) hz2 hz3) (ar2 (ev rfl hv0) (ev rfl hv3)) cNw⟩
  refine stC rfl (fun _ f' _ _ _ _ hT hS _=>?_) ?_
  ·obtain ⟨p2,n2,c2,p3,n3,c3,hv4,hr4⟩:=(hT 4 12 rfl rfl:(ZZt z2 z3) _ _)
   obtain hS:=hS.flat1 hr4
   have hQ:(.tuple #[.agg #[.bool (ng z2),.slice p2 n2 c2],.agg #[.bool (ng z3),.slice p3 n3 c3]]:Value) = (fun (us:List Value) => (.tuple #[.agg #[.bool (ng z2),(vat (us.getD 0 undef) [0,1])],.agg #[.bool (ng z3),(vat (us.getD 0 undef) [1,1])]]:Value)) [f' 12]:=by show _ = (.tuple #[.agg #[.bool (ng z2),(vat (f' 12) [0,1])],.agg #[.bool (ng z3),(vat (f' 12) [1,1])]]:Value); rw [hv4]; rfl
   exact .inl ⟨wNo rfl,omove (v:=.tuple #[.agg #[.bool (ng z2),.slice p2 n2 c2],.agg #[.bool (ng z3),.slice p3 n3 c3]]) rfl rfl (ev rfl hv4) ⟨_,_,rfl,⟨hQ,rfl⟩,New.same _⟩⟩
  refine stC rfl (fun _ f' _ _ _ _ hT hS _=>?_) ?_
  ·obtain ⟨p2,n2,c2,p3,n3,c3,hv4,hr4⟩:=(hT 4 12 rfl rfl:(ZZt z2 z3) _ _)
   obtain ⟨hv5,hr5⟩:=(hT 5 7 rfl rfl:(fun (us:List Value) => Is (.tuple #[.agg #[.bool (ng z2),(vat (us.getD 0 undef) [0,1])],.agg #[.bool (ng z3),(vat (us.getD 0 undef) [1,1])]])) [f' 12] _ _)
   replace hv5:f' 7 = .tuple #[.agg #[.bool (ng z2),.slice p2 n2 c2],.agg #[.bool (ng z3),.slice p3 n3 c3]]:=hv5.trans (by show (.tuple #[.agg #[.bool (ng z2),(vat (f' 12) [0,1])],.agg #[.bool (ng z3),(vat (f' 12) [1,1])]]:Value) = _; rw [hv4]; rfl)
   obtain hS:=hS.flat2 hr4 hr5
   have hQ:(.agg #[.bool (ng z2),.slice p2 n2 c2]:Value) = (fun (us:List Value) => (.agg #[.bool (ng z2),(vat (us.getD 0 undef) [0,1])]:Value)) [f' 12]:=by show _ = (.agg #[.bool (ng z2),(vat (f' 12) [0,1])]:Value); rw [hv4]; rfl
   exact .inl ⟨wNo rfl,oEx (vs:=[.agg #[.bool (ng z2),.slice p2 n2 c2],.agg #[.bool (ng z3),.slice p3 n3 c3]]) (v:=.agg #[.bool (ng z2),.slice p2 n2 c2]) rfl rfl (ev rfl hv5) rfl ⟨_,_,rfl,⟨hQ,rfl⟩,New.same _⟩⟩
  refine stepsPure rfl ?_ ?_
  ·intro f' ρ ho hT
   obtain ⟨p2,n2,c2,p3,n3,c3,hv4,hr4⟩:=(hT 4 12 rfl rfl:(ZZt z2 z3) _ _)
   obtain ⟨hv5,hr5⟩:=(hT 5 7 rfl rfl:(fun (us:List Value) => Is (.tuple #[.agg #[.bool (ng z2),(vat (us.getD 0 undef) [0,1])],.agg #[.bool (ng z3),(vat (us.getD 0 undef) [1,1])]])) [f' 12] _ _)
   replace hv5:f' 7 = .tuple #[.agg #[.bool (ng z2),.slice p2 n2 c2],.agg #[.bool (ng z3),.slice p3 n3 c3]]:=hv5.trans (by show (.tuple #[.agg #[.bool (ng z2),(vat (f' 12) [0,1])],.agg #[.bool (ng z3),(vat (f' 12) [1,1])]]:Value) = _; rw [hv4]; rfl)
   have hQ:(.agg #[.bool (ng z3),.slice p3 n3 c3]:Value) = (fun (us:List Value) => (.agg #[.bool (ng z3),(vat (us.getD 0 undef) [1,1])]:Value)) [f' 12]:=by show _ = (.agg #[.bool (ng z3),(vat (f' 12) [1,1])]:Value); rw [hv4]; rfl
   exact ⟨_,.inl ⟨wNo rfl,fun w hw => yextract (vs:=[.agg #[.bool (ng z2),.slice p2 n2 c2],.agg #[.bool (ng z3),.slice p3 n3 c3]]) (v:=.agg #[.bool (ng z3),.slice p3 n3 c3]) rfl (ev (v:=.tuple #[.agg #[.bool (ng z2),.slice p2 n2 c2],.agg #[.bool (ng z3),.slice p3 n3 c3]]) rfl hv5) rfl w⟩,⟨hQ,rfl⟩⟩
  refine stT rfl (fun _ _=>?_) ?_
  ·exact .inl ⟨wNo rfl,oallocN [.bool false,.slice none 0 0] rfl rfl Tryd.zeroValue52 rfl ⟨_,_,rfl,ptrI,New.blk _ _ _⟩⟩
  refine stT rfl (fun _ _=>?_) ?_
  ·exact .inl ⟨wNo rfl,oallocN [.bool false,.slice none 0 0] rfl rfl Tryd.zeroValue52 rfl ⟨_,_,rfl,ptrI,New.blk _ _ _⟩⟩
  exact sNi
 intro vs ρ w5 f' hf hT hS
 obtain ⟨hv0,hr0⟩:=hT 0 (by decide)
 obtain ⟨hv1,hr1⟩:=hT 1 (by decide)
 obtain ⟨hv2,hr2⟩:=hT 2 (by decide)
 obtain ⟨p1,n1,c1,hv3,hr3⟩:=(hT 3 (by decide):(Zt ((PP:Int))) _ _)
 obtain ⟨p2,n2,c2,p3,n3,c3,hv4,hr4⟩:=(hT 4 (by decide):(ZZt z2 z3) _ _)
 obtain ⟨hv5,hr5⟩:=(hT 5 (by decide):(fun (us:List Value) => Is (.tuple #[.agg #[.bool (ng z2),(vat (us.getD 0 undef) [0,1])],.agg #[.bool (ng z3),(vat (us.getD 0 undef) [1,1])]])) [vs 4] _ _)
 replace hv5:vs 5 = .tuple #[.agg #[.bool (ng z2),.slice p2 n2 c2],.agg #[.bool (ng z3),.slice p3 n3 c3]]:=hv5.trans (by show (.tuple #[.agg #[.bool (ng z2),(vat (vs 4) [0,1])],.agg #[.bool (ng z3),(vat (vs 4) [1,1])]]:Value) = _; rw [hv4]; rfl)
 obtain ⟨hv6,hr6⟩:=(hT 6 (by decide):(fun (us:List Value) => Is (.agg #[.bool (ng z2),(vat (us.getD 0 undef) [0,1])])) [vs 4] _ _)
 replace hv6:vs 6 = .agg #[.bool (ng z2),.slice p2 n2 c2]:=hv6.trans (by show (.agg #[.bool (ng z2),(vat (vs 4) [0,1])]:Value) = _; rw [hv4]; rfl)
 obtain ⟨hv7,hr7⟩:=(hT 7 (by decide):(fun (us:List Value) => Is (.agg #[.bool (ng z3),(vat (us.getD 0 undef) [1,1])])) [vs 4] _ _)
 replace hv7:vs 7 = .agg #[.bool (ng z3),.slice p3 n3 c3]:=hv7.trans (by show (.agg #[.bool (ng z3),(vat (vs 4) [1,1])]:Value) = _; rw [hv4]; rfl)
 obtain ⟨g3,hv8,hr8⟩:=(hT 8 (by decide):(Ptr [.bool false,.slice none 0 0] 52) _ _)
 obtain ⟨g4,hv9,hr9⟩:=(hT 9 (by decide):(Ptr [.bool false,.slice none 0 0] 52) _ _)
 simp only [pool,if_true,hr0,hr1,hr2,hr3,hr4,hr5,hr6,hr7,hr8,hr9,List.nil_append,List.cons_append,List.append_nil] at hS
 simp only [layf,hv0,hv1,hv2,hv3,hv4,hv5,hv6,hv7,hv8,hv9] at hf
 subst hf; clear hT hv0 hv1 hv2 hv3 hv4 hv5 hv6 hv7 hv8 hv9 hr0 hr1 hr2 hr3 hr4 hr5 hr6 hr7 hr8 hr9
 refine wLt 10 rfl (by kernel_rfl) (oSt [.bool (ng z2),.slice p2 n2 c2] [.bool (ng z2),.slice p2 n2 c2] Tryd.sizeOf52 hS 1 rfl rfl (ev rfl rfl) (ev (v:=.agg #[.bool (ng z2),.slice p2 n2 c2]) rfl rfl) rfl rfl rfl rfl rfl rfl ?_)
 clear hS; intro w6 hS
 refine ⟨hNi,?_⟩
 refine wLt 11 rfl (by kernel_rfl) (oSt [.bool (ng z3),.slice p3 n3 c3] [.bool (ng z3),.slice p3 n3 c3] Tryd.sizeOf52 hS 0 rfl rfl (ev rfl rfl) (ev (v:=.agg #[.bool (ng z3),.slice p3 n3 c3]) rfl rfl) rfl rfl rfl rfl rfl rfl ?_)
 clear hS; intro w7 hS
 refine ⟨hNi,?_⟩
 refine wdone rfl ?_
 refine tNo (wSq (wsr (wl rfl (oFA (g:=g4) (off:=0) 1 rfl rfl (ev rfl rfl) Tryd.runUnderlying52 rfl Tryd.sizeOf50 rfl ?_))))
 refine wl rfl (oL1 (v:=.slice p3 n3 c3) oneN hS 0 rfl rfl (ev rfl rfl) rfl rfl ?_)
 refine wl rfl (olen rfl rfl rfl Tryd.runUnderlying50 (p:=p3) (k:=n3) (m:=c3) (ev rfl rfl) ?_)
 have hr0:=Int.emod_nonneg x (b:=(PP:Int)) (by omega)
 have hr1:=Int.emod_lt x (b:=(PP:Int)) (by omega)
 have hr2:=hz3.out
 by_cases hq0:z3 = 0
 ·
  refine wbc (u:=.int .i64 (n3:Int)) (v:=.int .i64 0) (z:=.bool true) rfl rfl (bEq (eqT (by rw [((hS.sl 3 rfl)).lln,hq0]; rfl))) ?_
  refine wn1 ?_
  refine wT (ev rfl rfl) ?_
  refine wsr (wavc ?_)
  refine wn1 ?_
  refine wLv ?_
  refine thenR ?_
  have hfin:((x % (PP:Int)).toNat:Int) = 0:=by omega
  refine wr1 Tryd.results21 (tlT (v:=.int .u32 0) rfl rfl) ?_
  exact ⟨_,_,rfl,⟨by rw [hfin],rfl⟩,hS.new0⟩
 have hp:0 < n3:=by rw [((hS.sl 3 rfl)).lln]; exact ll_pos (by omega)
 refine wbc (u:=.int .i64 (n3:Int)) (v:=.int .i64 0) (z:=.bool false) rfl rfl (bEq (eqF (by omega))) ?_
 refine wn1 ?_
 refine wF (ev rfl rfl) ?_
 refine wSk (tNo (wsr (wl rfl (oFA (g:=g4) (off:=0) 1 rfl rfl (ev rfl rfl) Tryd.runUnderlying52 rfl Tryd.sizeOf50 rfl ?_))))
 refine wl rfl (oL1 (v:=.slice p3 n3 c3) oneN hS 0 rfl rfl (ev rfl rfl) rfl rfl ?_)
 obtain ⟨gg,hpg,_,_⟩:=(hS.rowAt 3 rfl).pos hp
 refine wl rfl (oIx (p:=p3) (g:=gg) (off:=0) (m:=n3) (k:=0) (j:=0) rfl rfl Tryd.runUnderlying50 Tryd.sizeOf24 (ev rfl rfl) hpg evc hp (by simp) ?_)
 refine wl rfl (oLc (v:=.int .u32 (((nd (lim z3.natAbs) 0:Nat):Int))) one32 rfl rfl (ev (v:=.pointer (some ⟨gg,0,none⟩)) rfl rfl) (by have h9:=(hS.rowAt 3 rfl); rw [hpg] at h9; exact h9.cellAt (i:=0) (by omega)) ?_)
 refine wav (v:=.int .u32 (((nd (lim z3.natAbs) 0:Nat):Int))) rfl rfl ?_
 refine wn1 ?_
 refine wLv ?_
 have hfin:((x % (PP:Int)).toNat:Int) = ((nd (lim z3.natAbs) 0:Nat):Int):=by rw [lim_word (by omega)]; omega
 refine wr1 Tryd.results21 (tlT (v:=.int .u32 (((nd (lim z3.natAbs) 0:Nat):Int))) rfl rfl) ?_
 exact ⟨_,_,rfl,⟨by rw [hfin],rfl⟩,hS.new0⟩
end Go.Proofs.YtcfcdbeemhjhgaaDoor
