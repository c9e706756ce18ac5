/-
  Contracts and lemmas, joined in one text.
-/
import Derived.Test.YtnlnibngpeempaaGreatDoorWC
set_option linter.unusedVariables false
set_option linter.unusedSimpArgs false
/-
  Fractions: what is told of them; Make and Norm.
-/
set_option maxRecDepth 100000
set_option maxHeartbeats 16000000
namespace Go.Proofs.YtnlnibngpeempaaGreatDoor
open Go.RowKit
theorem aggR:Agg Tryz.prog 43 4:=⟨Tryz.isAgg43,Tryz.sizeOf43⟩
def Rrt (x y:Int):Tell:=fun v r => ∃ p n c q m d,v = .agg #[.bool (ng x),.slice p n c,.bool (ng y),.slice q m d] ∧ r = [.rowm p n c (lim x.natAbs),.rowm q m d (lim y.natAbs)]
def ZEm (z:Int) (E:Int):Tell:=fun v r => ∃ p n c,v = .tuple #[.agg #[.bool (ng z),.slice p n c],.int .i64 E] ∧ r = [.rowm p n c (lim z.natAbs)]
def ZBm (z:Int) (E:Bool):Tell:=fun v r => ∃ p n c,v = .tuple #[.agg #[.bool (ng z),.slice p n c],.bool E] ∧ r = [.rowm p n c (lim z.natAbs)]
theorem ZEt.m {z E:Int} {w:World} (e:Ending) (w':World) (h:Ret (ZEt z E) w e w'):Ret (ZEm z E) w e w':=by
  obtain ⟨_,_,rfl,⟨p,n,c,rfl,rfl⟩,hN⟩:=h
  exact ⟨_,_,rfl,⟨p,n,c,rfl,rfl⟩,New.one hN.below (show Fr 0 w' p n c (lim z.natAbs) from hN.holds (.row p n c (lim z.natAbs)) List.mem_cons_self) (fun g hg => hN.high (.row p n c (lim z.natAbs)) List.mem_cons_self g hg)⟩
theorem ZBt.m {z:Int} {E:Bool} {w:World} (e:Ending) (w':World) (h:Ret (ZBt z E) w e w'):Ret (ZBm z E) w e w':=by
  obtain ⟨_,_,rfl,⟨p,n,c,rfl,rfl⟩,hN⟩:=h
  exact ⟨_,_,rfl,⟨p,n,c,rfl,rfl⟩,New.one hN.below (show Fr 0 w' p n c (lim z.natAbs) from hN.holds (.row p n c (lim z.natAbs)) List.mem_cons_self) (fun g hg => hN.high (.row p n c (lim z.natAbs)) List.mem_cons_self g hg)⟩
theorem Sep.newM {R S:List Res} {w w':World} (h:Sep w R w') (ks:List Nat) (hn:ks.Nodup) (he:ks.map (fun k => R[k]?) = S.map some) (ha:S.all (fun r => !r.arg) = true):New w S w':=by
  have h2:=h.pick ks hn he
  exact ⟨h2.below,h2.holds,fun r hr g hg => h2.low r hr (by have:=List.all_eq_true.1 ha r hr; simpa using this) g hg,h2.apart⟩
theorem Wd.rn {x y z:Int} {k:Nat} (hx:Wd x k) (hz:Hid (RN x y = z)):Wd z k:=by
  have hz':=hz.out; subst hz'
  exact hx.abs (RN_abs x y)
theorem Wd.rd {x y z:Int} {k:Nat} (hy:Wd y k) (hz:Hid (RD x y = z)):Wd z k:=by
  have hz':=hz.out; subst hz'
  exact hy.abs (RD_abs x y)
theorem sign_pos {y s:Int} (h:Hid (y.sign = s)) (hy:0 ≤ y):¬ s < 0:=by
  rw [← h.out]
  rcases Int.lt_or_eq_of_le hy with h1 | h1
  · rw [Int.sign_eq_one_of_pos h1]; decide
  rw [← h1]; decide
theorem sign_negl {y s:Int} (h:Hid (y.sign = s)) (hy:y < 0):s < 0:=by
  rw [← h.out,Int.sign_eq_neg_one_of_neg hy]; decide
theorem wsmake {z t:Int} {b b2:Bool} {p q:Option Addr} {n m c d:Nat} {x y:Int} {w:World} (hx:Zr w b p n c x 67108864) (hy:Zr w b2 q m d y 67108864) (h0:y ≠ 0) (hz:Hid (RN x y = z)) (ht:Hid (RD x y = t)) :
  Calls Tryz.prog 54 #[.agg #[.bool b,.slice p n c],.agg #[.bool b2,.slice q m d]] w (Ret (Rrt z t) w):=by
 have hS:=Sep.init w
 refine went Tryz.func54 rfl (n:=35) rfl rfl ?_
 refine wsr (wl rfl (obox [.bool b,.slice p n c] hS rfl rfl (ev rfl rfl) rfl ?_))
 clear hS; intro g1 w2 hS
 refine wl rfl (obox [.bool b2,.slice q m d] hS rfl rfl (ev rfl rfl) rfl ?_)
 clear hS; intro g3 w4 hS
 refine wl rfl (oAl [.bool false,.slice none 0 0,.bool false,.slice none 0 0] hS rfl rfl Tryz.zeroValue43 rfl ?_)
 clear hS; intro g5 w6 hS
 refine wn1 (wSq (wsr (wl rfl (oLd aggZ hS 1 rfl rfl (ev rfl rfl) rfl rfl rfl ?_))))
 obtain ⟨s1,hs1⟩:∃ z:Int,Hid ((y:Int).sign = z):=⟨_,rfl⟩
 refine wcl Tryz.call45 (wqsign ((hy.at hS).mono (by omega)) hs1) (ar1 (ev rfl rfl)) hS ?_
 clear hS; rintro _ _ w7 ⟨rfl,rfl⟩ hS
 by_cases hy0:y < 0
 ·
  refine wbc rfl rfl (bLs (decide_eq_true (sign_negl hs1 hy0))) ?_
  refine wn1 ?_
  refine wT (ev rfl rfl) ?_
  obtain ⟨z2,hz2⟩:∃ z:Int,Hid (-x = z):=⟨_,rfl⟩
  have hk2:Wd z2 67108864:=Wd.neg hx.wd hz2
  obtain ⟨z3,hz3⟩:∃ z:Int,Hid (-y = z):=⟨_,rfl⟩
  have hk3:Wd z3 67108864:=Wd.neg hy.wd hz3
  refine wSg 4 [13,14,15,16] [[],[0],[],[2,0,1]] [] [] [] (fun i9 => ([iSv (.agg #[.bool b,.slice p n c]),fun _ => Zt z2,iSv (.agg #[.bool b2,.slice q m d]),fun _ => Zt z3]:List (List Value → Tell)).getD i9 (fun _ _ _ => False)) hNi (fun d _ _ _ _ h => (by cases d <;> exact h)) (by kernel_rfl) (by kernel_rfl) (by kernel_rfl) hS ?_ ?_
  ·
   refine stH rfl (fun ho hS=>?_) ?_
   ·exact inNo rfl (oLd aggZ hS 2 rfl rfl (ev rfl (ho 2 rfl)) rfl rfl rfl (nSm rfl isI))
   refine stT rfl (fun hT hS=>?_) ?_
   ·obtain ⟨hv0,hr0⟩:=hT 0 13 rfl rfl
    obtain hS:=hS.flat1 hr0
    exact .inl ⟨wNo rfl,oCl rfl rfl Tryz.call93 rfl (wqneg ((hx.at hS).mono (by omega)) hz2) (ar1 (ev rfl hv0)) cNw⟩
   refine stH rfl (fun ho hS=>?_) ?_
   ·exact inNo rfl (oLd aggZ hS 1 rfl rfl (ev rfl (ho 3 rfl)) rfl rfl rfl (nSm rfl isI))
   refine stT rfl (fun hT hS=>?_) ?_
   ·obtain ⟨hv2,hr2⟩:=hT 2 15 rfl rfl
    obtain hS:=hS.flat1 hr2
    exact .inl ⟨wNo rfl,oCl rfl rfl Tryz.call93 rfl (wqneg ((hy.at hS).mono (by omega)) hz3) (ar1 (ev rfl hv2)) cNw⟩
   exact sNi
  intro vs ρ w8 f' hf hT hS
  obtain ⟨hv0,hr0⟩:=hT 0 (by decide)
  obtain ⟨p2,n2,c2,hv1,hr1⟩:=(hT 1 (by decide):(Zt z2) _ _)
  obtain ⟨hv2,hr2⟩:=hT 2 (by decide)
  obtain ⟨p3,n3,c3,hv3,hr3⟩:=(hT 3 (by decide):(Zt z3) _ _)
  simp only [pool,if_true,hr0,hr1,hr2,hr3,List.nil_append,List.cons_append,List.append_nil] at hS
  simp only [layf,hv0,hv1,hv2,hv3] at hf
  subst hf; clear hT hv0 hv1 hv2 hv3 hr0 hr1 hr2 hr3
  refine wLt 4 rfl (by kernel_rfl) (oSt _ _ Tryz.sizeOf28 hS 4 rfl rfl (ev rfl rfl) (ev rfl rfl) rfl rfl rfl rfl rfl rfl ?_)
  clear hS; intro w9 hS
  refine ⟨hNi,?_⟩
  refine wLt 5 rfl (by kernel_rfl) (oSt _ _ Tryz.sizeOf28 hS 3 rfl rfl (ev rfl rfl) (ev rfl rfl) rfl rfl rfl rfl rfl rfl ?_)
  clear hS; intro w10 hS
  refine ⟨hNi,?_⟩
  refine wdone rfl ?_
  refine tNo (wsr (wl rfl (oLd aggZ hS 4 rfl rfl (ev rfl rfl) rfl rfl rfl ?_)))
  refine wl rfl (oLd aggZ hS 3 rfl rfl (ev rfl rfl) rfl rfl rfl ?_)
  obtain ⟨z4,hz4⟩:∃ z:Int,Hid ((Int.gcd z2 z3:Int) = z):=⟨_,rfl⟩
  have hk4:Wd z4 67108864:=Wd.gcd hk2 hk3 hz4 (by omega)
  refine wcl Tryz.call97 (wqgcd (((hS.sl 1 rfl).zr hk2).mono (by omega)) (((hS.sl 0 rfl).zr hk3).mono (by omega)) hz4) (ar2 (ev rfl rfl) (ev rfl rfl)) hS ?_
  clear hS; rintro _ _ w11 ⟨p4,n4,c4,rfl,rfl⟩ hS
  refine wl rfl (oAl [.bool false,.slice none 0 0] hS rfl rfl Tryz.zeroValue28 rfl ?_)
  clear hS; intro g12 w13 hS
  refine wl rfl (oSt _ _ Tryz.sizeOf28 hS 0 rfl rfl (ev rfl rfl) (ev rfl rfl) rfl rfl rfl rfl rfl rfl ?_)
  clear hS; intro w14 hS
  refine wn2 (wl rfl (oLd aggZ hS 6 rfl rfl (ev rfl rfl) rfl rfl rfl ?_))
  refine wl rfl (oLd aggZ hS 0 rfl rfl (ev rfl rfl) rfl rfl rfl ?_)
  obtain ⟨z5,hz5⟩:∃ z:Int,Hid (Int.tdiv z2 z4 = z):=⟨_,rfl⟩
  have hk5:Wd z5 67108864:=Wd.tdiv hk2 hz5
  refine wcl Tryz.call98 ((wqexact (((hS.sl 3 rfl).zr hk2).mono (by omega)) (((hS.sl 1 rfl).zr hk4).mono (by omega)) (gcd_ne (by have:=hz3.out; omega) hz4.out) (gcd_mod1 hz4.out) hz5).mono ZBt.m) (ar2 (ev rfl rfl) (ev rfl rfl)) hS ?_
  clear hS; rintro _ _ w15 ⟨p5,n5,c5,rfl,rfl⟩ hS
  refine wmv rfl rfl ?_
  refine wl rfl (oEx rfl rfl (ev rfl rfl) rfl ?_)
  refine wl rfl (oEx rfl rfl (ev rfl rfl) rfl ?_)
  refine wl rfl (oAl [.bool false,.slice none 0 0] hS rfl rfl Tryz.zeroValue28 rfl ?_)
  clear hS; intro g16 w17 hS
  refine wl rfl (oSt _ _ Tryz.sizeOf28 hS 0 rfl rfl (ev rfl rfl) (ev rfl rfl) rfl rfl rfl rfl rfl rfl ?_)
  clear hS; intro w18 hS
  refine wav rfl rfl ?_
  refine wn2 (wl rfl (oLd aggZ hS 7 rfl rfl (ev rfl rfl) rfl rfl rfl ?_))
  refine wl rfl (oLd aggZ hS 2 rfl rfl (ev rfl rfl) rfl rfl rfl ?_)
  obtain ⟨z6,hz6⟩:∃ z:Int,Hid (Int.tdiv z3 z4 = z):=⟨_,rfl⟩
  have hk6:Wd z6 67108864:=Wd.tdiv hk3 hz6
  refine wcl Tryz.call98 ((wqexact (((hS.sl 4 rfl).zr hk3).mono (by omega)) (((hS.sl 3 rfl).zr hk4).mono (by omega)) (gcd_ne (by have:=hz3.out; omega) hz4.out) (gcd_mod2 hz4.out) hz6).mono ZBt.m) (ar2 (ev rfl rfl) (ev rfl rfl)) hS ?_
  clear hS; rintro _ _ w19 ⟨p6,n6,c6,rfl,rfl⟩ hS
  refine wmv rfl rfl ?_
  refine wl rfl (oEx rfl rfl (ev rfl rfl) rfl ?_)
  refine wl rfl (oEx rfl rfl (ev rfl rfl) rfl ?_)
  refine wl rfl (oAl [.bool false,.slice none 0 0] hS rfl rfl Tryz.zeroValue28 rfl ?_)
  clear hS; intro g20 w21 hS
  refine wl rfl (oSt _ _ Tryz.sizeOf28 hS 0 rfl rfl (ev rfl rfl) (ev rfl rfl) rfl rfl rfl rfl rfl rfl ?_)
  clear hS; intro w22 hS
  refine wav rfl rfl ?_
  refine wn2 (wl rfl (oLd aggZ hS 2 rfl rfl (ev rfl rfl) rfl rfl rfl ?_))
  refine wl rfl (oLd aggZ hS 0 rfl rfl (ev rfl rfl) rfl rfl rfl ?_)
  refine wl rfl (obuild (ps:=#[(0,.agg #[.bool (ng z5),.slice p5 n5 c5]),(1,.agg #[.bool (ng z6),.slice p6 n6 c6])]) (v:=.agg #[.bool (ng z5),.slice p5 n5 c5,.bool (ng z6),.slice p6 n6 c6]) rfl rfl (parts2 (ev rfl rfl) (ev rfl rfl)) (fun w => by simp [go_sem,Instr.build,Instr.fill]) ?_)
  refine wl rfl (oSt _ _ Tryz.sizeOf43 hS 8 rfl rfl (ev rfl rfl) (ev rfl rfl) rfl rfl rfl rfl rfl rfl ?_)
  clear hS; intro w23 hS
  refine wn1 ?_
  refine wLv ?_
  refine wr1 Tryz.results54 (tellC (cs:=[.bool (ng z5),.slice p5 n5 c5,.bool (ng z6),.slice p6 n6 c6]) aggR hS 8 rfl rfl rfl rfl) ?_
  obtain rfl:z5 = z:=(RN_of (by have:=hz3.out; omega) hz4.out hz5.out).symm.trans (by rw [← hz2.out, ← hz3.out,RN_neg h0]; exact hz.out)
  obtain rfl:z6 = t:=(RD_of (by have:=hz3.out; omega) hz4.out hz6.out).symm.trans (by rw [← hz2.out, ← hz3.out,RD_neg h0]; exact ht.out)
  exact ⟨_,_,rfl,⟨_,_,_,_,_,_,rfl,rfl⟩,hS.newM [3,1] (by decide) rfl rfl⟩
 refine wbc rfl rfl (bLs (decide_eq_false (sign_pos hs1 (by omega)))) ?_
 refine wn1 ?_
 refine wF (ev rfl rfl) ?_
 refine wSk (tNo (wsr (wl rfl (oLd aggZ hS 2 rfl rfl (ev rfl rfl) rfl rfl rfl ?_))))
 refine wl rfl (oLd aggZ hS 1 rfl rfl (ev rfl rfl) rfl rfl rfl ?_)
 obtain ⟨z2,hz2⟩:∃ z:Int,Hid ((Int.gcd x y:Int) = z):=⟨_,rfl⟩
 have hk2:Wd z2 67108864:=Wd.gcd hx.wd hy.wd hz2 (by omega)
 refine wcl Tryz.call97 (wqgcd ((hx.at hS).mono (by omega)) ((hy.at hS).mono (by omega)) hz2) (ar2 (ev rfl rfl) (ev rfl rfl)) hS ?_
 clear hS; rintro _ _ w8 ⟨p2,n2,c2,rfl,rfl⟩ hS
 refine wl rfl (oAl [.bool false,.slice none 0 0] hS rfl rfl Tryz.zeroValue28 rfl ?_)
 clear hS; intro g9 w10 hS
 refine wl rfl (oSt _ _ Tryz.sizeOf28 hS 0 rfl rfl (ev rfl rfl) (ev rfl rfl) rfl rfl rfl rfl rfl rfl ?_)
 clear hS; intro w11 hS
 refine wn2 (wl rfl (oLd aggZ hS 4 rfl rfl (ev rfl rfl) rfl rfl rfl ?_))
 refine wl rfl (oLd aggZ hS 0 rfl rfl (ev rfl rfl) rfl rfl rfl ?_)
 obtain ⟨z3,hz3⟩:∃ z:Int,Hid (Int.tdiv x z2 = z):=⟨_,rfl⟩
 have hk3:Wd z3 67108864:=Wd.tdiv hx.wd hz3
 refine wcl Tryz.call98 ((wqexact ((hx.at hS).mono (by omega)) (((hS.sl 1 rfl).zr hk2).mono (by omega)) (gcd_ne h0 hz2.out) (gcd_mod1 hz2.out) hz3).mono ZBt.m) (ar2 (ev rfl rfl) (ev rfl rfl)) hS ?_
 clear hS; rintro _ _ w12 ⟨p3,n3,c3,rfl,rfl⟩ hS
 refine wmv rfl rfl ?_
 refine wl rfl (oEx rfl rfl (ev rfl rfl) rfl ?_)
 refine wl rfl (oEx rfl rfl (ev rfl rfl) rfl ?_)
 refine wl rfl (oAl [.bool false,.slice none 0 0] hS rfl rfl Tryz.zeroValue28 rfl ?_)
 clear hS; intro g13 w14 hS
 refine wl rfl (oSt _ _ Tryz.sizeOf28 hS 0 rfl rfl (ev rfl rfl) (ev rfl rfl) rfl rfl rfl rfl rfl rfl ?_)
 clear hS; intro w15 hS
 refine wav rfl rfl ?_
 refine wn2 (wl rfl (oLd aggZ hS 5 rfl rfl (ev rfl rfl) rfl rfl rfl ?_))
 refine wl rfl (oLd aggZ hS 2 rfl rfl (ev rfl rfl) rfl rfl rfl ?_)
 obtain ⟨z4,hz4⟩:∃ z:Int,Hid (Int.tdiv y z2 = z):=⟨_,rfl⟩
 have hk4:Wd z4 67108864:=Wd.tdiv hy.wd hz4
 refine wcl Tryz.call98 ((wqexact ((hy.at hS).mono (by omega)) (((hS.sl 3 rfl).zr hk2).mono (by omega)) (gcd_ne h0 hz2.out) (gcd_mod2 hz2.out) hz4).mono ZBt.m) (ar2 (ev rfl rfl) (ev rfl rfl)) hS ?_
 clear hS; rintro _ _ w16 ⟨p4,n4,c4,rfl,rfl⟩ hS
 refine wmv rfl rfl ?_
 refine wl rfl (oEx rfl rfl (ev rfl rfl) rfl ?_)
 refine wl rfl (oEx rfl rfl (ev rfl rfl) rfl ?_)
 refine wl rfl (oAl [.bool false,.slice none 0 0] hS rfl rfl Tryz.zeroValue28 rfl ?_)
 clear hS; intro g17 w18 hS
 refine wl rfl (oSt _ _ Tryz.sizeOf28 hS 0 rfl rfl (ev rfl rfl) (ev rfl rfl) rfl rfl rfl rfl rfl rfl ?_)
 clear hS; intro w19 hS
 refine wav rfl rfl ?_
 refine wn2 (wl rfl (oLd aggZ hS 2 rfl rfl (ev rfl rfl) rfl rfl rfl ?_))
 refine wl rfl (oLd aggZ hS 0 rfl rfl (ev rfl rfl) rfl rfl rfl ?_)
 refine wl rfl (obuild (ps:=#[(0,.agg #[.bool (ng z3),.slice p3 n3 c3]),(1,.agg #[.bool (ng z4),.slice p4 n4 c4])]) (v:=.agg #[.bool (ng z3),.slice p3 n3 c3,.bool (ng z4),.slice p4 n4 c4]) rfl rfl (parts2 (ev rfl rfl) (ev rfl rfl)) (fun w => by simp [go_sem,Instr.build,Instr.fill]) ?_)
 refine wl rfl (oSt _ _ Tryz.sizeOf43 hS 6 rfl rfl (ev rfl rfl) (ev rfl rfl) rfl rfl rfl rfl rfl rfl ?_)
 clear hS; intro w20 hS
 refine wn1 ?_
 refine wLv ?_
 refine wr1 Tryz.results54 (tellC (cs:=[.bool (ng z3),.slice p3 n3 c3,.bool (ng z4),.slice p4 n4 c4]) aggR hS 6 rfl rfl rfl rfl) ?_
 obtain rfl:z3 = z:=(RN_of (by omega) hz2.out hz3.out).symm.trans hz.out
 obtain rfl:z4 = t:=(RD_of (by omega) hz2.out hz4.out).symm.trans ht.out
 exact ⟨_,_,rfl,⟨_,_,_,_,_,_,rfl,rfl⟩,hS.newM [3,1] (by decide) rfl rfl⟩
theorem wsnorm {z t:Int} {b b2:Bool} {p q:Option Addr} {n m c d:Nat} {x y:Int} {w:World} (hx:Zr w b p n c x 67108864) (hy:Zr w b2 q m d y 67108864) (h0:y ≠ 0) (hz:Hid (RN x y = z)) (ht:Hid (RD x y = t)) :
  Calls Tryz.prog 129 #[.agg #[.bool b,.slice p n c,.bool b2,.slice q m d]] w (Ret (Rrt z t) w):=by
 have hS:=Sep.init w
 refine went Tryz.func129 rfl (n:=8) rfl rfl ?_
 refine wsr (wl rfl (obox [.bool b,.slice p n c,.bool b2,.slice q m d] hS rfl rfl (ev rfl rfl) rfl ?_))
 clear hS; intro g1 w2 hS
 refine wl rfl (oAl [.bool false,.slice none 0 0,.bool false,.slice none 0 0] hS rfl rfl Tryz.zeroValue43 rfl ?_)
 clear hS; intro g3 w4 hS
 refine wn2 (wl rfl (oFA (g:=g1) (off:=0) 0 rfl rfl (ev rfl rfl) Tryz.runUnderlying43 rfl Tryz.sizeOf28 rfl ?_))
 refine wl rfl (oLd aggZ hS 1 rfl rfl (ev rfl rfl) rfl rfl rfl ?_)
 refine wl rfl (oFA (g:=g1) (off:=0) 2 rfl rfl (ev rfl rfl) Tryz.runUnderlying43 rfl Tryz.sizeOf28 rfl ?_)
 refine wl rfl (oLd aggZ hS 1 rfl rfl (ev rfl rfl) rfl rfl rfl ?_)
 obtain ⟨z1,hz1⟩:∃ z:Int,Hid (RN x y = z):=⟨_,rfl⟩
 have hk1:Wd z1 67108864:=Wd.rn hx.wd hz1
 obtain ⟨z2,hz2⟩:∃ z:Int,Hid (RD x y = z):=⟨_,rfl⟩
 have hk2:Wd z2 67108864:=Wd.rd hy.wd hz2
 refine wcl Tryz.call54 (wsmake (hx.at hS) (hy.at hS) h0 hz1 hz2) (ar2 (ev rfl rfl) (ev rfl rfl)) hS ?_
 clear hS; rintro _ _ w5 ⟨p1,n1,c1,p2,n2,c2,rfl,rfl⟩ hS
 refine wl rfl (oSt _ _ Tryz.sizeOf43 hS 2 rfl rfl (ev rfl rfl) (ev rfl rfl) rfl rfl rfl rfl rfl rfl ?_)
 clear hS; intro w6 hS
 refine wn1 ?_
 refine wLv ?_
 refine wr1 Tryz.results129 (tellC (cs:=[.bool (ng z1),.slice p1 n1 c1,.bool (ng z2),.slice p2 n2 c2]) aggR hS 2 rfl rfl rfl rfl) ?_
 obtain rfl:z1 = z:=hz1.out.symm.trans hz.out
 obtain rfl:z2 = t:=hz2.out.symm.trans ht.out
 exact ⟨_,_,rfl,⟨_,_,_,_,_,_,rfl,rfl⟩,hS.newM [0,1] (by decide) rfl rfl⟩
open Go.RowKit
section
variable {P:Program} {o:Oper} {n:Nat} {f:Nat → Value} {w w0:World} {R:List Res} {K:Act → World → Prop} {Q:Exit → Act → World → Prop} {d:Nat}
end
def Rs (w:World) (p:Option Addr) (m:Nat) (L:List (Int × Int)) (K:Nat):Prop :=
  m = L.length ∧ m ≤ 1048576 ∧ ∀ i e,L[i]? = some e → ∃ g off b q n k b2 q2 n2 k2,p = some ⟨g,off,none⟩ ∧ (∀ j v,[Value.bool b,.slice q n k,.bool b2,.slice q2 n2 k2][j]? = some v → w.cell? ⟨g,off + i * 4 + j,none⟩ = some v) ∧ Zr w b q n k e.1 K ∧ Zr w b2 q2 n2 k2 e.2 K
theorem Rs.on {w w':World} {p:Option Addr} {m K B:Nat} {L:List (Int × Int)} (h:Rs w p m L K) (hb:Below B w w') (hB:w.heap.size ≤ B):Rs w' p m L K:=by
  refine ⟨h.1,h.2.1,fun i z hi => ?_⟩
  obtain ⟨g,off,b,q,n,k,b2,q2,n2,k2,hp,h1,h2,h3⟩:=h.2.2 i z hi
  have hg:g < w.heap.size:=World.block_lt_of_cell? w _ (h1 0 _ rfl)
  have he:=hb.block g (by omega)
  exact ⟨g,off,b,q,n,k,b2,q2,n2,k2,hp,fun j v hj => (World.cell?_of_block (w:=w) he).trans (h1 j v hj),h2.on hb hB,h3.on hb hB⟩
theorem Rs.at {w w':World} {R:List Res} {p:Option Addr} {m K:Nat} {L:List (Int × Int)} (h:Rs w p m L K) (hS:Sep w R w'):Rs w' p m L K:=h.on hS.below (Nat.le_refl _)
theorem Rs.el {w:World} {p:Option Addr} {m K:Nat} {L:List (Int × Int)} (h:Rs w p m L K) {i:Nat} (hi:i < m):∃ e g off b q n k b2 q2 n2 k2,L[i]? = some e ∧ p = some ⟨g,off,none⟩ ∧ (∀ j v,[Value.bool b,.slice q n k,.bool b2,.slice q2 n2 k2][j]? = some v → w.cell? ⟨g,off + i * 4 + j,none⟩ = some v) ∧ Zr w b q n k e.1 K ∧ Zr w b2 q2 n2 k2 e.2 K:=by
  have hi':i < L.length:=by rw [← h.1]; exact hi
  obtain ⟨g,off,b,q,n,k,b2,q2,n2,k2,r⟩:=h.2.2 i L[i] (List.getElem?_eq_getElem hi')
  exact ⟨_,g,off,b,q,n,k,b2,q2,n2,k2,List.getElem?_eq_getElem hi',r⟩
theorem Rs.one {w:World} {g K:Nat} {t:TypeId} {b b2:Bool} {p q:Option Addr} {n m c d:Nat} {x y:Int} (hg:w.heap[g]? = some (.cells [.bool b,.slice p n c,.bool b2,.slice q m d].toArray t)) (hx:Zr w b p n c x K) (hy:Zr w b2 q m d y K):Rs w (some ⟨g,0,none⟩) 1 [(x,y)] K:=by
  refine ⟨rfl,by omega,fun i z hi => ?_⟩
  match i,hi with
  | 0,hi => simp at hi; subst hi; exact ⟨g,0,_,_,_,_,_,_,_,_,rfl,fun j v hj => by simpa using (blk_cell hg j).trans hj,hx,hy⟩
def elR (x:Int) (p:Option Addr) (n c:Nat) (y:Int) (q:Option Addr) (m d:Nat):El:=⟨[.bool (ng x),.slice p n c,.bool (ng y),.slice q m d],[.rowm p n c (lim x.natAbs),.rowm q m d (lim y.natAbs)]⟩
def REls (L:List (Int × Int)) (i:Nat) (es:List El):Prop:=es.length = i ∧ ∀ j e,j < i → L[j]? = some e → e.2 ≠ 0 ∧ ∃ p n c q m d,es[j]? = some (elR (RN e.1 e.2) p n c (RD e.1 e.2) q m d)
def lows (L:List (Int × Int)):List (Int × Int):=L.map fun e => (RN e.1 e.2,RD e.1 e.2)
theorem Sep.rs {w0 w:World} {R:List Res} (hS:Sep w0 R w) (k:Nat) {p:Option Addr} {c m K:Nat} {es:List El} {L:List (Int × Int)} (hk:R[k]? = some (.lst 43 4 p m c es)) (hz:REls L m es) (hL:m = L.length) (hm:m ≤ 1048576) (hK:∀ e ∈ L,Wd e.1 K ∧ Wd e.2 K):Rs w p m (lows L) K:=by
  refine ⟨by rw [lows,List.length_map]; exact hL,hm,fun i e' hi => ?_⟩
  rw [lows,List.getElem?_map] at hi
  rcases hLi:L[i]? with _ | e
  · rw [hLi] at hi; cases hi
  rw [hLi] at hi
  simp only [Option.map_some,Option.some.injEq] at hi
  subst hi
  have hil:=(List.getElem?_eq_some_iff.1 hLi).1
  obtain ⟨h0,p1,n1,c1,q,m1,d,he⟩:=hz.2 i e (by omega) hLi
  obtain ⟨g,hg,hc,hr⟩:=hS.lstCell k hk he (by omega)
  have hf:Fr 0 w p1 n1 c1 (lim (RN e.1 e.2).natAbs):=hr (.rowm p1 n1 c1 (lim (RN e.1 e.2).natAbs)) List.mem_cons_self
  have hf2:Fr 0 w q m1 d (lim (RD e.1 e.2).natAbs):=hr (.rowm q m1 d (lim (RD e.1 e.2).natAbs)) (List.mem_cons_of_mem _ List.mem_cons_self)
  obtain ⟨hk1,hk2⟩:=hK e (List.mem_of_getElem? hLi)
  exact ⟨g,0,_,_,_,_,_,_,_,_,hg,hc,hf.sl.zr (hk1.rn rfl),hf2.sl.zr (hk2.rd rfl)⟩
end Go.Proofs.YtnlnibngpeempaaGreatDoor
