/-
  Contracts and lemmas, joined in one text.
-/
import Derived.Test.YtnlnibngpeempaaGreatDoorRO
set_option linter.unusedVariables false
set_option linter.unusedSimpArgs false
/-
  rat's functions and the document's,as contracts.
-/
set_option maxRecDepth 100000
set_option maxHeartbeats 16000000
namespace Go.Proofs.YtnlnibngpeempaaGreatDoor
open Go.RowKit
theorem cmpZ_sign (a b:Int):cmpZ a b = (a - b).sign:=by
  unfold cmpZ
  rcases Int.lt_trichotomy a b with h | h | h
  · rw [if_pos h,Int.sign_eq_neg_one_of_neg (by omega)]
  · rw [if_neg (by omega),if_pos h,h,Int.sub_self]; rfl
  rw [if_neg (by omega),if_neg (by omega),Int.sign_eq_one_of_pos (by omega)]
theorem sub_low {x y u v:Int} (hy:y ≠ 0) (hv:v ≠ 0):RN (x * RD (-u) v + RN (-u) v * y) (y * RD (-u) v) = RN (x * v - u * y) (y * v) ∧ RD (x * RD (-u) v + RN (-u) v * y) (y * RD (-u) v) = RD (x * v - u * y) (y * v):=by
  have h1:=R_cross (-u) v
  have p1:=RD_pos (x := -u) hv
  refine R_same (ne_mul hy (by omega)) (ne_mul hy hv) ?_
  generalize RN (-u) v = a at *; generalize RD (-u) v = b at *
  clear p1 hy hv
  grind
theorem quo_low {x y u v:Int} (hy:y ≠ 0) (hv:v ≠ 0) (hu:u ≠ 0):RN (x * RN v u) (y * RD v u) = RN (x * v) (y * u) ∧ RD (x * RN v u) (y * RD v u) = RD (x * v) (y * u):=by
  have h1:=R_cross v u
  have p1:=RD_pos (x:=v) hu
  refine R_same (ne_mul hy (by omega)) (ne_mul hy hu) ?_
  generalize RN v u = a at *; generalize RD v u = b at *
  clear p1 hy hv hu
  grind
theorem sgn_wrap {x y s:Int} (h:Hid (x.sign * y.sign = s)) {a b:Int} (ha:Hid (x.sign = a)) (hb:Hid (y.sign = b)):IntKind.i64.wrap (a * b) = s:=by
 rw [← ha.out, ← hb.out,h.out]
 have h1:x.sign * y.sign = (x * y).sign:=(Int.sign_mul x y).symm
 have h2:(x * y).sign = 1 ∨ (x * y).sign = 0 ∨ (x * y).sign = -1:=by
  rcases Int.lt_trichotomy (x * y) 0 with h | h | h
  ·exact .inr (.inr (Int.sign_eq_neg_one_of_neg h))
  ·rw [h]; exact .inr (.inl rfl)
  exact .inl (Int.sign_eq_one_of_pos h)
 have h3:=h.out
 rw [h1] at h3
 exact wI6 (by omega) (by omega)
theorem wsof {x:Int} {w:World} (h1 : -9223372036854775808 ≤ x) (h2:x ≤ 9223372036854775807) :
  Calls Tryz.prog 48 #[.int .i64 x] w (Ret (Rrt x 1) w):=by
 have hS:=Sep.init w
 refine went Tryz.func48 rfl (n:=7) rfl rfl ?_
 refine wsr (wl rfl (oAl [.bool false,.slice none 0 0,.bool false,.slice none 0 0] hS rfl rfl Tryz.zeroValue43 rfl ?_))
 clear hS; intro g1 w2 hS
 refine wn2 (wmv rfl rfl ?_)
 have hk1:Wd x 2:=Wd.i64 h1 (h2)
 refine wcl Tryz.call7 ((wqof (z:=x) h1 h2).mono Zt.m) (ar1 (ev rfl rfl)) hS ?_
 clear hS; rintro _ _ w3 ⟨p1,n1,c1,rfl,rfl⟩ hS
 have hk2:Wd 1 2:=Wd.i64 (by omega) (by omega)
 refine wcl Tryz.call7 ((wqof (z:=1) (by omega) (by omega)).mono Zt.m) (ar1 evc) hS ?_
 clear hS; rintro _ _ w4 ⟨p2,n2,c2,rfl,rfl⟩ hS
 refine wl rfl (obuild (ps:=#[(0,.agg #[.bool (ng x),.slice p1 n1 c1]),(1,.agg #[.bool (ng 1),.slice p2 n2 c2])]) (v:=.agg #[.bool (ng x),.slice p1 n1 c1,.bool (ng 1),.slice p2 n2 c2]) rfl rfl (parts2 (ev rfl rfl) (ev rfl rfl)) (fun w => by simp [go_sem,Instr.build,Instr.fill]) ?_)
 refine wl rfl (oSt _ _ Tryz.sizeOf43 hS 2 rfl rfl (ev rfl rfl) (ev rfl rfl) rfl rfl rfl rfl rfl rfl ?_)
 clear hS; intro w5 hS
 refine wn1 ?_
 refine wLv ?_
 refine wr1 Tryz.results48 (tellC (cs:=[.bool (ng x),.slice p1 n1 c1,.bool (ng 1),.slice p2 n2 c2]) aggR hS 2 rfl rfl rfl rfl) ?_
 exact ⟨_,_,rfl,⟨_,_,_,_,_,_,rfl,rfl⟩,hS.newM [1,0] (by decide) rfl rfl⟩
theorem wsadd {x y u v z t:Int} {bA bB bC bD:Bool} {qA qB qC qD:Option Addr} {nA kA nB kB nC kC nD kD:Nat} {w:World} (hzA:Zr w bA qA nA kA x 16777216) (hzB:Zr w bB qB nB kB y 16777216) (hzC:Zr w bC qC nC kC u 16777216) (hzD:Zr w bD qD nD kD v 16777216) (hy:y ≠ 0) (hv:v ≠ 0) (hz:Hid (RN (x * v + u * y) (y * v) = z)) (ht:Hid (RD (x * v + u * y) (y * v) = t)) :
  Calls Tryz.prog 64 #[.agg #[.bool bA,.slice qA nA kA,.bool bB,.slice qB nB kB],.agg #[.bool bC,.slice qC nC kC,.bool bD,.slice qD nD kD]] w (Ret (Rrt z t) w):=by
 have hS:=Sep.init w
 refine went Tryz.func64 rfl (n:=22) rfl rfl ?_
 refine wsr (wl rfl (obox [.bool bA,.slice qA nA kA,.bool bB,.slice qB nB kB] hS rfl rfl (ev rfl rfl) rfl ?_))
 clear hS; intro g1 w2 hS
 refine wl rfl (obox [.bool bC,.slice qC nC kC,.bool bD,.slice qD nD kD] hS rfl rfl (ev rfl rfl) rfl ?_)
 clear hS; intro g3 w4 hS
 refine wl rfl (oAl [.bool false,.slice none 0 0,.bool false,.slice none 0 0] hS rfl rfl Tryz.zeroValue43 rfl ?_)
 clear hS; intro g5 w6 hS
 refine wn1 (wSq ?_)
 obtain ⟨z1,hz1⟩:∃ z:Int,Hid (x * v = z):=⟨_,rfl⟩
 have hk1:Wd z1 33554432:=Wd.mul hzA.wd hzD.wd hz1 (by omega)
 obtain ⟨z2,hz2⟩:∃ z:Int,Hid (u * y = z):=⟨_,rfl⟩
 have hk2:Wd z2 33554432:=Wd.mul hzC.wd hzB.wd hz2 (by omega)
 obtain ⟨z3,hz3⟩:∃ z:Int,Hid (z1 + z2 = z):=⟨_,rfl⟩
 have hk3:Wd z3 33554433:=Wd.add hk1 hk2 hz3 (by omega)
 obtain ⟨z4,hz4⟩:∃ z:Int,Hid (y * v = z):=⟨_,rfl⟩
 have hk4:Wd z4 33554432:=Wd.mul hzB.wd hzD.wd hz4 (by omega)
 obtain ⟨z5,hz5⟩:∃ z:Int,Hid (RN z3 z4 = z):=⟨_,rfl⟩
 have hk5:Wd z5 33554433:=Wd.rn hk3 hz5
 obtain ⟨z6,hz6⟩:∃ z:Int,Hid (RD z3 z4 = z):=⟨_,rfl⟩
 have hk6:Wd z6 33554432:=Wd.rd hk4 hz6
 refine wSg 17 [5,6,7,8,9,10,11,12,13,14,15,16,17,18,19,20,21] [[],[0],[],[2],[1,3,0,2],[],[5],[],[7],[6,8,0,1,2,3,4,5,7],[4,9,0,1,2,3,5,6,7,8],[],[11],[],[13],[12,14,0,1,2,3,4,5,6,7,8,9,10,11,13],[10,15,0,1,2,3,4,5,6,7,8,9,11,12,13,14]] [] [] [] (fun i9 => ([iSv (.pointer (some ⟨g1,0,none⟩)),iSv (.agg #[.bool bA,.slice qA nA kA]),iSv (.pointer (some ⟨g3,2,none⟩)),iSv (.agg #[.bool bD,.slice qD nD kD]),fun _ => Zt z1,iSv (.pointer (some ⟨g3,0,none⟩)),iSv (.agg #[.bool bC,.slice qC nC kC]),iSv (.pointer (some ⟨g1,2,none⟩)),iSv (.agg #[.bool bB,.slice qB nB kB]),fun _ => Zt z2,fun _ => Zt z3,iSv (.pointer (some ⟨g1,2,none⟩)),iSv (.agg #[.bool bB,.slice qB nB kB]),iSv (.pointer (some ⟨g3,2,none⟩)),iSv (.agg #[.bool bD,.slice qD nD kD]),fun _ => Zt z4,fun _ => Rrt z5 z6]:List (List Value → Tell)).getD i9 (fun _ _ _ => False)) hNi (fun d _ _ _ _ h => (by cases d <;> exact h)) (by kernel_rfl) (by kernel_rfl) (by kernel_rfl) hS ?_ ?_
 ·
  refine stH rfl (fun ho _=>?_) ?_
  ·exact inNo rfl (oFA (g:=g1) (off:=0) 0 rfl rfl (ev rfl (ho 2 rfl)) Tryz.runUnderlying43 rfl Tryz.sizeOf28 rfl (nSm rfl isI))
  refine stT rfl (fun hT hS=>?_) ?_
  ·obtain ⟨hv0,hr0⟩:=hT 0 5 rfl rfl
   obtain hS:=hS.flat1 hr0
   exact inNo rfl (oLd aggZ hS 2 rfl rfl (ev rfl hv0) rfl rfl rfl (nSm rfl isI))
  refine stH rfl (fun ho _=>?_) ?_
  ·exact inNo rfl (oFA (g:=g3) (off:=0) 2 rfl rfl (ev rfl (ho 3 rfl)) Tryz.runUnderlying43 rfl Tryz.sizeOf28 rfl (nSm rfl isI))
  refine stT rfl (fun hT hS=>?_) ?_
  ·obtain ⟨hv2,hr2⟩:=hT 2 7 rfl rfl
   obtain hS:=hS.flat1 hr2
   exact inNo rfl (oLd aggZ hS 1 rfl rfl (ev rfl hv2) rfl rfl rfl (nSm rfl isI))
  refine stT rfl (fun hT hS=>?_) ?_
  ·obtain ⟨hv1,hr1⟩:=hT 1 6 rfl rfl
   obtain ⟨hv3,hr3⟩:=hT 3 8 rfl rfl
   obtain hS:=hS.flat2 hr1 hr3
   exact .inl ⟨wNo rfl,oCl rfl rfl Tryz.call95 rfl (wqmul ((hzA.at hS).mono (by omega)) ((hzD.at hS).mono (by omega)) hz1) (ar2 (ev rfl hv1) (ev rfl hv3)) cNw⟩
  refine stH rfl (fun ho _=>?_) ?_
  ·exact inNo rfl (oFA (g:=g3) (off:=0) 0 rfl rfl (ev rfl (ho 3 rfl)) Tryz.runUnderlying43 rfl Tryz.sizeOf28 rfl (nSm rfl isI))
  refine stT rfl (fun hT hS=>?_) ?_
  ·obtain ⟨hv5,hr5⟩:=hT 5 10 rfl rfl
   obtain hS:=hS.flat1 hr5
   exact inNo rfl (oLd aggZ hS 1 rfl rfl (ev rfl hv5) rfl rfl rfl (nSm rfl isI))
  refine stH rfl (fun ho _=>?_) ?_
  ·exact inNo rfl (oFA (g:=g1) (off:=0) 2 rfl rfl (ev rfl (ho 2 rfl)) Tryz.runUnderlying43 rfl Tryz.sizeOf28 rfl (nSm rfl isI))
  refine stT rfl (fun hT hS=>?_) ?_
  ·obtain ⟨hv7,hr7⟩:=hT 7 12 rfl rfl
   obtain hS:=hS.flat1 hr7
   exact inNo rfl (oLd aggZ hS 2 rfl rfl (ev rfl hv7) rfl rfl rfl (nSm rfl isI))
  refine stT rfl (fun hT hS=>?_) ?_
  ·obtain ⟨hv6,hr6⟩:=hT 6 11 rfl rfl
   obtain ⟨hv8,hr8⟩:=hT 8 13 rfl rfl
   obtain hS:=hS.flat2 hr6 hr8
   exact .inl ⟨wNo rfl,oCl rfl rfl Tryz.call95 rfl (wqmul ((hzC.at hS).mono (by omega)) ((hzB.at hS).mono (by omega)) hz2) (ar2 (ev rfl hv6) (ev rfl hv8)) cNw⟩
  refine stT rfl (fun hT hS=>?_) ?_
  ·obtain ⟨p1,n1,c1,hv4,hr4⟩:=(hT 4 9 rfl rfl:(Zt z1) _ _)
   obtain ⟨p2,n2,c2,hv9,hr9⟩:=(hT 9 14 rfl rfl:(Zt z2) _ _)
   obtain hS:=hS.flat2 hr4 hr9
   exact .inl ⟨wNo rfl,oCl rfl rfl Tryz.call92 rfl (wqadd (((hS.sl 3 rfl).zr hk1).mono (by omega)) (((hS.sl 4 rfl).zr hk2).mono (by omega)) hz3) (ar2 (ev rfl hv4) (ev rfl hv9)) cNw⟩
  refine stH rfl (fun ho _=>?_) ?_
  ·exact inNo rfl (oFA (g:=g1) (off:=0) 2 rfl rfl (ev rfl (ho 2 rfl)) Tryz.runUnderlying43 rfl Tryz.sizeOf28 rfl (nSm rfl isI))
  refine stT rfl (fun hT hS=>?_) ?_
  ·obtain ⟨hv11,hr11⟩:=hT 11 16 rfl rfl
   obtain hS:=hS.flat1 hr11
   exact inNo rfl (oLd aggZ hS 2 rfl rfl (ev rfl hv11) rfl rfl rfl (nSm rfl isI))
  refine stH rfl (fun ho _=>?_) ?_
  ·exact inNo rfl (oFA (g:=g3) (off:=0) 2 rfl rfl (ev rfl (ho 3 rfl)) Tryz.runUnderlying43 rfl Tryz.sizeOf28 rfl (nSm rfl isI))
  refine stT rfl (fun hT hS=>?_) ?_
  ·obtain ⟨hv13,hr13⟩:=hT 13 18 rfl rfl
   obtain hS:=hS.flat1 hr13
   exact inNo rfl (oLd aggZ hS 1 rfl rfl (ev rfl hv13) rfl rfl rfl (nSm rfl isI))
  refine stT rfl (fun hT hS=>?_) ?_
  ·obtain ⟨hv12,hr12⟩:=hT 12 17 rfl rfl
   obtain ⟨hv14,hr14⟩:=hT 14 19 rfl rfl
   obtain hS:=hS.flat2 hr12 hr14
   exact .inl ⟨wNo rfl,oCl rfl rfl Tryz.call95 rfl (wqmul ((hzB.at hS).mono (by omega)) ((hzD.at hS).mono (by omega)) hz4) (ar2 (ev rfl hv12) (ev rfl hv14)) cNw⟩
  refine stT rfl (fun hT hS=>?_) ?_
  ·obtain ⟨p3,n3,c3,hv10,hr10⟩:=(hT 10 15 rfl rfl:(Zt z3) _ _)
   obtain ⟨p4,n4,c4,hv15,hr15⟩:=(hT 15 20 rfl rfl:(Zt z4) _ _)
   obtain hS:=hS.flat2 hr10 hr15
   exact .inl ⟨wNo rfl,oCl rfl rfl Tryz.call54 rfl (wsmake (((hS.sl 3 rfl).zr hk3).mono (by omega)) (((hS.sl 4 rfl).zr hk4).mono (by omega)) (by rw [← hz4.out]; exact ne_mul hy hv) hz5 hz6) (ar2 (ev rfl hv10) (ev rfl hv15)) cNw⟩
  exact sNi
 intro vs ρ w7 f' hf hT hS
 obtain ⟨hv0,hr0⟩:=hT 0 (by decide)
 obtain ⟨hv1,hr1⟩:=hT 1 (by decide)
 obtain ⟨hv2,hr2⟩:=hT 2 (by decide)
 obtain ⟨hv3,hr3⟩:=hT 3 (by decide)
 obtain ⟨p1,n1,c1,hv4,hr4⟩:=(hT 4 (by decide):(Zt z1) _ _)
 obtain ⟨hv5,hr5⟩:=hT 5 (by decide)
 obtain ⟨hv6,hr6⟩:=hT 6 (by decide)
 obtain ⟨hv7,hr7⟩:=hT 7 (by decide)
 obtain ⟨hv8,hr8⟩:=hT 8 (by decide)
 obtain ⟨p2,n2,c2,hv9,hr9⟩:=(hT 9 (by decide):(Zt z2) _ _)
 obtain ⟨p3,n3,c3,hv10,hr10⟩:=(hT 10 (by decide):(Zt z3) _ _)
 obtain ⟨hv11,hr11⟩:=hT 11 (by decide)
 obtain ⟨hv12,hr12⟩:=hT 12 (by decide)
 obtain ⟨hv13,hr13⟩:=hT 13 (by decide)
 obtain ⟨hv14,hr14⟩:=hT 14 (by decide)
 obtain ⟨p4,n4,c4,hv15,hr15⟩:=(hT 15 (by decide):(Zt z4) _ _)
 obtain ⟨p5,n5,c5,p6,n6,c6,hv16,hr16⟩:=(hT 16 (by decide):(Rrt z5 z6) _ _)
 simp only [pool,if_true,hr0,hr1,hr2,hr3,hr4,hr5,hr6,hr7,hr8,hr9,hr10,hr11,hr12,hr13,hr14,hr15,hr16,List.nil_append,List.cons_append,List.append_nil] at hS
 simp only [layf,hv0,hv1,hv2,hv3,hv4,hv5,hv6,hv7,hv8,hv9,hv10,hv11,hv12,hv13,hv14,hv15,hv16] at hf
 subst hf; clear hT hv0 hv1 hv2 hv3 hv4 hv5 hv6 hv7 hv8 hv9 hv10 hv11 hv12 hv13 hv14 hv15 hv16 hr0 hr1 hr2 hr3 hr4 hr5 hr6 hr7 hr8 hr9 hr10 hr11 hr12 hr13 hr14 hr15 hr16
 refine wLt 17 rfl (by kernel_rfl) (oSt _ _ Tryz.sizeOf43 hS 6 rfl rfl (ev rfl rfl) (ev rfl rfl) rfl rfl rfl rfl rfl rfl ?_)
 clear hS; intro w8 hS
 refine ⟨hNi,?_⟩
 refine wdone rfl ?_
 refine tNo ?_
 refine wLv ?_
 refine wr1 Tryz.results64 (tellC (cs:=[.bool (ng z5),.slice p5 n5 c5,.bool (ng z6),.slice p6 n6 c6]) aggR hS 6 rfl rfl rfl rfl) ?_
 obtain rfl:z5 = z:=(by rw [← hz5.out, ← hz3.out, ← hz1.out, ← hz2.out, ← hz4.out]; exact hz.out)
 obtain rfl:z6 = t:=(by rw [← hz6.out, ← hz3.out, ← hz1.out, ← hz2.out, ← hz4.out]; exact ht.out)
 exact ⟨_,_,rfl,⟨_,_,_,_,_,_,rfl,rfl⟩,hS.newM [0,1] (by decide) rfl rfl⟩
theorem wsmul {x y u v z t:Int} {bA bB bC bD:Bool} {qA qB qC qD:Option Addr} {nA kA nB kB nC kC nD kD:Nat} {w:World} (hzA:Zr w bA qA nA kA x 16777216) (hzB:Zr w bB qB nB kB y 16777216) (hzC:Zr w bC qC nC kC u 16777216) (hzD:Zr w bD qD nD kD v 16777216) (hy:y ≠ 0) (hv:v ≠ 0) (hz:Hid (RN (x * u) (y * v) = z)) (ht:Hid (RD (x * u) (y * v) = t)) :
  Calls Tryz.prog 51 #[.agg #[.bool bA,.slice qA nA kA,.bool bB,.slice qB nB kB],.agg #[.bool bC,.slice qC nC kC,.bool bD,.slice qD nD kD]] w (Ret (Rrt z t) w):=by
 have hS:=Sep.init w
 refine went Tryz.func51 rfl (n:=16) rfl rfl ?_
 refine wsr (wl rfl (obox [.bool bA,.slice qA nA kA,.bool bB,.slice qB nB kB] hS rfl rfl (ev rfl rfl) rfl ?_))
 clear hS; intro g1 w2 hS
 refine wl rfl (obox [.bool bC,.slice qC nC kC,.bool bD,.slice qD nD kD] hS rfl rfl (ev rfl rfl) rfl ?_)
 clear hS; intro g3 w4 hS
 refine wl rfl (oAl [.bool false,.slice none 0 0,.bool false,.slice none 0 0] hS rfl rfl Tryz.zeroValue43 rfl ?_)
 clear hS; intro g5 w6 hS
 refine wn1 (wSq ?_)
 obtain ⟨z1,hz1⟩:∃ z:Int,Hid (x * u = z):=⟨_,rfl⟩
 have hk1:Wd z1 33554432:=Wd.mul hzA.wd hzC.wd hz1 (by omega)
 obtain ⟨z2,hz2⟩:∃ z:Int,Hid (y * v = z):=⟨_,rfl⟩
 have hk2:Wd z2 33554432:=Wd.mul hzB.wd hzD.wd hz2 (by omega)
 obtain ⟨z3,hz3⟩:∃ z:Int,Hid (RN z1 z2 = z):=⟨_,rfl⟩
 have hk3:Wd z3 33554432:=Wd.rn hk1 hz3
 obtain ⟨z4,hz4⟩:∃ z:Int,Hid (RD z1 z2 = z):=⟨_,rfl⟩
 have hk4:Wd z4 33554432:=Wd.rd hk2 hz4
 refine wSg 11 [5,6,7,8,9,10,11,12,13,14,15] [[],[0],[],[2],[1,3,0,2],[],[5],[],[7],[6,8,0,1,2,3,4,5,7],[4,9,0,1,2,3,5,6,7,8]] [] [] [] (fun i9 => ([iSv (.pointer (some ⟨g1,0,none⟩)),iSv (.agg #[.bool bA,.slice qA nA kA]),iSv (.pointer (some ⟨g3,0,none⟩)),iSv (.agg #[.bool bC,.slice qC nC kC]),fun _ => Zt z1,iSv (.pointer (some ⟨g1,2,none⟩)),iSv (.agg #[.bool bB,.slice qB nB kB]),iSv (.pointer (some ⟨g3,2,none⟩)),iSv (.agg #[.bool bD,.slice qD nD kD]),fun _ => Zt z2,fun _ => Rrt z3 z4]:List (List Value → Tell)).getD i9 (fun _ _ _ => False)) hNi (fun d _ _ _ _ h => (by cases d <;> exact h)) (by kernel_rfl) (by kernel_rfl) (by kernel_rfl) hS ?_ ?_
 ·
  refine stH rfl (fun ho _=>?_) ?_
  ·exact inNo rfl (oFA (g:=g1) (off:=0) 0 rfl rfl (ev rfl (ho 2 rfl)) Tryz.runUnderlying43 rfl Tryz.sizeOf28 rfl (nSm rfl isI))
  refine stT rfl (fun hT hS=>?_) ?_
  ·obtain ⟨hv0,hr0⟩:=hT 0 5 rfl rfl
   obtain hS:=hS.flat1 hr0
   exact inNo rfl (oLd aggZ hS 2 rfl rfl (ev rfl hv0) rfl rfl rfl (nSm rfl isI))
  refine stH rfl (fun ho _=>?_) ?_
  ·exact inNo rfl (oFA (g:=g3) (off:=0) 0 rfl rfl (ev rfl (ho 3 rfl)) Tryz.runUnderlying43 rfl Tryz.sizeOf28 rfl (nSm rfl isI))
  refine stT rfl (fun hT hS=>?_) ?_
  ·obtain ⟨hv2,hr2⟩:=hT 2 7 rfl rfl
   obtain hS:=hS.flat1 hr2
   exact inNo rfl (oLd aggZ hS 1 rfl rfl (ev rfl hv2) rfl rfl rfl (nSm rfl isI))
  refine stT rfl (fun hT hS=>?_) ?_
  ·obtain ⟨hv1,hr1⟩:=hT 1 6 rfl rfl
   obtain ⟨hv3,hr3⟩:=hT 3 8 rfl rfl
   obtain hS:=hS.flat2 hr1 hr3
   exact .inl ⟨wNo rfl,oCl rfl rfl Tryz.call95 rfl (wqmul ((hzA.at hS).mono (by omega)) ((hzC.at hS).mono (by omega)) hz1) (ar2 (ev rfl hv1) (ev rfl hv3)) cNw⟩
  refine stH rfl (fun ho _=>?_) ?_
  ·exact inNo rfl (oFA (g:=g1) (off:=0) 2 rfl rfl (ev rfl (ho 2 rfl)) Tryz.runUnderlying43 rfl Tryz.sizeOf28 rfl (nSm rfl isI))
  refine stT rfl (fun hT hS=>?_) ?_
  ·obtain ⟨hv5,hr5⟩:=hT 5 10 rfl rfl
   obtain hS:=hS.flat1 hr5
   exact inNo rfl (oLd aggZ hS 2 rfl rfl (ev rfl hv5) rfl rfl rfl (nSm rfl isI))
  refine stH rfl (fun ho _=>?_) ?_
  ·exact inNo rfl (oFA (g:=g3) (off:=0) 2 rfl rfl (ev rfl (ho 3 rfl)) Tryz.runUnderlying43 rfl Tryz.sizeOf28 rfl (nSm rfl isI))
  refine stT rfl (fun hT hS=>?_) ?_
  ·obtain ⟨hv7,hr7⟩:=hT 7 12 rfl rfl
   obtain hS:=hS.flat1 hr7
   exact inNo rfl (oLd aggZ hS 1 rfl rfl (ev rfl hv7) rfl rfl rfl (nSm rfl isI))
  refine stT rfl (fun hT hS=>?_) ?_
  ·obtain ⟨hv6,hr6⟩:=hT 6 11 rfl rfl
   obtain ⟨hv8,hr8⟩:=hT 8 13 rfl rfl
   obtain hS:=hS.flat2 hr6 hr8
   exact .inl ⟨wNo rfl,oCl rfl rfl Tryz.call95 rfl (wqmul ((hzB.at hS).mono (by omega)) ((hzD.at hS).mono (by omega)) hz2) (ar2 (ev rfl hv6) (ev rfl hv8)) cNw⟩
  refine stT rfl (fun hT hS=>?_) ?_
  ·obtain ⟨p1,n1,c1,hv4,hr4⟩:=(hT 4 9 rfl rfl:(Zt z1) _ _)
   obtain ⟨p2,n2,c2,hv9,hr9⟩:=(hT 9 14 rfl rfl:(Zt z2) _ _)
   obtain hS:=hS.flat2 hr4 hr9
   exact .inl ⟨wNo rfl,oCl rfl rfl Tryz.call54 rfl (wsmake (((hS.sl 3 rfl).zr hk1).mono (by omega)) (((hS.sl 4 rfl).zr hk2).mono (by omega)) (by rw [← hz2.out]; exact ne_mul hy hv) hz3 hz4) (ar2 (ev rfl hv4) (ev rfl hv9)) cNw⟩
  exact sNi
 intro vs ρ w7 f' hf hT hS
 obtain ⟨hv0,hr0⟩:=hT 0 (by decide)
 obtain ⟨hv1,hr1⟩:=hT 1 (by decide)
 obtain ⟨hv2,hr2⟩:=hT 2 (by decide)
 obtain ⟨hv3,hr3⟩:=hT 3 (by decide)
 obtain ⟨p1,n1,c1,hv4,hr4⟩:=(hT 4 (by decide):(Zt z1) _ _)
 obtain ⟨hv5,hr5⟩:=hT 5 (by decide)
 obtain ⟨hv6,hr6⟩:=hT 6 (by decide)
 obtain ⟨hv7,hr7⟩:=hT 7 (by decide)
 obtain ⟨hv8,hr8⟩:=hT 8 (by decide)
 obtain ⟨p2,n2,c2,hv9,hr9⟩:=(hT 9 (by decide):(Zt z2) _ _)
 obtain ⟨p3,n3,c3,p4,n4,c4,hv10,hr10⟩:=(hT 10 (by decide):(Rrt z3 z4) _ _)
 simp only [pool,if_true,hr0,hr1,hr2,hr3,hr4,hr5,hr6,hr7,hr8,hr9,hr10,List.nil_append,List.cons_append,List.append_nil] at hS
 simp only [layf,hv0,hv1,hv2,hv3,hv4,hv5,hv6,hv7,hv8,hv9,hv10] at hf
 subst hf; clear hT hv0 hv1 hv2 hv3 hv4 hv5 hv6 hv7 hv8 hv9 hv10 hr0 hr1 hr2 hr3 hr4 hr5 hr6 hr7 hr8 hr9 hr10
 refine wLt 11 rfl (by kernel_rfl) (oSt _ _ Tryz.sizeOf43 hS 4 rfl rfl (ev rfl rfl) (ev rfl rfl) rfl rfl rfl rfl rfl rfl ?_)
 clear hS; intro w8 hS
 refine ⟨hNi,?_⟩
 refine wdone rfl ?_
 refine tNo ?_
 refine wLv ?_
 refine wr1 Tryz.results51 (tellC (cs:=[.bool (ng z3),.slice p3 n3 c3,.bool (ng z4),.slice p4 n4 c4]) aggR hS 4 rfl rfl rfl rfl) ?_
 obtain rfl:z3 = z:=(by rw [← hz3.out, ← hz1.out, ← hz2.out]; exact hz.out)
 obtain rfl:z4 = t:=(by rw [← hz4.out, ← hz1.out, ← hz2.out]; exact ht.out)
 exact ⟨_,_,rfl,⟨_,_,_,_,_,_,rfl,rfl⟩,hS.newM [0,1] (by decide) rfl rfl⟩
theorem wsneg {x y z t:Int} {bA bB:Bool} {qA qB:Option Addr} {nA kA nB kB:Nat} {w:World} (hzA:Zr w bA qA nA kA x 16777216) (hzB:Zr w bB qB nB kB y 16777216) (hy:y ≠ 0) (hz:Hid (RN (-x) (y) = z)) (ht:Hid (RD (-x) (y) = t)) :
  Calls Tryz.prog 50 #[.agg #[.bool bA,.slice qA nA kA,.bool bB,.slice qB nB kB]] w (Ret (Rrt z t) w):=by
 have hS:=Sep.init w
 refine went Tryz.func50 rfl (n:=9) rfl rfl ?_
 refine wsr (wl rfl (obox [.bool bA,.slice qA nA kA,.bool bB,.slice qB nB kB] hS rfl rfl (ev rfl rfl) rfl ?_))
 clear hS; intro g1 w2 hS
 refine wl rfl (oAl [.bool false,.slice none 0 0,.bool false,.slice none 0 0] hS rfl rfl Tryz.zeroValue43 rfl ?_)
 clear hS; intro g3 w4 hS
 refine wn1 (wSq ?_)
 obtain ⟨z1,hz1⟩:∃ z:Int,Hid (-x = z):=⟨_,rfl⟩
 have hk1:Wd z1 16777216:=Wd.neg hzA.wd hz1
 obtain ⟨z2,hz2⟩:∃ z:Int,Hid (RN z1 y = z):=⟨_,rfl⟩
 have hk2:Wd z2 16777216:=Wd.rn hk1 hz2
 obtain ⟨z3,hz3⟩:∃ z:Int,Hid (RD z1 y = z):=⟨_,rfl⟩
 have hk3:Wd z3 16777216:=Wd.rd hzB.wd hz3
 refine wSg 6 [3,4,5,6,7,8] [[],[0],[1,0],[],[3],[2,4,0,1,3]] [] [] [] (fun i9 => ([iSv (.pointer (some ⟨g1,0,none⟩)),iSv (.agg #[.bool bA,.slice qA nA kA]),fun _ => Zt z1,iSv (.pointer (some ⟨g1,2,none⟩)),iSv (.agg #[.bool bB,.slice qB nB kB]),fun _ => Rrt z2 z3]:List (List Value → Tell)).getD i9 (fun _ _ _ => False)) hNi (fun d _ _ _ _ h => (by cases d <;> exact h)) (by kernel_rfl) (by kernel_rfl) (by kernel_rfl) hS ?_ ?_
 ·
  refine stH rfl (fun ho _=>?_) ?_
  ·exact inNo rfl (oFA (g:=g1) (off:=0) 0 rfl rfl (ev rfl (ho 1 rfl)) Tryz.runUnderlying43 rfl Tryz.sizeOf28 rfl (nSm rfl isI))
  refine stT rfl (fun hT hS=>?_) ?_
  ·obtain ⟨hv0,hr0⟩:=hT 0 3 rfl rfl
   obtain hS:=hS.flat1 hr0
   exact inNo rfl (oLd aggZ hS 1 rfl rfl (ev rfl hv0) rfl rfl rfl (nSm rfl isI))
  refine stT rfl (fun hT hS=>?_) ?_
  ·obtain ⟨hv1,hr1⟩:=hT 1 4 rfl rfl
   obtain hS:=hS.flat1 hr1
   exact .inl ⟨wNo rfl,oCl rfl rfl Tryz.call93 rfl (wqneg ((hzA.at hS).mono (by omega)) hz1) (ar1 (ev rfl hv1)) cNw⟩
  refine stH rfl (fun ho _=>?_) ?_
  ·exact inNo rfl (oFA (g:=g1) (off:=0) 2 rfl rfl (ev rfl (ho 1 rfl)) Tryz.runUnderlying43 rfl Tryz.sizeOf28 rfl (nSm rfl isI))
  refine stT rfl (fun hT hS=>?_) ?_
  ·obtain ⟨hv3,hr3⟩:=hT 3 6 rfl rfl
   obtain hS:=hS.flat1 hr3
   exact inNo rfl (oLd aggZ hS 1 rfl rfl (ev rfl hv3) rfl rfl rfl (nSm rfl isI))
  refine stT rfl (fun hT hS=>?_) ?_
  ·obtain ⟨p1,n1,c1,hv2,hr2⟩:=(hT 2 5 rfl rfl:(Zt z1) _ _)
   obtain ⟨hv4,hr4⟩:=hT 4 7 rfl rfl
   obtain hS:=hS.flat2 hr2 hr4
   exact .inl ⟨wNo rfl,oCl rfl rfl Tryz.call54 rfl (wsmake (((hS.sl 2 rfl).zr hk1).mono (by omega)) ((hzB.at hS).mono (by omega)) hy hz2 hz3) (ar2 (ev rfl hv2) (ev rfl hv4)) cNw⟩
  exact sNi
 intro vs ρ w5 f' hf hT hS
 obtain ⟨hv0,hr0⟩:=hT 0 (by decide)
 obtain ⟨hv1,hr1⟩:=hT 1 (by decide)
 obtain ⟨p1,n1,c1,hv2,hr2⟩:=(hT 2 (by decide):(Zt z1) _ _)
 obtain ⟨hv3,hr3⟩:=hT 3 (by decide)
 obtain ⟨hv4,hr4⟩:=hT 4 (by decide)
 obtain ⟨p2,n2,c2,p3,n3,c3,hv5,hr5⟩:=(hT 5 (by decide):(Rrt z2 z3) _ _)
 simp only [pool,if_true,hr0,hr1,hr2,hr3,hr4,hr5,List.nil_append,List.cons_append,List.append_nil] at hS
 simp only [layf,hv0,hv1,hv2,hv3,hv4,hv5] at hf
 subst hf; clear hT hv0 hv1 hv2 hv3 hv4 hv5 hr0 hr1 hr2 hr3 hr4 hr5
 refine wLt 6 rfl (by kernel_rfl) (oSt _ _ Tryz.sizeOf43 hS 3 rfl rfl (ev rfl rfl) (ev rfl rfl) rfl rfl rfl rfl rfl rfl ?_)
 clear hS; intro w6 hS
 refine ⟨hNi,?_⟩
 refine wdone rfl ?_
 refine tNo ?_
 refine wLv ?_
 refine wr1 Tryz.results50 (tellC (cs:=[.bool (ng z2),.slice p2 n2 c2,.bool (ng z3),.slice p3 n3 c3]) aggR hS 3 rfl rfl rfl rfl) ?_
 obtain rfl:z2 = z:=(by rw [← hz2.out, ← hz1.out]; exact hz.out)
 obtain rfl:z3 = t:=(by rw [← hz3.out, ← hz1.out]; exact ht.out)
 exact ⟨_,_,rfl,⟨_,_,_,_,_,_,rfl,rfl⟩,hS.newM [0,1] (by decide) rfl rfl⟩
theorem wsinv {x y z t:Int} {bA bB:Bool} {qA qB:Option Addr} {nA kA nB kB:Nat} {w:World} (hzA:Zr w bA qA nA kA x 16777216) (hzB:Zr w bB qB nB kB y 16777216) (hx:x ≠ 0) (hz:Hid (RN (y) (x) = z)) (ht:Hid (RD (y) (x) = t)) :
  Calls Tryz.prog 96 #[.agg #[.bool bA,.slice qA nA kA,.bool bB,.slice qB nB kB]] w (Ret (Rrt z t) w):=by
 have hS:=Sep.init w
 refine went Tryz.func96 rfl (n:=8) rfl rfl ?_
 refine wsr (wl rfl (obox [.bool bA,.slice qA nA kA,.bool bB,.slice qB nB kB] hS rfl rfl (ev rfl rfl) rfl ?_))
 clear hS; intro g1 w2 hS
 refine wl rfl (oAl [.bool false,.slice none 0 0,.bool false,.slice none 0 0] hS rfl rfl Tryz.zeroValue43 rfl ?_)
 clear hS; intro g3 w4 hS
 refine wn2 (wl rfl (oFA (g:=g1) (off:=0) 2 rfl rfl (ev rfl rfl) Tryz.runUnderlying43 rfl Tryz.sizeOf28 rfl ?_))
 refine wl rfl (oLd aggZ hS 1 rfl rfl (ev rfl rfl) rfl rfl rfl ?_)
 refine wl rfl (oFA (g:=g1) (off:=0) 0 rfl rfl (ev rfl rfl) Tryz.runUnderlying43 rfl Tryz.sizeOf28 rfl ?_)
 refine wl rfl (oLd aggZ hS 1 rfl rfl (ev rfl rfl) rfl rfl rfl ?_)
 obtain ⟨z1,hz1⟩:∃ z:Int,Hid (RN y x = z):=⟨_,rfl⟩
 have hk1:Wd z1 16777216:=Wd.rn hzB.wd hz1
 obtain ⟨z2,hz2⟩:∃ z:Int,Hid (RD y x = z):=⟨_,rfl⟩
 have hk2:Wd z2 16777216:=Wd.rd hzA.wd hz2
 refine wcl Tryz.call54 (wsmake ((hzB.at hS).mono (by omega)) ((hzA.at hS).mono (by omega)) hx hz1 hz2) (ar2 (ev rfl rfl) (ev rfl rfl)) hS ?_
 clear hS; rintro _ _ w5 ⟨p1,n1,c1,p2,n2,c2,rfl,rfl⟩ hS
 refine wl rfl (oSt _ _ Tryz.sizeOf43 hS 2 rfl rfl (ev rfl rfl) (ev rfl rfl) rfl rfl rfl rfl rfl rfl ?_)
 clear hS; intro w6 hS
 refine wn1 ?_
 refine wLv ?_
 refine wr1 Tryz.results96 (tellC (cs:=[.bool (ng z1),.slice p1 n1 c1,.bool (ng z2),.slice p2 n2 c2]) aggR hS 2 rfl rfl rfl rfl) ?_
 obtain rfl:z1 = z:=(by rw [← hz1.out]; exact hz.out)
 obtain rfl:z2 = t:=(by rw [← hz2.out]; exact ht.out)
 exact ⟨_,_,rfl,⟨_,_,_,_,_,_,rfl,rfl⟩,hS.newM [0,1] (by decide) rfl rfl⟩
theorem wssub {x y u v z t:Int} {bA bB bC bD:Bool} {qA qB qC qD:Option Addr} {nA kA nB kB nC kC nD kD:Nat} {w:World} (hzA:Zr w bA qA nA kA x 16777216) (hzB:Zr w bB qB nB kB y 16777216) (hzC:Zr w bC qC nC kC u 16777216) (hzD:Zr w bD qD nD kD v 16777216) (hy:y ≠ 0) (hv:v ≠ 0) (hz:Hid (RN (x * v - u * y) (y * v) = z)) (ht:Hid (RD (x * v - u * y) (y * v) = t)) :
  Calls Tryz.prog 53 #[.agg #[.bool bA,.slice qA nA kA,.bool bB,.slice qB nB kB],.agg #[.bool bC,.slice qC nC kC,.bool bD,.slice qD nD kD]] w (Ret (Rrt z t) w):=by
 have hS:=Sep.init w
 refine went Tryz.func53 rfl (n:=9) rfl rfl ?_
 refine wsr (wl rfl (obox [.bool bA,.slice qA nA kA,.bool bB,.slice qB nB kB] hS rfl rfl (ev rfl rfl) rfl ?_))
 clear hS; intro g1 w2 hS
 refine wl rfl (obox [.bool bC,.slice qC nC kC,.bool bD,.slice qD nD kD] hS rfl rfl (ev rfl rfl) rfl ?_)
 clear hS; intro g3 w4 hS
 refine wl rfl (oAl [.bool false,.slice none 0 0,.bool false,.slice none 0 0] hS rfl rfl Tryz.zeroValue43 rfl ?_)
 clear hS; intro g5 w6 hS
 refine wn1 (wSq ?_)
 obtain ⟨z1,hz1⟩:∃ z:Int,Hid (RN (-u) v = z):=⟨_,rfl⟩
 have hk1:Wd z1 16777216:=Wd.rn (Wd.neg hzC.wd rfl) hz1
 obtain ⟨z2,hz2⟩:∃ z:Int,Hid (RD (-u) v = z):=⟨_,rfl⟩
 have hk2:Wd z2 16777216:=Wd.rd hzD.wd hz2
 obtain ⟨z3,hz3⟩:∃ z:Int,Hid (RN (x * z2 + z1 * y) (y * z2) = z):=⟨_,rfl⟩
 have hk3:Wd z3 33554433:=Wd.rn (Wd.add (m:=33554433) (Wd.mul (m:=33554432) hzA.wd hk2 rfl (by omega)) (Wd.mul (m:=33554432) hk1 hzB.wd rfl (by omega)) rfl (by omega)) hz3
 obtain ⟨z4,hz4⟩:∃ z:Int,Hid (RD (x * z2 + z1 * y) (y * z2) = z):=⟨_,rfl⟩
 have hk4:Wd z4 33554432:=Wd.rd (Wd.mul (m:=33554432) hzB.wd hk2 rfl (by omega)) hz4
 refine wSg 4 [5,6,7,8] [[],[],[1],[0,2,1]] [] [] [] (fun i9 => ([iSv (.agg #[.bool bA,.slice qA nA kA,.bool bB,.slice qB nB kB]),iSv (.agg #[.bool bC,.slice qC nC kC,.bool bD,.slice qD nD kD]),fun _ => Rrt z1 z2,fun _ => Rrt z3 z4]:List (List Value → Tell)).getD i9 (fun _ _ _ => False)) hNi (fun d _ _ _ _ h => (by cases d <;> exact h)) (by kernel_rfl) (by kernel_rfl) (by kernel_rfl) hS ?_ ?_
 ·
  refine stH rfl (fun ho hS=>?_) ?_
  ·exact inNo rfl (oLd aggR hS 2 rfl rfl (ev rfl (ho 2 rfl)) rfl rfl rfl (nSm rfl isI))
  refine stH rfl (fun ho hS=>?_) ?_
  ·exact inNo rfl (oLd aggR hS 1 rfl rfl (ev rfl (ho 3 rfl)) rfl rfl rfl (nSm rfl isI))
  refine stT rfl (fun hT hS=>?_) ?_
  ·obtain ⟨hv1,hr1⟩:=hT 1 6 rfl rfl
   obtain hS:=hS.flat1 hr1
   exact .inl ⟨wNo rfl,oCl rfl rfl Tryz.call50 rfl (wsneg (hzC.at hS) (hzD.at hS) hv hz1 hz2) (ar1 (ev rfl hv1)) cNw⟩
  refine stT rfl (fun hT hS=>?_) ?_
  ·obtain ⟨hv0,hr0⟩:=hT 0 5 rfl rfl
   obtain ⟨p1,n1,c1,p2,n2,c2,hv2,hr2⟩:=(hT 2 7 rfl rfl:(Rrt z1 z2) _ _)
   obtain hS:=hS.flat2 hr0 hr2
   exact .inl ⟨wNo rfl,oCl rfl rfl Tryz.call64 rfl (wsadd (hzA.at hS) (hzB.at hS) ((hS.slm 3 rfl).zr hk1) ((hS.slm 4 rfl).zr hk2) hy (by rw [← hz2.out]; have:=RD_pos (x := -u) hv; omega) hz3 hz4) (ar2 (ev rfl hv0) (ev rfl hv2)) cNw⟩
  exact sNi
 intro vs ρ w7 f' hf hT hS
 obtain ⟨hv0,hr0⟩:=hT 0 (by decide)
 obtain ⟨hv1,hr1⟩:=hT 1 (by decide)
 obtain ⟨p1,n1,c1,p2,n2,c2,hv2,hr2⟩:=(hT 2 (by decide):(Rrt z1 z2) _ _)
 obtain ⟨p3,n3,c3,p4,n4,c4,hv3,hr3⟩:=(hT 3 (by decide):(Rrt z3 z4) _ _)
 simp only [pool,if_true,hr0,hr1,hr2,hr3,List.nil_append,List.cons_append,List.append_nil] at hS
 simp only [layf,hv0,hv1,hv2,hv3] at hf
 subst hf; clear hT hv0 hv1 hv2 hv3 hr0 hr1 hr2 hr3
 refine wLt 4 rfl (by kernel_rfl) (oSt _ _ Tryz.sizeOf43 hS 4 rfl rfl (ev rfl rfl) (ev rfl rfl) rfl rfl rfl rfl rfl rfl ?_)
 clear hS; intro w8 hS
 refine ⟨hNi,?_⟩
 refine wdone rfl ?_
 refine tNo ?_
 refine wLv ?_
 refine wr1 Tryz.results53 (tellC (cs:=[.bool (ng z3),.slice p3 n3 c3,.bool (ng z4),.slice p4 n4 c4]) aggR hS 4 rfl rfl rfl rfl) ?_
 obtain rfl:z3 = z:=(by rw [← hz3.out, ← hz1.out, ← hz2.out]; exact (sub_low hy hv).1.trans hz.out)
 obtain rfl:z4 = t:=(by rw [← hz4.out, ← hz1.out, ← hz2.out]; exact (sub_low hy hv).2.trans ht.out)
 exact ⟨_,_,rfl,⟨_,_,_,_,_,_,rfl,rfl⟩,hS.newM [0,1] (by decide) rfl rfl⟩
theorem wsquo {x y u v z t:Int} {bA bB bC bD:Bool} {qA qB qC qD:Option Addr} {nA kA nB kB nC kC nD kD:Nat} {w:World} (hzA:Zr w bA qA nA kA x 16777216) (hzB:Zr w bB qB nB kB y 16777216) (hzC:Zr w bC qC nC kC u 16777216) (hzD:Zr w bD qD nD kD v 16777216) (hy:y ≠ 0) (hv:v ≠ 0) (hu:u ≠ 0) (hz:Hid (RN (x * v) (y * u) = z)) (ht:Hid (RD (x * v) (y * u) = t)) :
  Calls Tryz.prog 52 #[.agg #[.bool bA,.slice qA nA kA,.bool bB,.slice qB nB kB],.agg #[.bool bC,.slice qC nC kC,.bool bD,.slice qD nD kD]] w (Ret (Rrt z t) w):=by
 have hS:=Sep.init w
 refine went Tryz.func52 rfl (n:=9) rfl rfl ?_
 refine wsr (wl rfl (obox [.bool bA,.slice qA nA kA,.bool bB,.slice qB nB kB] hS rfl rfl (ev rfl rfl) rfl ?_))
 clear hS; intro g1 w2 hS
 refine wl rfl (obox [.bool bC,.slice qC nC kC,.bool bD,.slice qD nD kD] hS rfl rfl (ev rfl rfl) rfl ?_)
 clear hS; intro g3 w4 hS
 refine wl rfl (oAl [.bool false,.slice none 0 0,.bool false,.slice none 0 0] hS rfl rfl Tryz.zeroValue43 rfl ?_)
 clear hS; intro g5 w6 hS
 refine wn1 (wSq ?_)
 obtain ⟨z1,hz1⟩:∃ z:Int,Hid (RN v u = z):=⟨_,rfl⟩
 have hk1:Wd z1 16777216:=Wd.rn hzD.wd hz1
 obtain ⟨z2,hz2⟩:∃ z:Int,Hid (RD v u = z):=⟨_,rfl⟩
 have hk2:Wd z2 16777216:=Wd.rd hzC.wd hz2
 obtain ⟨z3,hz3⟩:∃ z:Int,Hid (RN (x * z1) (y * z2) = z):=⟨_,rfl⟩
 have hk3:Wd z3 33554432:=Wd.rn (Wd.mul (m:=33554432) hzA.wd hk1 rfl (by omega)) hz3
 obtain ⟨z4,hz4⟩:∃ z:Int,Hid (RD (x * z1) (y * z2) = z):=⟨_,rfl⟩
 have hk4:Wd z4 33554432:=Wd.rd (Wd.mul (m:=33554432) hzB.wd hk2 rfl (by omega)) hz4
 refine wSg 4 [5,6,7,8] [[],[],[1],[0,2,1]] [] [] [] (fun i9 => ([iSv (.agg #[.bool bA,.slice qA nA kA,.bool bB,.slice qB nB kB]),iSv (.agg #[.bool bC,.slice qC nC kC,.bool bD,.slice qD nD kD]),fun _ => Rrt z1 z2,fun _ => Rrt z3 z4]:List (List Value → Tell)).getD i9 (fun _ _ _ => False)) hNi (fun d _ _ _ _ h => (by cases d <;> exact h)) (by kernel_rfl) (by kernel_rfl) (by kernel_rfl) hS ?_ ?_
 ·
  refine stH rfl (fun ho hS=>?_) ?_
  ·exact inNo rfl (oLd aggR hS 2 rfl rfl (ev rfl (ho 2 rfl)) rfl rfl rfl (nSm rfl isI))
  refine stH rfl (fun ho hS=>?_) ?_
  ·exact inNo rfl (oLd aggR hS 1 rfl rfl (ev rfl (ho 3 rfl)) rfl rfl rfl (nSm rfl isI))
  refine stT rfl (fun hT hS=>?_) ?_
  ·obtain ⟨hv1,hr1⟩:=hT 1 6 rfl rfl
   obtain hS:=hS.flat1 hr1
   exact .inl ⟨wNo rfl,oCl rfl rfl Tryz.call96 rfl (wsinv (hzC.at hS) (hzD.at hS) hu hz1 hz2) (ar1 (ev rfl hv1)) cNw⟩
  refine stT rfl (fun hT hS=>?_) ?_
  ·obtain ⟨hv0,hr0⟩:=hT 0 5 rfl rfl
   obtain ⟨p1,n1,c1,p2,n2,c2,hv2,hr2⟩:=(hT 2 7 rfl rfl:(Rrt z1 z2) _ _)
   obtain hS:=hS.flat2 hr0 hr2
   exact .inl ⟨wNo rfl,oCl rfl rfl Tryz.call51 rfl (wsmul (hzA.at hS) (hzB.at hS) ((hS.slm 3 rfl).zr hk1) ((hS.slm 4 rfl).zr hk2) hy (by rw [← hz2.out]; have:=RD_pos (x:=v) hu; omega) hz3 hz4) (ar2 (ev rfl hv0) (ev rfl hv2)) cNw⟩
  exact sNi
 intro vs ρ w7 f' hf hT hS
 obtain ⟨hv0,hr0⟩:=hT 0 (by decide)
 obtain ⟨hv1,hr1⟩:=hT 1 (by decide)
 obtain ⟨p1,n1,c1,p2,n2,c2,hv2,hr2⟩:=(hT 2 (by decide):(Rrt z1 z2) _ _)
 obtain ⟨p3,n3,c3,p4,n4,c4,hv3,hr3⟩:=(hT 3 (by decide):(Rrt z3 z4) _ _)
 simp only [pool,if_true,hr0,hr1,hr2,hr3,List.nil_append,List.cons_append,List.append_nil] at hS
 simp only [layf,hv0,hv1,hv2,hv3] at hf
 subst hf; clear hT hv0 hv1 hv2 hv3 hr0 hr1 hr2 hr3
 refine wLt 4 rfl (by kernel_rfl) (oSt _ _ Tryz.sizeOf43 hS 4 rfl rfl (ev rfl rfl) (ev rfl rfl) rfl rfl rfl rfl rfl rfl ?_)
 clear hS; intro w8 hS
 refine ⟨hNi,?_⟩
 refine wdone rfl ?_
 refine tNo ?_
 refine wLv ?_
 refine wr1 Tryz.results52 (tellC (cs:=[.bool (ng z3),.slice p3 n3 c3,.bool (ng z4),.slice p4 n4 c4]) aggR hS 4 rfl rfl rfl rfl) ?_
 obtain rfl:z3 = z:=(by rw [← hz3.out, ← hz1.out, ← hz2.out]; exact (quo_low hy hv hu).1.trans hz.out)
 obtain rfl:z4 = t:=(by rw [← hz4.out, ← hz1.out, ← hz2.out]; exact (quo_low hy hv hu).2.trans ht.out)
 exact ⟨_,_,rfl,⟨_,_,_,_,_,_,rfl,rfl⟩,hS.newM [0,1] (by decide) rfl rfl⟩
theorem wssign {x y s:Int} {bA bB:Bool} {qA qB:Option Addr} {nA kA nB kB:Nat} {w:World} (hzA:Zr w bA qA nA kA x 67108864) (hzB:Zr w bB qB nB kB y 67108864) (hy:y ≠ 0) (hs:Hid (x.sign * y.sign = s)) :
  Calls Tryz.prog 49 #[.agg #[.bool bA,.slice qA nA kA,.bool bB,.slice qB nB kB]] w (Ret (Is (.int .i64 s)) w):=by
 have hS:=Sep.init w
 refine went Tryz.func49 rfl (n:=10) rfl rfl ?_
 refine wsr (wl rfl (obox [.bool bA,.slice qA nA kA,.bool bB,.slice qB nB kB] hS rfl rfl (ev rfl rfl) rfl ?_))
 clear hS; intro g1 w2 hS
 refine wavc ?_
 refine wn1 (wSq ?_)
 obtain ⟨s1,hs1⟩:∃ z:Int,Hid ((x:Int).sign = z):=⟨_,rfl⟩
 obtain ⟨s2,hs2⟩:∃ z:Int,Hid ((y:Int).sign = z):=⟨_,rfl⟩
 refine wSg 8 [3,4,5,6,7,8,9,2] [[],[0],[1,0],[],[3],[4,0,1,2,3],[2,5,0,1,3,4],[6,0,1,2,3,4,5]] [] [] [] (fun i9 => ([iSv (.pointer (some ⟨g1,0,none⟩)),iSv (.agg #[.bool bA,.slice qA nA kA]),iSv (.int .i64 s1),iSv (.pointer (some ⟨g1,2,none⟩)),iSv (.agg #[.bool bB,.slice qB nB kB]),iSv (.int .i64 s2),iSv (.int .i64 s),iSv (.int .i64 s)]:List (List Value → Tell)).getD i9 (fun _ _ _ => False)) hNi (fun d _ _ _ _ h => (by cases d <;> exact h)) (by kernel_rfl) (by kernel_rfl) (by kernel_rfl) hS ?_ ?_
 ·
  refine stH rfl (fun ho _=>?_) ?_
  ·exact inNo rfl (oFA (g:=g1) (off:=0) 0 rfl rfl (ev rfl (ho 1 rfl)) Tryz.runUnderlying43 rfl Tryz.sizeOf28 rfl (nSm rfl isI))
  refine stT rfl (fun hT hS=>?_) ?_
  ·obtain ⟨hv0,hr0⟩:=hT 0 3 rfl rfl
   obtain hS:=hS.flat1 hr0
   exact inNo rfl (oLd aggZ hS 0 rfl rfl (ev rfl hv0) rfl rfl rfl (nSm rfl isI))
  refine stT rfl (fun hT hS=>?_) ?_
  ·obtain ⟨hv1,hr1⟩:=hT 1 4 rfl rfl
   obtain hS:=hS.flat1 hr1
   exact .inl ⟨wNo rfl,oCl rfl rfl Tryz.call45 rfl (wqsign ((hzA.at hS).mono (by omega)) hs1) (ar1 (ev rfl hv1)) cNw⟩
  refine stH rfl (fun ho _=>?_) ?_
  ·exact inNo rfl (oFA (g:=g1) (off:=0) 2 rfl rfl (ev rfl (ho 1 rfl)) Tryz.runUnderlying43 rfl Tryz.sizeOf28 rfl (nSm rfl isI))
  refine stT rfl (fun hT hS=>?_) ?_
  ·obtain ⟨hv3,hr3⟩:=hT 3 6 rfl rfl
   obtain hS:=hS.flat1 hr3
   exact inNo rfl (oLd aggZ hS 0 rfl rfl (ev rfl hv3) rfl rfl rfl (nSm rfl isI))
  refine stT rfl (fun hT hS=>?_) ?_
  ·obtain ⟨hv4,hr4⟩:=hT 4 7 rfl rfl
   obtain hS:=hS.flat1 hr4
   exact .inl ⟨wNo rfl,oCl rfl rfl Tryz.call45 rfl (wqsign ((hzB.at hS).mono (by omega)) hs2) (ar1 (ev rfl hv4)) cNw⟩
  refine stT rfl (fun hT hS=>?_) ?_
  ·obtain ⟨hv2,hr2⟩:=hT 2 5 rfl rfl
   obtain ⟨hv5,hr5⟩:=hT 5 8 rfl rfl
   obtain hS:=hS.flat2 hr2 hr5
   exact inNo rfl (obin (z:=.int .i64 s) rfl rfl (ev rfl hv2) (ev rfl hv5) (bin_mul (sgn_wrap hs hs1 hs2)) (nSm rfl isI))
  refine stT rfl (fun hT hS=>?_) ?_
  ·obtain ⟨hv6,hr6⟩:=hT 6 9 rfl rfl
   obtain hS:=hS.flat1 hr6
   exact inNo rfl (oassign rfl rfl (ev rfl hv6) (nSm rfl isI))
  exact sNi
 intro vs ρ w3 f' hf hT hS
 obtain ⟨hv0,hr0⟩:=hT 0 (by decide)
 obtain ⟨hv1,hr1⟩:=hT 1 (by decide)
 obtain ⟨hv2,hr2⟩:=hT 2 (by decide)
 obtain ⟨hv3,hr3⟩:=hT 3 (by decide)
 obtain ⟨hv4,hr4⟩:=hT 4 (by decide)
 obtain ⟨hv5,hr5⟩:=hT 5 (by decide)
 obtain ⟨hv6,hr6⟩:=hT 6 (by decide)
 obtain ⟨hv7,hr7⟩:=hT 7 (by decide)
 simp only [pool,if_true,hr0,hr1,hr2,hr3,hr4,hr5,hr6,hr7,List.nil_append,List.cons_append,List.append_nil] at hS
 simp only [layf,hv0,hv1,hv2,hv3,hv4,hv5,hv6,hv7] at hf
 subst hf; clear hT hv0 hv1 hv2 hv3 hv4 hv5 hv6 hv7 hr0 hr1 hr2 hr3 hr4 hr5 hr6 hr7
 refine wdone rfl ?_
 refine tNo ?_
 refine wLv ?_
 refine wr1 Tryz.results49 (tlT (v:=.int .i64 s) rfl rfl) ?_
 exact ⟨_,_,rfl,isI,hS.new0⟩
theorem wsint {x:Int} {bA:Bool} {qA:Option Addr} {nA kA:Nat} {w:World} (hzA:Zr w bA qA nA kA x 16777216) :
  Calls Tryz.prog 149 #[.agg #[.bool bA,.slice qA nA kA]] w (Ret (Rrt x 1) w):=by
 have hS:=Sep.init w
 refine went Tryz.func149 rfl (n:=7) rfl rfl ?_
 refine wsr (wl rfl (obox [.bool bA,.slice qA nA kA] hS rfl rfl (ev rfl rfl) rfl ?_))
 clear hS; intro g1 w2 hS
 refine wl rfl (oAl [.bool false,.slice none 0 0,.bool false,.slice none 0 0] hS rfl rfl Tryz.zeroValue43 rfl ?_)
 clear hS; intro g3 w4 hS
 refine wn2 (wl rfl (oLd aggZ hS 1 rfl rfl (ev rfl rfl) rfl rfl rfl ?_))
 obtain ⟨z1,hz1⟩:∃ z:Int,Hid (x = z):=⟨_,rfl⟩
 have hk1:Wd z1 16777216:=Wd.same hzA.wd hz1
 refine wcl Tryz.call115 ((wqnorm ((hzA.at hS).mono (by omega)) hz1).mono Zt.m) (ar1 (ev rfl rfl)) hS ?_
 clear hS; rintro _ _ w5 ⟨p1,n1,c1,rfl,rfl⟩ hS
 have hk2:Wd 1 2:=Wd.i64 (by omega) (by omega)
 refine wcl Tryz.call7 ((wqof (z:=1) (by omega) (by omega)).mono Zt.m) (ar1 evc) hS ?_
 clear hS; rintro _ _ w6 ⟨p2,n2,c2,rfl,rfl⟩ hS
 refine wl rfl (obuild (ps:=#[(0,.agg #[.bool (ng z1),.slice p1 n1 c1]),(1,.agg #[.bool (ng 1),.slice p2 n2 c2])]) (v:=.agg #[.bool (ng z1),.slice p1 n1 c1,.bool (ng 1),.slice p2 n2 c2]) rfl rfl (parts2 (ev rfl rfl) (ev rfl rfl)) (fun w => by simp [go_sem,Instr.build,Instr.fill]) ?_)
 refine wl rfl (oSt _ _ Tryz.sizeOf43 hS 2 rfl rfl (ev rfl rfl) (ev rfl rfl) rfl rfl rfl rfl rfl rfl ?_)
 clear hS; intro w7 hS
 refine wn1 ?_
 refine wLv ?_
 refine wr1 Tryz.results149 (tellC (cs:=[.bool (ng z1),.slice p1 n1 c1,.bool (ng 1),.slice p2 n2 c2]) aggR hS 2 rfl rfl rfl rfl) ?_
 obtain rfl:=hz1.out
 exact ⟨_,_,rfl,⟨_,_,_,_,_,_,rfl,rfl⟩,hS.newM [1,0] (by decide) rfl rfl⟩
end Go.Proofs.YtnlnibngpeempaaGreatDoor
