/-
  Contracts and lemmas, joined in one text.
-/
import Derived.Test.YtnlnibngpeempaaGreatDoorWC
import Derived.Test.YtnlnibngpeempaaGreatDoorRC
import Derived.Test.YtnlnibngpeempaaGreatDoorCB
import Derived.Test.YtnlnibngpeempaaGreatDoorWB
set_option linter.unusedVariables false
set_option linter.unusedSimpArgs false
/-
  Tables of integers.
-/
set_option maxRecDepth 100000
set_option maxHeartbeats 16000000
namespace Go.Proofs.YtnlnibngpeempaaGreatDoor
open Go.RowKit
def TB (w:World) (p:Option Addr) (n:Nat) (T:List (List Int)) (K:Nat):Prop:=T.length = n ∧ n ≤ 1048576 ∧ ∀ (i:Nat) (L:List Int),T[i]? = some L → ∃ b off q c,p = some ⟨b,off,none⟩ ∧ (∀ j v,[Value.slice q L.length c][j]? = some v → w.cell? ⟨b,off + i * 1 + j,none⟩ = some v) ∧ Zs w q L.length L K
open Go.RowKit
theorem facc_lcm_nn (l:List Int) (i:Nat):0 ≤ facc lcmZ 1 l i:=by
 induction i with
 | zero => exact (by decide:(0:Int) ≤ 1)
 | succ i ih =>
  rcases hz:l[i]? with _ | z
  ·have:facc lcmZ 1 l (i + 1) = facc lcmZ 1 l i:=by unfold facc; rw [List.take_add_one,hz]; simp
   rw [this]; exact ih
  rw [facc_succ hz]; unfold lcmZ; omega
theorem facc_lcm_0 {l:List Int} {i:Nat} (h:l[i]? = some 0):∀ j,facc lcmZ 1 l (i + 1 + j) = 0:=by
 intro j
 induction j with
 | zero => rw [Nat.add_zero,facc_succ h]; unfold lcmZ; rw [Int.lcm_zero_right]; rfl
 | succ j ih =>
  rcases hz:l[i + 1 + j]? with _ | z
  ·have:facc lcmZ 1 l (i + 1 + (j + 1)) = facc lcmZ 1 l (i + 1 + j):=by unfold facc; rw [← Nat.add_assoc,List.take_add_one,hz]; simp
   rw [this]; exact ih
  rw [← Nat.add_assoc,facc_succ hz,ih]; unfold lcmZ; rw [Int.lcm_zero_left]; rfl
theorem lcm_step {x y a g q z:Int} (h0:y ≠ 0) (hx:0 ≤ x) (ha:Hid ((y.natAbs:Int) = a)) (hg:Hid ((Int.gcd x y:Int) = g)) (hq:Hid (a.tdiv g = q)) (hz:Hid (x * q = z)):lcmZ x y = z:=by
  have hp:0 < Int.gcd x y:=Nat.gcd_pos_of_pos_right _ (by omega)
  have e:=lcm_eq (x:=y) (y:=x) (a:=a) (b:=x) (g:=g) (q:=q) (z:=q * x) (by rw [Int.gcd_comm]; omega) (by rw [Int.gcd_comm]; exact hg) ha hq (by show _ = _; omega) rfl
  unfold lcmZ
  rw [Int.lcm_comm, ← e, ← hz.out,Int.mul_comm]
theorem lcm_dvd2 {x y a g:Int} (hg:Hid ((Int.gcd x y:Int) = g)) (ha:Hid ((y.natAbs:Int) = a)):a.tmod g = 0:=lcm_dvd (x:=y) (y:=x) (by rw [Int.gcd_comm]; exact hg) ha
theorem wqLcm {l:List Int} {w:World} {z:Int} {pl:Option Addr} {m cl:Nat} (hl:Zs w pl m l 67108864) (hW:∀ i,i ≤ m → Wd (facc lcmZ 1 l i) 1073741824) (hz:Hid (facc lcmZ 1 l m = z)) :
  Calls Tryz.prog 148 #[.slice pl m cl] w (Ret (Zt z) w):=by
 have hS:=Sep.init w
 refine went Tryz.func148 rfl (n:=33) rfl rfl ?_
 refine wsr (wl rfl (oAl [.bool false,.slice none 0 0] hS rfl rfl Tryz.zeroValue28 rfl ?_))
 clear hS; intro g1 w2 hS
 refine wn2 ?_
 have hk1:Wd 1 2:=Wd.i64 (by omega) (by omega)
 refine wcl Tryz.call7 (wqof (z:=1) (by omega) (by omega)) (ar1 evc) hS ?_
 clear hS; rintro _ _ w3 ⟨p1,n1,c1,rfl,rfl⟩ hS
 refine wl rfl (oAl [.bool false,.slice none 0 0] hS rfl rfl Tryz.zeroValue28 rfl ?_)
 clear hS; intro g4 w5 hS
 refine wl rfl (oSt _ _ Tryz.sizeOf28 hS 0 rfl rfl (ev rfl rfl) (ev rfl rfl) rfl rfl rfl rfl rfl rfl ?_)
 clear hS; intro w6 hS
 refine wn1 (wSq (wsr (wmv rfl rfl ?_)))
 refine wl rfl (olen rfl rfl rfl Tryz.runUnderlying32 (p:=pl) (k:=m) (m:=cl) (ev rfl rfl) ?_)
 refine wmvc ?_
 refine wn1 (wBk ?_)
 refine wLp (σ := Nat) (fun i a w' => ∃ (fb:Nat → Value) (pza:Option Addr) (nza:Nat) (cza:Nat),a = act 33 (sets fb [(2,.pointer (some ⟨g1,0,none⟩)),(3,.pointer (some ⟨g4,0,none⟩)),(9,.slice pl m cl),(10,.int .i64 (m:Int)),(11,.int .i64 (i:Int))]) ∧ Sep w [.blk g4 [.bool (ng ((facc lcmZ 1 l i))),.slice pza nza cza] 28,.row pza nza cza (lim ((facc lcmZ 1 l i)).natAbs),.blk g1 [.bool false,.slice none 0 0] 28] w' ∧ (i ≤ m) ∧ (Wd ((facc lcmZ 1 l i)) 1073741824)) (fun i => m - i) (0) ⟨_,_,_,_,aSs ⟨rfl,rfl,rfl,rfl,rfl,trivial⟩,hS,Nat.zero_le _,(hk1).mono (by omega)⟩ ?_
 clear hS; rintro i _ w7 ⟨fb,pza,nza,cza,rfl,hS,hi,hkza⟩
 refine wsr ?_
 by_cases hlt:i < m
 ·
  refine wbt rfl rfl rfl rfl (bLs (decide_eq_true (by omega))) ?_
  refine wn1 (wSq ?_)
  refine wT (ev rfl rfl) ?_
  refine wk2 ?_
  obtain ⟨ze,ge,oe,be,pe,ne,ce,hle,hpe,hce,hze⟩:=hl.el hlt
  refine wl rfl (oIx (p:=pl) (g:=ge) (off:=oe) (m:=m) (k:=i) (j:=(oe + i * 2)) rfl rfl Tryz.runUnderlying32 Tryz.sizeOf28 (ev rfl rfl) hpe (ev rfl rfl) hlt rfl ?_)
  refine wl rfl (oloadA aggZ rfl rfl (ev rfl rfl) (fun j v hj => hS.cellAt (hce j v hj)) rfl ?_)
  refine wl rfl (oAl [.bool false,.slice none 0 0] hS rfl rfl Tryz.zeroValue28 rfl ?_)
  clear hS; intro g8 w9 hS
  refine wl rfl (oSt _ _ Tryz.sizeOf28 hS 0 rfl rfl (ev rfl rfl) (ev rfl rfl) rfl rfl rfl rfl rfl rfl ?_)
  clear hS; intro w10 hS
  refine wn1 (wSq (wsr (wl rfl (oLd aggZ hS 0 rfl rfl (ev rfl rfl) rfl rfl rfl ?_))))
  obtain ⟨s2,hs2⟩:∃ z:Int,Hid ((ze:Int).sign = z):=⟨_,rfl⟩
  refine wcl Tryz.call45 (wqsign ((hze.at hS).mono (by omega)) hs2) (ar1 (ev rfl rfl)) hS ?_
  clear hS; rintro _ _ w11 ⟨rfl,rfl⟩ hS
  by_cases h0:ze = 0
  ·
   refine wbc (z:=.bool true) rfl rfl (bEq (sign_eq hs2 h0)) ?_
   refine wn1 ?_
   refine wT (ev rfl rfl) ?_
   refine wsr (wl rfl (obuild (ps:=#[]) (v:=.agg #[.bool false,.slice none 0 0]) rfl rfl (parts0) (fun w => by simp [go_sem,Instr.build,Instr.fill]) ?_))
   refine wl rfl (oSt _ _ Tryz.sizeOf28 hS 3 rfl rfl (ev rfl rfl) (ev rfl rfl) rfl rfl rfl rfl rfl rfl ?_)
   clear hS; intro w12 hS
   refine wn1 ?_
   refine wLv ?_
   refine thenR ?_
   refine blkR ?_
   refine thenR ?_
   refine thenR ?_
   refine blkR ?_
   refine thenR ?_
   refine wr1 Tryz.results148 (tellC (cs:=[.bool false,.slice none 0 0]) aggZ hS 3 rfl rfl rfl rfl) ?_
   obtain rfl:0 = z:=by rw [← hz.out]; subst h0; have:=facc_lcm_0 hle (m - (i + 1)); rw [show i + 1 + (m - (i + 1)) = m by omega] at this; exact this.symm
   exact ⟨_,_,rfl,⟨none,0,0,rfl,rfl⟩,New.row hS.below (Fr.nil _ _)⟩
  refine wbc (z:=.bool false) rfl rfl (bEq (sign_ne hs2 h0)) ?_
  refine wn1 ?_
  refine wF (ev rfl rfl) ?_
  refine wSk (tNo (wSq ?_))
  obtain ⟨z3,hz3⟩:∃ z:Int,Hid ((Int.natAbs ze:Int) = z):=⟨_,rfl⟩
  have hk3:Wd z3 67108864:=Wd.nabs hze.wd hz3
  obtain ⟨z4,hz4⟩:∃ z:Int,Hid ((Int.gcd ((facc lcmZ 1 l i)) ze:Int) = z):=⟨_,rfl⟩
  have hk4:Wd z4 1073741824:=Wd.gcd hkza hze.wd hz4 (by omega)
  obtain ⟨z5,hz5⟩:∃ z:Int,Hid (Int.tdiv z3 z4 = z):=⟨_,rfl⟩
  have hk5:Wd z5 67108864:=Wd.tdiv hk3 hz5
  refine wSg 10 [20,21,22,23,24,25,19,26,27,6] [[],[0],[],[],[2,3,0,1],[1,4,0,2,3],[5,0,1,2,3,4],[5,6,0,1,2,3,4],[5,6,0,1,2,3,4],[]] [[],[],[],[],[],[],[5],[5],[],[]] [8] [] (fun i9 => ([iSv (.agg #[.bool be,.slice pe ne ce]),fun _ => Zt z3,iSv (.agg #[.bool (ng ((facc lcmZ 1 l i))),.slice pza nza cza]),iSv (.agg #[.bool be,.slice pe ne ce]),fun _ => Zt z4,fun _ => ZBt z5 true,fun us => Is (.tuple #[.agg #[.bool (ng z5),(vat (us.getD 0 undef) [0,1])],.bool true]),fun us => Is (.agg #[.bool (ng z5),(vat (us.getD 0 undef) [0,1])]),iSv (.bool true),fun _ => Ptr [.bool false,.slice none 0 0] 28]:List (List Value → Tell)).getD i9 (fun _ _ _ => False)) hNi (fun d _ _ _ _ h => (by cases d <;> exact h)) (by kernel_rfl) (by kernel_rfl) (by kernel_rfl) hS ?_ ?_
  ·
   refine stH rfl (fun ho hS=>?_) ?_
   ·exact inNo rfl (oLd aggZ hS 0 rfl rfl (ev rfl (ho 5 rfl)) rfl rfl rfl (nSm rfl isI))
   refine stT rfl (fun hT hS=>?_) ?_
   ·obtain ⟨hv0,hr0⟩:=hT 0 20 rfl rfl
    obtain hS:=hS.flat1 hr0
    exact .inl ⟨wNo rfl,oCl rfl rfl Tryz.call157 rfl (wqabs ((hze.at hS).mono (by omega)) hz3) (ar1 (ev rfl hv0)) cNw⟩
   refine stH rfl (fun ho hS=>?_) ?_
   ·exact inNo rfl (oLd aggZ hS 1 rfl rfl (ev rfl (ho 3 rfl)) rfl rfl rfl (nSm rfl isI))
   refine stH rfl (fun ho hS=>?_) ?_
   ·exact inNo rfl (oLd aggZ hS 0 rfl rfl (ev rfl (ho 5 rfl)) rfl rfl rfl (nSm rfl isI))
   refine stT rfl (fun hT hS=>?_) ?_
   ·obtain ⟨hv2,hr2⟩:=hT 2 22 rfl rfl
    obtain ⟨hv3,hr3⟩:=hT 3 23 rfl rfl
    obtain hS:=hS.flat2 hr2 hr3
    exact .inl ⟨wNo rfl,oCl rfl rfl Tryz.call97 rfl (wqgcd (((hS.sl 2 rfl).zr hkza).mono (by omega)) ((hze.at hS).mono (by omega)) hz4) (ar2 (ev rfl hv2) (ev rfl hv3)) cNw⟩
   refine stT rfl (fun hT hS=>?_) ?_
   ·obtain ⟨p3,n3,c3,hv1,hr1⟩:=(hT 1 21 rfl rfl:(Zt z3) _ _)
    obtain ⟨p4,n4,c4,hv4,hr4⟩:=(hT 4 24 rfl rfl:(Zt z4) _ _)
    obtain hS:=hS.flat2 hr1 hr4
    exact .inl ⟨wNo rfl,oCl rfl rfl Tryz.call98 rfl (wqexact (((hS.sl 4 rfl).zr hk3).mono (by omega)) (((hS.sl 5 rfl).zr hk4).mono (by omega)) (by have:0 < Int.gcd (facc lcmZ 1 l i) ze:=Nat.gcd_pos_of_pos_right _ (by omega); have:=hz4.out; omega) (lcm_dvd2 hz4 hz3) hz5) (ar2 (ev rfl hv1) (ev rfl hv4)) cNw⟩
   refine stC rfl (fun _ f' _ _ _ _ hT hS _=>?_) ?_
   ·obtain ⟨p5,n5,c5,hv5,hr5⟩:=(hT 5 25 rfl rfl:(ZBt z5 true) _ _)
    obtain hS:=hS.flat1 hr5
    have hQ:(.tuple #[.agg #[.bool (ng z5),.slice p5 n5 c5],.bool true]:Value) = (fun (us:List Value) => (.tuple #[.agg #[.bool (ng z5),(vat (us.getD 0 undef) [0,1])],.bool true]:Value)) [f' 25]:=by show _ = (.tuple #[.agg #[.bool (ng z5),(vat (f' 25) [0,1])],.bool true]:Value); rw [hv5]; rfl
    exact .inl ⟨wNo rfl,omove rfl rfl (ev rfl hv5) ⟨_,_,rfl,⟨hQ,rfl⟩,New.same _⟩⟩
   refine stC rfl (fun _ f' _ _ _ _ hT hS _=>?_) ?_
   ·obtain ⟨p5,n5,c5,hv5,hr5⟩:=(hT 5 25 rfl rfl:(ZBt z5 true) _ _)
    obtain ⟨hv6,hr6⟩:=(hT 6 19 rfl rfl:(fun (us:List Value) => Is (.tuple #[.agg #[.bool (ng z5),(vat (us.getD 0 undef) [0,1])],.bool true])) [f' 25] _ _)
    replace hv6:f' 19 = .tuple #[.agg #[.bool (ng z5),.slice p5 n5 c5],.bool true]:=hv6.trans (by show (.tuple #[.agg #[.bool (ng z5),(vat (f' 25) [0,1])],.bool true]:Value) = _; rw [hv5]; rfl)
    obtain hS:=hS.flat2 hr5 hr6
    have hQ:(.agg #[.bool (ng z5),.slice p5 n5 c5]:Value) = (fun (us:List Value) => (.agg #[.bool (ng z5),(vat (us.getD 0 undef) [0,1])]:Value)) [f' 25]:=by show _ = (.agg #[.bool (ng z5),(vat (f' 25) [0,1])]:Value); rw [hv5]; rfl
    exact .inl ⟨wNo rfl,oEx rfl rfl (ev rfl hv6) rfl ⟨_,_,rfl,⟨hQ,rfl⟩,New.same _⟩⟩
   refine stepsPure rfl ?_ ?_
   ·intro f' ρ ho hT
    obtain ⟨p5,n5,c5,hv5,hr5⟩:=(hT 5 25 rfl rfl:(ZBt z5 true) _ _)
    obtain ⟨hv6,hr6⟩:=(hT 6 19 rfl rfl:(fun (us:List Value) => Is (.tuple #[.agg #[.bool (ng z5),(vat (us.getD 0 undef) [0,1])],.bool true])) [f' 25] _ _)
    replace hv6:f' 19 = .tuple #[.agg #[.bool (ng z5),.slice p5 n5 c5],.bool true]:=hv6.trans (by show (.tuple #[.agg #[.bool (ng z5),(vat (f' 25) [0,1])],.bool true]:Value) = _; rw [hv5]; rfl)
    exact ⟨_,.inl ⟨wNo rfl,fun w hw => yextract (vs:=[.agg #[.bool (ng z5),.slice p5 n5 c5],.bool true]) (v:=.bool true) rfl (ev rfl hv6) rfl w⟩,isI⟩
   refine stT rfl (fun _ _=>?_) ?_
   ·exact .inl ⟨wNo rfl,oallocN [.bool false,.slice none 0 0] rfl rfl Tryz.zeroValue28 rfl ⟨_,_,rfl,ptrI,New.blk _ _ _⟩⟩
   exact sNi
  intro vs ρ w13 f' hf hT hS
  obtain ⟨hv0,hr0⟩:=hT 0 (by decide)
  obtain ⟨p3,n3,c3,hv1,hr1⟩:=(hT 1 (by decide):(Zt z3) _ _)
  obtain ⟨hv2,hr2⟩:=hT 2 (by decide)
  obtain ⟨hv3,hr3⟩:=hT 3 (by decide)
  obtain ⟨p4,n4,c4,hv4,hr4⟩:=(hT 4 (by decide):(Zt z4) _ _)
  obtain ⟨p5,n5,c5,hv5,hr5⟩:=(hT 5 (by decide):(ZBt z5 true) _ _)
  obtain ⟨hv6,hr6⟩:=(hT 6 (by decide):(fun (us:List Value) => Is (.tuple #[.agg #[.bool (ng z5),(vat (us.getD 0 undef) [0,1])],.bool true])) [vs 5] _ _)
  replace hv6:vs 6 = .tuple #[.agg #[.bool (ng z5),.slice p5 n5 c5],.bool true]:=hv6.trans (by show (.tuple #[.agg #[.bool (ng z5),(vat (vs 5) [0,1])],.bool true]:Value) = _; rw [hv5]; rfl)
  obtain ⟨hv7,hr7⟩:=(hT 7 (by decide):(fun (us:List Value) => Is (.agg #[.bool (ng z5),(vat (us.getD 0 undef) [0,1])])) [vs 5] _ _)
  replace hv7:vs 7 = .agg #[.bool (ng z5),.slice p5 n5 c5]:=hv7.trans (by show (.agg #[.bool (ng z5),(vat (vs 5) [0,1])]:Value) = _; rw [hv5]; rfl)
  obtain ⟨hv8,hr8⟩:=hT 8 (by decide)
  obtain ⟨g12,hv9,hr9⟩:=(hT 9 (by decide):(Ptr [.bool false,.slice none 0 0] 28) _ _)
  simp only [pool,if_true,hr0,hr1,hr2,hr3,hr4,hr5,hr6,hr7,hr8,hr9,List.nil_append,List.cons_append,List.append_nil] at hS
  simp only [layf,hv0,hv1,hv2,hv3,hv4,hv5,hv6,hv7,hv8,hv9] at hf
  subst hf; clear hT hv0 hv1 hv2 hv3 hv4 hv5 hv6 hv7 hv8 hv9 hr0 hr1 hr2 hr3 hr4 hr5 hr6 hr7 hr8 hr9
  refine wLt 10 rfl (by kernel_rfl) (oSt _ _ Tryz.sizeOf28 hS 0 rfl rfl (ev rfl rfl) (ev rfl rfl) rfl rfl rfl rfl rfl rfl ?_)
  clear hS; intro w14 hS
  refine ⟨hNi,?_⟩
  refine wLt 11 rfl (by kernel_rfl) (oassign rfl rfl (ev rfl rfl) ?_)
  refine ⟨hNi,?_⟩
  refine wdone rfl ?_
  refine tNo (wreg (wl rfl (oLd aggZ hS 5 rfl rfl (ev rfl rfl) rfl rfl rfl ?_)))
  refine wl rfl (oLd aggZ hS 0 rfl rfl (ev rfl rfl) rfl rfl rfl ?_)
  obtain ⟨z6,hz6⟩:∃ z:Int,Hid (((facc lcmZ 1 l i)) * z5 = z):=⟨_,rfl⟩
  have hk6:Wd z6 1140850688:=Wd.mul hkza hk5 hz6 (by omega)
  refine wcl Tryz.call95 (wqmul (((hS.sl 6 rfl).zr hkza).mono (by omega)) (((hS.sl 1 rfl).zr hk5).mono (by omega)) hz6) (ar2 (ev rfl rfl) (ev rfl rfl)) hS ?_
  clear hS; rintro _ _ w15 ⟨p6,n6,c6,rfl,rfl⟩ hS
  refine wl rfl (oSt _ _ Tryz.sizeOf28 hS 6 rfl rfl (ev rfl rfl) (ev rfl rfl) rfl rfl rfl rfl rfl rfl ?_)
  clear hS; intro w16 hS
  refine wnil (blkN (tNo (wreg ?_)))
  obtain rfl:(facc lcmZ 1 l (i + 1)) = z6:=(facc_succ hle).trans (lcm_step h0 (facc_lcm_nn l i) hz3 hz4 hz5 hz6)
  refine wbc (z:=.int .i64 ((i + 1:Nat):Int)) rfl rfl (bAd (wrap_succ (by have:=hl.2.1; omega))) ?_
  refine wmv rfl rfl ?_
  refine wn1 ?_
  exact ⟨(i + 1),⟨_,_,_,_,aSs ⟨rfl,rfl,rfl,rfl,rfl,trivial⟩,hS.pick [6,0,8] (by decide) rfl,by omega,hW _ (by omega)⟩,by omega⟩
 refine wbt rfl rfl rfl rfl (bLs (decide_eq_false (by omega))) ?_
 refine wn1 (wSq ?_)
 refine wF (ev rfl rfl) ?_
 refine wEx ?_
 refine tEx ?_
 refine tEx ?_
 refine blkE ?_
 refine tNo (wsr (wl rfl (oLd aggZ hS 0 rfl rfl (ev rfl rfl) rfl rfl rfl ?_)))
 refine wl rfl (oSt _ _ Tryz.sizeOf28 hS 2 rfl rfl (ev rfl rfl) (ev rfl rfl) rfl rfl rfl rfl rfl rfl ?_)
 clear hS; intro w8 hS
 refine wn1 ?_
 refine wLv ?_
 refine wr1 Tryz.results148 (tellC (cs:=[.bool (ng ((facc lcmZ 1 l i))),.slice pza nza cza]) aggZ hS 2 rfl rfl rfl rfl) ?_
 obtain rfl:i = m:=by omega
 obtain rfl:=hz.out
 exact ⟨_,_,rfl,⟨_,_,_,rfl,rfl⟩,hS.new1 1 rfl⟩
open Go.RowKit
def dens (L:List (Int × Int)):List Int:=L.map (·.2)
theorem dens_at {L:List (Int × Int)} {i:Nat} {e:Int × Int} (h:L[i]? = some e):(dens L)[i]? = some e.2:=by unfold dens; rw [List.getElem?_map,h]; rfl
theorem facc_lcm_dvd {l:List Int} {j:Nat} {z:Int} (h:l[j]? = some z):∀ k,z ∣ facc lcmZ 1 l (j + 1 + k):=by
 intro k
 induction k with
 | zero => rw [Nat.add_zero,facc_succ h]; exact Int.dvd_lcm_right _ _
 | succ k ih =>
  rcases hz:l[j + 1 + k]? with _ | y
  ·have:facc lcmZ 1 l (j + 1 + (k + 1)) = facc lcmZ 1 l (j + 1 + k):=by unfold facc; rw [← Nat.add_assoc,List.take_add_one,hz]; simp
   rw [this]; exact ih
  rw [← Nat.add_assoc,facc_succ hz]; exact Int.dvd_trans ih (Int.dvd_lcm_left _ _)
theorem facc_lcm_mod {l:List Int} {j m:Nat} {z:Int} (h:l[j]? = some z) (hj:j < m):(facc lcmZ 1 l m).tmod z = 0:=by
  have:=facc_lcm_dvd h (m - (j + 1))
  rw [show j + 1 + (m - (j + 1)) = m by omega] at this
  exact Int.tmod_eq_zero_of_dvd this
def cnum (L:List (Int × Int)) (den:Int) (j:Nat):Int:=match L[j]? with | some e => e.1 * den.tdiv e.2 | none => 0
theorem cnum_at {L:List (Int × Int)} {den:Int} {j:Nat} {e:Int × Int} (h:L[j]? = some e):cnum L den j = e.1 * den.tdiv e.2:=by unfold cnum; rw [h]
def elN (z:Int) (p:Option Addr) (n c:Nat):El:=⟨[.bool (ng z),.slice p n c],[.rowm p n c (lim z.natAbs)]⟩
def NEls (f:Nat → Int) (i:Nat) (es:List El):Prop:=es.length = i ∧ ∀ j,j < i → ∃ p n c,es[j]? = some (elN (f j) p n c)
theorem NEls.nil (f:Nat → Int):NEls f 0 []:=⟨rfl,fun j h => by omega⟩
theorem NEls.app {f:Nat → Int} {i:Nat} {es:List El} (h:NEls f i es) {z:Int} (hz:z = f i) (p:Option Addr) (n c:Nat):NEls f (i + 1) (es ++ [elN z p n c]):=by
 refine ⟨by simp [h.1],fun j hj => ?_⟩
 by_cases hij:j = i
 ·subst hij
  refine ⟨p,n,c,?_⟩
  rw [List.getElem?_append_right (by rw [h.1]; exact Nat.le_refl _),h.1,Nat.sub_self,hz]
  rfl
 obtain ⟨p',n',c',h'⟩:=h.2 j (by omega)
 exact ⟨p',n',c',by rw [List.getElem?_append_left (by rw [h.1]; omega)]; exact h'⟩
def NL (f:Nat → Int) (m:Nat):List (Bool × List Nat):=(List.range m).map fun j => (ng (f j),lim (f j).natAbs)
theorem Sep.nl {w0 w:World} {R:List Res} (hS:Sep w0 R w) (k:Nat) {p:Option Addr} {c m K:Nat} {es:List El} {f:Nat → Int} (hk:R[k]? = some (.lst 28 2 p m c es)) (hz:NEls f m es) (hm:m ≤ 1048576) (hK:∀ j,j < m → Wd (f j) K):ZL w p m (NL f m) K:=by
  refine ⟨by simp [NL],hm,fun i e hi => ?_⟩
  unfold NL at hi
  rw [List.getElem?_map] at hi
  rcases hr:(List.range m)[i]? with _ | i'
  · rw [hr] at hi; cases hi
  rw [hr] at hi
  simp only [Option.map_some,Option.some.injEq] at hi
  subst hi
  have him:i < m:=by have:=(List.getElem?_eq_some_iff.1 hr).1; simpa using this
  have hii:i' = i:=by rw [List.getElem?_range him] at hr; exact (Option.some.inj hr).symm
  subst hii
  obtain ⟨q,n,c',he⟩:=hz.2 i' him
  obtain ⟨g,hg,hc,hr⟩:=hS.lstCell k hk he (by omega)
  have hf:Fr 0 w q n c' (lim (f i').natAbs):=hr (.rowm q n c' (lim (f i').natAbs)) List.mem_cons_self
  refine ⟨g,0,q,n,c',hg,hc 0 _ rfl,hc 1 _ rfl,hf.sl,?_⟩
  have:=hf.sl.lln
  have h2:=hK i' him
  unfold Wd at h2
  omega
def CQt (den:Int) (f:Nat → Int) (m:Nat):Tell:=fun v r => ∃ p n c q d es,NEls f m es ∧ v = .tuple #[.agg #[.bool (ng den),.slice p n c],.slice q m d] ∧ r = [.row p n c (lim den.natAbs),.lst 28 2 q m d es]
theorem Sep.nilLstC {w0 w:World} {R:List Res} {e:TypeId} {sz:Nat} (h:Sep w0 R w):Sep w0 (.lst e sz none 0 0 [] :: R) w:=by
 refine h.add (Below.refl _ _) _ ⟨Els.nil,rfl,fun r hr => ?_,by simp [flatR]⟩ (fun g hg => ?_)
 ·have hr':r = Res.own' e sz none 0 0 (flatC []):=by simpa [flatR] using hr
  subst hr'
  exact World.ownsRow_nil _ _ _ _
 rcases hg with hg | ⟨r,hr,_⟩
 ·cases hg
 simp [flatR] at hr
theorem lcm_low {x y den:Int} (hy:y ≠ 0) (hd:den.tmod (RD x y) = 0):RN (x * den) (y * 1) = RN x y * den.tdiv (RD x y):=by
 have hD:=RD_pos (x:=x) hy
 obtain ⟨k,hk⟩:=Int.dvd_of_tmod_eq_zero hd
 have e:den.tdiv (RD x y) = k:=by rw [hk]; exact Int.mul_tdiv_cancel_left _ (by omega)
 rw [e]
 have h1:=R_cross x y
 have h2:RN (x * den) (y * 1) = RN (RN x y * k) 1:=by
  refine RN_same (by omega) (by omega) ?_
  rw [hk]
  generalize RN x y = a at *; generalize RD x y = b at *
  grind
 rw [h2,RN_one]
open Go.RowKit
theorem wqLcm_two {w:World} {g:Nat} {t:TypeId} {b b2:Bool} {p q:Option Addr} {n m c d:Nat} {x y z:Int} (hg:w.heap[g]? = some (.cells [.bool b,.slice p n c,.bool b2,.slice q m d].toArray t)) (hx:Zr w b p n c x 67108864) (hy:Zr w b2 q m d y 67108864) {k l:Nat} (hk:Wd x k) (hl:Wd y l) (hz:Hid ((Int.lcm x y:Int) = z)) :
  Calls Tryz.prog 148 #[.slice (some ⟨g,0,none⟩) 2 2] w (Ret (Zt z) w):=by
 refine wqLcm (Zs.two hg hx hy) ?_ ?_
 ·intro i hi
  match i,hi with
  | 0,_ => exact (Wd.i64 (z:=1) (by omega) (by omega)).mono (by omega)
  | 1,_ =>
   have e:facc lcmZ 1 [x,y] 1 = (x.natAbs:Int):=by simp [facc,lcmZ,Int.lcm]
   rw [e]; exact (Wd.nabs hx.wd rfl).mono (by omega)
  | 2,_ =>
   have e:facc lcmZ 1 [x,y] 2 = (Int.lcm x y:Int):=by simp [facc,lcmZ,Int.lcm]
   rw [e]; exact Wd.lcm hx.wd hy.wd rfl (by omega)
 show _ = _
 rw [← hz.out]
 simp [facc,lcmZ,Int.lcm]
theorem low_at {L:List (Int × Int)} {i:Nat} {e:Int × Int} (h:L[i]? = some e):(lows L)[i]? = some (RN e.1 e.2,RD e.1 e.2):=by unfold lows; rw [List.getElem?_map,h]; rfl
theorem wqcommon {L:List (Int × Int)} {w:World} {pl:Option Addr} {m cl:Nat} (hl:Rs w pl m L 16777216) (hall:∀ e ∈ L,e.2 ≠ 0) (hW:∀ i,i ≤ m → Wd (facc lcmZ 1 (dens (lows L)) i) 4194304) :
  Calls Tryz.prog 131 #[.slice pl m cl] w (Ret (CQt (facc lcmZ 1 (dens (lows L)) m) (cnum (lows L) (facc lcmZ 1 (dens (lows L)) m)) m) w):=by
 have hS:=Sep.init w
 refine went Tryz.func131 rfl (n:=41) rfl rfl ?_
 refine wsr (wl rfl (oAl [.bool false,.slice none 0 0] hS rfl rfl Tryz.zeroValue28 rfl ?_))
 clear hS; intro g1 w2 hS
 refine wavc ?_
 refine wn2 ?_
 have hk1:Wd 1 2:=Wd.i64 (by omega) (by omega)
 refine wcl Tryz.call7 (wqof (z:=1) (by omega) (by omega)) (ar1 evc) hS ?_
 clear hS; rintro _ _ w3 ⟨p1,n1,c1,rfl,rfl⟩ hS
 refine wl rfl (oAl [.bool false,.slice none 0 0] hS rfl rfl Tryz.zeroValue28 rfl ?_)
 clear hS; intro g4 w5 hS
 refine wl rfl (oSt _ _ Tryz.sizeOf28 hS 0 rfl rfl (ev rfl rfl) (ev rfl rfl) rfl rfl rfl rfl rfl rfl ?_)
 clear hS; intro w6 hS
 refine wn1 (wSq (wsr (wmv rfl rfl ?_)))
 refine wl rfl (olen rfl rfl rfl Tryz.runUnderlying39 (p:=pl) (k:=m) (m:=cl) (ev rfl rfl) ?_)
 refine wmvc ?_
 refine wn1 (wBk ?_)
 refine wLp (σ := Nat) (fun i a w' => ∃ (fb:Nat → Value) (pza:Option Addr) (nza:Nat) (cza:Nat),a = act 41 (sets fb [(0,.slice pl m cl),(2,.pointer (some ⟨g1,0,none⟩)),(3,.slice none 0 0),(4,.pointer (some ⟨g4,0,none⟩)),(11,.slice pl m cl),(12,.int .i64 (m:Int)),(13,.int .i64 (i:Int))]) ∧ Sep w [.blk g4 [.bool (ng ((facc lcmZ 1 (dens (lows L)) i))),.slice pza nza cza] 28,.row pza nza cza (lim ((facc lcmZ 1 (dens (lows L)) i)).natAbs),.blk g1 [.bool false,.slice none 0 0] 28] w' ∧ (i ≤ m) ∧ (Wd ((facc lcmZ 1 (dens (lows L)) i)) 4194304)) (fun i => m - i) (0) ⟨_,_,_,_,aSs ⟨rfl,rfl,rfl,rfl,rfl,rfl,rfl,trivial⟩,hS,Nat.zero_le _,(hk1).mono (by omega)⟩ ?_
 clear hS; rintro i _ w7 ⟨fb,pza,nza,cza,rfl,hS,hi,hkza⟩
 refine wsr ?_
 by_cases hlt:i < m
 ·
  refine wbt rfl rfl rfl rfl (bLs (decide_eq_true (by omega))) ?_
  refine wn1 (wSq ?_)
  refine wT (ev rfl rfl) ?_
  refine wk2 ?_
  obtain ⟨e1,g1x,o1,bx,qx,nx,kx,by1,qy,ny,ky,hle,hp1,hc1,hzx,hzy⟩:=hl.el hlt
  refine wl rfl (oIx (p:=pl) (g:=g1x) (off:=o1) (m:=m) (k:=i) (j:=(o1 + i * 4)) rfl rfl Tryz.runUnderlying39 Tryz.sizeOf43 (ev rfl rfl) hp1 (ev rfl rfl) hlt rfl ?_)
  refine wl rfl (oloadA aggR rfl rfl (ev rfl rfl) (fun j v hj => hS.cellAt (hc1 j v hj)) rfl ?_)
  refine wl rfl (oAl [.bool false,.slice none 0 0,.bool false,.slice none 0 0] hS rfl rfl Tryz.zeroValue43 rfl ?_)
  clear hS; intro g8 w9 hS
  refine wl rfl (oSt _ _ Tryz.sizeOf43 hS 0 rfl rfl (ev rfl rfl) (ev rfl rfl) rfl rfl rfl rfl rfl rfl ?_)
  clear hS; intro w10 hS
  refine wn1 ?_
  have h0:=hall e1 (List.mem_of_getElem? hle)
  obtain ⟨z2,hz2⟩:∃ z:Int,Hid (RN e1.1 e1.2 = z):=⟨_,rfl⟩
  have hk2:Wd z2 16777216:=Wd.rn hzx.wd hz2
  obtain ⟨z3,hz3⟩:∃ z:Int,Hid (RD e1.1 e1.2 = z):=⟨_,rfl⟩
  have hk3:Wd z3 16777216:=Wd.rd hzy.wd hz3
  obtain ⟨z4,hz4⟩:∃ z:Int,Hid ((Int.lcm ((facc lcmZ 1 (dens (lows L)) i)) z3:Int) = z):=⟨_,rfl⟩
  have hk4:Wd z4 20971520:=Wd.lcm hkza hk3 hz4 (by omega)
  refine wSg 6 [17,18,19,20,21,22] [[],[],[1],[2,1],[0,2,3,1],[2,4,0,1,3]] [[],[],[],[2],[2],[]] [] [] (fun i9 => ([iSv (.agg #[.bool (ng ((facc lcmZ 1 (dens (lows L)) i))),.slice pza nza cza]),iSv (.agg #[.bool bx,.slice qx nx kx,.bool by1,.slice qy ny ky]),fun _ => Rrt z2 z3,fun us => Is (.agg #[.bool (ng z3),(vat (us.getD 0 undef) [3])]),fun us => Slb [.bool (ng ((facc lcmZ 1 (dens (lows L)) i))),.slice pza nza cza,.bool (ng z3),(vat (us.getD 0 undef) [3])] 28 2,fun _ => Zt z4]:List (List Value → Tell)).getD i9 (fun _ _ _ => False)) hNi (fun d _ _ _ _ h => (by cases d <;> exact h)) (by kernel_rfl) (by kernel_rfl) (by kernel_rfl) hS ?_ ?_
  ·
   refine stH rfl (fun ho hS=>?_) ?_
   ·exact inNo rfl (oLd aggZ hS 1 rfl rfl (ev rfl (ho 4 rfl)) rfl rfl rfl (nSm rfl isI))
   refine stH rfl (fun ho hS=>?_) ?_
   ·exact inNo rfl (oLd aggR hS 0 rfl rfl (ev rfl (ho 6 rfl)) rfl rfl rfl (nSm rfl isI))
   refine stT rfl (fun hT hS=>?_) ?_
   ·obtain ⟨hv1,hr1⟩:=hT 1 18 rfl rfl
    obtain hS:=hS.flat1 hr1
    exact .inl ⟨wNo rfl,oCl rfl rfl Tryz.call129 rfl ((wsnorm ((hzx.at hS).mono (by omega)) ((hzy.at hS).mono (by omega)) h0 hz2 hz3)) (ar1 (ev rfl hv1)) cNw⟩
   refine stC rfl (fun _ f' _ _ _ _ hT hS _=>?_) ?_
   ·obtain ⟨p2,n2,c2,p3,n3,c3,hv2,hr2⟩:=(hT 2 19 rfl rfl:(Rrt z2 z3) _ _)
    obtain hS:=hS.flat1 hr2
    have hQ:(.agg #[.bool (ng z3),.slice p3 n3 c3]:Value) = (fun (us:List Value) => (.agg #[.bool (ng z3),(vat (us.getD 0 undef) [3])]:Value)) [f' 19]:=by show _ = (.agg #[.bool (ng z3),(vat (f' 19) [3])]:Value); rw [hv2]; rfl
    exact .inl ⟨wNo rfl,ofield (sz:=0) (vs:=[]) (fs:=#[]) (fd:=default) (cs:=[.bool (ng z2),.slice p2 n2 c2,.bool (ng z3),.slice p3 n3 c3]) (v:=.agg #[.bool (ng z3),.slice p3 n3 c3]) rfl rfl (ev rfl hv2) (run_field_agg Tryz.runUnderlying43 rfl aggZ rfl) ⟨_,_,rfl,⟨hQ,rfl⟩,New.same _⟩⟩
   refine stC rfl (fun _ f' _ _ _ _ hT hS _=>?_) ?_
   ·obtain ⟨hv0,hr0⟩:=hT 0 17 rfl rfl
    obtain ⟨p2,n2,c2,p3,n3,c3,hv2,hr2⟩:=(hT 2 19 rfl rfl:(Rrt z2 z3) _ _)
    obtain ⟨hv3,hr3⟩:=(hT 3 20 rfl rfl:(fun (us:List Value) => Is (.agg #[.bool (ng z3),(vat (us.getD 0 undef) [3])])) [f' 19] _ _)
    replace hv3:f' 20 = .agg #[.bool (ng z3),.slice p3 n3 c3]:=hv3.trans (by show (.agg #[.bool (ng z3),(vat (f' 19) [3])]:Value) = _; rw [hv2]; rfl)
    obtain hS:=hS.flat3 hr0 hr2 hr3
    have hQ:([.bool (ng ((facc lcmZ 1 (dens (lows L)) i))),.slice pza nza cza,.bool (ng z3),.slice p3 n3 c3]:List Value) = (fun (us:List Value) => ([.bool (ng ((facc lcmZ 1 (dens (lows L)) i))),.slice pza nza cza,.bool (ng z3),(vat (us.getD 0 undef) [3])]:List Value)) [f' 19]:=by show _ = ([.bool (ng ((facc lcmZ 1 (dens (lows L)) i))),.slice pza nza cza,.bool (ng z3),(vat (f' 19) [3])]:List Value); rw [hv2]; rfl
    exact .inl ⟨wNo rfl,obsliceN (ps:=#[(0,.agg #[.bool (ng ((facc lcmZ 1 (dens (lows L)) i))),.slice pza nza cza]),(1,.agg #[.bool (ng z3),.slice p3 n3 c3])]) (z:=.agg #[.bool false,.slice none 0 0]) [.bool (ng ((facc lcmZ 1 (dens (lows L)) i))),.slice pza nza cza,.bool (ng z3),.slice p3 n3 c3] rfl rfl Tryz.runUnderlying32 Tryz.sizeOf28 Tryz.zeroValue28 (parts2 (ev (v:=.agg #[.bool (ng ((facc lcmZ 1 (dens (lows L)) i))),.slice pza nza cza]) rfl hv0) (ev (v:=.agg #[.bool (ng z3),.slice p3 n3 c3]) rfl hv3)) rfl (by decide) fill2 ⟨_,_,rfl,⟨_,rfl,congrArg (fun l => [Res.blk _ l _]) hQ⟩,New.blk _ _ _⟩⟩
   refine stC rfl (fun _ f' _ ρ _ _ hT hS _=>?_) ?_
   ·obtain ⟨p2,n2,c2,p3,n3,c3,hv2,hr2⟩:=(hT 2 19 rfl rfl:(Rrt z2 z3) _ _)
    obtain ⟨g11,hv4,hr4⟩:=(hT 4 21 rfl rfl:(fun (us:List Value) => Slb [.bool (ng ((facc lcmZ 1 (dens (lows L)) i))),.slice pza nza cza,.bool (ng z3),(vat (us.getD 0 undef) [3])] 28 2) [f' 19] _ _)
    replace hr4 : ρ 4 = [.blk g11 [.bool (ng ((facc lcmZ 1 (dens (lows L)) i))),.slice pza nza cza,.bool (ng z3),.slice p3 n3 c3] 28]:=hr4.trans (by show ([.blk g11 [.bool (ng ((facc lcmZ 1 (dens (lows L)) i))),.slice pza nza cza,.bool (ng z3),(vat (f' 19) [3])] 28]:List Res) = _; rw [hv2]; rfl)
    obtain hS:=hS.flat2 hr2 hr4
    exact .inl ⟨wNo rfl,oCl rfl rfl Tryz.call148 rfl ((wqLcm_two (hS.blkAt 6 rfl) (((hS.sl 2 rfl).zr hkza).mono (by omega)) (((hS.slm 5 rfl).zr hk3).mono (by omega)) hkza hk3 hz4)) (ar1 (ev rfl hv4)) cNw⟩
   exact sNi
  intro vs ρ w12 f' hf hT hS
  obtain ⟨hv0,hr0⟩:=hT 0 (by decide)
  obtain ⟨hv1,hr1⟩:=hT 1 (by decide)
  obtain ⟨p2,n2,c2,p3,n3,c3,hv2,hr2⟩:=(hT 2 (by decide):(Rrt z2 z3) _ _)
  obtain ⟨hv3,hr3⟩:=(hT 3 (by decide):(fun (us:List Value) => Is (.agg #[.bool (ng z3),(vat (us.getD 0 undef) [3])])) [vs 2] _ _)
  replace hv3:vs 3 = .agg #[.bool (ng z3),.slice p3 n3 c3]:=hv3.trans (by show (.agg #[.bool (ng z3),(vat (vs 2) [3])]:Value) = _; rw [hv2]; rfl)
  obtain ⟨g11,hv4,hr4⟩:=(hT 4 (by decide):(fun (us:List Value) => Slb [.bool (ng ((facc lcmZ 1 (dens (lows L)) i))),.slice pza nza cza,.bool (ng z3),(vat (us.getD 0 undef) [3])] 28 2) [vs 2] _ _)
  replace hr4 : ρ 4 = [.blk g11 [.bool (ng ((facc lcmZ 1 (dens (lows L)) i))),.slice pza nza cza,.bool (ng z3),.slice p3 n3 c3] 28]:=hr4.trans (by show ([.blk g11 [.bool (ng ((facc lcmZ 1 (dens (lows L)) i))),.slice pza nza cza,.bool (ng z3),(vat (vs 2) [3])] 28]:List Res) = _; rw [hv2]; rfl)
  obtain ⟨p4,n4,c4,hv5,hr5⟩:=(hT 5 (by decide):(Zt z4) _ _)
  simp only [pool,if_true,hr0,hr1,hr2,hr3,hr4,hr5,List.nil_append,List.cons_append,List.append_nil] at hS
  simp only [layf,hv0,hv1,hv2,hv3,hv4,hv5] at hf
  subst hf; clear hT hv0 hv1 hv2 hv3 hv4 hv5 hr0 hr1 hr2 hr3 hr4 hr5
  refine wLt 6 rfl (by kernel_rfl) (oSt _ _ Tryz.sizeOf28 hS 5 rfl rfl (ev rfl rfl) (ev rfl rfl) rfl rfl rfl rfl rfl rfl ?_)
  clear hS; intro w13 hS
  refine ⟨hNi,?_⟩
  refine wdone rfl ?_
  refine blkN (tNo (wreg ?_))
  obtain rfl:(facc lcmZ 1 (dens (lows L)) (i + 1)) = z4:=(facc_succ (dens_at (low_at hle))).trans (by show lcmZ _ (RD e1.1 e1.2) = _; rw [hz3.out]; exact hz4.out)
  refine wbc (z:=.int .i64 ((i + 1:Nat):Int)) rfl rfl (bAd (wrap_succ (by have:=hl.2.1; omega))) ?_
  refine wmv rfl rfl ?_
  refine wn1 ?_
  exact ⟨(i + 1),⟨_,_,_,_,aSs ⟨rfl,rfl,rfl,rfl,rfl,rfl,rfl,trivial⟩,hS.pick [5,0,7] (by decide) rfl,by omega,hW _ (by omega)⟩,by omega⟩
 refine wbt rfl rfl rfl rfl (bLs (decide_eq_false (by omega))) ?_
 refine wn1 (wSq ?_)
 refine wF (ev rfl rfl) ?_
 refine wEx ?_
 refine tEx ?_
 refine tEx ?_
 refine blkE ?_
 refine tNo (wsr (wavc ?_))
 refine wn1 (wSq (wsr (wmv rfl rfl ?_)))
 refine wl rfl (olen rfl rfl rfl Tryz.runUnderlying39 (p:=pl) (k:=m) (m:=cl) (ev rfl rfl) ?_)
 refine wmvc ?_
 refine wn1 (wBk ?_)
 have him:i = m:=by omega
 obtain ⟨den,hden⟩:∃ d,d = (facc lcmZ 1 (dens (lows L)) m):=⟨_,rfl⟩
 rw [him, ← hden] at hS hkza
 obtain hS:=hS.nilLstC (e:=28) (sz:=2)
 refine wLp (σ := Nat) (fun j a w' => ∃ (fb:Nat → Value) (es:List El) (pn:Option Addr) (cn:Nat),a = act 41 (sets fb [(2,.pointer (some ⟨g1,0,none⟩)),(3,.slice none 0 0),(4,.pointer (some ⟨g4,0,none⟩)),(7,.slice pn j cn),(24,.slice pl m cl),(25,.int .i64 (m:Int)),(26,.int .i64 (j:Int))]) ∧ Sep w [.lst 28 2 pn j cn es,.blk g4 [.bool (ng den),.slice pza nza cza] 28,.row pza nza cza (lim den.natAbs),.blk g1 [.bool false,.slice none 0 0] 28] w' ∧ (j ≤ m) ∧ (NEls (cnum (lows L) den) j es)) (fun j => m - j) (0) ⟨_,_,_,_,aSs ⟨rfl,rfl,rfl,rfl,rfl,rfl,rfl,trivial⟩,hS,Nat.zero_le _,NEls.nil _⟩ ?_
 clear hS; rintro j _ w8 ⟨fb,es,pn,cn,rfl,hS,hj,hes⟩
 refine wsr ?_
 by_cases hlt2:j < m
 ·
  refine wbt rfl rfl rfl rfl (bLs (decide_eq_true (by omega))) ?_
  refine wn1 (wSq ?_)
  refine wT (ev rfl rfl) ?_
  refine wk2 ?_
  obtain ⟨e1,g1x,o1,bx,qx,nx,kx,by1,qy,ny,ky,hle,hp1,hc1,hzx,hzy⟩:=hl.el hlt2
  refine wl rfl (oIx (p:=pl) (g:=g1x) (off:=o1) (m:=m) (k:=j) (j:=(o1 + j * 4)) rfl rfl Tryz.runUnderlying39 Tryz.sizeOf43 (ev rfl rfl) hp1 (ev rfl rfl) hlt2 rfl ?_)
  refine wl rfl (oloadA aggR rfl rfl (ev rfl rfl) (fun j v hj => hS.cellAt (hc1 j v hj)) rfl ?_)
  refine wl rfl (oAl [.bool false,.slice none 0 0,.bool false,.slice none 0 0] hS rfl rfl Tryz.zeroValue43 rfl ?_)
  clear hS; intro g9 w10 hS
  refine wl rfl (oSt _ _ Tryz.sizeOf43 hS 0 rfl rfl (ev rfl rfl) (ev rfl rfl) rfl rfl rfl rfl rfl rfl ?_)
  clear hS; intro w11 hS
  refine wn1 ?_
  have hk2:Wd den 4194304:=hkza
  have hk3:Wd 1 2:=Wd.i64 (by omega) (by omega)
  have h0:=hall e1 (List.mem_of_getElem? hle)
  obtain ⟨z4,hz4⟩:∃ z:Int,Hid (RN (e1.1 * den) (e1.2 * 1) = z):=⟨_,rfl⟩
  have hk4:Wd z4 20971520:=Wd.rn (Wd.mul (m:=20971520) hzx.wd hk2 rfl (by omega)) hz4
  obtain ⟨z5,hz5⟩:∃ z:Int,Hid (RD (e1.1 * den) (e1.2 * 1) = z):=⟨_,rfl⟩
  have hk5:Wd z5 16777218:=Wd.rd (Wd.mul (m:=16777218) hzy.wd hk3 rfl (by omega)) hz5
  refine wSg 7 [30,31,32,33,34,35,36] [[],[],[],[2],[1,3,2],[4,1,2,3],[4,5,1,2,3]] [[],[],[],[],[],[4],[4]] [] [] (fun i9 => ([iSv (.slice pn j cn),iSv (.agg #[.bool bx,.slice qx nx kx,.bool by1,.slice qy ny ky]),iSv (.agg #[.bool (ng den),.slice pza nza cza]),fun _ => Rrt den 1,fun _ => Rrt z4 z5,fun us => Is (.agg #[.bool (ng z4),(vat (us.getD 0 undef) [1])]),fun us => Slb [.bool (ng z4),(vat (us.getD 0 undef) [1])] 28 1]:List (List Value → Tell)).getD i9 (fun _ _ _ => False)) hNi (fun d _ _ _ _ h => (by cases d <;> exact h)) (by kernel_rfl) (by kernel_rfl) (by kernel_rfl) hS ?_ ?_
  ·
   refine stM rfl rfl rfl rfl rfl (fun _=>isI) ?_
   refine stH rfl (fun ho hS=>?_) ?_
   ·exact inNo rfl (oLd aggR hS 0 rfl rfl (ev rfl (ho 9 rfl)) rfl rfl rfl (nSm rfl isI))
   refine stH rfl (fun ho hS=>?_) ?_
   ·exact inNo rfl (oLd aggZ hS 2 rfl rfl (ev rfl (ho 4 rfl)) rfl rfl rfl (nSm rfl isI))
   refine stT rfl (fun hT hS=>?_) ?_
   ·obtain ⟨hv2,hr2⟩:=hT 2 32 rfl rfl
    obtain hS:=hS.flat1 hr2
    exact .inl ⟨wNo rfl,oCl rfl rfl Tryz.call149 rfl (wsint (((hS.sl 3 rfl).zr hkza).mono (by omega))) (ar1 (ev rfl hv2)) cNw⟩
   refine stT rfl (fun hT hS=>?_) ?_
   ·obtain ⟨hv1,hr1⟩:=hT 1 31 rfl rfl
    obtain ⟨p2,n2,c2,p3,n3,c3,hv3,hr3⟩:=(hT 3 33 rfl rfl:(Rrt den 1) _ _)
    obtain hS:=hS.flat2 hr1 hr3
    exact .inl ⟨wNo rfl,oCl rfl rfl Tryz.call51 rfl (wsmul (hzx.at hS) (hzy.at hS) (((hS.slm 5 rfl).zr hk2).mono (by omega)) (((hS.slm 6 rfl).zr hk3).mono (by omega)) h0 (by omega) hz4 hz5) (ar2 (ev rfl hv1) (ev rfl hv3)) cNw⟩
   refine stC rfl (fun _ f' _ _ _ _ hT hS _=>?_) ?_
   ·obtain ⟨p4,n4,c4,p5,n5,c5,hv4,hr4⟩:=(hT 4 34 rfl rfl:(Rrt z4 z5) _ _)
    obtain hS:=hS.flat1 hr4
    have hQ:(.agg #[.bool (ng z4),.slice p4 n4 c4]:Value) = (fun (us:List Value) => (.agg #[.bool (ng z4),(vat (us.getD 0 undef) [1])]:Value)) [f' 34]:=by show _ = (.agg #[.bool (ng z4),(vat (f' 34) [1])]:Value); rw [hv4]; rfl
    exact .inl ⟨wNo rfl,ofield (sz:=0) (vs:=[]) (fs:=#[]) (fd:=default) (cs:=[.bool (ng z4),.slice p4 n4 c4,.bool (ng z5),.slice p5 n5 c5]) (v:=.agg #[.bool (ng z4),.slice p4 n4 c4]) rfl rfl (ev rfl hv4) (run_field_agg Tryz.runUnderlying43 rfl aggZ rfl) ⟨_,_,rfl,⟨hQ,rfl⟩,New.same _⟩⟩
   refine stC rfl (fun _ f' _ _ _ _ hT hS _=>?_) ?_
   ·obtain ⟨p4,n4,c4,p5,n5,c5,hv4,hr4⟩:=(hT 4 34 rfl rfl:(Rrt z4 z5) _ _)
    obtain ⟨hv5,hr5⟩:=(hT 5 35 rfl rfl:(fun (us:List Value) => Is (.agg #[.bool (ng z4),(vat (us.getD 0 undef) [1])])) [f' 34] _ _)
    replace hv5:f' 35 = .agg #[.bool (ng z4),.slice p4 n4 c4]:=hv5.trans (by show (.agg #[.bool (ng z4),(vat (f' 34) [1])]:Value) = _; rw [hv4]; rfl)
    obtain hS:=hS.flat2 hr4 hr5
    have hQ:([.bool (ng z4),.slice p4 n4 c4]:List Value) = (fun (us:List Value) => ([.bool (ng z4),(vat (us.getD 0 undef) [1])]:List Value)) [f' 34]:=by show _ = ([.bool (ng z4),(vat (f' 34) [1])]:List Value); rw [hv4]; rfl
    exact .inl ⟨wNo rfl,obsliceN (ps:=#[(0,.agg #[.bool (ng z4),.slice p4 n4 c4])]) (z:=.agg #[.bool false,.slice none 0 0]) [.bool (ng z4),.slice p4 n4 c4] rfl rfl Tryz.runUnderlying32 Tryz.sizeOf28 Tryz.zeroValue28 (parts1 (ev (v:=.agg #[.bool (ng z4),.slice p4 n4 c4]) rfl hv5)) rfl (by decide) fill2_1 ⟨_,_,rfl,⟨_,rfl,congrArg (fun l => [Res.blk _ l _]) hQ⟩,New.blk _ _ _⟩⟩
   exact sNi
  intro vs ρ w13 f' hf hT hS
  obtain ⟨hv0,hr0⟩:=hT 0 (by decide)
  obtain ⟨hv1,hr1⟩:=hT 1 (by decide)
  obtain ⟨hv2,hr2⟩:=hT 2 (by decide)
  obtain ⟨p2,n2,c2,p3,n3,c3,hv3,hr3⟩:=(hT 3 (by decide):(Rrt den 1) _ _)
  obtain ⟨p4,n4,c4,p5,n5,c5,hv4,hr4⟩:=(hT 4 (by decide):(Rrt z4 z5) _ _)
  obtain ⟨hv5,hr5⟩:=(hT 5 (by decide):(fun (us:List Value) => Is (.agg #[.bool (ng z4),(vat (us.getD 0 undef) [1])])) [vs 4] _ _)
  replace hv5:vs 5 = .agg #[.bool (ng z4),.slice p4 n4 c4]:=hv5.trans (by show (.agg #[.bool (ng z4),(vat (vs 4) [1])]:Value) = _; rw [hv4]; rfl)
  obtain ⟨g12,hv6,hr6⟩:=(hT 6 (by decide):(fun (us:List Value) => Slb [.bool (ng z4),(vat (us.getD 0 undef) [1])] 28 1) [vs 4] _ _)
  replace hr6 : ρ 6 = [.blk g12 [.bool (ng z4),.slice p4 n4 c4] 28]:=hr6.trans (by show ([.blk g12 [.bool (ng z4),(vat (vs 4) [1])] 28]:List Res) = _; rw [hv4]; rfl)
  simp only [pool,if_true,hr0,hr1,hr2,hr3,hr4,hr5,hr6,List.nil_append,List.cons_append,List.append_nil] at hS
  simp only [layf,hv0,hv1,hv2,hv3,hv4,hv5,hv6] at hf
  subst hf; clear hT hv0 hv1 hv2 hv3 hv4 hv5 hv6 hr0 hr1 hr2 hr3 hr4 hr5 hr6
  obtain hS:=(show Sep w [.rowm p4 n4 c4 (lim z4.natAbs),.lst 28 2 pn j cn es,.blk g12 [.bool (ng z4),.slice p4 n4 c4] 28,.rowm p5 n5 c5 (lim z5.natAbs),.rowm p2 n2 c2 (lim den.natAbs),.rowm p3 n3 c3 (lim (1:Int).natAbs),.blk g9 [.bool bx,.slice qx nx kx,.bool by1,.slice qy ny ky] 43,.blk g4 [.bool (ng den),.slice pza nza cza] 28,.row pza nza cza (lim den.natAbs),.blk g1 [.bool false,.slice none 0 0] 28] w13 from hS.pick [1,6,0,2,3,4,5,7,8,9] (by decide) rfl)
  refine wLt 7 rfl (by kernel_rfl) (oappendL (p:=pn) (m:=j) (c:=cn) (g2:=g12) (c2:=1) (off:=0) [.bool (ng z4),.slice p4 n4 c4] [.rowm p4 n4 c4 (lim z4.natAbs)] hS rfl rfl Tryz.underlying32 infoInt rfl (by decide) (ev rfl rfl) (ev rfl rfl) (fun j v hj => by rw [Nat.zero_add]; exact (blk_cell (hS.blkAt 2 rfl) j).trans hj) rfl rfl rfl (by have:=hl.2.1; omega) (by have:=hl.2.1; omega) ?_)
  clear hS; intro p15 c16 w14 hS
  refine ⟨hNi,?_⟩
  refine wLt 8 rfl (by kernel_rfl) (oassign rfl rfl (ev rfl rfl) ?_)
  refine ⟨hNi,?_⟩
  refine wdone rfl ?_
  refine blkN (tNo (wreg (wbc (z:=.int .i64 ((j + 1:Nat):Int)) rfl rfl (bAd (wrap_succ (by have:=hl.2.1; omega))) ?_)))
  refine wmv rfl rfl ?_
  refine wn1 ?_
  exact ⟨(j + 1),⟨_,_,_,_,aSs ⟨rfl,rfl,rfl,rfl,rfl,rfl,rfl,trivial⟩,hS.pick [0,6,7,8] (by decide) rfl,by omega,hes.app (by rw [cnum_at (low_at hle), ← hz4.out]; exact lcm_low h0 (by rw [hden]; exact facc_lcm_mod (dens_at (low_at hle)) hlt2)) _ _ _⟩,by omega⟩
 refine wbt rfl rfl rfl rfl (bLs (decide_eq_false (by omega))) ?_
 refine wn1 (wSq ?_)
 refine wF (ev rfl rfl) ?_
 refine wEx ?_
 refine tEx ?_
 refine tEx ?_
 refine blkE ?_
 refine tNo (wsr (wl rfl (oLd aggZ hS 1 rfl rfl (ev rfl rfl) rfl rfl rfl ?_)))
 refine wmv rfl rfl ?_
 refine wl rfl (oSt _ _ Tryz.sizeOf28 hS 3 rfl rfl (ev rfl rfl) (ev rfl rfl) rfl rfl rfl rfl rfl rfl ?_)
 clear hS; intro w9 hS
 refine wav rfl rfl ?_
 refine wn1 ?_
 refine wLv ?_
 refine wret2 Tryz.results131 (tellC (cs:=[.bool (ng den),.slice pza nza cza]) aggZ hS 3 rfl rfl rfl rfl) (tlT (v:=.slice pn j cn) rfl rfl) ?_
 obtain rfl:j = m:=by omega
 subst hden
 exact ⟨_,_,rfl,⟨_,_,_,_,_,_,hes,rfl,rfl⟩,hS.newM [2,0] (by decide) rfl rfl⟩
open Go.RowKit
theorem RL.mono {w:World} {p:Option Addr} {m K K':Nat} {L:List RawR} (h:RL w p m L K) (hK:K ≤ K'):RL w p m L K':=by
  refine ⟨h.1,h.2.1,fun i z hi => ?_⟩
  obtain ⟨g,off,q,n,k,q2,n2,k2,hp,h1,h2,h3,h4,h5⟩:=h.2.2 i z hi
  exact ⟨g,off,q,n,k,q2,n2,k2,hp,h1,h2,h3,by omega,by omega⟩
end Go.Proofs.YtnlnibngpeempaaGreatDoor
