
/-
  The document's May, Lift and Recon; what every law runs first.
-/
import Derived.Test.YtjbcjlbbipohjaaGreatDoorCrt3
set_option linter.unusedVariables false
set_option linter.unusedSimpArgs false
set_option maxRecDepth 100000
set_option maxHeartbeats 16000000
namespace Go.Proofs.YtjbcjlbbipohjaaGreatDoor
open Go.RowKit
theorem Sl.el {w:World} {p:Option Addr} {n c:Nat} {xs:List Nat} (h:Sl w p n c xs) {i:Nat} (hi:i < n):∃ b off,p = some ⟨b,off,none⟩ ∧ ∀ (j:Nat) (v:Value),[Value.int .u32 ((nd xs i:Nat):Int)][j]? = some v → w.cell? ⟨b,off + i * 1 + j,none⟩ = some v:=by
  obtain ⟨b,off,hp,hc⟩:=h.cell i hi
  refine ⟨b,off,hp,fun j v hj => ?_⟩
  have h1:j = 0:=by have:=(List.getElem?_eq_some_iff.1 hj).1; simp at this; omega
  subst h1
  simp at hj
  subst hj
  rw [Nat.mul_one]; exact hc
theorem cmpN_neT {a b:Nat} {s:Int} (h:Hid (cmpN a b = s)) (hab:a ≠ b):(s != 0) = true:=by
  have h2:=h.out
  rcases Nat.lt_trichotomy a b with h1 | h1 | h1
  · rw [cmpN_lt h1] at h2; exact neT (by omega)
  · exact absurd h1 hab
  · rw [cmpN_gt h1] at h2; exact neT (by omega)
theorem wfmay {pv pm:Option Addr} {nv cv nm cm v m k1 k2:Nat} {w:World} (hv:Nr w pv nv cv v k1) (hm:Nr w pm nm cm m k2) (hlt:v < m) :
  Calls Tryz.prog 34 #[.slice pv nv cv,.slice pm nm cm] w (Ret (Is (.bool true)) w):=by
 have hS:=Sep.init w
 refine went Tryz.func34 rfl (n:=9) rfl rfl ?_
 refine wseq (wreg (wl rfl (oassign (v:=.bool false) rfl rfl evc ?_)))
 refine wnil (thenN (wseq (wreg (wl rfl (omove (v:=.slice pv nv cv) rfl rfl (ev rfl rfl) ?_)))))
 refine wl rfl (omove (v:=.slice pm nm cm) rfl rfl (ev rfl rfl) ?_)
 obtain ⟨s1,hs1⟩:∃ z:Int,Hid (cmpN v m = z):=⟨_,rfl⟩
 refine wl rfl (ocall rfl rfl Tryz.call20 rfl (wmcmp (hv.at hS) (hm.at hS) hs1) (args2 (ev rfl rfl) (ev rfl rfl)) ?_)
 rintro _ w1 ⟨_,_,rfl,⟨rfl,rfl⟩,hN⟩
 refine ⟨_,rfl,?_⟩
 replace hS:=hS.news hN; clear hN
 refine wl rfl (obin (u:=.int .i64 s1) (v:=.int .i64 0) (z:=.bool true) rfl rfl (ev rfl rfl) evc (bin_lss (decide_eq_true (by rw [← hs1.out]; have:=cmpN_below hlt; omega))) ?_)
 refine wl rfl (oassign (v:=.bool true) rfl rfl (ev rfl rfl) ?_)
 refine wnil (thenN ?_)
 refine wleave ?_
 refine wret1 Tryz.results34 (tellT (v:=.bool true) rfl rfl) ?_
 exact ⟨_,_,rfl,isI,hS.new0⟩
theorem wfmayN {pv pm:Option Addr} {nv cv nm cm v m k1 k2:Nat} {w:World} (hv:Nr w pv nv cv v k1) (hm:Nr w pm nm cm m k2) (hlt:¬ v < m) :
  Calls Tryz.prog 34 #[.slice pv nv cv,.slice pm nm cm] w (Ret (Is (.bool false)) w):=by
 have hS:=Sep.init w
 refine went Tryz.func34 rfl (n:=9) rfl rfl ?_
 refine wseq (wreg (wl rfl (oassign (v:=.bool false) rfl rfl evc ?_)))
 refine wnil (thenN (wseq (wreg (wl rfl (omove (v:=.slice pv nv cv) rfl rfl (ev rfl rfl) ?_)))))
 refine wl rfl (omove (v:=.slice pm nm cm) rfl rfl (ev rfl rfl) ?_)
 obtain ⟨s1,hs1⟩:∃ z:Int,Hid (cmpN v m = z):=⟨_,rfl⟩
 refine wl rfl (ocall rfl rfl Tryz.call20 rfl (wmcmp (hv.at hS) (hm.at hS) hs1) (args2 (ev rfl rfl) (ev rfl rfl)) ?_)
 rintro _ w1 ⟨_,_,rfl,⟨rfl,rfl⟩,hN⟩
 refine ⟨_,rfl,?_⟩
 replace hS:=hS.news hN; clear hN
 refine wl rfl (obin (u:=.int .i64 s1) (v:=.int .i64 0) (z:=.bool false) rfl rfl (ev rfl rfl) evc (bin_lss (decide_eq_false (by rw [← hs1.out]; have:=cmpN_not_below (show m ≤ v by omega); omega))) ?_)
 refine wl rfl (oassign (v:=.bool false) rfl rfl (ev rfl rfl) ?_)
 refine wnil (thenN ?_)
 refine wleave ?_
 refine wret1 Tryz.results34 (tellT (v:=.bool false) rfl rfl) ?_
 exact ⟨_,_,rfl,isI,hS.new0⟩
theorem wlnum6 {e:Int} {w:World} :
  Calls Tryz.prog 13 #[.int .i64 e] w (Ret (Is (.int .i64 e)) w):=by
 have hS:=Sep.init w
 refine went Tryz.func13 rfl (n:=4) rfl rfl ?_
 refine wseq (wreg (wl rfl (oassign (v:=.int .i64 0) rfl rfl evc ?_)))
 refine wnil (thenN (wseq (wreg (wl rfl (omove (v:=.int .i64 e) rfl rfl (ev rfl rfl) ?_)))))
 refine wl rfl (oassign (v:=.int .i64 e) rfl rfl (ev rfl rfl) ?_)
 refine wnil (thenN ?_)
 refine wleave ?_
 refine wret1 Tryz.results13 (tellT (v:=.int .i64 e) rfl rfl) ?_
 exact ⟨_,_,rfl,isI,hS.new0⟩
theorem wlsame6 {pa pb:Option Addr} {na ca nb cb x y:Nat} {w:World} (hx:Sl w pa na ca (lim x)) (hy:Nr w pb nb cb y 4294967296) (he:x = y) :
  Calls Tryz.prog 21 #[.slice pa na ca,.slice pb nb cb] w (Ret (Is (.bool true)) w):=by
 have hS:=Sep.init w
 refine went Tryz.func21 rfl (n:=9) rfl rfl ?_
 refine wseq (wreg (wl rfl (oassign (v:=.bool false) rfl rfl evc ?_)))
 refine wnil (thenN (wseq (wreg (wl rfl (omove (v:=.slice pa na ca) rfl rfl (ev rfl rfl) ?_)))))
 refine wl rfl (omove (v:=.slice pb nb cb) rfl rfl (ev rfl rfl) ?_)
 have hkx1:ll y ≤ 4294967296:=hy.ll
 refine wl rfl (ocall rfl rfl Tryz.call75 rfl (wmnorm (hy.at hS)) (args1 (ev rfl rfl)) ?_)
 rintro _ w1 ⟨_,_,rfl,⟨p1,n1,c1,rfl,rfl⟩,hN⟩
 refine ⟨_,rfl,?_⟩
 replace hS:=hS.news hN; clear hN
 refine wl rfl (ocall rfl rfl Tryz.call74 rfl (wmsame (hx.below hS.below (Nat.le_refl _)) (hS.sl 0 rfl) he) (args2 (ev rfl rfl) (ev rfl rfl)) ?_)
 rintro _ w2 ⟨_,_,rfl,⟨rfl,rfl⟩,hN⟩
 refine ⟨_,rfl,?_⟩
 replace hS:=hS.news hN; clear hN
 refine wl rfl (oassign (v:=.bool true) rfl rfl (ev rfl rfl) ?_)
 refine wnil (thenN ?_)
 refine wleave ?_
 refine wret1 Tryz.results21 (tellT (v:=.bool true) rfl rfl) ?_
 exact ⟨_,_,rfl,isI,hS.new0⟩
theorem RS.two {w:World} {g:Nat} {t:TypeId} {a b c d:Nat} (h:w.heap[g]? = some (.cells [.int .u32 ((a:Nat):Int),.int .u32 ((b:Nat):Int),.int .u32 ((c:Nat):Int),.int .u32 ((d:Nat):Int)].toArray t)):RS w (some ⟨g,0,none⟩) 2 [(a,b),(c,d)]:=by
 refine ⟨rfl,(fun h => by cases h),fun i x hx => ⟨g,0,rfl,fun j v hj => ?_⟩⟩
 have hi:i < 2:=(List.getElem?_eq_some_iff.1 hx).1
 have hj2:j < 2:=(List.getElem?_eq_some_iff.1 hj).1
 have hb:=box_cells h
 match i,hi with
 | 0,_ => simp at hx; subst hx; exact hb j v (by match j,hj2 with | 0,_ => exact hj | 1,_ => exact hj)
 | 1,_ =>
  simp at hx; subst hx
  have h2:=hb (2 + j) v (by match j,hj2 with | 0,_ => exact hj | 1,_ => exact hj)
  rwa [show 0 + (2 + j) = 0 + 1 * 2 + j by omega] at h2
theorem pr3:MR.Pr 3:=⟨by decide,fun d hd => by
  have h1:=Nat.le_of_dvd (by decide) hd
  match d,h1 with
  | 0,_ => exact absurd hd (by decide)
  | 1,_ => exact .inl rfl
  | 2,_ => exact absurd hd (by decide)
  | 3,_ => exact .inr rfl⟩
theorem pr5:MR.Pr 5:=⟨by decide,fun d hd => by
  have h1:=Nat.le_of_dvd (by decide) hd
  match d,h1 with
  | 0,_ => exact absurd hd (by decide)
  | 1,_ => exact .inl rfl
  | 2,_ => exact absurd hd (by decide)
  | 3,_ => exact absurd hd (by decide)
  | 4,_ => exact absurd hd (by decide)
  | 5,_ => exact .inr rfl⟩
theorem wcof_aw {p:Option Addr} {c:Nat} {w:World} (ht:Tb w) (hL:RS w p 2 [(2,3),(3,5)]):Calls Tryz.prog 18 #[.slice p 2 c] w (Ret (NNEt 8 15 0) w):=by
  have h:=wcof (c:=c) ht hL (by intro x hx; simp at hx; rcases hx with rfl | rfl <;> decide) (by decide) ⟨by intro x hx; simp at hx; rcases hx with rfl | rfl; exact pr3; exact pr5,by decide⟩
  rwa [show cv [(2,3),(3,5)] = (8,15) by decide] at h
theorem wcrecon_aw {pv pm pb:Option Addr} {nv cv' nm cm nb cb:Nat} {w:World} (hv:Nr w pv nv cv' 51 2097152) (hm:Nr w pm nm cm 101 2097152) (hb:Nr w pb nb cb 7 2097152):Calls Tryz.prog 15 #[.slice pv nv cv',.slice pm nm cm,.slice pb nb cb] w (Ret (RWt 1 2 0) w):=by
  have h:=wcrecon hv hm hb (by decide)
  rwa [show rcx 51 101 7 = 1 by decide,show rcy 51 101 7 = 2 by decide] at h
theorem wlawake6 {w:World} (ht:Tb w) :
  Calls Tryz.prog 14 #[] w (Ret (Is (.bool true)) w):=by
 have hS:=Sep.init w
 refine went Tryz.func14 rfl (n:=46) rfl rfl ?_
 refine wseq (wreg (wl rfl (oassign (v:=.bool false) rfl rfl evc ?_)))
 refine wnil (thenN (wseq (wreg (wl rfl (obuild (ps:=#[(0,.int .u32 2),(1,.int .u32 3)]) (v:=.agg #[.int .u32 2,.int .u32 3]) rfl rfl (parts2 (evc (v:=.int .u32 2)) (evc (v:=.int .u32 3))) (fun w => by simp [go_sem,Instr.build,Instr.fill]) ?_)))))
 refine wl rfl (obuild (ps:=#[(0,.int .u32 3),(1,.int .u32 5)]) (v:=.agg #[.int .u32 3,.int .u32 5]) rfl rfl (parts2 (evc (v:=.int .u32 3)) (evc (v:=.int .u32 5))) (fun w => by simp [go_sem,Instr.build,Instr.fill]) ?_)
 refine wl rfl (obslice (ps:=#[(0,.agg #[.int .u32 2,.int .u32 3]),(1,.agg #[.int .u32 3,.int .u32 5])]) (z:=.agg #[.int .u32 0,.int .u32 0]) [.int .u32 2,.int .u32 3,.int .u32 3,.int .u32 5] hS rfl rfl Tryz.runUnderlying37 Tryz.sizeOf42 Tryz.zeroValue42 (parts2 (ev (v:=.agg #[.int .u32 2,.int .u32 3]) rfl rfl) (ev (v:=.agg #[.int .u32 3,.int .u32 5]) rfl rfl)) rfl (by decide) fill2 ?_)
 clear hS; intro g1 w2 hS
 refine wl rfl (ocall rfl rfl Tryz.call18 rfl (wcof_aw (ht.at hS) (RS.two (hS.blkAt 0 rfl))) (args1 (ev rfl rfl)) ?_)
 rintro _ w3 ⟨_,_,rfl,⟨pva,nva,cva,pvb,nvb,cvb,rfl,rfl⟩,hN⟩
 refine ⟨_,rfl,?_⟩
 replace hS:=hS.news hN; clear hN
 refine wl rfl (omove (v:=.tuple #[.slice pva nva cva,.slice pvb nvb cvb,.int .i64 0]) rfl rfl (ev rfl rfl) ?_)
 refine wl rfl (oextract (vs:=[.slice pva nva cva,.slice pvb nvb cvb,.int .i64 0]) (v:=.slice pva nva cva) rfl rfl (ev rfl rfl) rfl ?_)
 refine wl rfl (oextract (vs:=[.slice pva nva cva,.slice pvb nvb cvb,.int .i64 0]) (v:=.slice pvb nvb cvb) rfl rfl (ev rfl rfl) rfl ?_)
 refine wl rfl (oextract (vs:=[.slice pva nva cva,.slice pvb nvb cvb,.int .i64 0]) (v:=.int .i64 0) rfl rfl (ev rfl rfl) rfl ?_)
 refine wl rfl (oassign (v:=.slice pva nva cva) rfl rfl (ev rfl rfl) ?_)
 refine wl rfl (oassign (v:=.slice pvb nvb cvb) rfl rfl (ev rfl rfl) ?_)
 refine wl rfl (oassign (v:=.int .i64 0) rfl rfl (ev rfl rfl) ?_)
 refine wnil (thenN (wseq (wreg (wl rfl (obslice (ps:=#[(0,.int .u32 51)]) (z:=.int .u32 0) [.int .u32 51] hS rfl rfl Tryz.runUnderlying26 Tryz.sizeOf40 Tryz.zeroValue40 (parts1 (evc (v:=.int .u32 51))) rfl (by decide) fill1_1 ?_)))))
 clear hS; intro g4 w5 hS
 refine wl rfl (obslice (ps:=#[(0,.int .u32 101)]) (z:=.int .u32 0) [.int .u32 101] hS rfl rfl Tryz.runUnderlying26 Tryz.sizeOf40 Tryz.zeroValue40 (parts1 (evc (v:=.int .u32 101))) rfl (by decide) fill1_1 ?_)
 clear hS; intro g6 w7 hS
 refine wl rfl (obslice (ps:=#[(0,.int .u32 7)]) (z:=.int .u32 0) [.int .u32 7] hS rfl rfl Tryz.runUnderlying26 Tryz.sizeOf40 Tryz.zeroValue40 (parts1 (evc (v:=.int .u32 7))) rfl (by decide) fill1_1 ?_)
 clear hS; intro g8 w9 hS
 refine wl rfl (ocall rfl rfl Tryz.call15 rfl (wcrecon_aw ((Nr.blk (x:=51) (hS.blkAt 2 rfl) (by omega) (by omega)).mono (by omega)) ((Nr.blk (x:=101) (hS.blkAt 1 rfl) (by omega) (by omega)).mono (by omega)) ((Nr.blk (x:=7) (hS.blkAt 0 rfl) (by omega) (by omega)).mono (by omega))) (args3 (ev rfl rfl) (ev rfl rfl) (ev rfl rfl)) ?_)
 rintro _ w10 ⟨_,_,rfl,⟨pra,nra,cra,prb,nrb,crb,rfl,rfl⟩,hN⟩
 refine ⟨_,rfl,?_⟩
 replace hS:=hS.news hN; clear hN
 refine wl rfl (omove (v:=.tuple #[.agg #[.bool (ng 1),.slice pra nra cra,.bool (ng 2),.slice prb nrb crb],.int .i64 0]) rfl rfl (ev rfl rfl) ?_)
 refine wl rfl (oextract (vs:=[.agg #[.bool (ng 1),.slice pra nra cra,.bool (ng 2),.slice prb nrb crb],.int .i64 0]) (v:=.agg #[.bool (ng 1),.slice pra nra cra,.bool (ng 2),.slice prb nrb crb]) rfl rfl (ev rfl rfl) rfl ?_)
 refine wl rfl (oextract (vs:=[.agg #[.bool (ng 1),.slice pra nra cra,.bool (ng 2),.slice prb nrb crb],.int .i64 0]) (v:=.int .i64 0) rfl rfl (ev rfl rfl) rfl ?_)
 refine wl rfl (oalloc [.bool false,.slice none 0 0,.bool false,.slice none 0 0] hS rfl rfl Tryz.zeroValue30 rfl ?_)
 clear hS; intro g11 w12 hS
 refine wl rfl (ostore [.bool (ng 1),.slice pra nra cra,.bool (ng 2),.slice prb nrb crb] [.bool (ng 1),.slice pra nra cra,.bool (ng 2),.slice prb nrb crb] Tryz.sizeOf30 hS 0 rfl rfl (ev rfl rfl) (ev (v:=.agg #[.bool (ng 1),.slice pra nra cra,.bool (ng 2),.slice prb nrb crb]) rfl rfl) rfl rfl rfl rfl rfl rfl ?_)
 clear hS; intro w13 hS
 refine wl rfl (oassign (v:=.int .i64 0) rfl rfl (ev rfl rfl) ?_)
 refine wnil (thenN (wseq ?_))
 have hk1:Wd 1 2:=Wd.i64 (by omega) (by omega)
 have hk2:Wd 2 2:=Wd.i64 (by omega) (by omega)
 have hkra:Wd 1 2:=Wd.i64 (by omega) (by omega)
 have hkrb:Wd 2 2:=Wd.i64 (by omega) (by omega)
 obtain ⟨z3,hz3⟩:∃ z:Int,Hid (RN 1 2 = z):=⟨_,rfl⟩
 have hk3:Wd z3 2:=Wd.rn hk1 hz3
 obtain ⟨z4,hz4⟩:∃ z:Int,Hid (RD 1 2 = z):=⟨_,rfl⟩
 have hk4:Wd z4 2:=Wd.rd hk2 hz4
 refine wstage 26 [21,22,23,24,25,26,27,28,29,30,31,32,33,34,35,36,37,38,39,40,41,42,43,44,45,0] [[],[0],[1,0],[2,0,1],[3,0,1,2],[3,0,1,2],[3,4,5,0,1,2],[3,6,0,1,2,4,5],[7,0,1,2,3,4,5,6],[8,0,1,2,3,4,5,6,7],[8,0,1,2,3,4,5,6,7],[8,9,10,0,1,2,3,4,5,6,7],[8,11,0,1,2,3,4,5,6,7,9,10],[12,0,1,2,3,4,5,6,7,8,9,10,11],[13,0,1,2,3,4,5,6,7,8,9,10,11,12],[13,14,0,1,2,3,4,5,6,7,8,9,10,11,12],[13,15,0,1,2,3,4,5,6,7,8,9,10,11,12,14],[13,16,0,1,2,3,4,5,6,7,8,9,10,11,12,14,15],[17,0,1,2,3,4,5,6,7,8,9,10,11,12,13,14,15,16],[18,0,1,2,3,4,5,6,7,8,9,10,11,12,13,14,15,16,17],[18,0,1,2,3,4,5,6,7,8,9,10,11,12,13,14,15,16,17],[18,0,1,2,3,4,5,6,7,8,9,10,11,12,13,14,15,16,17,20],[18,20,21,0,1,2,3,4,5,6,7,8,9,10,11,12,13,14,15,16,17],[18,19,22,0,1,2,3,4,5,6,7,8,9,10,11,12,13,14,15,16,17,20,21],[18,23,0,1,2,3,4,5,6,7,8,9,10,11,12,13,14,15,16,17,19,20,21,22],[24,0,1,2,3,4,5,6,7,8,9,10,11,12,13,14,15,16,17,18,19,20,21,22,23]] [[],[],[],[],[],[],[],[],[],[],[],[],[],[],[],[],[],[],[],[],[],[],[],[],[],[]] [] [] (fun i9 => ([fun _ => Is (.int .i64 0),fun _ => Is (.int .i64 0),fun _ => Is (.bool true),fun _ => Is (.bool true),fun _ => Is (.slice pva nva cva),fun _ => Slb [.int .u32 8] 40 1,fun _ => Is (.bool true),fun _ => Is (.bool true),fun _ => Is (.bool true),fun _ => Is (.slice pvb nvb cvb),fun _ => Slb [.int .u32 15] 40 1,fun _ => Is (.bool true),fun _ => Is (.bool true),fun _ => Is (.bool true),fun _ => Is (.int .i64 0),fun _ => Is (.int .i64 0),fun _ => Is (.bool true),fun _ => Is (.bool true),fun _ => Is (.bool true),fun _ => Is (.agg #[.bool (ng 1),.slice pra nra cra,.bool (ng 2),.slice prb nrb crb]),fun _ => Zt 1,fun _ => Zt 2,fun _ => Rrt z3 z4,fun _ => Is (.bool true),fun _ => Is (.bool true),fun _ => Is (.bool true)]:List (List Value → Tell)).getD i9 (fun _ _ _ => False)) (heldNil) (fun d _ _ _ _ h => (by cases d <;> exact h)) (by kernel_rfl) (by kernel_rfl) (by kernel_rfl) hS ?_ ?_
 ·
  refine stepsCons rfl (fun Q f' w' ρ S ho hT hS hB => ?_) ?_
  ·exact .inl ⟨want_none rfl,omove (v:=.int .i64 0) rfl rfl (ev rfl (ho 3 rfl)) ⟨_,_,rfl,isI,New.same _⟩⟩
  refine stepsCons rfl (fun Q f' w' ρ S ho hT hS hB => ?_) ?_
  ·obtain ⟨hv0,hr0⟩:=(hT 0 21 rfl rfl:(Is (.int .i64 0)) _ _)
   obtain hS:=hS.flat1 hr0
   exact .inl ⟨want_none rfl,ocall rfl rfl Tryz.call13 rfl (wlnum6) (args1 (ev rfl hv0)) callN⟩
  refine stepsCons rfl (fun Q f' w' ρ S ho hT hS hB => ?_) ?_
  ·obtain ⟨hv1,hr1⟩:=(hT 1 22 rfl rfl:(Is (.int .i64 0)) _ _)
   obtain hS:=hS.flat1 hr1
   exact .inl ⟨want_none rfl,obin (u:=.int .i64 0) (v:=.int .i64 0) (z:=.bool true) rfl rfl (ev rfl hv1) evc (bin_eql (by decide)) ⟨_,_,rfl,isI,New.same _⟩⟩
  refine stepsCons rfl (fun Q f' w' ρ S ho hT hS hB => ?_) ?_
  ·obtain ⟨hv2,hr2⟩:=(hT 2 23 rfl rfl:(Is (.bool true)) _ _)
   obtain hS:=hS.flat1 hr2
   exact .inl ⟨want_none rfl,omove (v:=.bool true) rfl rfl (ev rfl hv2) ⟨_,_,rfl,isI,New.same _⟩⟩
  refine stepsCons rfl (fun Q f' w' ρ S ho hT hS hB => ?_) ?_
  ·obtain ⟨hv3,hr3⟩:=(hT 3 24 rfl rfl:(Is (.bool true)) _ _)
   obtain hS:=hS.flat1 hr3
   exact .inl ⟨want_on (e:=24) rfl rfl rfl hv3,omove (v:=.slice pva nva cva) rfl rfl (ev rfl (ho 1 rfl)) ⟨_,_,rfl,isI,New.same _⟩⟩
  refine stepsCons rfl (fun Q f' w' ρ S ho hT hS hB => ?_) ?_
  ·obtain ⟨hv3,hr3⟩:=(hT 3 24 rfl rfl:(Is (.bool true)) _ _)
   obtain hS:=hS.flat1 hr3
   exact .inl ⟨want_on (e:=24) rfl rfl rfl hv3,obsliceN (ps:=#[(0,.int .u32 8)]) (z:=.int .u32 0) [.int .u32 8] rfl rfl Tryz.runUnderlying26 Tryz.sizeOf40 Tryz.zeroValue40 (parts1 (evc (v:=.int .u32 8))) rfl (by decide) fill1_1 ⟨_,_,rfl,⟨_,rfl,rfl⟩,New.blk _ _ _⟩⟩
  refine stepsCons rfl (fun Q f' w' ρ S ho hT hS hB => ?_) ?_
  ·obtain ⟨hv3,hr3⟩:=(hT 3 24 rfl rfl:(Is (.bool true)) _ _)
   obtain ⟨hv4,hr4⟩:=(hT 4 25 rfl rfl:(Is (.slice pva nva cva)) _ _)
   obtain ⟨g14,hv5,hr5⟩:=(hT 5 26 rfl rfl:(Slb [.int .u32 8] 40 1) _ _)
   obtain hS:=hS.flat3 hr3 hr4 hr5
   exact .inl ⟨want_on (e:=24) rfl rfl rfl hv3,ocall rfl rfl Tryz.call21 rfl (wlsame6 (x:=8) (y:=8) (hS.slm 6 rfl) ((Nr.blk (x:=8) (hS.blkAt 9 rfl) (by omega) (by omega)).mono (by omega)) (rfl)) (args2 (ev rfl hv4) (ev rfl hv5)) callN⟩
  refine stepsCons rfl (fun Q f' w' ρ S ho hT hS hB => ?_) ?_
  ·obtain ⟨hv3,hr3⟩:=(hT 3 24 rfl rfl:(Is (.bool true)) _ _)
   obtain ⟨hv6,hr6⟩:=(hT 6 27 rfl rfl:(Is (.bool true)) _ _)
   obtain hS:=hS.flat2 hr3 hr6
   exact .inl ⟨want_none rfl,opick (b:=true) (v:=.bool true) rfl rfl (ev rfl hv3) (ev rfl hv6) ⟨_,_,rfl,isI,New.same _⟩⟩
  refine stepsCons rfl (fun Q f' w' ρ S ho hT hS hB => ?_) ?_
  ·obtain ⟨hv7,hr7⟩:=(hT 7 28 rfl rfl:(Is (.bool true)) _ _)
   obtain hS:=hS.flat1 hr7
   exact .inl ⟨want_none rfl,omove (v:=.bool true) rfl rfl (ev rfl hv7) ⟨_,_,rfl,isI,New.same _⟩⟩
  refine stepsCons rfl (fun Q f' w' ρ S ho hT hS hB => ?_) ?_
  ·obtain ⟨hv8,hr8⟩:=(hT 8 29 rfl rfl:(Is (.bool true)) _ _)
   obtain hS:=hS.flat1 hr8
   exact .inl ⟨want_on (e:=29) rfl rfl rfl hv8,omove (v:=.slice pvb nvb cvb) rfl rfl (ev rfl (ho 2 rfl)) ⟨_,_,rfl,isI,New.same _⟩⟩
  refine stepsCons rfl (fun Q f' w' ρ S ho hT hS hB => ?_) ?_
  ·obtain ⟨hv8,hr8⟩:=(hT 8 29 rfl rfl:(Is (.bool true)) _ _)
   obtain hS:=hS.flat1 hr8
   exact .inl ⟨want_on (e:=29) rfl rfl rfl hv8,obsliceN (ps:=#[(0,.int .u32 15)]) (z:=.int .u32 0) [.int .u32 15] rfl rfl Tryz.runUnderlying26 Tryz.sizeOf40 Tryz.zeroValue40 (parts1 (evc (v:=.int .u32 15))) rfl (by decide) fill1_1 ⟨_,_,rfl,⟨_,rfl,rfl⟩,New.blk _ _ _⟩⟩
  refine stepsCons rfl (fun Q f' w' ρ S ho hT hS hB => ?_) ?_
  ·obtain ⟨hv8,hr8⟩:=(hT 8 29 rfl rfl:(Is (.bool true)) _ _)
   obtain ⟨hv9,hr9⟩:=(hT 9 30 rfl rfl:(Is (.slice pvb nvb cvb)) _ _)
   obtain ⟨g15,hv10,hr10⟩:=(hT 10 31 rfl rfl:(Slb [.int .u32 15] 40 1) _ _)
   obtain hS:=hS.flat3 hr8 hr9 hr10
   exact .inl ⟨want_on (e:=29) rfl rfl rfl hv8,ocall rfl rfl Tryz.call21 rfl (wlsame6 (x:=15) (y:=15) (hS.slm 7 rfl) ((Nr.blk (x:=15) (hS.blkAt 9 rfl) (by omega) (by omega)).mono (by omega)) (rfl)) (args2 (ev rfl hv9) (ev rfl hv10)) callN⟩
  refine stepsCons rfl (fun Q f' w' ρ S ho hT hS hB => ?_) ?_
  ·obtain ⟨hv8,hr8⟩:=(hT 8 29 rfl rfl:(Is (.bool true)) _ _)
   obtain ⟨hv11,hr11⟩:=(hT 11 32 rfl rfl:(Is (.bool true)) _ _)
   obtain hS:=hS.flat2 hr8 hr11
   exact .inl ⟨want_none rfl,opick (b:=true) (v:=.bool true) rfl rfl (ev rfl hv8) (ev rfl hv11) ⟨_,_,rfl,isI,New.same _⟩⟩
  refine stepsCons rfl (fun Q f' w' ρ S ho hT hS hB => ?_) ?_
  ·obtain ⟨hv12,hr12⟩:=(hT 12 33 rfl rfl:(Is (.bool true)) _ _)
   obtain hS:=hS.flat1 hr12
   exact .inl ⟨want_none rfl,omove (v:=.bool true) rfl rfl (ev rfl hv12) ⟨_,_,rfl,isI,New.same _⟩⟩
  refine stepsCons rfl (fun Q f' w' ρ S ho hT hS hB => ?_) ?_
  ·obtain ⟨hv13,hr13⟩:=(hT 13 34 rfl rfl:(Is (.bool true)) _ _)
   obtain hS:=hS.flat1 hr13
   exact .inl ⟨want_on (e:=34) rfl rfl rfl hv13,omove (v:=.int .i64 0) rfl rfl (ev rfl (ho 5 rfl)) ⟨_,_,rfl,isI,New.same _⟩⟩
  refine stepsCons rfl (fun Q f' w' ρ S ho hT hS hB => ?_) ?_
  ·obtain ⟨hv13,hr13⟩:=(hT 13 34 rfl rfl:(Is (.bool true)) _ _)
   obtain ⟨hv14,hr14⟩:=(hT 14 35 rfl rfl:(Is (.int .i64 0)) _ _)
   obtain hS:=hS.flat2 hr13 hr14
   exact .inl ⟨want_on (e:=34) rfl rfl rfl hv13,ocall rfl rfl Tryz.call13 rfl (wlnum6) (args1 (ev rfl hv14)) callN⟩
  refine stepsCons rfl (fun Q f' w' ρ S ho hT hS hB => ?_) ?_
  ·obtain ⟨hv13,hr13⟩:=(hT 13 34 rfl rfl:(Is (.bool true)) _ _)
   obtain ⟨hv15,hr15⟩:=(hT 15 36 rfl rfl:(Is (.int .i64 0)) _ _)
   obtain hS:=hS.flat2 hr13 hr15
   exact .inl ⟨want_on (e:=34) rfl rfl rfl hv13,obin (u:=.int .i64 0) (v:=.int .i64 0) (z:=.bool true) rfl rfl (ev rfl hv15) evc (bin_eql (by decide)) ⟨_,_,rfl,isI,New.same _⟩⟩
  refine stepsCons rfl (fun Q f' w' ρ S ho hT hS hB => ?_) ?_
  ·obtain ⟨hv13,hr13⟩:=(hT 13 34 rfl rfl:(Is (.bool true)) _ _)
   obtain ⟨hv16,hr16⟩:=(hT 16 37 rfl rfl:(Is (.bool true)) _ _)
   obtain hS:=hS.flat2 hr13 hr16
   exact .inl ⟨want_none rfl,opick (b:=true) (v:=.bool true) rfl rfl (ev rfl hv13) (ev rfl hv16) ⟨_,_,rfl,isI,New.same _⟩⟩
  refine stepsCons rfl (fun Q f' w' ρ S ho hT hS hB => ?_) ?_
  ·obtain ⟨hv17,hr17⟩:=(hT 17 38 rfl rfl:(Is (.bool true)) _ _)
   obtain hS:=hS.flat1 hr17
   exact .inl ⟨want_none rfl,omove (v:=.bool true) rfl rfl (ev rfl hv17) ⟨_,_,rfl,isI,New.same _⟩⟩
  refine stepsCons rfl (fun Q f' w' ρ S ho hT hS hB => ?_) ?_
  ·obtain ⟨hv18,hr18⟩:=(hT 18 39 rfl rfl:(Is (.bool true)) _ _)
   obtain hS:=hS.flat1 hr18
   exact .inl ⟨want_on (e:=39) rfl rfl rfl hv18,oload (vs:=[.bool (ng 1),.slice pra nra cra,.bool (ng 2),.slice prb nrb crb]) aggR hS 0 rfl rfl (ev rfl (ho 4 rfl)) rfl rfl rfl ⟨_,_,rfl,isI,New.same _⟩⟩
  refine stepsCons rfl (fun Q f' w' ρ S ho hT hS hB => ?_) ?_
  ·obtain ⟨hv18,hr18⟩:=(hT 18 39 rfl rfl:(Is (.bool true)) _ _)
   obtain hS:=hS.flat1 hr18
   exact .inl ⟨want_on (e:=39) rfl rfl rfl hv18,ocall rfl rfl Tryz.call55 rfl (wqof (z:=1) (by omega) (by omega)) (args1 evc) callN⟩
  refine stepsCons rfl (fun Q f' w' ρ S ho hT hS hB => ?_) ?_
  ·obtain ⟨hv18,hr18⟩:=(hT 18 39 rfl rfl:(Is (.bool true)) _ _)
   obtain hS:=hS.flat1 hr18
   exact .inl ⟨want_on (e:=39) rfl rfl rfl hv18,ocall rfl rfl Tryz.call55 rfl (wqof (z:=2) (by omega) (by omega)) (args1 evc) callN⟩
  refine stepsCons rfl (fun Q f' w' ρ S ho hT hS hB => ?_) ?_
  ·obtain ⟨hv18,hr18⟩:=(hT 18 39 rfl rfl:(Is (.bool true)) _ _)
   obtain ⟨p1,n1,c1,hv20,hr20⟩:=(hT 20 41 rfl rfl:(Zt 1) _ _)
   obtain ⟨p2,n2,c2,hv21,hr21⟩:=(hT 21 42 rfl rfl:(Zt 2) _ _)
   obtain hS:=hS.flat3 hr18 hr20 hr21
   exact .inl ⟨want_on (e:=39) rfl rfl rfl hv18,ocall rfl rfl Tryz.call54 rfl (wsmake (((hS.sl 9 rfl).zr hk1).mono (by omega)) (((hS.sl 10 rfl).zr hk2).mono (by omega)) (by omega) hz3 hz4) (args2 (ev rfl hv20) (ev rfl hv21)) callN⟩
  refine stepsCons rfl (fun Q f' w' ρ S ho hT hS hB => ?_) ?_
  ·obtain ⟨hv18,hr18⟩:=(hT 18 39 rfl rfl:(Is (.bool true)) _ _)
   obtain ⟨hv19,hr19⟩:=(hT 19 40 rfl rfl:(Is (.agg #[.bool (ng 1),.slice pra nra cra,.bool (ng 2),.slice prb nrb crb])) _ _)
   obtain ⟨p3,n3,c3,p4,n4,c4,hv22,hr22⟩:=(hT 22 43 rfl rfl:(Rrt z3 z4) _ _)
   obtain hS:=hS.flat3 hr18 hr19 hr22
   exact .inl ⟨want_on (e:=39) rfl rfl rfl hv18,ocall rfl rfl Tryz.call17 rfl (wssame (x:=1) (y:=2) (u:=z3) (v:=z4) (hS.sl 1 rfl) (hS.sl 2 rfl) (hS.slm 9 rfl) (hS.slm 10 rfl) (by rw [← hz3.out]; decide) (by rw [← hz4.out]; decide)) (args2 (ev rfl hv19) (ev rfl hv22)) callN⟩
  refine stepsCons rfl (fun Q f' w' ρ S ho hT hS hB => ?_) ?_
  ·obtain ⟨hv18,hr18⟩:=(hT 18 39 rfl rfl:(Is (.bool true)) _ _)
   obtain ⟨hv23,hr23⟩:=(hT 23 44 rfl rfl:(Is (.bool true)) _ _)
   obtain hS:=hS.flat2 hr18 hr23
   exact .inl ⟨want_none rfl,opick (b:=true) (v:=.bool true) rfl rfl (ev rfl hv18) (ev rfl hv23) ⟨_,_,rfl,isI,New.same _⟩⟩
  refine stepsCons rfl (fun Q f' w' ρ S ho hT hS hB => ?_) ?_
  ·obtain ⟨hv24,hr24⟩:=(hT 24 45 rfl rfl:(Is (.bool true)) _ _)
   obtain hS:=hS.flat1 hr24
   exact .inl ⟨want_none rfl,oassign (v:=.bool true) rfl rfl (ev rfl hv24) ⟨_,_,rfl,isI,New.same _⟩⟩
  exact stepsNil
 ·
  intro vs ρ w16 f' hf hT hS
  obtain ⟨hv0,hr0⟩:=(hT 0 (by decide):(Is (.int .i64 0)) _ _)
  obtain ⟨hv1,hr1⟩:=(hT 1 (by decide):(Is (.int .i64 0)) _ _)
  obtain ⟨hv2,hr2⟩:=(hT 2 (by decide):(Is (.bool true)) _ _)
  obtain ⟨hv3,hr3⟩:=(hT 3 (by decide):(Is (.bool true)) _ _)
  obtain ⟨hv4,hr4⟩:=(hT 4 (by decide):(Is (.slice pva nva cva)) _ _)
  obtain ⟨g14,hv5,hr5⟩:=(hT 5 (by decide):(Slb [.int .u32 8] 40 1) _ _)
  obtain ⟨hv6,hr6⟩:=(hT 6 (by decide):(Is (.bool true)) _ _)
  obtain ⟨hv7,hr7⟩:=(hT 7 (by decide):(Is (.bool true)) _ _)
  obtain ⟨hv8,hr8⟩:=(hT 8 (by decide):(Is (.bool true)) _ _)
  obtain ⟨hv9,hr9⟩:=(hT 9 (by decide):(Is (.slice pvb nvb cvb)) _ _)
  obtain ⟨g15,hv10,hr10⟩:=(hT 10 (by decide):(Slb [.int .u32 15] 40 1) _ _)
  obtain ⟨hv11,hr11⟩:=(hT 11 (by decide):(Is (.bool true)) _ _)
  obtain ⟨hv12,hr12⟩:=(hT 12 (by decide):(Is (.bool true)) _ _)
  obtain ⟨hv13,hr13⟩:=(hT 13 (by decide):(Is (.bool true)) _ _)
  obtain ⟨hv14,hr14⟩:=(hT 14 (by decide):(Is (.int .i64 0)) _ _)
  obtain ⟨hv15,hr15⟩:=(hT 15 (by decide):(Is (.int .i64 0)) _ _)
  obtain ⟨hv16,hr16⟩:=(hT 16 (by decide):(Is (.bool true)) _ _)
  obtain ⟨hv17,hr17⟩:=(hT 17 (by decide):(Is (.bool true)) _ _)
  obtain ⟨hv18,hr18⟩:=(hT 18 (by decide):(Is (.bool true)) _ _)
  obtain ⟨hv19,hr19⟩:=(hT 19 (by decide):(Is (.agg #[.bool (ng 1),.slice pra nra cra,.bool (ng 2),.slice prb nrb crb])) _ _)
  obtain ⟨p1,n1,c1,hv20,hr20⟩:=(hT 20 (by decide):(Zt 1) _ _)
  obtain ⟨p2,n2,c2,hv21,hr21⟩:=(hT 21 (by decide):(Zt 2) _ _)
  obtain ⟨p3,n3,c3,p4,n4,c4,hv22,hr22⟩:=(hT 22 (by decide):(Rrt z3 z4) _ _)
  obtain ⟨hv23,hr23⟩:=(hT 23 (by decide):(Is (.bool true)) _ _)
  obtain ⟨hv24,hr24⟩:=(hT 24 (by decide):(Is (.bool true)) _ _)
  obtain ⟨hv25,hr25⟩:=(hT 25 (by decide):(Is (.bool true)) _ _)
  simp only [pool,if_true,hr0,hr1,hr2,hr3,hr4,hr5,hr6,hr7,hr8,hr9,hr10,hr11,hr12,hr13,hr14,hr15,hr16,hr17,hr18,hr19,hr20,hr21,hr22,hr23,hr24,hr25,List.nil_append,List.cons_append,List.append_nil] at hS
  simp only [layf,hv0,hv1,hv2,hv3,hv4,hv5,hv6,hv7,hv8,hv9,hv10,hv11,hv12,hv13,hv14,hv15,hv16,hv17,hv18,hv19,hv20,hv21,hv22,hv23,hv24,hv25] at hf
  subst hf; clear hT hv0 hv1 hv2 hv3 hv4 hv5 hv6 hv7 hv8 hv9 hv10 hv11 hv12 hv13 hv14 hv15 hv16 hv17 hv18 hv19 hv20 hv21 hv22 hv23 hv24 hv25 hr0 hr1 hr2 hr3 hr4 hr5 hr6 hr7 hr8 hr9 hr10 hr11 hr12 hr13 hr14 hr15 hr16 hr17 hr18 hr19 hr20 hr21 hr22 hr23 hr24 hr25
  refine wdone rfl ?_
  refine thenN ?_
  refine wleave ?_
  refine wret1 Tryz.results14 (tellT (v:=.bool true) rfl rfl) ?_
  exact ⟨_,_,rfl,isI,hS.new0⟩
end Go.Proofs.YtjbcjlbbipohjaaGreatDoor
