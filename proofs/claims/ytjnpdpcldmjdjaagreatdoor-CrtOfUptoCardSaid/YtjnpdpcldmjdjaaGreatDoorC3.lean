/-
  Contracts and lemmas, joined in one text.
-/
import Derived.Test.YtjnpdpcldmjdjaaGreatDoorC2
import Derived.Laws.StructEq
set_option linter.unusedVariables false
set_option linter.unusedSimpArgs false
/-
  The document's May,Lift and Recon; what every law runs first.
-/
set_option maxRecDepth 100000
set_option maxHeartbeats 16000000
namespace Go.Proofs.YtjnpdpcldmjdjaaGreatDoor
open Go.RowKit
theorem Sl.el {w:World} {p:Option Addr} {n c:Nat} {xs:List Nat} (h:Sl w p n c xs) {i:Nat} (hi:i < n):∃ b off,p = some ⟨b,off,none⟩ ∧ ∀ (j:Nat) (v:Value),[Value.int .u32 ((nd xs i:Nat):Int)][j]? = some v → w.cell? ⟨b,off + i * 1 + j,none⟩ = some v:=by
  obtain ⟨b,off,hp,hc⟩:=h.cell i hi
  refine ⟨b,off,hp,fun j v hj => ?_⟩
  have h1:j = 0:=by have:=(List.getElem?_eq_some_iff.1 hj).1; simp at this; omega
  subst h1
  simp at hj
  subst hj
  rw [Nat.mul_one]; exact hc
theorem wlnum6 {e:Int} {w:World} :
  Calls Tryz.prog 7 #[.int .i64 e] w (Ret (Is (.int .i64 e)) w):=by
 have hS:=Sep.init w
 refine went Tryz.func7 rfl (n:=4) rfl rfl ?_
 refine wsr (wavc ?_)
 refine wn2 (wmv rfl rfl ?_)
 refine wav rfl rfl ?_
 refine wn1 ?_
 refine wLv ?_
 refine wr1 Tryz.results7 (tlT (v:=.int .i64 e) rfl rfl) ?_
 exact ⟨_,_,rfl,isI,hS.new0⟩
theorem wlsame6 {pa pb:Option Addr} {na ca nb cb x y:Nat} {w:World} (hx:Sl w pa na ca (lim x)) (hy:Nr w pb nb cb y 4294967296) (he:x = y) :
  Calls Tryz.prog 9 #[.slice pa na ca,.slice pb nb cb] w (Ret (Is (.bool true)) w):=by
 have hS:=Sep.init w
 refine went Tryz.func9 rfl (n:=9) rfl rfl ?_
 refine wsr (wavc ?_)
 refine wn2 (wmv rfl rfl ?_)
 refine wmv rfl rfl ?_
 have hkx1:ll y ≤ 4294967296:=hy.ll
 refine wcl Tryz.call22 (wmnorm (hy.at hS)) (ar1 (ev rfl rfl)) hS ?_
 clear hS; rintro _ _ w1 ⟨p1,n1,c1,rfl,rfl⟩ hS
 refine wcl Tryz.call21 (wmsame (hx.below hS.below (Nat.le_refl _)) (hS.sl 0 rfl) he) (ar2 (ev rfl rfl) (ev rfl rfl)) hS ?_
 clear hS; rintro _ _ w2 ⟨rfl,rfl⟩ hS
 refine wav rfl rfl ?_
 refine wn1 ?_
 refine wLv ?_
 refine wr1 Tryz.results9 (tlT (v:=.bool true) rfl rfl) ?_
 exact ⟨_,_,rfl,isI,hS.new0⟩
theorem RS.two {w:World} {g:Nat} {t:TypeId} {a b c d:Nat} (h:w.heap[g]? = some (.cells [.int .u32 ((a:Nat):Int),.int .u32 ((b:Nat):Int),.int .u32 ((c:Nat):Int),.int .u32 ((d:Nat):Int)].toArray t)):RS w (some ⟨g,0,none⟩) 2 [(a,b),(c,d)]:=by
 refine ⟨rfl,(fun h => by cases h),fun i x hx => ⟨g,0,rfl,fun j v hj => ?_⟩⟩
 have hi:i < 2:=(List.getElem?_eq_some_iff.1 hx).1
 have hj2:j < 2:=(List.getElem?_eq_some_iff.1 hj).1
 have hb:=box_cells h
 match i,hi with
 | 0,_ => simp at hx; subst hx; exact hb j v (by match j,hj2 with | 0,_ => exact hj | 1,_ => exact hj)
 | 1,_ =>
  simp at hx; subst hx
  have h2:=hb (2 + j) v (by match j,hj2 with | 0,_ => exact hj | 1,_ => exact hj)
  rwa [show 0 + (2 + j) = 0 + 1 * 2 + j by omega] at h2
theorem pr3:MR.Pr 3:=⟨by decide,fun d hd => by
  have h1:=Nat.le_of_dvd (by decide) hd
  match d,h1 with
  | 0,_ => exact absurd hd (by decide)
  | 1,_ => exact .inl rfl
  | 2,_ => exact absurd hd (by decide)
  | 3,_ => exact .inr rfl⟩
theorem pr5:MR.Pr 5:=⟨by decide,fun d hd => by
  have h1:=Nat.le_of_dvd (by decide) hd
  match d,h1 with
  | 0,_ => exact absurd hd (by decide)
  | 1,_ => exact .inl rfl
  | 2,_ => exact absurd hd (by decide)
  | 3,_ => exact absurd hd (by decide)
  | 4,_ => exact absurd hd (by decide)
  | 5,_ => exact .inr rfl⟩
theorem wcof_aw {p:Option Addr} {c:Nat} {w:World} (ht:Tb w) (hL:RS w p 2 [(2,3),(3,5)]):Calls Tryz.prog 4 #[.slice p 2 c] w (Ret (NNEt 8 15 0) w):=by
  have h:=wcof (c:=c) ht hL (by intro x hx; simp at hx; rcases hx with rfl | rfl <;> decide) (by decide) ⟨by intro x hx; simp at hx; rcases hx with rfl | rfl; exact pr3; exact pr5,by decide⟩
  rwa [show cv [(2,3),(3,5)] = (8,15) by decide] at h
theorem wcrecon_aw {pv pm pb:Option Addr} {nv cv' nm cm nb cb:Nat} {w:World} (hv:Nr w pv nv cv' 51 2097152) (hm:Nr w pm nm cm 101 2097152) (hb:Nr w pb nb cb 7 2097152):Calls Tryz.prog 35 #[.slice pv nv cv',.slice pm nm cm,.slice pb nb cb] w (Ret (RWt 1 2 0) w):=by
  have h:=wcrecon hv hm hb (by decide)
  rwa [show rcx 51 101 7 = 1 by decide,show rcy 51 101 7 = 2 by decide] at h
theorem wlawake6 {w:World} (ht:Tb w) :
  Calls Tryz.prog 14 #[] w (Ret (Is (.bool true)) w):=by
 have hS:=Sep.init w
 refine went Tryz.func14 rfl (n:=46) rfl rfl ?_
 refine wsr (wavc ?_)
 refine wn2 (wl rfl (obuild (ps:=#[(0,.int .u32 2),(1,.int .u32 3)]) (v:=.agg #[.int .u32 2,.int .u32 3]) rfl rfl (parts2 (evc (v:=.int .u32 2)) (evc (v:=.int .u32 3))) (fun w => by simp [go_sem,Instr.build,Instr.fill]) ?_))
 refine wl rfl (obuild (ps:=#[(0,.int .u32 3),(1,.int .u32 5)]) (v:=.agg #[.int .u32 3,.int .u32 5]) rfl rfl (parts2 (evc (v:=.int .u32 3)) (evc (v:=.int .u32 5))) (fun w => by simp [go_sem,Instr.build,Instr.fill]) ?_)
 refine wl rfl (obslice (ps:=#[(0,.agg #[.int .u32 2,.int .u32 3]),(1,.agg #[.int .u32 3,.int .u32 5])]) (z:=.agg #[.int .u32 0,.int .u32 0]) [.int .u32 2,.int .u32 3,.int .u32 3,.int .u32 5] hS rfl rfl Tryz.runUnderlying22 Tryz.sizeOf45 Tryz.zeroValue45 (parts2 (ev (v:=.agg #[.int .u32 2,.int .u32 3]) rfl rfl) (ev (v:=.agg #[.int .u32 3,.int .u32 5]) rfl rfl)) rfl (by decide) fill2 ?_)
 clear hS; intro g1 w2 hS
 refine wcl Tryz.call4 (wcof_aw (ht.at hS) (RS.two (hS.blkAt 0 rfl))) (ar1 (ev rfl rfl)) hS ?_
 clear hS; rintro _ _ w3 ⟨pva,nva,cva,pvb,nvb,cvb,rfl,rfl⟩ hS
 refine wmv rfl rfl ?_
 refine wl rfl (oEx rfl rfl (ev rfl rfl) rfl ?_)
 refine wl rfl (oEx rfl rfl (ev rfl rfl) rfl ?_)
 refine wl rfl (oEx rfl rfl (ev rfl rfl) rfl ?_)
 refine wav rfl rfl ?_
 refine wav rfl rfl ?_
 refine wav rfl rfl ?_
 refine wn2 (wl rfl (obslice (ps:=#[(0,.int .u32 51)]) (z:=.int .u32 0) [.int .u32 51] hS rfl rfl Tryz.runUnderlying24 Tryz.sizeOf38 Tryz.zeroValue38 (parts1 (evc (v:=.int .u32 51))) rfl (by decide) fill1_1 ?_))
 clear hS; intro g4 w5 hS
 refine wl rfl (obslice (ps:=#[(0,.int .u32 101)]) (z:=.int .u32 0) [.int .u32 101] hS rfl rfl Tryz.runUnderlying24 Tryz.sizeOf38 Tryz.zeroValue38 (parts1 (evc (v:=.int .u32 101))) rfl (by decide) fill1_1 ?_)
 clear hS; intro g6 w7 hS
 refine wl rfl (obslice (ps:=#[(0,.int .u32 7)]) (z:=.int .u32 0) [.int .u32 7] hS rfl rfl Tryz.runUnderlying24 Tryz.sizeOf38 Tryz.zeroValue38 (parts1 (evc (v:=.int .u32 7))) rfl (by decide) fill1_1 ?_)
 clear hS; intro g8 w9 hS
 refine wcl Tryz.call35 (wcrecon_aw ((Nr.blk (x:=51) (hS.blkAt 2 rfl) (by omega) (by omega)).mono (by omega)) ((Nr.blk (x:=101) (hS.blkAt 1 rfl) (by omega) (by omega)).mono (by omega)) ((Nr.blk (x:=7) (hS.blkAt 0 rfl) (by omega) (by omega)).mono (by omega))) (args3 (ev rfl rfl) (ev rfl rfl) (ev rfl rfl)) hS ?_
 clear hS; rintro _ _ w10 ⟨pra,nra,cra,prb,nrb,crb,rfl,rfl⟩ hS
 refine wmv rfl rfl ?_
 refine wl rfl (oEx rfl rfl (ev rfl rfl) rfl ?_)
 refine wl rfl (oEx rfl rfl (ev rfl rfl) rfl ?_)
 refine wl rfl (oAl [.bool false,.slice none 0 0,.bool false,.slice none 0 0] hS rfl rfl Tryz.zeroValue76 rfl ?_)
 clear hS; intro g11 w12 hS
 refine wl rfl (oSt _ _ Tryz.sizeOf76 hS 0 rfl rfl (ev rfl rfl) (ev rfl rfl) rfl rfl rfl rfl rfl rfl ?_)
 clear hS; intro w13 hS
 refine wav rfl rfl ?_
 refine wn1 (wSq ?_)
 have hk1:Wd 1 2:=Wd.i64 (by omega) (by omega)
 have hk2:Wd 2 2:=Wd.i64 (by omega) (by omega)
 have hkra:Wd 1 2:=Wd.i64 (by omega) (by omega)
 have hkrb:Wd 2 2:=Wd.i64 (by omega) (by omega)
 obtain ⟨z3,hz3⟩:∃ z:Int,Hid (RN 1 2 = z):=⟨_,rfl⟩
 have hk3:Wd z3 2:=Wd.rn hk1 hz3
 obtain ⟨z4,hz4⟩:∃ z:Int,Hid (RD 1 2 = z):=⟨_,rfl⟩
 have hk4:Wd z4 2:=Wd.rd hk2 hz4
 refine wSg 26 [21,22,23,24,25,26,27,28,29,30,31,32,33,34,35,36,37,38,39,40,41,42,43,44,45,0] [[],[0],[1,0],[2,0,1],[3,0,1,2],[3,0,1,2],[3,4,5,0,1,2],[3,6,0,1,2,4,5],[7,0,1,2,3,4,5,6],[8,0,1,2,3,4,5,6,7],[8,0,1,2,3,4,5,6,7],[8,9,10,0,1,2,3,4,5,6,7],[8,11,0,1,2,3,4,5,6,7,9,10],[12,0,1,2,3,4,5,6,7,8,9,10,11],[13,0,1,2,3,4,5,6,7,8,9,10,11,12],[13,14,0,1,2,3,4,5,6,7,8,9,10,11,12],[13,15,0,1,2,3,4,5,6,7,8,9,10,11,12,14],[13,16,0,1,2,3,4,5,6,7,8,9,10,11,12,14,15],[17,0,1,2,3,4,5,6,7,8,9,10,11,12,13,14,15,16],[18,0,1,2,3,4,5,6,7,8,9,10,11,12,13,14,15,16,17],[18,0,1,2,3,4,5,6,7,8,9,10,11,12,13,14,15,16,17],[18,0,1,2,3,4,5,6,7,8,9,10,11,12,13,14,15,16,17,20],[18,20,21,0,1,2,3,4,5,6,7,8,9,10,11,12,13,14,15,16,17],[18,19,22,0,1,2,3,4,5,6,7,8,9,10,11,12,13,14,15,16,17,20,21],[18,23,0,1,2,3,4,5,6,7,8,9,10,11,12,13,14,15,16,17,19,20,21,22],[24,0,1,2,3,4,5,6,7,8,9,10,11,12,13,14,15,16,17,18,19,20,21,22,23]] [] [] [] (fun i9 => ([iSv (.int .i64 0),iSv (.int .i64 0),iSv (.bool true),iSv (.bool true),iSv (.slice pva nva cva),fun _ => Slb [.int .u32 8] 38 1,iSv (.bool true),iSv (.bool true),iSv (.bool true),iSv (.slice pvb nvb cvb),fun _ => Slb [.int .u32 15] 38 1,iSv (.bool true),iSv (.bool true),iSv (.bool true),iSv (.int .i64 0),iSv (.int .i64 0),iSv (.bool true),iSv (.bool true),iSv (.bool true),iSv (.agg #[.bool (ng 1),.slice pra nra cra,.bool (ng 2),.slice prb nrb crb]),fun _ => Zt 1,fun _ => Zt 2,fun _ => Rrt z3 z4,iSv (.bool true),iSv (.bool true),iSv (.bool true)]:List (List Value → Tell)).getD i9 (fun _ _ _ => False)) hNi (fun d _ _ _ _ h => (by cases d <;> exact h)) (by kernel_rfl) (by kernel_rfl) (by kernel_rfl) hS ?_ ?_
 ·
  refine stM rfl rfl rfl rfl rfl (fun _=>isI) ?_
  refine stT rfl (fun hT hS=>?_) ?_
  ·obtain ⟨hv0,hr0⟩:=hT 0 21 rfl rfl
   obtain hS:=hS.flat1 hr0
   exact .inl ⟨wNo rfl,oCl rfl rfl Tryz.call7 rfl (wlnum6) (ar1 (ev rfl hv0)) cNw⟩
  refine stT rfl (fun hT hS=>?_) ?_
  ·obtain ⟨hv1,hr1⟩:=hT 1 22 rfl rfl
   obtain hS:=hS.flat1 hr1
   exact inNo rfl (obin (u:=.int .i64 0) (v:=.int .i64 0) (z:=.bool true) rfl rfl (ev rfl hv1) evc (bEq (by decide)) (nSm rfl isI))
  refine stT rfl (fun hT hS=>?_) ?_
  ·obtain ⟨hv2,hr2⟩:=hT 2 23 rfl rfl
   obtain hS:=hS.flat1 hr2
   exact inNo rfl (omove rfl rfl (ev rfl hv2) (nSm rfl isI))
  refine stC rfl (fun _ _ _ _ _ ho hT hS _=>?_) ?_
  ·obtain ⟨hv3,hr3⟩:=hT 3 24 rfl rfl
   obtain hS:=hS.flat1 hr3
   exact .inl ⟨want_on (e:=24) rfl rfl rfl hv3,omove rfl rfl (ev rfl (ho 1 rfl)) ⟨_,_,rfl,isI,New.same _⟩⟩
  refine stT rfl (fun hT hS=>?_) ?_
  ·obtain ⟨hv3,hr3⟩:=hT 3 24 rfl rfl
   obtain hS:=hS.flat1 hr3
   exact .inl ⟨want_on (e:=24) rfl rfl rfl hv3,obsliceN (ps:=#[(0,.int .u32 8)]) (z:=.int .u32 0) [.int .u32 8] rfl rfl Tryz.runUnderlying24 Tryz.sizeOf38 Tryz.zeroValue38 (parts1 (evc (v:=.int .u32 8))) rfl (by decide) fill1_1 ⟨_,_,rfl,⟨_,rfl,rfl⟩,New.blk _ _ _⟩⟩
  refine stT rfl (fun hT hS=>?_) ?_
  ·obtain ⟨hv3,hr3⟩:=hT 3 24 rfl rfl
   obtain ⟨hv4,hr4⟩:=hT 4 25 rfl rfl
   obtain ⟨g14,hv5,hr5⟩:=(hT 5 26 rfl rfl:(Slb [.int .u32 8] 38 1) _ _)
   obtain hS:=hS.flat3 hr3 hr4 hr5
   exact .inl ⟨want_on (e:=24) rfl rfl rfl hv3,oCl rfl rfl Tryz.call9 rfl (wlsame6 (x:=8) (y:=8) (hS.slm 6 rfl) ((Nr.blk (x:=8) (hS.blkAt 9 rfl) (by omega) (by omega)).mono (by omega)) (rfl)) (ar2 (ev rfl hv4) (ev rfl hv5)) cNw⟩
  refine stT rfl (fun hT hS=>?_) ?_
  ·obtain ⟨hv3,hr3⟩:=hT 3 24 rfl rfl
   obtain ⟨hv6,hr6⟩:=hT 6 27 rfl rfl
   obtain hS:=hS.flat2 hr3 hr6
   exact inNo rfl (opick rfl rfl (ev rfl hv3) (ev rfl hv6) (nSm rfl isI))
  refine stT rfl (fun hT hS=>?_) ?_
  ·obtain ⟨hv7,hr7⟩:=hT 7 28 rfl rfl
   obtain hS:=hS.flat1 hr7
   exact inNo rfl (omove rfl rfl (ev rfl hv7) (nSm rfl isI))
  refine stC rfl (fun _ _ _ _ _ ho hT hS _=>?_) ?_
  ·obtain ⟨hv8,hr8⟩:=hT 8 29 rfl rfl
   obtain hS:=hS.flat1 hr8
   exact .inl ⟨want_on (e:=29) rfl rfl rfl hv8,omove rfl rfl (ev rfl (ho 2 rfl)) ⟨_,_,rfl,isI,New.same _⟩⟩
  refine stT rfl (fun hT hS=>?_) ?_
  ·obtain ⟨hv8,hr8⟩:=hT 8 29 rfl rfl
   obtain hS:=hS.flat1 hr8
   exact .inl ⟨want_on (e:=29) rfl rfl rfl hv8,obsliceN (ps:=#[(0,.int .u32 15)]) (z:=.int .u32 0) [.int .u32 15] rfl rfl Tryz.runUnderlying24 Tryz.sizeOf38 Tryz.zeroValue38 (parts1 (evc (v:=.int .u32 15))) rfl (by decide) fill1_1 ⟨_,_,rfl,⟨_,rfl,rfl⟩,New.blk _ _ _⟩⟩
  refine stT rfl (fun hT hS=>?_) ?_
  ·obtain ⟨hv8,hr8⟩:=hT 8 29 rfl rfl
   obtain ⟨hv9,hr9⟩:=hT 9 30 rfl rfl
   obtain ⟨g15,hv10,hr10⟩:=(hT 10 31 rfl rfl:(Slb [.int .u32 15] 38 1) _ _)
   obtain hS:=hS.flat3 hr8 hr9 hr10
   exact .inl ⟨want_on (e:=29) rfl rfl rfl hv8,oCl rfl rfl Tryz.call9 rfl (wlsame6 (x:=15) (y:=15) (hS.slm 7 rfl) ((Nr.blk (x:=15) (hS.blkAt 9 rfl) (by omega) (by omega)).mono (by omega)) (rfl)) (ar2 (ev rfl hv9) (ev rfl hv10)) cNw⟩
  refine stT rfl (fun hT hS=>?_) ?_
  ·obtain ⟨hv8,hr8⟩:=hT 8 29 rfl rfl
   obtain ⟨hv11,hr11⟩:=hT 11 32 rfl rfl
   obtain hS:=hS.flat2 hr8 hr11
   exact inNo rfl (opick rfl rfl (ev rfl hv8) (ev rfl hv11) (nSm rfl isI))
  refine stT rfl (fun hT hS=>?_) ?_
  ·obtain ⟨hv12,hr12⟩:=hT 12 33 rfl rfl
   obtain hS:=hS.flat1 hr12
   exact inNo rfl (omove rfl rfl (ev rfl hv12) (nSm rfl isI))
  refine stC rfl (fun _ _ _ _ _ ho hT hS _=>?_) ?_
  ·obtain ⟨hv13,hr13⟩:=hT 13 34 rfl rfl
   obtain hS:=hS.flat1 hr13
   exact .inl ⟨want_on (e:=34) rfl rfl rfl hv13,omove rfl rfl (ev rfl (ho 5 rfl)) ⟨_,_,rfl,isI,New.same _⟩⟩
  refine stT rfl (fun hT hS=>?_) ?_
  ·obtain ⟨hv13,hr13⟩:=hT 13 34 rfl rfl
   obtain ⟨hv14,hr14⟩:=hT 14 35 rfl rfl
   obtain hS:=hS.flat2 hr13 hr14
   exact .inl ⟨want_on (e:=34) rfl rfl rfl hv13,oCl rfl rfl Tryz.call7 rfl (wlnum6) (ar1 (ev rfl hv14)) cNw⟩
  refine stT rfl (fun hT hS=>?_) ?_
  ·obtain ⟨hv13,hr13⟩:=hT 13 34 rfl rfl
   obtain ⟨hv15,hr15⟩:=hT 15 36 rfl rfl
   obtain hS:=hS.flat2 hr13 hr15
   exact .inl ⟨want_on (e:=34) rfl rfl rfl hv13,obin (u:=.int .i64 0) (v:=.int .i64 0) (z:=.bool true) rfl rfl (ev rfl hv15) evc (bEq (by decide)) ⟨_,_,rfl,isI,New.same _⟩⟩
  refine stT rfl (fun hT hS=>?_) ?_
  ·obtain ⟨hv13,hr13⟩:=hT 13 34 rfl rfl
   obtain ⟨hv16,hr16⟩:=hT 16 37 rfl rfl
   obtain hS:=hS.flat2 hr13 hr16
   exact inNo rfl (opick rfl rfl (ev rfl hv13) (ev rfl hv16) (nSm rfl isI))
  refine stT rfl (fun hT hS=>?_) ?_
  ·obtain ⟨hv17,hr17⟩:=hT 17 38 rfl rfl
   obtain hS:=hS.flat1 hr17
   exact inNo rfl (omove rfl rfl (ev rfl hv17) (nSm rfl isI))
  refine stC rfl (fun _ _ _ _ _ ho hT hS _=>?_) ?_
  ·obtain ⟨hv18,hr18⟩:=hT 18 39 rfl rfl
   obtain hS:=hS.flat1 hr18
   exact .inl ⟨want_on (e:=39) rfl rfl rfl hv18,oLd aggR hS 0 rfl rfl (ev rfl (ho 4 rfl)) rfl rfl rfl ⟨_,_,rfl,isI,New.same _⟩⟩
  refine stT rfl (fun hT hS=>?_) ?_
  ·obtain ⟨hv18,hr18⟩:=hT 18 39 rfl rfl
   obtain hS:=hS.flat1 hr18
   exact .inl ⟨want_on (e:=39) rfl rfl rfl hv18,oCl rfl rfl Tryz.call38 rfl (wqof (z:=1) (by omega) (by omega)) (ar1 evc) cNw⟩
  refine stT rfl (fun hT hS=>?_) ?_
  ·obtain ⟨hv18,hr18⟩:=hT 18 39 rfl rfl
   obtain hS:=hS.flat1 hr18
   exact .inl ⟨want_on (e:=39) rfl rfl rfl hv18,oCl rfl rfl Tryz.call38 rfl (wqof (z:=2) (by omega) (by omega)) (ar1 evc) cNw⟩
  refine stT rfl (fun hT hS=>?_) ?_
  ·obtain ⟨hv18,hr18⟩:=hT 18 39 rfl rfl
   obtain ⟨p1,n1,c1,hv20,hr20⟩:=(hT 20 41 rfl rfl:(Zt 1) _ _)
   obtain ⟨p2,n2,c2,hv21,hr21⟩:=(hT 21 42 rfl rfl:(Zt 2) _ _)
   obtain hS:=hS.flat3 hr18 hr20 hr21
   exact .inl ⟨want_on (e:=39) rfl rfl rfl hv18,oCl rfl rfl Tryz.call37 rfl (wsmake (((hS.sl 9 rfl).zr hk1).mono (by omega)) (((hS.sl 10 rfl).zr hk2).mono (by omega)) (by omega) hz3 hz4) (ar2 (ev rfl hv20) (ev rfl hv21)) cNw⟩
  refine stT rfl (fun hT hS=>?_) ?_
  ·obtain ⟨hv18,hr18⟩:=hT 18 39 rfl rfl
   obtain ⟨hv19,hr19⟩:=hT 19 40 rfl rfl
   obtain ⟨p3,n3,c3,p4,n4,c4,hv22,hr22⟩:=(hT 22 43 rfl rfl:(Rrt z3 z4) _ _)
   obtain hS:=hS.flat3 hr18 hr19 hr22
   exact .inl ⟨want_on (e:=39) rfl rfl rfl hv18,oCl rfl rfl Tryz.call36 rfl (wssame (x:=1) (y:=2) (u:=z3) (v:=z4) (hS.sl 1 rfl) (hS.sl 2 rfl) (hS.slm 9 rfl) (hS.slm 10 rfl) (by rw [← hz3.out]; decide) (by rw [← hz4.out]; decide)) (ar2 (ev rfl hv19) (ev rfl hv22)) cNw⟩
  refine stT rfl (fun hT hS=>?_) ?_
  ·obtain ⟨hv18,hr18⟩:=hT 18 39 rfl rfl
   obtain ⟨hv23,hr23⟩:=hT 23 44 rfl rfl
   obtain hS:=hS.flat2 hr18 hr23
   exact inNo rfl (opick rfl rfl (ev rfl hv18) (ev rfl hv23) (nSm rfl isI))
  refine stT rfl (fun hT hS=>?_) ?_
  ·obtain ⟨hv24,hr24⟩:=hT 24 45 rfl rfl
   obtain hS:=hS.flat1 hr24
   exact inNo rfl (oassign rfl rfl (ev rfl hv24) (nSm rfl isI))
  exact sNi
 intro vs ρ w16 f' hf hT hS
 obtain ⟨hv0,hr0⟩:=hT 0 (by decide)
 obtain ⟨hv1,hr1⟩:=hT 1 (by decide)
 obtain ⟨hv2,hr2⟩:=hT 2 (by decide)
 obtain ⟨hv3,hr3⟩:=hT 3 (by decide)
 obtain ⟨hv4,hr4⟩:=hT 4 (by decide)
 obtain ⟨g14,hv5,hr5⟩:=(hT 5 (by decide):(Slb [.int .u32 8] 38 1) _ _)
 obtain ⟨hv6,hr6⟩:=hT 6 (by decide)
 obtain ⟨hv7,hr7⟩:=hT 7 (by decide)
 obtain ⟨hv8,hr8⟩:=hT 8 (by decide)
 obtain ⟨hv9,hr9⟩:=hT 9 (by decide)
 obtain ⟨g15,hv10,hr10⟩:=(hT 10 (by decide):(Slb [.int .u32 15] 38 1) _ _)
 obtain ⟨hv11,hr11⟩:=hT 11 (by decide)
 obtain ⟨hv12,hr12⟩:=hT 12 (by decide)
 obtain ⟨hv13,hr13⟩:=hT 13 (by decide)
 obtain ⟨hv14,hr14⟩:=hT 14 (by decide)
 obtain ⟨hv15,hr15⟩:=hT 15 (by decide)
 obtain ⟨hv16,hr16⟩:=hT 16 (by decide)
 obtain ⟨hv17,hr17⟩:=hT 17 (by decide)
 obtain ⟨hv18,hr18⟩:=hT 18 (by decide)
 obtain ⟨hv19,hr19⟩:=hT 19 (by decide)
 obtain ⟨p1,n1,c1,hv20,hr20⟩:=(hT 20 (by decide):(Zt 1) _ _)
 obtain ⟨p2,n2,c2,hv21,hr21⟩:=(hT 21 (by decide):(Zt 2) _ _)
 obtain ⟨p3,n3,c3,p4,n4,c4,hv22,hr22⟩:=(hT 22 (by decide):(Rrt z3 z4) _ _)
 obtain ⟨hv23,hr23⟩:=hT 23 (by decide)
 obtain ⟨hv24,hr24⟩:=hT 24 (by decide)
 obtain ⟨hv25,hr25⟩:=hT 25 (by decide)
 simp only [pool,if_true,hr0,hr1,hr2,hr3,hr4,hr5,hr6,hr7,hr8,hr9,hr10,hr11,hr12,hr13,hr14,hr15,hr16,hr17,hr18,hr19,hr20,hr21,hr22,hr23,hr24,hr25,List.nil_append,List.cons_append,List.append_nil] at hS
 simp only [layf,hv0,hv1,hv2,hv3,hv4,hv5,hv6,hv7,hv8,hv9,hv10,hv11,hv12,hv13,hv14,hv15,hv16,hv17,hv18,hv19,hv20,hv21,hv22,hv23,hv24,hv25] at hf
 subst hf; clear hT hv0 hv1 hv2 hv3 hv4 hv5 hv6 hv7 hv8 hv9 hv10 hv11 hv12 hv13 hv14 hv15 hv16 hv17 hv18 hv19 hv20 hv21 hv22 hv23 hv24 hv25 hr0 hr1 hr2 hr3 hr4 hr5 hr6 hr7 hr8 hr9 hr10 hr11 hr12 hr13 hr14 hr15 hr16 hr17 hr18 hr19 hr20 hr21 hr22 hr23 hr24 hr25
 refine wdone rfl ?_
 refine tNo ?_
 refine wLv ?_
 refine wr1 Tryz.results14 (tlT (v:=.bool true) rfl rfl) ?_
 exact ⟨_,_,rfl,isI,hS.new0⟩
open Go.RowKit
def RfP:Tell:=fun v r => ∃ g p n c,v = .pointer (some ⟨g,0,none⟩) ∧ r = [.blk g [.slice none 0 0,.slice p n c,.slice none 0 0] 37,.row p n c (lim 1)]
def RfE (g:Nat) (l:List (Nat × Nat)) (e:Int):Tell:=fun v r => ∃ p1 n1 c1 p2 n2 c2 p3 c3,v = .int .i64 e ∧ r = [.blk g [.slice p1 n1 c1,.slice p2 n2 c2,.slice p3 l.length c3] 37,.lst 45 2 p3 l.length c3 (rpE (rps l)),.row p1 n1 c1 (lim (cv l).1),.row p2 n2 c2 (lim (cv l).2)]
theorem wqmodN5 {p:Option Addr} {n c x q:Nat} {w:World} (hx:Nr w p n c x 549755813000) (hq:q < 4294967296) (h0:q ≠ 0):Calls Tryz.prog 46 #[.agg #[.bool false,.slice p n c],.int .u32 (q:Int)] w (Ret (Is (.int .u32 ((x % q:Nat):Int))) w):=by
  have h:=wqmodNN hx.zr hq h0 (by omega)
  rwa [show ((((x:Nat):Int) % (q:Int)).toNat:Int) = ((x % q:Nat):Int) by rw [← Int.natCast_emod]; rfl] at h
theorem fill1_2s {u a b:Value} (hu:u.cells = #[u]) (ha:a.cells = #[a]) (hb:b.cells = #[b]):Instr.fill (fun i => some (i * 1,1)) ((Array.range (2 * 1)).map (u.cells[· % u.cells.size]!)) #[(0,a),(1,b)].toList = some [a,b].toArray:=by
 rw [hu]
 simp [Instr.fill,ha,hb,Array.range]
 apply Array.ext
 ·simp
 intro i h1 h2
 have h3:i = 0 ∨ i = 1:=by simp at h2; omega
 rcases h3 with rfl | rfl <;> simp
theorem Sep.nilRow0 {w0 w:World} {R:List Res} (h:Sep w0 R w):Sep w0 (.row none 0 0 (lim (cv []).1) :: R) w:=by
  rw [show lim (cv []).1 = [] from lim_zero]; exact h.nilRow
noncomputable def nxt (l:List (Nat × Nat)) (x:Nat × Nat):List (Nat × Nat):=if eno (mods l) x.2 = 0 then l ++ [x] else l
theorem nxt_ok {l:List (Nat × Nat)} {x:Nat × Nat} (h:eno (mods l) x.2 = 0):nxt l x = l ++ [x]:=if_pos h
theorem nxt_no {l:List (Nat × Nat)} {x:Nat × Nat} (h:eno (mods l) x.2 ≠ 0):nxt l x = l:=if_neg h
theorem Okl.nxt {l:List (Nat × Nat)} {x:Nat × Nat} (h:Okl l) (hx:x.2 < 4294967296) (hl:l.length < 1048576):Okl (nxt l x):=by
 by_cases he:eno (mods l) x.2 = 0
 ·rw [nxt_ok he]
  obtain ⟨h1,h2⟩:=eno_zero.1 he
  exact h.snoc h1 hx h2 hl
 rw [nxt_no he]; exact h
theorem wknew {w:World} :
  Calls Tryz.prog 11 #[] w (Ret RfP w):=by
 have hS:=Sep.init w
 refine went Tryz.func11 rfl (n:=4) rfl rfl ?_
 refine wsr (wavc ?_)
 refine wn2 ?_
 have hkx1:ll 1 ≤ 2:=Nd.u64 (by omega)
 refine wcl Tryz.call28 (wmof (x:=1) (by omega)) (ar1 evc) hS ?_
 clear hS; rintro _ _ w1 ⟨p1,n1,c1,rfl,rfl⟩ hS
 refine wl rfl (obuild (ps:=#[(1,.slice p1 n1 c1)]) (v:=.agg #[.slice none 0 0,.slice p1 n1 c1,.slice none 0 0]) rfl rfl (parts1 (ev rfl rfl)) (fun w => by simp [go_sem,Instr.build,Instr.fill]) ?_)
 refine wl rfl (obox [.slice none 0 0,.slice p1 n1 c1,.slice none 0 0] hS rfl rfl (ev rfl rfl) rfl ?_)
 clear hS; intro g2 w3 hS
 refine wav rfl rfl ?_
 refine wn1 ?_
 refine wLv ?_
 refine wr1 Tryz.results11 (tlT (v:=.pointer (some ⟨g2,0,none⟩)) rfl rfl) ?_
 exact ⟨_,_,rfl,⟨_,_,_,_,rfl,rfl⟩,(show Sep w [.blk g2 [.slice none 0 0,.slice p1 n1 c1,.slice none 0 0] 37,.row p1 n1 c1 (lim 1)] w3 from hS.pick [0,1] (by decide) rfl).new rfl⟩
theorem wkrest {p:Option Addr} {n c x q:Nat} {w:World} (hx:Nr w p n c x 549755813000) (hq:q < 4294967296) (h0:q ≠ 0) :
  Calls Tryz.prog 20 #[.slice p n c,.int .u32 (q:Int)] w (Ret (Is (.int .u32 ((x % q:Nat):Int))) w):=by
 have hS:=Sep.init w
 refine went Tryz.func20 rfl (n:=9) rfl rfl ?_
 refine wsr (wavc ?_)
 refine wn2 (wmv rfl rfl ?_)
 refine wl rfl (obuild (ps:=#[(1,.slice p n c)]) (v:=.agg #[.bool false,.slice p n c]) rfl rfl (parts1 (ev rfl rfl)) (fun w => by simp [go_sem,Instr.build,Instr.fill]) ?_)
 refine wmv rfl rfl ?_
 refine wcl Tryz.call46 (wqmodN5 (hx.at hS) hq h0) (ar2 (ev rfl rfl) (ev rfl rfl)) hS ?_
 clear hS; rintro _ _ w1 ⟨rfl,rfl⟩ hS
 refine wav rfl rfl ?_
 refine wn1 ?_
 refine wLv ?_
 refine wr1 Tryz.results20 (tlT (v:=.int .u32 ((x % q:Nat):Int)) rfl rfl) ?_
 exact ⟨_,_,rfl,isI,hS.new0⟩
theorem wkadd40 {w0 w:World} {R:List Res} {g r p nV cV nM cM cF:Nat} {pV pM pF:Option Addr} {l:List (Nat × Nat)} (hl:Okl l) (hn:l.length < 1048576) (hr:r < 4294967296) (hp2:p < 4294967296) (hS:Sep w0 (.blk g [.slice pV nV cV,.slice pM nM cM,.slice pF l.length cF] 37 :: .lst 45 2 pF l.length cF (rpE (rps l)) :: .row pV nV cV (lim (cv l).1) :: .row pM nM cM (lim (cv l).2) :: R) w) (hp:¬ MR.Pr p) :
  Calls Tryz.prog 12 #[.pointer (some ⟨g,0,none⟩),.int .u32 ((r:Nat):Int),.int .u32 ((p:Nat):Int)] w (RetS (RfE g l 40) w0 R):=by
 have hwV:=hl.wV
 have hwM:=hl.wM
 refine went Tryz.func12 rfl (n:=92) rfl rfl ?_
 refine wsr (wavc ?_)
 refine wn1 (wSq (wsr (wmv rfl rfl ?_)))
 refine wcl Tryz.call29 (wsis (b:=false) hp2 ⟨(fun h => by cases h),(fun h => absurd h hp)⟩) (ar1 (ev rfl rfl)) hS ?_
 clear hS; rintro _ _ w1 ⟨rfl,rfl⟩ hS
 refine wl rfl (onot rfl rfl (ev rfl rfl) ?_)
 refine wn1 ?_
 refine wT (ev rfl rfl) ?_
 refine wsr (wavc ?_)
 refine wn1 ?_
 refine wLv ?_
 refine thenR ?_
 refine wr1 Tryz.results12 (tlT (v:=.int .i64 40) rfl rfl) ?_
 exact ⟨_,_,rfl,⟨_,_,_,_,_,_,_,_,rfl,rfl⟩,Sep.pickT [.blk g [.slice pV nV cV,.slice pM nM cM,.slice pF l.length cF] 37,.lst 45 2 pF l.length cF (rpE (rps l)),.row pV nV cV (lim (cv l).1),.row pM nM cM (lim (cv l).2)] [.blk g [.slice pV nV cV,.slice pM nM cM,.slice pF l.length cF] 37,.lst 45 2 pF l.length cF (rpE (rps l)),.row pV nV cV (lim (cv l).1),.row pM nM cM (lim (cv l).2)] hS [0,1,2,3] (by decide) rfl⟩
theorem rps_len (l:List (Nat × Nat)):(rps l).length = l.length:=by simp [rps]
theorem rps_snd {l:List (Nat × Nat)} {i:Nat} {y:Nat × Nat} (h:(rps l)[i]? = some y):(mods l)[i]? = some y.2:=by
  unfold rps at h
  unfold mods
  rw [List.getElem?_map] at h ⊢
  cases hx:l[i]? with
  | none => rw [hx] at h; cases h
  | some x => rw [hx] at h; simp only [Option.map_some,Option.some.injEq] at h; subst h; rfl
theorem wkadd60 {w0 w:World} {R:List Res} {g r p nV cV nM cM cF:Nat} {pV pM pF:Option Addr} {l:List (Nat × Nat)} (hl:Okl l) (hn:l.length < 1048576) (hr:r < 4294967296) (hp2:p < 4294967296) (hS:Sep w0 (.blk g [.slice pV nV cV,.slice pM nM cM,.slice pF l.length cF] 37 :: .lst 45 2 pF l.length cF (rpE (rps l)) :: .row pV nV cV (lim (cv l).1) :: .row pM nM cM (lim (cv l).2) :: R) w) (hp:MR.Pr p) (hm:p ∈ mods l) :
  Calls Tryz.prog 12 #[.pointer (some ⟨g,0,none⟩),.int .u32 ((r:Nat):Int),.int .u32 ((p:Nat):Int)] w (RetS (RfE g l 60) w0 R):=by
 have hwV:=hl.wV
 have hwM:=hl.wM
 refine went Tryz.func12 rfl (n:=92) rfl rfl ?_
 refine wsr (wavc ?_)
 refine wn1 (wSq (wsr (wmv rfl rfl ?_)))
 refine wcl Tryz.call29 (wsis (b:=true) hp2 ⟨fun _ => hp,fun _ => rfl⟩) (ar1 (ev rfl rfl)) hS ?_
 clear hS; rintro _ _ w1 ⟨rfl,rfl⟩ hS
 refine wl rfl (onot rfl rfl (ev rfl rfl) ?_)
 refine wn1 ?_
 refine wF (ev rfl rfl) ?_
 refine wSk (tNo (wSq (wsr (wmv rfl rfl ?_))))
 refine wl rfl (oNC (a:=⟨g,0,none⟩) rfl rfl (ev rfl rfl) ?_)
 refine wl rfl (oFA (g:=g) (off:=0) 2 rfl rfl (ev rfl rfl) Tryz.runUnderlying37 rfl Tryz.sizeOf22 rfl ?_)
 refine wl rfl (oL1 ⟨Tryz.isAgg22,Tryz.sizeOf22⟩ hS 0 rfl rfl (ev rfl rfl) rfl rfl ?_)
 refine wl rfl (olen rfl rfl rfl Tryz.runUnderlying22 (p:=pF) (k:=l.length) (m:=cF) (ev rfl rfl) ?_)
 refine wmvc ?_
 refine wn1 (wBk ?_)
 refine wLp (σ := Nat) (fun i a9 w' => ∃ (fb:Nat → Value),a9 = act 92 (sets fb [(0,.pointer (some ⟨g,0,none⟩)),(1,.int .u32 (r:Int)),(2,.int .u32 (p:Int)),(18,.slice pF l.length cF),(19,.int .i64 (l.length:Int)),(20,.int .i64 (i:Int))]) ∧ Sep w0 (.blk g [.slice pV nV cV,.slice pM nM cM,.slice pF l.length cF] 37 :: .lst 45 2 pF l.length cF (rpE (rps l)) :: .row pV nV cV (lim (cv l).1) :: .row pM nM cM (lim (cv l).2) :: R) w' ∧ (i ≤ l.length) ∧ (p ∉ (mods l).take i)) (fun i => l.length - i) (0) ⟨_,aSs ⟨rfl,rfl,rfl,rfl,rfl,rfl,trivial⟩,hS,Nat.zero_le _,by simp⟩ ?_
 clear hS; rintro i _ w2 ⟨fb,rfl,hS,hi,hns⟩
 refine wsr ?_
 by_cases hlt:i < l.length
 ·
  obtain ⟨y,hy⟩:∃ y,(rps l)[i]? = some y:=⟨_,List.getElem?_eq_getElem (by rw [rps_len]; exact hlt)⟩
  obtain ⟨gF,hpF,hcF,_⟩:=hS.lstCell 1 rfl (rpE_get hy) (by omega)
  have hy2:=rps_snd hy
  refine wbt rfl rfl rfl rfl (bLs (decide_eq_true (by omega))) ?_
  refine wn1 (wSq ?_)
  refine wT (ev rfl rfl) ?_
  refine wk2 (wl rfl (oIx (p:=pF) (g:=gF) (off:=0) (m:=l.length) (k:=i) (j:=(0 + i * 2)) rfl rfl Tryz.runUnderlying22 Tryz.sizeOf45 (ev rfl rfl) hpF (ev rfl rfl) hlt rfl ?_))
  refine wl rfl (oloadA ⟨Tryz.isAgg45,Tryz.sizeOf45⟩ rfl rfl (ev rfl rfl) (fun j v hj => hcF j v hj) rfl ?_)
  refine wl rfl (oAl [.int .u32 0,.int .u32 0] hS rfl rfl Tryz.zeroValue45 rfl ?_)
  clear hS; intro g3 w4 hS
  refine wl rfl (oSt _ _ Tryz.sizeOf45 hS 0 rfl rfl (ev rfl rfl) (ev rfl rfl) rfl rfl rfl rfl rfl rfl ?_)
  clear hS; intro w5 hS
  refine wn2 (wl rfl (oFA (g:=g3) (off:=0) 1 rfl rfl (ev rfl rfl) Tryz.runUnderlying45 rfl Tryz.sizeOf38 rfl ?_))
  refine wl rfl (oL1 one32 hS 0 rfl rfl (ev rfl rfl) rfl rfl ?_)
  refine wmv rfl rfl ?_
  by_cases hyp:y.2 = p
  ·
   refine wbt rfl rfl rfl rfl (bEq (eqT (by omega))) ?_
   refine wn1 ?_
   refine wT (ev rfl rfl) ?_
   refine wsr (wavc ?_)
   refine wn1 ?_
   refine wLv ?_
   refine blkR ?_
   refine thenR ?_
   refine thenR ?_
   refine blkR ?_
   refine thenR ?_
   refine wr1 Tryz.results12 (tlT (v:=.int .i64 60) rfl rfl) ?_
   exact ⟨_,_,rfl,⟨_,_,_,_,_,_,_,_,rfl,rfl⟩,Sep.pickT [.blk g3 [.int .u32 (y.1:Int),.int .u32 (y.2:Int)] 45,.blk g [.slice pV nV cV,.slice pM nM cM,.slice pF l.length cF] 37,.lst 45 2 pF l.length cF (rpE (rps l)),.row pV nV cV (lim (cv l).1),.row pM nM cM (lim (cv l).2)] [.blk g [.slice pV nV cV,.slice pM nM cM,.slice pF l.length cF] 37,.lst 45 2 pF l.length cF (rpE (rps l)),.row pV nV cV (lim (cv l).1),.row pM nM cM (lim (cv l).2)] hS [1,2,3,4] (by decide) rfl⟩
  refine wbt rfl rfl rfl rfl (bEq (eqF (by omega))) ?_
  refine wn1 ?_
  refine wF (ev rfl rfl) ?_
  refine wSk (blkN (tNo (wreg (wbc (z:=.int .i64 ((i + 1:Nat):Int)) rfl rfl (bAd (wI6 (by omega) (by omega))) ?_))))
  refine wmv rfl rfl ?_
  refine wn1 ?_
  exact ⟨(i + 1),⟨_,aSs ⟨rfl,rfl,rfl,rfl,rfl,rfl,trivial⟩,Sep.pickT [.blk g3 [.int .u32 (y.1:Int),.int .u32 (y.2:Int)] 45,.blk g [.slice pV nV cV,.slice pM nM cM,.slice pF l.length cF] 37,.lst 45 2 pF l.length cF (rpE (rps l)),.row pV nV cV (lim (cv l).1),.row pM nM cM (lim (cv l).2)] [.blk g [.slice pV nV cV,.slice pM nM cM,.slice pF l.length cF] 37,.lst 45 2 pF l.length cF (rpE (rps l)),.row pV nV cV (lim (cv l).1),.row pM nM cM (lim (cv l).2)] hS [1,2,3,4] (by decide) rfl,by omega,by rw [take_next hy2]; intro h; exact (List.mem_append.1 h).elim hns (fun h => hyp (List.mem_singleton.1 h).symm)⟩,by omega⟩
 refine wbt rfl rfl rfl rfl (bLs (decide_eq_false (by omega))) ?_
 refine wn1 (wSq ?_)
 refine wF (ev rfl rfl) ?_
 refine wEx ?_
 refine tEx ?_
 refine tEx ?_
 refine blkE ?_
 refine tNo (wsr (wmv rfl rfl ?_))
 refine wmv rfl rfl ?_
 exact absurd hm (by rw [List.take_of_length_le (show (mods l).length ≤ i by simp [mods]; omega)] at hns; exact hns)
theorem wkadd {w0 w:World} {R:List Res} {g r p nV cV nM cM cF:Nat} {pV pM pF:Option Addr} {l:List (Nat × Nat)} (hl:Okl l) (hn:l.length < 1048576) (hr:r < 4294967296) (hp2:p < 4294967296) (hS:Sep w0 (.blk g [.slice pV nV cV,.slice pM nM cM,.slice pF l.length cF] 37 :: .lst 45 2 pF l.length cF (rpE (rps l)) :: .row pV nV cV (lim (cv l).1) :: .row pM nM cM (lim (cv l).2) :: R) w) (hp:MR.Pr p) (hm:p ∉ mods l) :
  Calls Tryz.prog 12 #[.pointer (some ⟨g,0,none⟩),.int .u32 ((r:Nat):Int),.int .u32 ((p:Nat):Int)] w (RetS (RfE g (l ++ [(r,p)]) 0) w0 R):=by
 have hwV:=hl.wV
 have hwM:=hl.wM
 have hp1:=hp.1
 have hrp:=mod_lt32 (a:=r) (show 0 < p by omega) hp2
 have hvp:=mod_lt32 (a:=(cv l).1) (show 0 < p by omega) hp2
 have hmp:=mod_lt32 (a:=(cv l).2) (show 0 < p by omega) hp2
 have hof:=mod_lt32 (a:=(r % p) % p + p - ((cv l).1 % p) % p) (show 0 < p by omega) hp2
 have hiv:=mod_lt32 (a:=((cv l).2 % p) ^ (p - 2)) (show 0 < p by omega) hp2
 obtain ⟨D,hD⟩:∃ D:Nat,Hid (dig (cv l).1 (cv l).2 r p = D):=⟨_,rfl⟩
 have hDp:D < p:=by rw [← hD.out]; exact dig_lt (by omega)
 refine went Tryz.func12 rfl (n:=92) rfl rfl ?_
 refine wsr (wavc ?_)
 refine wn1 (wSq (wsr (wmv rfl rfl ?_)))
 refine wcl Tryz.call29 (wsis (b:=true) hp2 ⟨fun _ => hp,fun _ => rfl⟩) (ar1 (ev rfl rfl)) hS ?_
 clear hS; rintro _ _ w1 ⟨rfl,rfl⟩ hS
 refine wl rfl (onot rfl rfl (ev rfl rfl) ?_)
 refine wn1 ?_
 refine wF (ev rfl rfl) ?_
 refine wSk (tNo (wSq (wsr (wmv rfl rfl ?_))))
 refine wl rfl (oNC (a:=⟨g,0,none⟩) rfl rfl (ev rfl rfl) ?_)
 refine wl rfl (oFA (g:=g) (off:=0) 2 rfl rfl (ev rfl rfl) Tryz.runUnderlying37 rfl Tryz.sizeOf22 rfl ?_)
 refine wl rfl (oL1 ⟨Tryz.isAgg22,Tryz.sizeOf22⟩ hS 0 rfl rfl (ev rfl rfl) rfl rfl ?_)
 refine wl rfl (olen rfl rfl rfl Tryz.runUnderlying22 (p:=pF) (k:=l.length) (m:=cF) (ev rfl rfl) ?_)
 refine wmvc ?_
 refine wn1 (wBk ?_)
 refine wLp (σ := Nat) (fun i a9 w' => ∃ (fb:Nat → Value),a9 = act 92 (sets fb [(0,.pointer (some ⟨g,0,none⟩)),(1,.int .u32 (r:Int)),(2,.int .u32 (p:Int)),(18,.slice pF l.length cF),(19,.int .i64 (l.length:Int)),(20,.int .i64 (i:Int))]) ∧ Sep w0 (.blk g [.slice pV nV cV,.slice pM nM cM,.slice pF l.length cF] 37 :: .lst 45 2 pF l.length cF (rpE (rps l)) :: .row pV nV cV (lim (cv l).1) :: .row pM nM cM (lim (cv l).2) :: R) w' ∧ (i ≤ l.length) ∧ (p ∉ (mods l).take i)) (fun i => l.length - i) (0) ⟨_,aSs ⟨rfl,rfl,rfl,rfl,rfl,rfl,trivial⟩,hS,Nat.zero_le _,by simp⟩ ?_
 clear hS; rintro i _ w2 ⟨fb,rfl,hS,hi,hns⟩
 refine wsr ?_
 by_cases hlt:i < l.length
 ·
  obtain ⟨y,hy⟩:∃ y,(rps l)[i]? = some y:=⟨_,List.getElem?_eq_getElem (by rw [rps_len]; exact hlt)⟩
  obtain ⟨gF,hpF,hcF,_⟩:=hS.lstCell 1 rfl (rpE_get hy) (by omega)
  have hy2:=rps_snd hy
  refine wbt rfl rfl rfl rfl (bLs (decide_eq_true (by omega))) ?_
  refine wn1 (wSq ?_)
  refine wT (ev rfl rfl) ?_
  refine wk2 (wl rfl (oIx (p:=pF) (g:=gF) (off:=0) (m:=l.length) (k:=i) (j:=(0 + i * 2)) rfl rfl Tryz.runUnderlying22 Tryz.sizeOf45 (ev rfl rfl) hpF (ev rfl rfl) hlt rfl ?_))
  refine wl rfl (oloadA ⟨Tryz.isAgg45,Tryz.sizeOf45⟩ rfl rfl (ev rfl rfl) (fun j v hj => hcF j v hj) rfl ?_)
  refine wl rfl (oAl [.int .u32 0,.int .u32 0] hS rfl rfl Tryz.zeroValue45 rfl ?_)
  clear hS; intro g3 w4 hS
  refine wl rfl (oSt _ _ Tryz.sizeOf45 hS 0 rfl rfl (ev rfl rfl) (ev rfl rfl) rfl rfl rfl rfl rfl rfl ?_)
  clear hS; intro w5 hS
  refine wn2 (wl rfl (oFA (g:=g3) (off:=0) 1 rfl rfl (ev rfl rfl) Tryz.runUnderlying45 rfl Tryz.sizeOf38 rfl ?_))
  refine wl rfl (oL1 one32 hS 0 rfl rfl (ev rfl rfl) rfl rfl ?_)
  refine wmv rfl rfl ?_
  by_cases hyp:y.2 = p
  ·
   refine wbt rfl rfl rfl rfl (bEq (eqT (by omega))) ?_
   refine wn1 ?_
   refine wT (ev rfl rfl) ?_
   refine wsr (wavc ?_)
   refine wn1 ?_
   refine wLv ?_
   refine blkR ?_
   refine thenR ?_
   refine thenR ?_
   refine blkR ?_
   refine thenR ?_
   exact absurd (hyp ▸ List.mem_of_getElem? hy2) hm
  refine wbt rfl rfl rfl rfl (bEq (eqF (by omega))) ?_
  refine wn1 ?_
  refine wF (ev rfl rfl) ?_
  refine wSk (blkN (tNo (wreg (wbc (z:=.int .i64 ((i + 1:Nat):Int)) rfl rfl (bAd (wI6 (by omega) (by omega))) ?_))))
  refine wmv rfl rfl ?_
  refine wn1 ?_
  exact ⟨(i + 1),⟨_,aSs ⟨rfl,rfl,rfl,rfl,rfl,rfl,trivial⟩,Sep.pickT [.blk g3 [.int .u32 (y.1:Int),.int .u32 (y.2:Int)] 45,.blk g [.slice pV nV cV,.slice pM nM cM,.slice pF l.length cF] 37,.lst 45 2 pF l.length cF (rpE (rps l)),.row pV nV cV (lim (cv l).1),.row pM nM cM (lim (cv l).2)] [.blk g [.slice pV nV cV,.slice pM nM cM,.slice pF l.length cF] 37,.lst 45 2 pF l.length cF (rpE (rps l)),.row pV nV cV (lim (cv l).1),.row pM nM cM (lim (cv l).2)] hS [1,2,3,4] (by decide) rfl,by omega,by rw [take_next hy2]; intro h; exact (List.mem_append.1 h).elim hns (fun h => hyp (List.mem_singleton.1 h).symm)⟩,by omega⟩
 refine wbt rfl rfl rfl rfl (bLs (decide_eq_false (by omega))) ?_
 refine wn1 (wSq ?_)
 refine wF (ev rfl rfl) ?_
 refine wEx ?_
 refine tEx ?_
 refine tEx ?_
 refine blkE ?_
 refine tNo (wsr (wmv rfl rfl ?_))
 refine wmv rfl rfl ?_
 refine wbt (z:=.int .u32 ((r % p:Nat):Int)) rfl rfl rfl rfl (bin_rem (by omega) rfl) ?_
 refine wav rfl rfl ?_
 refine wn1 (wSq ?_)
 refine wSg 14 [32,33,34,35,36,37,38,39,40,41,42,43,9,10] [[],[0],[1,0],[2,0,1],[],[3,4,0,1,2],[],[6],[7,6],[8,6,7],[],[9,10,0,1,2,3,4,5,6,7,8],[5,0,1,2,3,4,6,7,8,9,10,11],[11,0,1,2,3,4,5,6,7,8,9,10,12]] [] [] [] (fun i9 => ([iSv (.pointer (some ⟨g,0,none⟩)),iSv (.pointer (some ⟨g,0,none⟩)),iSv (.pointer (some ⟨g,0,none⟩)),iSv (.slice pV nV cV),iSv (.int .u32 (p:Int)),iSv (.int .u32 ((((cv l).1 % p:Nat):Int))),iSv (.pointer (some ⟨g,0,none⟩)),iSv (.pointer (some ⟨g,0,none⟩)),iSv (.pointer (some ⟨g,1,none⟩)),iSv (.slice pM nM cM),iSv (.int .u32 (p:Int)),iSv (.int .u32 ((((cv l).2 % p:Nat):Int))),iSv (.int .u32 ((((cv l).1 % p:Nat):Int))),iSv (.int .u32 ((((cv l).2 % p:Nat):Int)))]:List (List Value → Tell)).getD i9 (fun _ _ _ => False)) hNi (fun d _ _ _ _ h => (by cases d <;> exact h)) (by kernel_rfl) (by kernel_rfl) (by kernel_rfl) hS ?_ ?_
 ·
  refine stM rfl rfl rfl rfl rfl (fun _=>isI) ?_
  refine stT rfl (fun hT hS=>?_) ?_
  ·obtain ⟨hv0,hr0⟩:=hT 0 32 rfl rfl
   obtain hS:=(hS.flat1 hr0).front1
   exact inNo rfl (oNC (a:=⟨g,0,none⟩) rfl rfl (ev rfl hv0) (nSm rfl isI))
  refine stT rfl (fun hT hS=>?_) ?_
  ·obtain ⟨hv1,hr1⟩:=hT 1 33 rfl rfl
   obtain hS:=(hS.flat1 hr1).front1
   exact inNo rfl (oFA (g:=g) (off:=0) 0 rfl rfl (ev rfl hv1) Tryz.runUnderlying37 rfl Tryz.sizeOf24 rfl (nSm rfl isI))
  refine stT rfl (fun hT hS=>?_) ?_
  ·obtain ⟨hv2,hr2⟩:=hT 2 34 rfl rfl
   obtain hS:=(hS.flat1 hr2).front1
   exact inNo rfl (oL1 oneN hS 0 rfl rfl (ev rfl hv2) rfl rfl (nSm rfl isI))
  refine stM rfl rfl rfl rfl rfl (fun _=>isI) ?_
  refine stT rfl (fun hT hS=>?_) ?_
  ·obtain ⟨hv3,hr3⟩:=hT 3 35 rfl rfl
   obtain ⟨hv4,hr4⟩:=hT 4 36 rfl rfl
   obtain hS:=(hS.flat2 hr3 hr4).front2
   exact .inl ⟨wNo rfl,oCl rfl rfl Tryz.call20 rfl (wkrest (((hS.sl 2 rfl).nr hwV).mono (by omega)) (by omega) (by omega)) (ar2 (ev rfl hv3) (ev rfl hv4)) cNw⟩
  refine stM rfl rfl rfl rfl rfl (fun _=>isI) ?_
  refine stT rfl (fun hT hS=>?_) ?_
  ·obtain ⟨hv6,hr6⟩:=hT 6 38 rfl rfl
   obtain hS:=(hS.flat1 hr6).front1
   exact inNo rfl (oNC (a:=⟨g,0,none⟩) rfl rfl (ev rfl hv6) (nSm rfl isI))
  refine stT rfl (fun hT hS=>?_) ?_
  ·obtain ⟨hv7,hr7⟩:=hT 7 39 rfl rfl
   obtain hS:=(hS.flat1 hr7).front1
   exact inNo rfl (oFA (g:=g) (off:=0) 1 rfl rfl (ev rfl hv7) Tryz.runUnderlying37 rfl Tryz.sizeOf24 rfl (nSm rfl isI))
  refine stT rfl (fun hT hS=>?_) ?_
  ·obtain ⟨hv8,hr8⟩:=hT 8 40 rfl rfl
   obtain hS:=(hS.flat1 hr8).front1
   exact inNo rfl (oL1 oneN hS 0 rfl rfl (ev rfl hv8) rfl rfl (nSm rfl isI))
  refine stM rfl rfl rfl rfl rfl (fun _=>isI) ?_
  refine stT rfl (fun hT hS=>?_) ?_
  ·obtain ⟨hv9,hr9⟩:=hT 9 41 rfl rfl
   obtain ⟨hv10,hr10⟩:=hT 10 42 rfl rfl
   obtain hS:=(hS.flat2 hr9 hr10).front2
   exact .inl ⟨wNo rfl,oCl rfl rfl Tryz.call20 rfl (wkrest (((hS.sl 3 rfl).nr hwM).mono (by omega)) (by omega) (by omega)) (ar2 (ev rfl hv9) (ev rfl hv10)) cNw⟩
  refine stT rfl (fun hT hS=>?_) ?_
  ·obtain ⟨hv5,hr5⟩:=hT 5 37 rfl rfl
   obtain hS:=(hS.flat1 hr5).front1
   exact inNo rfl (oassign rfl rfl (ev rfl hv5) (nSm rfl isI))
  refine stT rfl (fun hT hS=>?_) ?_
  ·obtain ⟨hv11,hr11⟩:=hT 11 43 rfl rfl
   obtain hS:=(hS.flat1 hr11).front1
   exact inNo rfl (oassign rfl rfl (ev rfl hv11) (nSm rfl isI))
  exact sNi
 intro vs ρ w3 f' hf hT hS
 obtain ⟨hv0,hr0⟩:=hT 0 (by decide)
 obtain ⟨hv1,hr1⟩:=hT 1 (by decide)
 obtain ⟨hv2,hr2⟩:=hT 2 (by decide)
 obtain ⟨hv3,hr3⟩:=hT 3 (by decide)
 obtain ⟨hv4,hr4⟩:=hT 4 (by decide)
 obtain ⟨hv5,hr5⟩:=hT 5 (by decide)
 obtain ⟨hv6,hr6⟩:=hT 6 (by decide)
 obtain ⟨hv7,hr7⟩:=hT 7 (by decide)
 obtain ⟨hv8,hr8⟩:=hT 8 (by decide)
 obtain ⟨hv9,hr9⟩:=hT 9 (by decide)
 obtain ⟨hv10,hr10⟩:=hT 10 (by decide)
 obtain ⟨hv11,hr11⟩:=hT 11 (by decide)
 obtain ⟨hv12,hr12⟩:=hT 12 (by decide)
 obtain ⟨hv13,hr13⟩:=hT 13 (by decide)
 simp only [pool,if_true,hr0,hr1,hr2,hr3,hr4,hr5,hr6,hr7,hr8,hr9,hr10,hr11,hr12,hr13,List.nil_append,List.cons_append,List.append_nil] at hS
 simp only [layf,hv0,hv1,hv2,hv3,hv4,hv5,hv6,hv7,hv8,hv9,hv10,hv11,hv12,hv13] at hf
 subst hf; clear hT hv0 hv1 hv2 hv3 hv4 hv5 hv6 hv7 hv8 hv9 hv10 hv11 hv12 hv13 hr0 hr1 hr2 hr3 hr4 hr5 hr6 hr7 hr8 hr9 hr10 hr11 hr12 hr13
 refine wdone rfl ?_
 refine tNo (wsr (wmv rfl rfl ?_))
 refine wmv rfl rfl ?_
 refine wmv rfl rfl ?_
 refine wcl Tryz.call31 (wssub (show 0 < p by omega) hp2 hrp hvp) (args3 (ev rfl rfl) (ev rfl rfl) (ev rfl rfl)) hS ?_
 clear hS; rintro _ _ w4 ⟨rfl,rfl⟩ hS
 refine wmv rfl rfl ?_
 refine wmv rfl rfl ?_
 refine wcl Tryz.call32 (wsinv hp1 hp2 hmp) (ar2 (ev rfl rfl) (ev rfl rfl)) hS ?_
 clear hS; rintro _ _ w5 ⟨rfl,rfl⟩ hS
 refine wmv rfl rfl ?_
 refine wcl Tryz.call30 ((show Calls _ _ _ _ (Ret (Is (.int .u32 (D:Int))) _) from by rw [← hD.out]; exact wsmul hof hiv (show 0 < p by omega) hp2)) (args3 (ev rfl rfl) (ev rfl rfl) (ev rfl rfl)) hS ?_
 clear hS; rintro _ _ w6 ⟨rfl,rfl⟩ hS
 refine wav rfl rfl ?_
 refine wn1 (wSq ?_)
 have hkx1:ll D ≤ 2:=Nd.u64 (by omega)
 obtain ⟨x2,hx2⟩:∃ x:Nat,Hid (((cv l).2) * D = x):=⟨_,rfl⟩
 have hkx2:ll x2 ≤ 1048579:=Nd.mul hwM hkx1 hx2 (by omega)
 obtain ⟨x3,hx3⟩:∃ x:Nat,Hid (((cv l).1) + x2 = x):=⟨_,rfl⟩
 have hkx3:ll x3 ≤ 1048580:=Nd.add hwV hkx2 hx3 (by omega)
 refine wSg 16 [53,54,55,56,57,58,59,60,61,62,63,64,65,66,67,68] [[],[],[1],[2,1],[3,1,2],[],[5],[6,5],[7,5,6],[],[9],[10,9],[8,11,5,6,7,9,10],[4,12,1,2,3,5,6,7,8,9,10,11],[0,1,2,3,4,5,6,7,8,9,10,11,12,13],[14,0,1,2,3,4,5,6,7,8,9,10,11,12,13]] [] [] [] (fun i9 => ([iSv (.pointer (some ⟨g,0,none⟩)),iSv (.pointer (some ⟨g,0,none⟩)),iSv (.pointer (some ⟨g,0,none⟩)),iSv (.pointer (some ⟨g,0,none⟩)),iSv (.slice pV nV cV),iSv (.pointer (some ⟨g,0,none⟩)),iSv (.pointer (some ⟨g,0,none⟩)),iSv (.pointer (some ⟨g,1,none⟩)),iSv (.slice pM nM cM),iSv (.int .u32 (D:Int)),iSv (.int .u64 (D:Int)),fun _ => Nt (lim D),fun _ => Nt (lim x2),fun _ => Nt (lim x3),iSv (.pointer (some ⟨g,0,none⟩)),iSv (.pointer (some ⟨g,0,none⟩))]:List (List Value → Tell)).getD i9 (fun _ _ _ => False)) hNi (fun d _ _ _ _ h => (by cases d <;> exact h)) (by kernel_rfl) (by kernel_rfl) (by kernel_rfl) hS ?_ ?_
 ·
  refine stM rfl rfl rfl rfl rfl (fun _=>isI) ?_
  refine stM rfl rfl rfl rfl rfl (fun _=>isI) ?_
  refine stT rfl (fun hT hS=>?_) ?_
  ·obtain ⟨hv1,hr1⟩:=hT 1 54 rfl rfl
   obtain hS:=(hS.flat1 hr1).front1
   exact inNo rfl (oNC (a:=⟨g,0,none⟩) rfl rfl (ev rfl hv1) (nSm rfl isI))
  refine stT rfl (fun hT hS=>?_) ?_
  ·obtain ⟨hv2,hr2⟩:=hT 2 55 rfl rfl
   obtain hS:=(hS.flat1 hr2).front1
   exact inNo rfl (oFA (g:=g) (off:=0) 0 rfl rfl (ev rfl hv2) Tryz.runUnderlying37 rfl Tryz.sizeOf24 rfl (nSm rfl isI))
  refine stT rfl (fun hT hS=>?_) ?_
  ·obtain ⟨hv3,hr3⟩:=hT 3 56 rfl rfl
   obtain hS:=(hS.flat1 hr3).front1
   exact inNo rfl (oL1 oneN hS 0 rfl rfl (ev rfl hv3) rfl rfl (nSm rfl isI))
  refine stM rfl rfl rfl rfl rfl (fun _=>isI) ?_
  refine stT rfl (fun hT hS=>?_) ?_
  ·obtain ⟨hv5,hr5⟩:=hT 5 58 rfl rfl
   obtain hS:=(hS.flat1 hr5).front1
   exact inNo rfl (oNC (a:=⟨g,0,none⟩) rfl rfl (ev rfl hv5) (nSm rfl isI))
  refine stT rfl (fun hT hS=>?_) ?_
  ·obtain ⟨hv6,hr6⟩:=hT 6 59 rfl rfl
   obtain hS:=(hS.flat1 hr6).front1
   exact inNo rfl (oFA (g:=g) (off:=0) 1 rfl rfl (ev rfl hv6) Tryz.runUnderlying37 rfl Tryz.sizeOf24 rfl (nSm rfl isI))
  refine stT rfl (fun hT hS=>?_) ?_
  ·obtain ⟨hv7,hr7⟩:=hT 7 60 rfl rfl
   obtain hS:=(hS.flat1 hr7).front1
   exact inNo rfl (oL1 oneN hS 0 rfl rfl (ev rfl hv7) rfl rfl (nSm rfl isI))
  refine stM rfl rfl rfl rfl rfl (fun _=>isI) ?_
  refine stT rfl (fun hT hS=>?_) ?_
  ·obtain ⟨hv9,hr9⟩:=hT 9 62 rfl rfl
   obtain hS:=(hS.flat1 hr9).front1
   exact inNo rfl (oCv (u:=.int .u32 (D:Int)) (v:=.int .u64 (D:Int)) rfl rfl (ev rfl hv9) (cvI Tryz.runUnderlying38 Tryz.runUnderlying69 (wU6 (by omega) (by omega))) (nSm rfl isI))
  refine stT rfl (fun hT hS=>?_) ?_
  ·obtain ⟨hv10,hr10⟩:=hT 10 63 rfl rfl
   obtain hS:=(hS.flat1 hr10).front1
   exact .inl ⟨wNo rfl,oCl rfl rfl Tryz.call28 rfl (wmof (x:=D) (by omega)) (ar1 (ev rfl hv10)) cNw⟩
  refine stT rfl (fun hT hS=>?_) ?_
  ·obtain ⟨hv8,hr8⟩:=hT 8 61 rfl rfl
   obtain ⟨p1,n1,c1,hv11,hr11⟩:=(hT 11 64 rfl rfl:(Nt (lim D)) _ _)
   obtain hS:=(hS.flat2 hr8 hr11).front2
   exact .inl ⟨wNo rfl,oCl rfl rfl Tryz.call34 rfl (wmmul (((hS.sl 4 rfl).nr hwM).mono (by omega)) (((hS.sl 0 rfl).nr hkx1).mono (by omega)) hx2) (ar2 (ev rfl hv8) (ev rfl hv11)) cNw⟩
  refine stT rfl (fun hT hS=>?_) ?_
  ·obtain ⟨hv4,hr4⟩:=hT 4 57 rfl rfl
   obtain ⟨p2,n2,c2,hv12,hr12⟩:=(hT 12 65 rfl rfl:(Nt (lim x2)) _ _)
   obtain hS:=(hS.flat2 hr4 hr12).front2
   exact .inl ⟨wNo rfl,oCl rfl rfl Tryz.call33 rfl (wmadd (((hS.sl 3 rfl).nr hwV).mono (by omega)) (((hS.sl 0 rfl).nr hkx2).mono (by omega)) hx3) (ar2 (ev rfl hv4) (ev rfl hv12)) cNw⟩
  refine stT rfl (fun hT hS=>?_) ?_
  ·obtain ⟨hv0,hr0⟩:=hT 0 53 rfl rfl
   obtain hS:=(hS.flat1 hr0).front1
   exact inNo rfl (oNC (a:=⟨g,0,none⟩) rfl rfl (ev rfl hv0) (nSm rfl isI))
  refine stT rfl (fun hT hS=>?_) ?_
  ·obtain ⟨hv14,hr14⟩:=hT 14 67 rfl rfl
   obtain hS:=(hS.flat1 hr14).front1
   exact inNo rfl (oFA (g:=g) (off:=0) 0 rfl rfl (ev rfl hv14) Tryz.runUnderlying37 rfl Tryz.sizeOf24 rfl (nSm rfl isI))
  exact sNi
 intro vs ρ w7 f' hf hT hS
 obtain ⟨hv0,hr0⟩:=hT 0 (by decide)
 obtain ⟨hv1,hr1⟩:=hT 1 (by decide)
 obtain ⟨hv2,hr2⟩:=hT 2 (by decide)
 obtain ⟨hv3,hr3⟩:=hT 3 (by decide)
 obtain ⟨hv4,hr4⟩:=hT 4 (by decide)
 obtain ⟨hv5,hr5⟩:=hT 5 (by decide)
 obtain ⟨hv6,hr6⟩:=hT 6 (by decide)
 obtain ⟨hv7,hr7⟩:=hT 7 (by decide)
 obtain ⟨hv8,hr8⟩:=hT 8 (by decide)
 obtain ⟨hv9,hr9⟩:=hT 9 (by decide)
 obtain ⟨hv10,hr10⟩:=hT 10 (by decide)
 obtain ⟨p1,n1,c1,hv11,hr11⟩:=(hT 11 (by decide):(Nt (lim D)) _ _)
 obtain ⟨p2,n2,c2,hv12,hr12⟩:=(hT 12 (by decide):(Nt (lim x2)) _ _)
 obtain ⟨p3,n3,c3,hv13,hr13⟩:=(hT 13 (by decide):(Nt (lim x3)) _ _)
 obtain ⟨hv14,hr14⟩:=hT 14 (by decide)
 obtain ⟨hv15,hr15⟩:=hT 15 (by decide)
 simp only [pool,if_true,hr0,hr1,hr2,hr3,hr4,hr5,hr6,hr7,hr8,hr9,hr10,hr11,hr12,hr13,hr14,hr15,List.nil_append,List.cons_append,List.append_nil] at hS
 simp only [layf,hv0,hv1,hv2,hv3,hv4,hv5,hv6,hv7,hv8,hv9,hv10,hv11,hv12,hv13,hv14,hv15] at hf
 subst hf; clear hT hv0 hv1 hv2 hv3 hv4 hv5 hv6 hv7 hv8 hv9 hv10 hv11 hv12 hv13 hv14 hv15 hr0 hr1 hr2 hr3 hr4 hr5 hr6 hr7 hr8 hr9 hr10 hr11 hr12 hr13 hr14 hr15
 refine wLt 16 rfl (by kernel_rfl) (oSt _ _ Tryz.sizeOf24 hS 3 rfl rfl (ev rfl rfl) (ev rfl rfl) rfl rfl rfl rfl rfl rfl ?_)
 clear hS; intro w8 hS
 refine ⟨hNi,?_⟩
 refine wdone rfl ?_
 refine tNo (wSq ?_)
 have hkx4:ll p ≤ 2:=Nd.u64 (by omega)
 obtain ⟨x5,hx5⟩:∃ x:Nat,Hid (((cv l).2) * p = x):=⟨_,rfl⟩
 have hkx5:ll x5 ≤ 1048579:=Nd.mul hwM hkx4 hx5 (by omega)
 refine wSg 11 [69,70,71,72,73,74,75,76,77,78,79] [[],[],[1],[2,1],[3,1,2],[],[5],[6,5],[4,7,1,2,3,5,6],[0,1,2,3,4,5,6,7,8],[9,0,1,2,3,4,5,6,7,8]] [] [] [] (fun i9 => ([iSv (.pointer (some ⟨g,0,none⟩)),iSv (.pointer (some ⟨g,0,none⟩)),iSv (.pointer (some ⟨g,0,none⟩)),iSv (.pointer (some ⟨g,1,none⟩)),iSv (.slice pM nM cM),iSv (.int .u32 (p:Int)),iSv (.int .u64 (p:Int)),fun _ => Nt (lim p),fun _ => Nt (lim x5),iSv (.pointer (some ⟨g,0,none⟩)),iSv (.pointer (some ⟨g,1,none⟩))]:List (List Value → Tell)).getD i9 (fun _ _ _ => False)) hNi (fun d _ _ _ _ h => (by cases d <;> exact h)) (by kernel_rfl) (by kernel_rfl) (by kernel_rfl) hS ?_ ?_
 ·
  refine stM rfl rfl rfl rfl rfl (fun _=>isI) ?_
  refine stM rfl rfl rfl rfl rfl (fun _=>isI) ?_
  refine stT rfl (fun hT hS=>?_) ?_
  ·obtain ⟨hv1,hr1⟩:=hT 1 70 rfl rfl
   obtain hS:=(hS.flat1 hr1).front1
   exact inNo rfl (oNC (a:=⟨g,0,none⟩) rfl rfl (ev rfl hv1) (nSm rfl isI))
  refine stT rfl (fun hT hS=>?_) ?_
  ·obtain ⟨hv2,hr2⟩:=hT 2 71 rfl rfl
   obtain hS:=(hS.flat1 hr2).front1
   exact inNo rfl (oFA (g:=g) (off:=0) 1 rfl rfl (ev rfl hv2) Tryz.runUnderlying37 rfl Tryz.sizeOf24 rfl (nSm rfl isI))
  refine stT rfl (fun hT hS=>?_) ?_
  ·obtain ⟨hv3,hr3⟩:=hT 3 72 rfl rfl
   obtain hS:=(hS.flat1 hr3).front1
   exact inNo rfl (oL1 oneN hS 3 rfl rfl (ev rfl hv3) rfl rfl (nSm rfl isI))
  refine stM rfl rfl rfl rfl rfl (fun _=>isI) ?_
  refine stT rfl (fun hT hS=>?_) ?_
  ·obtain ⟨hv5,hr5⟩:=hT 5 74 rfl rfl
   obtain hS:=(hS.flat1 hr5).front1
   exact inNo rfl (oCv (u:=.int .u32 (p:Int)) (v:=.int .u64 (p:Int)) rfl rfl (ev rfl hv5) (cvI Tryz.runUnderlying38 Tryz.runUnderlying69 (wU6 (by omega) (by omega))) (nSm rfl isI))
  refine stT rfl (fun hT hS=>?_) ?_
  ·obtain ⟨hv6,hr6⟩:=hT 6 75 rfl rfl
   obtain hS:=(hS.flat1 hr6).front1
   exact .inl ⟨wNo rfl,oCl rfl rfl Tryz.call28 rfl (wmof (x:=p) (by omega)) (ar1 (ev rfl hv6)) cNw⟩
  refine stT rfl (fun hT hS=>?_) ?_
  ·obtain ⟨hv4,hr4⟩:=hT 4 73 rfl rfl
   obtain ⟨p4,n4,c4,hv7,hr7⟩:=(hT 7 76 rfl rfl:(Nt (lim p)) _ _)
   obtain hS:=(hS.flat2 hr4 hr7).front2
   exact .inl ⟨wNo rfl,oCl rfl rfl Tryz.call34 rfl (wmmul (((hS.sl 7 rfl).nr hwM).mono (by omega)) (((hS.sl 0 rfl).nr hkx4).mono (by omega)) hx5) (ar2 (ev rfl hv4) (ev rfl hv7)) cNw⟩
  refine stT rfl (fun hT hS=>?_) ?_
  ·obtain ⟨hv0,hr0⟩:=hT 0 69 rfl rfl
   obtain hS:=(hS.flat1 hr0).front1
   exact inNo rfl (oNC (a:=⟨g,0,none⟩) rfl rfl (ev rfl hv0) (nSm rfl isI))
  refine stT rfl (fun hT hS=>?_) ?_
  ·obtain ⟨hv9,hr9⟩:=hT 9 78 rfl rfl
   obtain hS:=(hS.flat1 hr9).front1
   exact inNo rfl (oFA (g:=g) (off:=0) 1 rfl rfl (ev rfl hv9) Tryz.runUnderlying37 rfl Tryz.sizeOf24 rfl (nSm rfl isI))
  exact sNi
 intro vs ρ w9 f' hf hT hS
 obtain ⟨hv0,hr0⟩:=hT 0 (by decide)
 obtain ⟨hv1,hr1⟩:=hT 1 (by decide)
 obtain ⟨hv2,hr2⟩:=hT 2 (by decide)
 obtain ⟨hv3,hr3⟩:=hT 3 (by decide)
 obtain ⟨hv4,hr4⟩:=hT 4 (by decide)
 obtain ⟨hv5,hr5⟩:=hT 5 (by decide)
 obtain ⟨hv6,hr6⟩:=hT 6 (by decide)
 obtain ⟨p4,n4,c4,hv7,hr7⟩:=(hT 7 (by decide):(Nt (lim p)) _ _)
 obtain ⟨p5,n5,c5,hv8,hr8⟩:=(hT 8 (by decide):(Nt (lim x5)) _ _)
 obtain ⟨hv9,hr9⟩:=hT 9 (by decide)
 obtain ⟨hv10,hr10⟩:=hT 10 (by decide)
 simp only [pool,if_true,hr0,hr1,hr2,hr3,hr4,hr5,hr6,hr7,hr8,hr9,hr10,List.nil_append,List.cons_append,List.append_nil] at hS
 simp only [layf,hv0,hv1,hv2,hv3,hv4,hv5,hv6,hv7,hv8,hv9,hv10] at hf
 subst hf; clear hT hv0 hv1 hv2 hv3 hv4 hv5 hv6 hv7 hv8 hv9 hv10 hr0 hr1 hr2 hr3 hr4 hr5 hr6 hr7 hr8 hr9 hr10
 refine wLt 11 rfl (by kernel_rfl) (oSt _ _ Tryz.sizeOf24 hS 5 rfl rfl (ev rfl rfl) (ev rfl rfl) rfl rfl rfl rfl rfl rfl ?_)
 clear hS; intro w10 hS
 refine ⟨hNi,?_⟩
 refine wdone rfl ?_
 refine tNo (wsr (wmv rfl rfl ?_))
 refine wmv rfl rfl ?_
 refine wl rfl (oNC (a:=⟨g,0,none⟩) rfl rfl (ev rfl rfl) ?_)
 refine wl rfl (oFA (g:=g) (off:=0) 2 rfl rfl (ev rfl rfl) Tryz.runUnderlying37 rfl Tryz.sizeOf22 rfl ?_)
 refine wl rfl (oL1 ⟨Tryz.isAgg22,Tryz.sizeOf22⟩ hS 5 rfl rfl (ev rfl rfl) rfl rfl ?_)
 refine wmv rfl rfl ?_
 refine wmv rfl rfl ?_
 refine wl rfl (obuild (ps:=#[(0,.int .u32 ((r % p:Nat):Int)),(1,.int .u32 (p:Int))]) (v:=.agg #[.int .u32 ((r % p:Nat):Int),.int .u32 (p:Int)]) rfl rfl (parts2 (ev rfl rfl) (ev rfl rfl)) (fun w => by simp [go_sem,Instr.build,Instr.fill]) ?_)
 refine wl rfl (obslice (ps:=#[(0,.agg #[.int .u32 ((r % p:Nat):Int),.int .u32 (p:Int)])]) (z:=.agg #[.int .u32 0,.int .u32 0]) [.int .u32 ((r % p:Nat):Int),.int .u32 (p:Int)] hS rfl rfl Tryz.runUnderlying22 Tryz.sizeOf45 Tryz.zeroValue45 (parts1 (ev (v:=.agg #[.int .u32 ((r % p:Nat):Int),.int .u32 (p:Int)]) rfl rfl)) rfl (by decide) fill2_1 ?_)
 clear hS; intro g11 w12 hS
 obtain hS:=(show Sep w0 (.lst 45 2 pF l.length cF (rpE (rps l)) :: .blk g11 [.int .u32 (((r % p:Nat):Int)),.int .u32 (((p:Nat):Int))] 45 :: .row p5 n5 c5 (lim x5) :: .row p4 n4 c4 (lim p) :: .row p3 n3 c3 (lim x3) :: .row p2 n2 c2 (lim x2) :: .row p1 n1 c1 (lim D) :: .blk g [.slice p3 n3 c3,.slice p5 n5 c5,.slice pF l.length cF] 37 :: .row pV nV cV (lim (cv l).1) :: .row pM nM cM (lim (cv l).2) :: R) w12 from Sep.pickT [.blk g11 [.int .u32 (((r % p:Nat):Int)),.int .u32 (((p:Nat):Int))] 45,.row p5 n5 c5 (lim x5),.row p4 n4 c4 (lim p),.row p3 n3 c3 (lim x3),.row p2 n2 c2 (lim x2),.row p1 n1 c1 (lim D),.blk g [.slice p3 n3 c3,.slice p5 n5 c5,.slice pF l.length cF] 37,.lst 45 2 pF l.length cF (rpE (rps l)),.row pV nV cV (lim (cv l).1),.row pM nM cM (lim (cv l).2)] [.lst 45 2 pF l.length cF (rpE (rps l)),.blk g11 [.int .u32 (((r % p:Nat):Int)),.int .u32 (((p:Nat):Int))] 45,.row p5 n5 c5 (lim x5),.row p4 n4 c4 (lim p),.row p3 n3 c3 (lim x3),.row p2 n2 c2 (lim x2),.row p1 n1 c1 (lim D),.blk g [.slice p3 n3 c3,.slice p5 n5 c5,.slice pF l.length cF] 37,.row pV nV cV (lim (cv l).1),.row pM nM cM (lim (cv l).2)] hS [7,0,1,2,3,4,5,6,8,9] (by decide) rfl)
 refine wl rfl (oappendL (p:=pF) (m:=l.length) (c:=cF) (g2:=g11) (c2:=1) (off:=0) [.int .u32 ((r % p:Nat):Int),.int .u32 (p:Int)] [] hS rfl rfl Tryz.underlying22 infoRest rfl (by decide) (ev rfl rfl) (ev rfl rfl) (fun j v hj => by rw [Nat.zero_add]; exact (blk_cell (hS.blkAt 1 rfl) j).trans hj) rfl rfl rfl (by omega) (by omega) ?_)
 clear hS; intro p14 c15 w13 hS
 refine wl rfl (oNC (a:=⟨g,0,none⟩) rfl rfl (ev rfl rfl) ?_)
 refine wl rfl (oFA (g:=g) (off:=0) 2 rfl rfl (ev rfl rfl) Tryz.runUnderlying37 rfl Tryz.sizeOf22 rfl ?_)
 refine wl rfl (oSt _ _ Tryz.sizeOf22 hS 7 rfl rfl (ev rfl rfl) (ev rfl rfl) rfl rfl rfl rfl rfl rfl ?_)
 clear hS; intro w16 hS
 refine wn2 (wavc ?_)
 refine wn1 ?_
 refine wLv ?_
 refine wr1 Tryz.results12 (tlT (v:=.int .i64 0) rfl rfl) ?_
 have hc:=cv_put hD hx2 hx3 hx5
 refine ⟨_,_,rfl,⟨p3,n3,c3,p5,n5,c5,p14,c15,rfl,rfl⟩,?_⟩
 rw [rps_snoc,rpE_app,hc,List.length_append,List.length_singleton]
 exact Sep.pickT [.lst 45 2 p14 ((l.length + 1)) c15 ((rpE (rps l)) ++ [⟨[.int .u32 ((r % p:Nat):Int),.int .u32 (p:Int)],[]⟩]),.blk g11 [.int .u32 ((r % p:Nat):Int),.int .u32 (p:Int)] 45,.row p5 n5 c5 (lim x5),.row p4 n4 c4 (lim p),.row p3 n3 c3 (lim x3),.row p2 n2 c2 (lim x2),.row p1 n1 c1 (lim D),.blk g [.slice p3 n3 c3,.slice p5 n5 c5,.slice p14 ((l.length + 1)) c15] 37,.row pV nV cV (lim (cv l).1),.row pM nM cM (lim (cv l).2)] [.blk g [.slice p3 n3 c3,.slice p5 n5 c5,.slice p14 ((l.length + 1)) c15] 37,.lst 45 2 p14 ((l.length + 1)) c15 ((rpE (rps l)) ++ [⟨[.int .u32 ((r % p:Nat):Int),.int .u32 (p:Int)],[]⟩]),.row p3 n3 c3 (lim x3),.row p5 n5 c5 (lim x5)] hS [7,0,4,2] (by decide) rfl
theorem wcaddA {w0 w:World} {R:List Res} {g r p:Nat} {s:Gh} {l:List (Nat × Nat)} (ht:Tb w0) (hl:Okl l) (hn:l.length < 1048576) (hr:r < 4294967296) (hp2:p < 4294967296) {K2:List (Nat × Nat)} {e2:Nat} (hK:Hid (nxt l (r,p) = K2)) (he:Hid (eno (mods l) p = e2)) (hS:Sep w0 (.pack (crtR g s l) :: R) w):Calls Tryz.prog 40 #[.pointer (some ⟨g,0,none⟩),.int .u32 ((r:Nat):Int),.int .u32 ((p:Nat):Int)] w (RetS (CrtE g K2 ((e2:Nat):Int)) w0 R):=by
 have hK':=hK.out
 have he':=he.out
 by_cases hp:MR.Pr p
 ·by_cases hm:p ∈ mods l
  ·have e:=eno_in hp hm
   rw [nxt_no (by rw [e]; decide)] at hK'
   subst hK'
   rw [e] at he'
   subst he'
   exact wcadd60 ht hl hn hr hp2 hS hp hm
  have e:=eno_ok hp hm
  rw [nxt_ok e] at hK'
  subst hK'
  rw [e] at he'
  subst he'
  exact wcadd ht hl hn hr hp2 hS hp hm
 have e:=eno_np (seen:=mods l) hp
 rw [nxt_no (by rw [e]; decide)] at hK'
 subst hK'
 rw [e] at he'
 subst he'
 exact wcadd40 ht hl hn hr hp2 hS hp
theorem wkaddA {w0 w:World} {R:List Res} {g r p nV cV nM cM cF:Nat} {pV pM pF:Option Addr} {l:List (Nat × Nat)} (hl:Okl l) (hn:l.length < 1048576) (hr:r < 4294967296) (hp2:p < 4294967296) {K2:List (Nat × Nat)} {e2:Nat} (hK:Hid (nxt l (r,p) = K2)) (he:Hid (eno (mods l) p = e2)) (hS:Sep w0 (.blk g [.slice pV nV cV,.slice pM nM cM,.slice pF l.length cF] 37 :: .lst 45 2 pF l.length cF (rpE (rps l)) :: .row pV nV cV (lim (cv l).1) :: .row pM nM cM (lim (cv l).2) :: R) w):Calls Tryz.prog 12 #[.pointer (some ⟨g,0,none⟩),.int .u32 ((r:Nat):Int),.int .u32 ((p:Nat):Int)] w (RetS (RfE g K2 ((e2:Nat):Int)) w0 R):=by
 have hK':=hK.out
 have he':=he.out
 by_cases hp:MR.Pr p
 ·by_cases hm:p ∈ mods l
  ·have e:=eno_in hp hm
   rw [nxt_no (by rw [e]; decide)] at hK'
   subst hK'
   rw [e] at he'
   subst he'
   exact wkadd60 hl hn hr hp2 hS hp hm
  have e:=eno_ok hp hm
  rw [nxt_ok e] at hK'
  subst hK'
  rw [e] at he'
  subst he'
  exact wkadd hl hn hr hp2 hS hp hm
 have e:=eno_np (seen:=mods l) hp
 rw [nxt_no (by rw [e]; decide)] at hK'
 subst hK'
 rw [e] at he'
 subst he'
 exact wkadd40 hl hn hr hp2 hS hp
theorem wlspoil2 {w0 w:World} {R:List Res} {g c:Nat} {p1:Option Addr} {n1 c1:Nat} {xs1:List Nat} {p2:Option Addr} {n2 c2:Nat} {xs2:List Nat} (hS:Sep w0 (.blk g [.slice p1 n1 c1,.slice p2 n2 c2] 24 :: .rowm p1 n1 c1 xs1 :: .rowm p2 n2 c2 xs2 :: R) w) (hb1:n1 ≤ 4294967296) (hb2:n2 ≤ 4294967296) :
  Calls Tryz.prog 13 #[.slice (some ⟨g,0,none⟩) 2 c] w (RetS (Is (.tuple #[])) w0 R):=by
 refine went Tryz.func13 rfl (n:=21) rfl rfl ?_
 refine wsr (wmv rfl rfl ?_)
 refine wl rfl (olen rfl rfl rfl Tryz.runUnderlying74 (p:=(some ⟨g,0,none⟩)) (k:=2) (m:=c) (ev rfl rfl) ?_)
 refine wmvc ?_
 refine wn1 (wBk ?_)
 refine wLp (σ := Nat) (fun i a9 w' => ∃ (fb:Nat → Value) (ys1:List Nat) (ys2:List Nat),a9 = act 21 (sets fb [(5,.slice (some ⟨g,0,none⟩) 2 c),(6,.int .i64 ((2:Nat):Int)),(7,.int .i64 (i:Int))]) ∧ Sep w0 (.blk g [.slice p1 n1 c1,.slice p2 n2 c2] 24 :: .rowm p1 n1 c1 ys1 :: .rowm p2 n2 c2 ys2 :: R) w' ∧ (i ≤ 2)) (fun i => 2 - i) (0) ⟨_,_,_,aSs ⟨rfl,rfl,rfl,trivial⟩,hS,Nat.zero_le _⟩ ?_
 clear hS; rintro i _ w1 ⟨fb,ys1,ys2,rfl,hS,hi⟩
 refine wsr ?_
 by_cases hlt:i < 2
 ·
  by_cases h1:i = 0
  ·
   subst h1
   refine wbt rfl rfl rfl rfl (bLs (decide_eq_true (by omega))) ?_
   refine wn1 (wSq ?_)
   refine wT (ev rfl rfl) ?_
   refine wk2 (wl rfl (oIx (p:=(some ⟨g,0,none⟩)) (g:=g) (off:=0) (m:=2) (k:=0) (j:=0) rfl rfl Tryz.runUnderlying74 Tryz.sizeOf24 (ev rfl rfl) (rfl) (ev rfl rfl) (by omega) rfl ?_))
   refine wl rfl (oL1 oneN hS 0 rfl rfl (ev rfl rfl) rfl rfl ?_)
   refine wav rfl rfl ?_
   refine wn2 (wmv rfl rfl ?_)
   refine wl rfl (olen rfl rfl rfl Tryz.runUnderlying24 (p:=p1) (k:=n1) (m:=c1) (ev rfl rfl) ?_)
   refine wmvc ?_
   refine wn1 (wBk ?_)
   refine wLp (σ := Nat) (fun j a9 w' => ∃ (fb:Nat → Value) (zs1:List Nat),a9 = act 21 (sets fb [(3,.slice p1 n1 c1),(5,.slice (some ⟨g,0,none⟩) 2 c),(6,.int .i64 ((2:Nat):Int)),(7,.int .i64 ((0:Nat):Int)),(12,.int .i64 (n1:Int)),(13,.int .i64 (j:Int))]) ∧ Sep w0 (.blk g [.slice p1 n1 c1,.slice p2 n2 c2] 24 :: .rowm p1 n1 c1 zs1 :: .rowm p2 n2 c2 ys2 :: R) w' ∧ (j ≤ n1)) (fun j => n1 - j) (0) ⟨_,_,aSs ⟨rfl,rfl,rfl,rfl,rfl,rfl,trivial⟩,hS,Nat.zero_le _⟩ ?_
   clear hS; rintro j _ w2 ⟨fb,zs1,rfl,hS,hj⟩
   refine wsr ?_
   by_cases hlj:j < n1
   ·
    obtain ⟨gr,hgr,_,_⟩:=(hS.rowmAt 1 rfl).pos (by omega)
    refine wbt rfl rfl rfl rfl (bLs (decide_eq_true (by omega))) ?_
    refine wn1 (wSq ?_)
    refine wT (ev rfl rfl) ?_
    refine wk2 (wmv rfl rfl ?_)
    refine wav rfl rfl ?_
    refine wn1 (wreg (wmv rfl rfl ?_))
    refine wmv rfl rfl ?_
    refine wl rfl (oIx (p:=p1) (g:=gr) (off:=0) (m:=n1) (k:=j) (j:=j) rfl rfl Tryz.runUnderlying24 Tryz.sizeOf38 (ev rfl rfl) hgr (ev rfl rfl) hlj (by simp) ?_)
    refine wl rfl (ostoreRow (i:=j) (u:=9) Tryz.sizeOf38 hS 1 rfl rfl (ev rfl rfl) (evc (v:=.int .u32 ((9:Nat):Int))) rfl hgr ((by omega)) (by omega) ?_)
    clear hS; intro w3 hS
    refine wnil (blkN (tNo (wreg (wbc (z:=.int .i64 ((j + 1:Nat):Int)) rfl rfl (bAd (wI6 (by omega) (by omega))) ?_))))
    refine wmv rfl rfl ?_
    refine wn1 ?_
    exact ⟨(j + 1),⟨_,_,aSs ⟨rfl,rfl,rfl,rfl,rfl,rfl,trivial⟩,Sep.pickT [.blk g [.slice p1 n1 c1,.slice p2 n2 c2] 24,.rowm p1 n1 c1 ((zs1).set j 9),.rowm p2 n2 c2 ys2] [.blk g [.slice p1 n1 c1,.slice p2 n2 c2] 24,.rowm p1 n1 c1 ((zs1).set j 9),.rowm p2 n2 c2 ys2] hS [0,1,2] (by decide) rfl,by omega⟩,by omega⟩
   refine wbt rfl rfl rfl rfl (bLs (decide_eq_false (by omega))) ?_
   refine wn1 (wSq ?_)
   refine wF (ev rfl rfl) ?_
   refine wEx ?_
   refine tEx ?_
   refine tEx ?_
   refine blkE ?_
   refine blkN (tNo (wreg (wbc (z:=.int .i64 ((0 + 1:Nat):Int)) rfl rfl (bAd (wI6 (by omega) (by omega))) ?_)))
   refine wmv rfl rfl ?_
   refine wn1 ?_
   exact ⟨(0 + 1),⟨_,_,_,aSs ⟨rfl,rfl,rfl,trivial⟩,Sep.pickT [.blk g [.slice p1 n1 c1,.slice p2 n2 c2] 24,.rowm p1 n1 c1 zs1,.rowm p2 n2 c2 ys2] [.blk g [.slice p1 n1 c1,.slice p2 n2 c2] 24,.rowm p1 n1 c1 zs1,.rowm p2 n2 c2 ys2] hS [0,1,2] (by decide) rfl,by omega⟩,by omega⟩
  by_cases h2:i = 1
  ·
   subst h2
   refine wbt rfl rfl rfl rfl (bLs (decide_eq_true (by omega))) ?_
   refine wn1 (wSq ?_)
   refine wT (ev rfl rfl) ?_
   refine wk2 (wl rfl (oIx (p:=(some ⟨g,0,none⟩)) (g:=g) (off:=0) (m:=2) (k:=1) (j:=1) rfl rfl Tryz.runUnderlying74 Tryz.sizeOf24 (ev rfl rfl) (rfl) (ev rfl rfl) (by omega) rfl ?_))
   refine wl rfl (oL1 oneN hS 0 rfl rfl (ev rfl rfl) rfl rfl ?_)
   refine wav rfl rfl ?_
   refine wn2 (wmv rfl rfl ?_)
   refine wl rfl (olen rfl rfl rfl Tryz.runUnderlying24 (p:=p2) (k:=n2) (m:=c2) (ev rfl rfl) ?_)
   refine wmvc ?_
   refine wn1 (wBk ?_)
   refine wLp (σ := Nat) (fun j a9 w' => ∃ (fb:Nat → Value) (zs2:List Nat),a9 = act 21 (sets fb [(3,.slice p2 n2 c2),(5,.slice (some ⟨g,0,none⟩) 2 c),(6,.int .i64 ((2:Nat):Int)),(7,.int .i64 ((1:Nat):Int)),(12,.int .i64 (n2:Int)),(13,.int .i64 (j:Int))]) ∧ Sep w0 (.blk g [.slice p1 n1 c1,.slice p2 n2 c2] 24 :: .rowm p1 n1 c1 ys1 :: .rowm p2 n2 c2 zs2 :: R) w' ∧ (j ≤ n2)) (fun j => n2 - j) (0) ⟨_,_,aSs ⟨rfl,rfl,rfl,rfl,rfl,rfl,trivial⟩,hS,Nat.zero_le _⟩ ?_
   clear hS; rintro j _ w2 ⟨fb,zs2,rfl,hS,hj⟩
   refine wsr ?_
   by_cases hlj:j < n2
   ·
    obtain ⟨gr,hgr,_,_⟩:=(hS.rowmAt 2 rfl).pos (by omega)
    refine wbt rfl rfl rfl rfl (bLs (decide_eq_true (by omega))) ?_
    refine wn1 (wSq ?_)
    refine wT (ev rfl rfl) ?_
    refine wk2 (wmv rfl rfl ?_)
    refine wav rfl rfl ?_
    refine wn1 (wreg (wmv rfl rfl ?_))
    refine wmv rfl rfl ?_
    refine wl rfl (oIx (p:=p2) (g:=gr) (off:=0) (m:=n2) (k:=j) (j:=j) rfl rfl Tryz.runUnderlying24 Tryz.sizeOf38 (ev rfl rfl) hgr (ev rfl rfl) hlj (by simp) ?_)
    refine wl rfl (ostoreRow (i:=j) (u:=9) Tryz.sizeOf38 hS 2 rfl rfl (ev rfl rfl) (evc (v:=.int .u32 ((9:Nat):Int))) rfl hgr ((by omega)) (by omega) ?_)
    clear hS; intro w3 hS
    refine wnil (blkN (tNo (wreg (wbc (z:=.int .i64 ((j + 1:Nat):Int)) rfl rfl (bAd (wI6 (by omega) (by omega))) ?_))))
    refine wmv rfl rfl ?_
    refine wn1 ?_
    exact ⟨(j + 1),⟨_,_,aSs ⟨rfl,rfl,rfl,rfl,rfl,rfl,trivial⟩,Sep.pickT [.blk g [.slice p1 n1 c1,.slice p2 n2 c2] 24,.rowm p1 n1 c1 ys1,.rowm p2 n2 c2 ((zs2).set j 9)] [.blk g [.slice p1 n1 c1,.slice p2 n2 c2] 24,.rowm p1 n1 c1 ys1,.rowm p2 n2 c2 ((zs2).set j 9)] hS [0,1,2] (by decide) rfl,by omega⟩,by omega⟩
   refine wbt rfl rfl rfl rfl (bLs (decide_eq_false (by omega))) ?_
   refine wn1 (wSq ?_)
   refine wF (ev rfl rfl) ?_
   refine wEx ?_
   refine tEx ?_
   refine tEx ?_
   refine blkE ?_
   refine blkN (tNo (wreg (wbc (z:=.int .i64 ((1 + 1:Nat):Int)) rfl rfl (bAd (wI6 (by omega) (by omega))) ?_)))
   refine wmv rfl rfl ?_
   refine wn1 ?_
   exact ⟨(1 + 1),⟨_,_,_,aSs ⟨rfl,rfl,rfl,trivial⟩,Sep.pickT [.blk g [.slice p1 n1 c1,.slice p2 n2 c2] 24,.rowm p1 n1 c1 ys1,.rowm p2 n2 c2 zs2] [.blk g [.slice p1 n1 c1,.slice p2 n2 c2] 24,.rowm p1 n1 c1 ys1,.rowm p2 n2 c2 zs2] hS [0,1,2] (by decide) rfl,by omega⟩,by omega⟩
  omega
 refine wbt rfl rfl rfl rfl (bLs (decide_eq_false (by omega))) ?_
 refine wn1 (wSq ?_)
 refine wF (ev rfl rfl) ?_
 refine wEx ?_
 refine tEx ?_
 refine tEx ?_
 refine blkE ?_
 refine wret0n Tryz.results13 ?_
 exact ⟨_,_,rfl,isI,hS.behind [.blk g [.slice p1 n1 c1,.slice p2 n2 c2] 24,.rowm p1 n1 c1 ys1,.rowm p2 n2 c2 ys2]⟩
end Go.Proofs.YtjnpdpcldmjdjaaGreatDoor
