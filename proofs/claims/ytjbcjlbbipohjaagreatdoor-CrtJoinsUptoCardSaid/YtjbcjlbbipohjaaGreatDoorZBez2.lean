
/-
  The walks of simileref03.inverse and Bezout and of similelaw03.ZintBezout.
-/
import Derived.Test.YtjbcjlbbipohjaaGreatDoorZBez
set_option linter.unusedVariables false
set_option linter.unusedSimpArgs false
set_option maxRecDepth 100000
set_option maxHeartbeats 16000000
namespace Go.Proofs.YtjbcjlbbipohjaaGreatDoor
open Go.RowKit
def Inv (r q z:Int):Prop:=0 ≤ z ∧ z < q ∧ ∃ k,r * z + q * k = 1 % q
theorem Inv.uniq {r q z y:Int} (hz:Inv r q z) (hy:Inv r q y):z = y:=by
 obtain ⟨a1,a2,k,hk⟩:=hz
 obtain ⟨b1,b2,l,hl⟩:=hy
 have hq:0 < q:=by omega
 have h1:1 % q = 1 - q * (1 / q):=by have:=Int.emod_add_mul_ediv 1 q; omega
 -- q divides z - y
 have h2:r * (z - y) = q * (l - k):=by rw [Int.mul_sub,Int.mul_sub]; omega
 have h3:z - y = q * ((z - y) * (k + 1 / q) + (l - k) * z):=by
  have e:r * z + q * (k + 1 / q) = 1:=by rw [Int.mul_add]; omega
  have e2:(z - y) * (r * z + q * (k + 1 / q)) = z - y:=by rw [e,Int.mul_one]
  rw [Int.mul_add] at e2
  have e3:(z - y) * (r * z) = q * ((l - k) * z):=by
   rw [← Int.mul_assoc,Int.mul_comm (z - y) r,h2,Int.mul_assoc]
  have e4:(z - y) * (q * (k + 1 / q)) = q * ((z - y) * (k + 1 / q)):=by
   rw [← Int.mul_assoc,Int.mul_comm (z - y) q,Int.mul_assoc]
  rw [Int.mul_add]; omega
 generalize (z - y) * (k + 1 / q) + (l - k) * z = t at h3
 have h4:t = 0:=by
  rcases Int.lt_trichotomy t 0 with h | h | h
  ·have h5:q * t ≤ q * (-1):=Int.mul_le_mul_of_nonneg_left (by omega) (by omega)
   omega
  ·exact h
  ·have h5:q * 1 ≤ q * t:=Int.mul_le_mul_of_nonneg_left (by omega) (by omega)
   omega
 rw [h4,Int.mul_zero] at h3; omega
theorem Inv.wd {r q z:Int} {k:Nat} (h:Hid (Inv r q z)) (hk:Wd q k):Wd z k:=hk.abs (by have:=h.out.1; have:=h.out.2.1; omega)
theorem Steps3.startI {A B:Int} (hA:0 ≤ A) (hB:0 < B) (hAB:A < B):Steps3 A B B A 0 1 :=
  ⟨by omega,hA,Int.gcd_comm _ _,⟨1,by omega⟩,⟨0,by omega⟩,by simp,by omega,by simp,by simp; omega⟩
theorem Steps3.nextE {A B r0 r1 x0 x1 q r m x:Int} (hB:0 < B) (h:Steps3 A B r0 r1 x0 x1) (h1:r1 ≠ 0) (hq:Hid (r0 / r1 = q)) (hr:Hid (r0 % r1 = r)) (hm:Hid (q * x1 = m)) (hx:Hid (x0 - m = x)):Steps3 A B r1 r x1 x ∧ r.natAbs < r1.natAbs :=
  h.next hB h1 (by show _ = _; rw [Int.tdiv_eq_ediv_of_nonneg h.n0]; exact hq.out) (by show _ = _; rw [Int.tmod_eq_emod_of_nonneg h.n0]; exact hr.out) hm hx
theorem inv_fin {A B r0 x0 x1 z:Int} (hB:0 < B) (hg:Int.gcd A B = 1) (h:Steps3 A B r0 0 x0 x1) (hz:Hid (x0 % B = z)):Inv A B z:=by
  obtain ⟨h1,_⟩:=bez_g hB h
  rw [hg] at h1
  obtain ⟨k,hk⟩:=h.c0
  have e1:=Int.emod_add_mul_ediv x0 B
  have e2:=Int.emod_nonneg x0 (b:=B) (by omega)
  have e3:=Int.emod_lt_of_pos x0 hB
  have e4:=Int.emod_add_mul_ediv 1 B
  rw [hz.out] at e1 e2 e3
  refine ⟨e2,e3,A * (x0 / B) + k - 1 / B,?_⟩
  have e5:A * z = A * x0 - A * (B * (x0 / B)):=by rw [← Int.mul_sub]; congr 1; omega
  have e6:A * (B * (x0 / B)) = B * (A * (x0 / B)):=by rw [← Int.mul_assoc,Int.mul_comm A B,Int.mul_assoc]
  have e7:A * x0 = x0 * A:=Int.mul_comm _ _
  have e8:B * k = k * B:=Int.mul_comm _ _
  rw [Int.mul_sub,Int.mul_add]
  have h1':r0 = 1:=by rw [h1]; rfl
  omega
theorem bezout_nat (a b:Nat):∃ u v:Int,(a:Int) * u + (b:Int) * v = (Nat.gcd a b:Int):=by
 induction a,b using Nat.gcd.induction with
 | H0 n => exact ⟨0,1,by simp⟩
 | H1 m n hm ih =>
  obtain ⟨u,v,h⟩:=ih
  refine ⟨v - (n / m:Nat) * u,u,?_⟩
  rw [Nat.gcd_rec, ← h]
  have e:(n:Int) = (m:Int) * ((n / m:Nat):Int) + ((n % m:Nat):Int):=by
   rw [← Int.natCast_mul, ← Int.natCast_add,Nat.div_add_mod]
  have e2:(n:Int) * u = (m:Int) * (((n / m:Nat):Int) * u) + ((n % m:Nat):Int) * u:=by
   rw [← Int.mul_assoc, ← Int.add_mul, ← e]
  rw [Int.mul_sub,e2]; omega
theorem Inv.some {r q:Int} (h0:0 ≤ r) (h1:r < q) (hg:Int.gcd r q = 1):∃ z,Hid (Inv r q z):=by
  obtain ⟨u,v,huv⟩:=bezout_nat r.natAbs q.natAbs
  have hg':Nat.gcd r.natAbs q.natAbs = 1:=hg
  rw [hg',show (r.natAbs:Int) = r by omega,show (q.natAbs:Int) = q by omega] at huv
  have e1:=Int.emod_add_mul_ediv u q
  refine ⟨u % q,Int.emod_nonneg _ (by omega),Int.emod_lt_of_pos _ (by omega),r * (u / q) + v - 1 / q,?_⟩
  have e2:r * (u % q) = r * u - r * (q * (u / q)):=by rw [← Int.mul_sub]; congr 1; omega
  have e3:r * (q * (u / q)) = q * (r * (u / q)):=by rw [← Int.mul_assoc,Int.mul_comm r q,Int.mul_assoc]
  have e4:=Int.emod_add_mul_ediv 1 q
  rw [Int.mul_sub,Int.mul_add]
  have huv':r * u + q * v = 1:=huv
  omega
theorem wqinverse {z:Int} {b b2:Bool} {p q:Option Addr} {n m c d:Nat} {x y:Int} {w:World} (hx:Zr w b p n c x 100000000000) (hy:Zr w b2 q m d y 100000000000) (h0:0 ≤ x) (h1:x < y) (hg:Int.gcd x y = 1) (hz:Hid (Inv x y z)) :
  Calls Tryz.prog 131 #[.agg #[.bool b,.slice p n c],.agg #[.bool b2,.slice q m d]] w (Ret (Zt z) w):=by
 have hS:=Sep.init w
 refine went Tryz.func131 rfl (n:=39) rfl rfl ?_
 refine wseq (wreg (wl rfl (obox [.bool b,.slice p n c] hS rfl rfl (ev (v:=.agg #[.bool b,.slice p n c]) rfl rfl) rfl ?_)))
 clear hS; intro g1 w2 hS
 refine wl rfl (obox [.bool b2,.slice q m d] hS rfl rfl (ev (v:=.agg #[.bool b2,.slice q m d]) rfl rfl) rfl ?_)
 clear hS; intro g3 w4 hS
 refine wl rfl (oalloc [.bool false,.slice none 0 0] hS rfl rfl Tryz.zeroValue28 rfl ?_)
 clear hS; intro g5 w6 hS
 refine wnil (thenN (wseq ?_))
 refine wstage 4 [11,12,5,6] [[],[],[],[]] [[],[],[],[]] [1] [(g1,[.bool b,.slice p n c],28)] (fun i => ([fun _ => Is (.agg #[.bool b2,.slice q m d]),fun _ => Is (.agg #[.bool b,.slice p n c]),fun _ => Ptr [.bool false,.slice none 0 0] 28,fun _ => Ptr [.bool false,.slice none 0 0] 28]:List (List Value → Tell)).getD i (fun _ _ _ => False)) ((heldCons (hS.blkAt 2 rfl) heldNil)) (fun d _ _ _ _ h => (by cases d <;> exact h)) (by kernel_rfl) (by kernel_rfl) (by kernel_rfl) hS ?_ ?_
 ·
  refine stepsCons rfl (fun Q f' w' ρ S ho hT hS hB => ?_) ?_
  ·exact .inl ⟨want_none rfl,oload (vs:=[.bool b2,.slice q m d]) aggZ hS 1 rfl rfl (ev rfl (ho 3 rfl)) rfl rfl rfl ⟨_,_,rfl,isI,New.same _⟩⟩
  refine stepsPure rfl ?_ ?_
  ·intro f' ρ ho hT
   exact ⟨_,.inl ⟨want_none rfl,fun w hw => yload (vs:=[.bool b,.slice p n c]) aggZ rfl (ev rfl (ho 2 rfl)) (hw.at 0 rfl) rfl rfl⟩,isI⟩
  refine stepsCons rfl (fun Q f' w' ρ S ho hT hS hB => ?_) ?_
  ·exact .inl ⟨want_none rfl,oallocN [.bool false,.slice none 0 0] rfl rfl Tryz.zeroValue28 rfl ⟨_,_,rfl,ptrI,New.blk _ _ _⟩⟩
  refine stepsCons rfl (fun Q f' w' ρ S ho hT hS hB => ?_) ?_
  ·exact .inl ⟨want_none rfl,oallocN [.bool false,.slice none 0 0] rfl rfl Tryz.zeroValue28 rfl ⟨_,_,rfl,ptrI,New.blk _ _ _⟩⟩
  exact stepsNil
 ·
  intro vs ρ w9 f' hf hT hS
  obtain ⟨hv0,hr0⟩:=(hT 0 (by decide):(Is (.agg #[.bool b2,.slice q m d])) _ _)
  obtain ⟨hv1,hr1⟩:=(hT 1 (by decide):(Is (.agg #[.bool b,.slice p n c])) _ _)
  obtain ⟨g7,hv2,hr2⟩:=(hT 2 (by decide):(Ptr [.bool false,.slice none 0 0] 28) _ _)
  obtain ⟨g8,hv3,hr3⟩:=(hT 3 (by decide):(Ptr [.bool false,.slice none 0 0] 28) _ _)
  simp only [pool,if_true,hr0,hr1,hr2,hr3,List.nil_append,List.cons_append,List.append_nil] at hS
  simp only [layf,hv0,hv1,hv2,hv3] at hf
  subst hf; clear hT hv0 hv1 hv2 hv3 hr0 hr1 hr2 hr3
  refine wlate 4 rfl (by kernel_rfl) (ostore [.bool b2,.slice q m d] [.bool b2,.slice q m d] Tryz.sizeOf28 hS 1 rfl rfl (ev rfl rfl) (ev (v:=.agg #[.bool b2,.slice q m d]) rfl rfl) rfl rfl rfl rfl rfl rfl ?_)
  clear hS; intro w10 hS
  refine ⟨(heldCons (hS.blkAt 4 rfl) heldNil),?_⟩
  refine wlate 5 rfl (by kernel_rfl) (ostore [.bool b,.slice p n c] [.bool b,.slice p n c] Tryz.sizeOf28 hS 0 rfl rfl (ev rfl rfl) (ev (v:=.agg #[.bool b,.slice p n c]) rfl rfl) rfl rfl rfl rfl rfl rfl ?_)
  clear hS; intro w11 hS
  refine ⟨(heldCons (hS.blkAt 4 rfl) heldNil),?_⟩
  refine wdone rfl ?_
  refine thenN (wseq (wreg (wl rfl (obuild (ps:=#[]) (v:=.agg #[.bool false,.slice none 0 0]) rfl rfl (parts0) (fun w => by simp [go_sem,Instr.build,Instr.fill]) ?_))))
  have hk1:Wd 1 2:=Wd.i64 (by omega) (by omega)
  refine wl rfl (ocall rfl rfl Tryz.call55 rfl (wqof (z:=1) (by omega) (by omega)) (args1 evc) ?_)
  rintro _ w12 ⟨_,_,rfl,⟨p1,n1,c1,rfl,rfl⟩,hN⟩
  refine ⟨_,rfl,?_⟩
  replace hS:=hS.news hN; clear hN
  refine wl rfl (oalloc [.bool false,.slice none 0 0] hS rfl rfl Tryz.zeroValue28 rfl ?_)
  clear hS; intro g13 w14 hS
  refine wl rfl (oalloc [.bool false,.slice none 0 0] hS rfl rfl Tryz.zeroValue28 rfl ?_)
  clear hS; intro g15 w16 hS
  refine wl rfl (ostore [.bool false,.slice none 0 0] [.bool false,.slice none 0 0] Tryz.sizeOf28 hS 1 rfl rfl (ev rfl rfl) (ev (v:=.agg #[.bool false,.slice none 0 0]) rfl rfl) rfl rfl rfl rfl rfl rfl ?_)
  clear hS; intro w17 hS
  refine wl rfl (ostore [.bool (ng 1),.slice p1 n1 c1] [.bool (ng 1),.slice p1 n1 c1] Tryz.sizeOf28 hS 0 rfl rfl (ev rfl rfl) (ev (v:=.agg #[.bool (ng 1),.slice p1 n1 c1]) rfl rfl) rfl rfl rfl rfl rfl rfl ?_)
  clear hS; intro w18 hS
  refine wnil (thenN (wseq (wblock ?_)))
  have hq:=hy
  obtain ⟨l0ra,hl0ra,he0ra,hm0ra⟩:=hq
  replace hS:=hS.addArg hl0ra rfl
  have hq:=hx
  obtain ⟨l0rb,hl0rb,he0rb,hm0rb⟩:=hq
  replace hS:=hS.addArg hl0rb rfl
  replace hS:=hS.nilRow
  refine wloop (σ := Nat) (fun k a w' => ∃ (fb:Nat → Value) (ra:Int) (rb:Int) (xa:Int) (xb:Int) (pra:Option Addr) (nra:Nat) (cra:Nat) (prb:Option Addr) (nrb:Nat) (crb:Nat) (pxa:Option Addr) (nxa:Nat) (cxa:Nat) (pxb:Option Addr) (nxb:Nat) (cxb:Nat) (lra:List Nat) (lrb:List Nat) (bra:Bool) (brb:Bool),a = act 39 (sets fb [(3,.pointer (some ⟨g3,0,none⟩)),(4,.pointer (some ⟨g5,0,none⟩)),(5,.pointer (some ⟨g7,0,none⟩)),(6,.pointer (some ⟨g8,0,none⟩)),(7,.pointer (some ⟨g13,0,none⟩)),(8,.pointer (some ⟨g15,0,none⟩))]) ∧ Sep w [.row pxa nxa cxa (lim xa.natAbs),.rd prb nrb crb lrb,.rd pra nra cra lra,.blk g15 [.bool (ng xb),.slice pxb nxb cxb] 28,.blk g13 [.bool (ng xa),.slice pxa nxa cxa] 28,.row pxb nxb cxb (lim xb.natAbs),.blk g8 [.bool brb,.slice prb nrb crb] 28,.blk g7 [.bool bra,.slice pra nra cra] 28,.blk g5 [.bool false,.slice none 0 0] 28,.blk g3 [.bool b2,.slice q m d] 28,.blk g1 [.bool b,.slice p n c] 28] w' ∧ (Steps3 x y ra rb xa xb) ∧ (rb.natAbs = k) ∧ (Wd ra 100000000000) ∧ (Wd rb 100000000000) ∧ (Wd xa 100000000000) ∧ (Wd xb 100000000000) ∧ (zv bra (val lra) = ra) ∧ (nra ≤ 100000000000) ∧ (zv brb (val lrb) = rb) ∧ (nrb ≤ 100000000000)) (fun k => k) (x.natAbs) ⟨_,y,x,0,1,_,_,_,_,_,_,_,_,_,_,_,_,_,_,b2,b,act_sets (l:=[(3,.pointer (some ⟨g3,0,none⟩)),(4,.pointer (some ⟨g5,0,none⟩)),(5,.pointer (some ⟨g7,0,none⟩)),(6,.pointer (some ⟨g8,0,none⟩)),(7,.pointer (some ⟨g13,0,none⟩)),(8,.pointer (some ⟨g15,0,none⟩))]) ⟨rfl,rfl,rfl,rfl,rfl,rfl,trivial⟩,hS,Steps3.startI h0 (by omega) h1,rfl,(hy.wd).mono (by omega),(hx.wd).mono (by omega),((Wd.i64 (z:=0) (by omega) (by omega))).mono (by omega),(hk1).mono (by omega),he0ra,(Nat.le_trans hm0ra (by omega)),he0rb,(Nat.le_trans hm0rb (by omega))⟩ ?_
  clear hS; rintro k _ w19 ⟨fb,ra,rb,xa,xb,pra,nra,cra,prb,nrb,crb,pxa,nxa,cxa,pxb,nxb,cxb,lra,lrb,bra,brb,rfl,hS,hst,hmu,hkra,hkrb,hkxa,hkxb,hvra,hnra,hvrb,hnrb⟩
  refine wseq (wseq (wreg (wl rfl (oload (vs:=[.bool brb,.slice prb nrb crb]) aggZ hS 6 rfl rfl (ev rfl rfl) rfl rfl rfl ?_))))
  obtain ⟨s2,hs2⟩:∃ z:Int,Hid ((rb:Int).sign = z):=⟨_,rfl⟩
  refine wl rfl (ocall rfl rfl Tryz.call32 rfl (wqsign ((show Zr _ _ _ _ _ rb 100000000000 from ⟨_,hS.rdAt 1 rfl,hvrb,hnrb⟩).mono (by omega)) hs2) (args1 (ev rfl rfl)) ?_)
  rintro _ w20 ⟨_,_,rfl,⟨rfl,rfl⟩,hN⟩
  refine ⟨_,rfl,?_⟩
  replace hS:=hS.news hN; clear hN
  by_cases hrb:rb = 0
  ·
   refine wl rfl (obin (u:=.int .i64 s2) (v:=.int .i64 0) (z:=.bool false) rfl rfl (ev rfl rfl) evc (bin_neq (sign_neF hs2 hrb)) ?_)
   refine wnil (thenN ?_)
   refine wF (ev rfl rfl) ?_
   refine wexit ?_
   refine thenE ?_
   refine thenE ?_
   refine blkE ?_
   refine thenN (wseq (wreg (wl rfl (oload (vs:=[.bool (ng xa),.slice pxa nxa cxa]) aggZ hS 4 rfl rfl (ev rfl rfl) rfl rfl rfl ?_))))
   refine wl rfl (oload (vs:=[.bool b2,.slice q m d]) aggZ hS 9 rfl rfl (ev rfl rfl) rfl rfl rfl ?_)
   have hst0:Steps3 x y ra 0 xa xb:=hrb ▸ hst
   obtain ⟨z3,hz3⟩:∃ z:Int,Hid (xa / y = z):=⟨_,rfl⟩
   have hk3:Wd z3 100000000000:=Wd.ediv hkxa hz3
   obtain ⟨z4,hz4⟩:∃ z:Int,Hid (xa % y = z):=⟨_,rfl⟩
   have hk4:Wd z4 100000000000:=Wd.emod hy.wd (by omega) hz4
   refine wl rfl (ocall rfl rfl Tryz.call31 rfl (wqeuclid (((hS.sl 0 rfl).zr hkxa).mono (by omega)) ((hy.at hS).mono (by omega)) (by omega) hz3 hz4) (args2 (ev rfl rfl) (ev rfl rfl)) ?_)
   rintro _ w21 ⟨_,_,rfl,⟨p3,n3,c3,p4,n4,c4,rfl,rfl⟩,hN⟩
   refine ⟨_,rfl,?_⟩
   replace hS:=hS.news hN; clear hN
   refine wl rfl (omove (v:=.tuple #[.agg #[.bool (ng z3),.slice p3 n3 c3],.agg #[.bool (ng z4),.slice p4 n4 c4]]) rfl rfl (ev rfl rfl) ?_)
   refine wl rfl (oextract (vs:=[.agg #[.bool (ng z3),.slice p3 n3 c3],.agg #[.bool (ng z4),.slice p4 n4 c4]]) (v:=.agg #[.bool (ng z3),.slice p3 n3 c3]) rfl rfl (ev rfl rfl) rfl ?_)
   refine wl rfl (oextract (vs:=[.agg #[.bool (ng z3),.slice p3 n3 c3],.agg #[.bool (ng z4),.slice p4 n4 c4]]) (v:=.agg #[.bool (ng z4),.slice p4 n4 c4]) rfl rfl (ev rfl rfl) rfl ?_)
   refine wl rfl (ostore [.bool (ng z4),.slice p4 n4 c4] [.bool (ng z4),.slice p4 n4 c4] Tryz.sizeOf28 hS 6 rfl rfl (ev rfl rfl) (ev (v:=.agg #[.bool (ng z4),.slice p4 n4 c4]) rfl rfl) rfl rfl rfl rfl rfl rfl ?_)
   clear hS; intro w22 hS
   refine wnil (thenN (wseq (wreg (wl rfl (oload (vs:=[.bool (ng z4),.slice p4 n4 c4]) aggZ hS 6 rfl rfl (ev rfl rfl) rfl rfl rfl ?_)))))
   refine wl rfl (ostore [.bool (ng z4),.slice p4 n4 c4] [.bool (ng z4),.slice p4 n4 c4] Tryz.sizeOf28 hS 10 rfl rfl (ev rfl rfl) (ev (v:=.agg #[.bool (ng z4),.slice p4 n4 c4]) rfl rfl) rfl rfl rfl rfl rfl rfl ?_)
   clear hS; intro w23 hS
   refine wnil (thenN ?_)
   refine wleave ?_
   refine wret1 Tryz.results131 (tellC (cs:=[.bool (ng z4),.slice p4 n4 c4]) aggZ hS 10 rfl rfl rfl rfl) ?_
   obtain rfl:z4 = z:=Inv.uniq (inv_fin (by omega) hg hst0 hz4) hz.out
   exact ⟨_,_,rfl,⟨_,_,_,rfl,rfl⟩,hS.new1 1 rfl⟩
  ·
   refine wl rfl (obin (u:=.int .i64 s2) (v:=.int .i64 0) (z:=.bool true) rfl rfl (ev rfl rfl) evc (bin_neq (sign_neT hs2 hrb)) ?_)
   refine wnil (thenN ?_)
   refine wT (ev rfl rfl) ?_
   refine wskip (thenN (wblock (wseq (wreg (wl rfl (oload (vs:=[.bool bra,.slice pra nra cra]) aggZ hS 7 rfl rfl (ev rfl rfl) rfl rfl rfl ?_))))))
   refine wl rfl (oload (vs:=[.bool brb,.slice prb nrb crb]) aggZ hS 6 rfl rfl (ev rfl rfl) rfl rfl rfl ?_)
   obtain ⟨z3,hz3⟩:∃ z:Int,Hid (ra / rb = z):=⟨_,rfl⟩
   have hk3:Wd z3 100000000000:=Wd.ediv hkra hz3
   obtain ⟨z4,hz4⟩:∃ z:Int,Hid (ra % rb = z):=⟨_,rfl⟩
   have hk4:Wd z4 100000000000:=Wd.emod hkrb (hrb) hz4
   refine wl rfl (ocall rfl rfl Tryz.call31 rfl (wqeuclid ((show Zr _ _ _ _ _ ra 100000000000 from ⟨_,hS.rdAt 2 rfl,hvra,hnra⟩).mono (by omega)) ((show Zr _ _ _ _ _ rb 100000000000 from ⟨_,hS.rdAt 1 rfl,hvrb,hnrb⟩).mono (by omega)) (hrb) hz3 hz4) (args2 (ev rfl rfl) (ev rfl rfl)) ?_)
   rintro _ w21 ⟨_,_,rfl,⟨p3,n3,c3,p4,n4,c4,rfl,rfl⟩,hN⟩
   refine ⟨_,rfl,?_⟩
   replace hS:=hS.news hN; clear hN
   refine wl rfl (omove (v:=.tuple #[.agg #[.bool (ng z3),.slice p3 n3 c3],.agg #[.bool (ng z4),.slice p4 n4 c4]]) rfl rfl (ev rfl rfl) ?_)
   refine wl rfl (oextract (vs:=[.agg #[.bool (ng z3),.slice p3 n3 c3],.agg #[.bool (ng z4),.slice p4 n4 c4]]) (v:=.agg #[.bool (ng z3),.slice p3 n3 c3]) rfl rfl (ev rfl rfl) rfl ?_)
   refine wl rfl (oextract (vs:=[.agg #[.bool (ng z3),.slice p3 n3 c3],.agg #[.bool (ng z4),.slice p4 n4 c4]]) (v:=.agg #[.bool (ng z4),.slice p4 n4 c4]) rfl rfl (ev rfl rfl) rfl ?_)
   refine wl rfl (oalloc [.bool false,.slice none 0 0] hS rfl rfl Tryz.zeroValue28 rfl ?_)
   clear hS; intro g22 w23 hS
   refine wl rfl (oalloc [.bool false,.slice none 0 0] hS rfl rfl Tryz.zeroValue28 rfl ?_)
   clear hS; intro g24 w25 hS
   refine wl rfl (ostore [.bool (ng z3),.slice p3 n3 c3] [.bool (ng z3),.slice p3 n3 c3] Tryz.sizeOf28 hS 1 rfl rfl (ev rfl rfl) (ev (v:=.agg #[.bool (ng z3),.slice p3 n3 c3]) rfl rfl) rfl rfl rfl rfl rfl rfl ?_)
   clear hS; intro w26 hS
   refine wl rfl (ostore [.bool (ng z4),.slice p4 n4 c4] [.bool (ng z4),.slice p4 n4 c4] Tryz.sizeOf28 hS 0 rfl rfl (ev rfl rfl) (ev (v:=.agg #[.bool (ng z4),.slice p4 n4 c4]) rfl rfl) rfl rfl rfl rfl rfl rfl ?_)
   clear hS; intro w27 hS
   refine wnil (thenN (wseq ?_))
   refine wstage 2 [24,25] [[],[]] [[],[]] [1] [(g24,[.bool (ng z4),.slice p4 n4 c4],28)] (fun i => ([fun _ => Is (.agg #[.bool brb,.slice prb nrb crb]),fun _ => Is (.agg #[.bool (ng z4),.slice p4 n4 c4])]:List (List Value → Tell)).getD i (fun _ _ _ => False)) ((heldCons (hS.blkAt 0 rfl) heldNil)) (fun d _ _ _ _ h => (by cases d <;> exact h)) (by kernel_rfl) (by kernel_rfl) (by kernel_rfl) hS ?_ ?_
   ·
    refine stepsCons rfl (fun Q f' w' ρ S ho hT hS hB => ?_) ?_
    ·exact .inl ⟨want_none rfl,oload (vs:=[.bool brb,.slice prb nrb crb]) aggZ hS 10 rfl rfl (ev rfl (ho 6 rfl)) rfl rfl rfl ⟨_,_,rfl,isI,New.same _⟩⟩
    refine stepsPure rfl ?_ ?_
    ·intro f' ρ ho hT
     exact ⟨_,.inl ⟨want_none rfl,fun w hw => yload (vs:=[.bool (ng z4),.slice p4 n4 c4]) aggZ rfl (ev rfl (ho 10 rfl)) (hw.at 0 rfl) rfl rfl⟩,isI⟩
    exact stepsNil
   ·
    intro vs ρ w28 f' hf hT hS
    obtain ⟨hv0,hr0⟩:=(hT 0 (by decide):(Is (.agg #[.bool brb,.slice prb nrb crb])) _ _)
    obtain ⟨hv1,hr1⟩:=(hT 1 (by decide):(Is (.agg #[.bool (ng z4),.slice p4 n4 c4])) _ _)
    simp only [pool,if_true,hr0,hr1,List.nil_append,List.cons_append,List.append_nil] at hS
    simp only [layf,hv0,hv1] at hf
    subst hf; clear hT hv0 hv1 hr0 hr1
    refine wlate 2 rfl (by kernel_rfl) (ostore [.bool brb,.slice prb nrb crb] [.bool brb,.slice prb nrb crb] Tryz.sizeOf28 hS 11 rfl rfl (ev rfl rfl) (ev (v:=.agg #[.bool brb,.slice prb nrb crb]) rfl rfl) rfl rfl rfl rfl rfl rfl ?_)
    clear hS; intro w29 hS
    refine ⟨(heldCons (hS.blkAt 0 rfl) heldNil),?_⟩
    refine wlate 3 rfl (by kernel_rfl) (ostore [.bool (ng z4),.slice p4 n4 c4] [.bool (ng z4),.slice p4 n4 c4] Tryz.sizeOf28 hS 10 rfl rfl (ev rfl rfl) (ev (v:=.agg #[.bool (ng z4),.slice p4 n4 c4]) rfl rfl) rfl rfl rfl rfl rfl rfl ?_)
    clear hS; intro w30 hS
    refine ⟨(heldCons (hS.blkAt 0 rfl) heldNil),?_⟩
    refine wdone rfl ?_
    refine thenN ?_
    obtain ⟨z5,hz5⟩:∃ z:Int,Hid (z3 * xb = z):=⟨_,rfl⟩
    have hk5:Wd z5 200000000000:=Wd.mul hk3 hkxb hz5 (by omega)
    obtain ⟨z6,hz6⟩:∃ z:Int,Hid (xa - z5 = z):=⟨_,rfl⟩
    have hk6:Wd z6 200000000001:=Wd.sub hkxa hk5 hz6 (by omega)
    refine wstage 6 [26,27,28,29,30,31] [[],[],[],[],[2,3],[1,4,2,3]] [[],[],[],[],[],[]] [] [] (fun i => ([fun _ => Is (.agg #[.bool (ng xb),.slice pxb nxb cxb]),fun _ => Is (.agg #[.bool (ng xa),.slice pxa nxa cxa]),fun _ => Is (.agg #[.bool (ng z3),.slice p3 n3 c3]),fun _ => Is (.agg #[.bool (ng xb),.slice pxb nxb cxb]),fun _ => Zt z5,fun _ => Zt z6]:List (List Value → Tell)).getD i (fun _ _ _ => False)) (heldNil) (fun d _ _ _ _ h => (by cases d <;> exact h)) (by kernel_rfl) (by kernel_rfl) (by kernel_rfl) hS ?_ ?_
    ·
     refine stepsCons rfl (fun Q f' w' ρ S ho hT hS hB => ?_) ?_
     ·exact .inl ⟨want_none rfl,oload (vs:=[.bool (ng xb),.slice pxb nxb cxb]) aggZ hS 7 rfl rfl (ev rfl (ho 8 rfl)) rfl rfl rfl ⟨_,_,rfl,isI,New.same _⟩⟩
     refine stepsCons rfl (fun Q f' w' ρ S ho hT hS hB => ?_) ?_
     ·exact .inl ⟨want_none rfl,oload (vs:=[.bool (ng xa),.slice pxa nxa cxa]) aggZ hS 8 rfl rfl (ev rfl (ho 7 rfl)) rfl rfl rfl ⟨_,_,rfl,isI,New.same _⟩⟩
     refine stepsCons rfl (fun Q f' w' ρ S ho hT hS hB => ?_) ?_
     ·exact .inl ⟨want_none rfl,oload (vs:=[.bool (ng z3),.slice p3 n3 c3]) aggZ hS 1 rfl rfl (ev rfl (ho 9 rfl)) rfl rfl rfl ⟨_,_,rfl,isI,New.same _⟩⟩
     refine stepsCons rfl (fun Q f' w' ρ S ho hT hS hB => ?_) ?_
     ·exact .inl ⟨want_none rfl,oload (vs:=[.bool (ng xb),.slice pxb nxb cxb]) aggZ hS 7 rfl rfl (ev rfl (ho 8 rfl)) rfl rfl rfl ⟨_,_,rfl,isI,New.same _⟩⟩
     refine stepsCons rfl (fun Q f' w' ρ S ho hT hS hB => ?_) ?_
     ·obtain ⟨hv2,hr2⟩:=(hT 2 28 rfl rfl:(Is (.agg #[.bool (ng z3),.slice p3 n3 c3])) _ _)
      obtain ⟨hv3,hr3⟩:=(hT 3 29 rfl rfl:(Is (.agg #[.bool (ng xb),.slice pxb nxb cxb])) _ _)
      obtain hS:=hS.flat2 hr2 hr3
      exact .inl ⟨want_none rfl,ocall rfl rfl Tryz.call30 rfl (wqmul (((hS.sl 2 rfl).zr hk3).mono (by omega)) (((hS.sl 9 rfl).zr hkxb).mono (by omega)) hz5) (args2 (ev rfl hv2) (ev rfl hv3)) callN⟩
     refine stepsCons rfl (fun Q f' w' ρ S ho hT hS hB => ?_) ?_
     ·obtain ⟨hv1,hr1⟩:=(hT 1 27 rfl rfl:(Is (.agg #[.bool (ng xa),.slice pxa nxa cxa])) _ _)
      obtain ⟨p5,n5,c5,hv4,hr4⟩:=(hT 4 30 rfl rfl:(Zt z5) _ _)
      obtain hS:=hS.flat2 hr1 hr4
      exact .inl ⟨want_none rfl,ocall rfl rfl Tryz.call29 rfl (wqsub (((hS.sl 4 rfl).zr hkxa).mono (by omega)) (((hS.sl 15 rfl).zr hk5).mono (by omega)) hz6) (args2 (ev rfl hv1) (ev rfl hv4)) callN⟩
     exact stepsNil
    ·
     intro vs ρ w31 f' hf hT hS
     obtain ⟨hv0,hr0⟩:=(hT 0 (by decide):(Is (.agg #[.bool (ng xb),.slice pxb nxb cxb])) _ _)
     obtain ⟨hv1,hr1⟩:=(hT 1 (by decide):(Is (.agg #[.bool (ng xa),.slice pxa nxa cxa])) _ _)
     obtain ⟨hv2,hr2⟩:=(hT 2 (by decide):(Is (.agg #[.bool (ng z3),.slice p3 n3 c3])) _ _)
     obtain ⟨hv3,hr3⟩:=(hT 3 (by decide):(Is (.agg #[.bool (ng xb),.slice pxb nxb cxb])) _ _)
     obtain ⟨p5,n5,c5,hv4,hr4⟩:=(hT 4 (by decide):(Zt z5) _ _)
     obtain ⟨p6,n6,c6,hv5,hr5⟩:=(hT 5 (by decide):(Zt z6) _ _)
     simp only [pool,if_true,hr0,hr1,hr2,hr3,hr4,hr5,List.nil_append,List.cons_append,List.append_nil] at hS
     simp only [layf,hv0,hv1,hv2,hv3,hv4,hv5] at hf
     subst hf; clear hT hv0 hv1 hv2 hv3 hv4 hv5 hr0 hr1 hr2 hr3 hr4 hr5
     refine wlate 6 rfl (by kernel_rfl) (ostore [.bool (ng xb),.slice pxb nxb cxb] [.bool (ng xb),.slice pxb nxb cxb] Tryz.sizeOf28 hS 10 rfl rfl (ev rfl rfl) (ev (v:=.agg #[.bool (ng xb),.slice pxb nxb cxb]) rfl rfl) rfl rfl rfl rfl rfl rfl ?_)
     clear hS; intro w32 hS
     refine ⟨heldNil,?_⟩
     refine wlate 7 rfl (by kernel_rfl) (ostore [.bool (ng z6),.slice p6 n6 c6] [.bool (ng z6),.slice p6 n6 c6] Tryz.sizeOf28 hS 9 rfl rfl (ev rfl rfl) (ev (v:=.agg #[.bool (ng z6),.slice p6 n6 c6]) rfl rfl) rfl rfl rfl rfl rfl rfl ?_)
     clear hS; intro w33 hS
     refine ⟨heldNil,?_⟩
     refine wdone rfl ?_
     refine blkN (thenN ?_)
     obtain ⟨hst2,hlt⟩:=Steps3.nextE (by omega) hst hrb hz3 hz4 hz5 hz6
     have hln4:n4 ≤ 100000000000:=by rw [(hS.sl 5 rfl).lln]; exact hk4.mono (by omega)
     replace hS:=hS.asRd 5 rfl
     exact ⟨z4.natAbs,⟨_,rb,z4,xb,z6,_,_,_,_,_,_,_,_,_,_,_,_,_,_,brb,ng z4,act_sets (l:=[(3,.pointer (some ⟨g3,0,none⟩)),(4,.pointer (some ⟨g5,0,none⟩)),(5,.pointer (some ⟨g7,0,none⟩)),(6,.pointer (some ⟨g8,0,none⟩)),(7,.pointer (some ⟨g13,0,none⟩)),(8,.pointer (some ⟨g15,0,none⟩))]) ⟨rfl,rfl,rfl,rfl,rfl,rfl,trivial⟩,hS.pick [11,5,7,9,10,0,12,13,14,15,16] (by decide) rfl,hst2,rfl,(hkrb).mono (by omega),(hk4).mono (by omega),(hkxb).mono (by omega),hy.wd.abs hst2.b1,hvrb,hnrb,(by rw [val_lim,zv_ng]),hln4⟩,by omega⟩
theorem bezout_int (a b:Int):∃ u v:Int,a * u + b * v = (Int.gcd a b:Int):=by
 obtain ⟨u,v,h⟩:=bezout_nat a.natAbs b.natAbs
 have ha:∃ e:Int,(a.natAbs:Int) = a * e:=by
  rcases Int.lt_or_le a 0 with h9 | h9
  ·exact ⟨-1,by omega⟩
  ·exact ⟨1,by omega⟩
 have hb:∃ e:Int,(b.natAbs:Int) = b * e:=by
  rcases Int.lt_or_le b 0 with h9 | h9
  ·exact ⟨-1,by omega⟩
  ·exact ⟨1,by omega⟩
 obtain ⟨e,he⟩:=ha
 obtain ⟨d,hd⟩:=hb
 exact ⟨e * u,d * v,by rw [← Int.mul_assoc, ← Int.mul_assoc, ← he, ← hd]; exact h⟩
theorem bezr_a {x y g a1 b1 q r:Int} (h0:y ≠ 0) (hg:Hid ((Int.gcd x y:Int) = g)) (ha:Hid (x.tdiv g = a1)) (hb:Hid (y.tdiv g = b1)) (hq:Hid ((b1.natAbs:Int) = q)) (hr:Hid (a1 % q = r)) :
  g ≠ 0 ∧ x = g * a1 ∧ y = g * b1 ∧ 0 < g ∧ 0 < q ∧ 0 ≤ r ∧ r < q ∧ Int.gcd r q = 1:=by
 have hgn:0 < Int.gcd x y:=Nat.gcd_pos_of_pos_right _ (by omega)
 have hg0:0 < g:=by rw [← hg.out]; omega
 obtain ⟨a2,ha2⟩:(Int.gcd x y:Int) ∣ x:=Int.gcd_dvd_left ..
 obtain ⟨b2,hb2⟩:(Int.gcd x y:Int) ∣ y:=Int.gcd_dvd_right ..
 rw [hg.out] at ha2 hb2
 have ea:a1 = a2:=by rw [← ha.out,ha2,Int.mul_tdiv_cancel_left _ (by omega)]
 have eb:b1 = b2:=by rw [← hb.out,hb2,Int.mul_tdiv_cancel_left _ (by omega)]
 subst ea; subst eb
 have hb0:b1 ≠ 0:=fun e => h0 (by rw [hb2,e,Int.mul_zero])
 have hq0:0 < q:=by rw [← hq.out]; omega
 have hr0:=Int.emod_nonneg a1 (b:=q) (by omega)
 have hr1:=Int.emod_lt_of_pos a1 hq0
 have hre:=Int.emod_add_mul_ediv a1 q
 rw [hr.out] at hr0 hr1 hre
 refine ⟨by omega,ha2,hb2,hg0,hq0,hr0,hr1,?_⟩
 obtain ⟨u,v,huv⟩:=bezout_int x y
 have h1:a1 * u + b1 * v = 1:=by
  rw [hg.out,ha2,hb2,Int.mul_assoc,Int.mul_assoc, ← Int.mul_add] at huv
  exact Int.eq_of_mul_eq_mul_left (by omega:g ≠ 0) (by rw [huv,Int.mul_one])
 have d1:(Int.gcd r q:Int) ∣ r:=Int.gcd_dvd_left ..
 have d2:(Int.gcd r q:Int) ∣ q:=Int.gcd_dvd_right ..
 have d3:(Int.gcd r q:Int) ∣ a1:=by rw [← hre]; exact Int.dvd_add d1 (Int.dvd_trans d2 (Int.dvd_mul_right _ _))
 have d4:(Int.gcd r q:Int) ∣ b1:=by
  rw [← hq.out] at d2 ⊢
  rcases Int.lt_or_le b1 0 with h9 | h9
  ·have e:b1 = (b1.natAbs:Int) * (-1):=by omega
   obtain ⟨k,hk⟩:=d2
   exact ⟨-k,by rw [Int.mul_neg, ← hk]; omega⟩
  ·obtain ⟨k,hk⟩:=d2
   exact ⟨k,by rw [← hk]; omega⟩
 have d5:(Int.gcd r q:Int) ∣ 1:=by rw [← h1]; exact Int.dvd_add (Int.dvd_trans d3 (Int.dvd_mul_right _ _)) (Int.dvd_trans d4 (Int.dvd_mul_right _ _))
 have:=Int.eq_one_of_dvd_one (by omega) d5
 omega
theorem bezr_b {x y g a1 b1 q r w p d yy:Int} (h0:y ≠ 0) (hg:Hid ((Int.gcd x y:Int) = g)) (ha:Hid (x.tdiv g = a1)) (hb:Hid (y.tdiv g = b1)) (hq:Hid ((b1.natAbs:Int) = q)) (hr:Hid (a1 % q = r)) (hw:Hid (Inv r q w)) (hp:Hid (x * w = p)) (hd:Hid (g - p = d)) :
  d.tmod y = 0 ∧ (Hid (d.tdiv y = yy) → Bez x y w yy):=by
 obtain ⟨hg0,hx,hy,hgp,hqp,_,_,_⟩:=bezr_a h0 hg ha hb hq hr
 obtain ⟨hw0,hw1,k,hk⟩:=hw.out
 have hre:=Int.emod_add_mul_ediv a1 q
 rw [hr.out] at hre
 have h1e:=Int.emod_add_mul_ediv 1 q
 have hqe:∃ e:Int,q = b1 * e:=by
  rw [← hq.out]
  rcases Int.lt_or_le b1 0 with h9 | h9
  ·exact ⟨-1,by omega⟩
  ·exact ⟨1,by omega⟩
 obtain ⟨e,he⟩:=hqe
 -- 1 - a1 w is a multiple of q
 have h2:1 - a1 * w = q * (1 / q + k - (a1 / q) * w):=by
  have f1:a1 * w = r * w + q * (a1 / q) * w:=by rw [← Int.add_mul,hre]
  rw [Int.mul_sub,Int.mul_add, ← Int.mul_assoc,f1]; omega
 generalize 1 / q + k - (a1 / q) * w = t at h2
 have h3:d = y * (e * t):=by
  rw [← hd.out, ← hp.out,hy]
  have f2:x * w = g * (a1 * w):=by rw [hx,Int.mul_assoc]
  have f3:g - g * (a1 * w) = g * (1 - a1 * w):=by rw [Int.mul_sub,Int.mul_one]
  rw [f2,f3,h2,he]; simp only [Int.mul_assoc]
 refine ⟨by rw [h3,Int.mul_tmod_right],fun hyy => ⟨?_,hw0,?_⟩⟩
 ·have f4:yy = e * t:=by rw [← hyy.out,h3,Int.mul_tdiv_cancel_left _ h0]
  rw [f4, ← h3, ← hd.out, ← hp.out,hg.out]; omega
 ·have f5:(w + 1) * g ≤ q * g:=Int.mul_le_mul_of_nonneg_right (by omega) (by omega)
  have f6:(y.natAbs:Int) = q * g:=by
   rw [← hq.out]
   have:y.natAbs = g.natAbs * b1.natAbs:=by rw [← Int.natAbs_mul, ← hy]
   rw [this,Int.natCast_mul,Int.mul_comm,show (g.natAbs:Int) = g by omega]
  rw [Int.add_mul] at f5
  rw [hg.out]; omega
theorem Bez.uniq {a b x y x' y':Int} (hb:b ≠ 0) (h:Bez a b x y) (h':Bez a b x' y'):x = x' ∧ y = y':=by
 obtain ⟨h1,h2,h3⟩:=h
 obtain ⟨k1,k2,k3⟩:=h'
 have hgn:0 < Int.gcd a b:=Nat.gcd_pos_of_pos_right _ (by omega)
 obtain ⟨a1,ha⟩:(Int.gcd a b:Int) ∣ a:=Int.gcd_dvd_left ..
 obtain ⟨b1,hb1⟩:(Int.gcd a b:Int) ∣ b:=Int.gcd_dvd_right ..
 generalize hG:(Int.gcd a b:Int) = g at *
 have hg:0 < g:=by omega
 have e1:a1 * x + b1 * y = 1:=Int.eq_of_mul_eq_mul_left (by omega:g ≠ 0) (by rw [Int.mul_add, ← Int.mul_assoc, ← Int.mul_assoc, ← ha, ← hb1,h1,Int.mul_one])
 have e2:a1 * x' + b1 * y' = 1:=Int.eq_of_mul_eq_mul_left (by omega:g ≠ 0) (by rw [Int.mul_add, ← Int.mul_assoc, ← Int.mul_assoc, ← ha, ← hb1,k1,Int.mul_one])
 have e3:a1 * (x - x') = b1 * (y' - y):=by rw [Int.mul_sub,Int.mul_sub]; omega
 have e4:x - x' = b1 * ((y' - y) * x + (x - x') * y):=by
  have f:=congrArg (fun t => (x - x') * t) e1
  simp only [Int.mul_add,Int.mul_one] at f
  have f1:(x - x') * (a1 * x) = b1 * ((y' - y) * x):=by rw [← Int.mul_assoc,Int.mul_comm (x - x') a1,e3,Int.mul_assoc]
  have f2:(x - x') * (b1 * y) = b1 * ((x - x') * y):=by rw [← Int.mul_assoc,Int.mul_comm (x - x') b1,Int.mul_assoc]
  rw [Int.mul_add]; omega
 have hbn:(b.natAbs:Int) = g * b1.natAbs:=by
  have:b.natAbs = g.natAbs * b1.natAbs:=by rw [← Int.natAbs_mul, ← hb1]
  rw [this,Int.natCast_mul,show (g.natAbs:Int) = g by omega]
 have hlt:∀ z:Int,z * g < b.natAbs → z < b1.natAbs:=fun z hz => by
  rcases Int.lt_or_le z b1.natAbs with h9 | h9
  ·exact h9
  ·have:=Int.mul_le_mul_of_nonneg_right (c:=g) h9 (by omega)
   rw [Int.mul_comm (b1.natAbs:Int) g] at this
   omega
 have l1:=hlt x h3
 have l2:=hlt x' k3
 generalize (y' - y) * x + (x - x') * y = t at e4
 have ht:t = 0:=by
  rcases Nat.eq_zero_or_pos t.natAbs with h9 | h9
  ·omega
  ·exfalso
   have:(x - x').natAbs = b1.natAbs * t.natAbs:=by rw [← Int.natAbs_mul, ← e4]
   have h10:b1.natAbs * 1 ≤ b1.natAbs * t.natAbs:=Nat.mul_le_mul_left _ h9
   omega
 rw [ht,Int.mul_zero] at e4
 have hxx:x = x':=by omega
 subst hxx
 exact ⟨rfl,Int.eq_of_mul_eq_mul_left hb (by omega)⟩
theorem wqbez {b b2:Bool} {p q:Option Addr} {n m c d:Nat} {x y:Int} {w:World} (hx:Zr w b p n c x 100000000000) (hy:Zr w b2 q m d y 100000000000) (h0:y ≠ 0) :
  Calls Tryz.prog 101 #[.agg #[.bool b,.slice p n c],.agg #[.bool b2,.slice q m d]] w (Ret (BZt x y) w):=by
 have hS:=Sep.init w
 refine went Tryz.func101 rfl (n:=64) rfl rfl ?_
 refine wseq (wreg (wl rfl (obox [.bool b,.slice p n c] hS rfl rfl (ev (v:=.agg #[.bool b,.slice p n c]) rfl rfl) rfl ?_)))
 clear hS; intro g1 w2 hS
 refine wl rfl (obox [.bool b2,.slice q m d] hS rfl rfl (ev (v:=.agg #[.bool b2,.slice q m d]) rfl rfl) rfl ?_)
 clear hS; intro g3 w4 hS
 refine wl rfl (oalloc [.bool false,.slice none 0 0] hS rfl rfl Tryz.zeroValue28 rfl ?_)
 clear hS; intro g5 w6 hS
 refine wl rfl (oalloc [.bool false,.slice none 0 0] hS rfl rfl Tryz.zeroValue28 rfl ?_)
 clear hS; intro g7 w8 hS
 refine wl rfl (oalloc [.bool false,.slice none 0 0] hS rfl rfl Tryz.zeroValue28 rfl ?_)
 clear hS; intro g9 w10 hS
 refine wnil (thenN (wseq (wreg (wl rfl (oload (vs:=[.bool b,.slice p n c]) aggZ hS 4 rfl rfl (ev rfl rfl) rfl rfl rfl ?_)))))
 refine wl rfl (oload (vs:=[.bool b2,.slice q m d]) aggZ hS 3 rfl rfl (ev rfl rfl) rfl rfl rfl ?_)
 obtain ⟨z1,hz1⟩:∃ z:Int,Hid ((Int.gcd x y:Int) = z):=⟨_,rfl⟩
 have hk1:Wd z1 100000000000:=Wd.gcd hx.wd hy.wd hz1 (by omega)
 refine wl rfl (ocall rfl rfl Tryz.call77 rfl (wqgcd ((hx.at hS).mono (by omega)) ((hy.at hS).mono (by omega)) hz1) (args2 (ev rfl rfl) (ev rfl rfl)) ?_)
 rintro _ w11 ⟨_,_,rfl,⟨p1,n1,c1,rfl,rfl⟩,hN⟩
 refine ⟨_,rfl,?_⟩
 replace hS:=hS.news hN; clear hN
 refine wl rfl (oalloc [.bool false,.slice none 0 0] hS rfl rfl Tryz.zeroValue28 rfl ?_)
 clear hS; intro g12 w13 hS
 refine wl rfl (ostore [.bool (ng z1),.slice p1 n1 c1] [.bool (ng z1),.slice p1 n1 c1] Tryz.sizeOf28 hS 0 rfl rfl (ev rfl rfl) (ev (v:=.agg #[.bool (ng z1),.slice p1 n1 c1]) rfl rfl) rfl rfl rfl rfl rfl rfl ?_)
 clear hS; intro w14 hS
 refine wnil (thenN (wseq (wseq (wreg (wl rfl (oload (vs:=[.bool b2,.slice q m d]) aggZ hS 5 rfl rfl (ev rfl rfl) rfl rfl rfl ?_))))))
 obtain ⟨s2,hs2⟩:∃ z:Int,Hid ((y:Int).sign = z):=⟨_,rfl⟩
 refine wl rfl (ocall rfl rfl Tryz.call32 rfl (wqsign ((hy.at hS).mono (by omega)) hs2) (args1 (ev rfl rfl)) ?_)
 rintro _ w15 ⟨_,_,rfl,⟨rfl,rfl⟩,hN⟩
 refine ⟨_,rfl,?_⟩
 replace hS:=hS.news hN; clear hN
 refine wl rfl (obin (u:=.int .i64 s2) (v:=.int .i64 0) (z:=.bool false) rfl rfl (ev rfl rfl) evc (bin_eql (sign_ne hs2 h0)) ?_)
 refine wnil (thenN ?_)
 refine wF (ev rfl rfl) ?_
 refine wskip (thenN (wseq (wreg (wl rfl (oload (vs:=[.bool b,.slice p n c]) aggZ hS 6 rfl rfl (ev rfl rfl) rfl rfl rfl ?_)))))
 refine wl rfl (oload (vs:=[.bool (ng z1),.slice p1 n1 c1]) aggZ hS 0 rfl rfl (ev rfl rfl) rfl rfl rfl ?_)
 obtain ⟨hg0,hxg,hyg,_,_,_,_,_⟩:=bezr_a (a1:=x.tdiv z1) (b1:=y.tdiv z1) h0 hz1 rfl rfl rfl rfl
 obtain ⟨z3,hz3⟩:∃ z:Int,Hid (Int.tdiv x z1 = z):=⟨_,rfl⟩
 have hk3:Wd z3 100000000000:=Wd.tdiv hx.wd hz3
 refine wl rfl (ocall rfl rfl Tryz.call78 rfl (wqexact ((hx.at hS).mono (by omega)) (((hS.sl 1 rfl).zr hk1).mono (by omega)) (hg0) ((congrArg (fun t => t.tmod z1) hxg).trans (Int.mul_tmod_right _ _)) hz3) (args2 (ev rfl rfl) (ev rfl rfl)) ?_)
 rintro _ w16 ⟨_,_,rfl,⟨p3,n3,c3,rfl,rfl⟩,hN⟩
 refine ⟨_,rfl,?_⟩
 replace hS:=hS.news hN; clear hN
 refine wl rfl (omove (v:=.tuple #[.agg #[.bool (ng z3),.slice p3 n3 c3],.bool true]) rfl rfl (ev rfl rfl) ?_)
 refine wl rfl (oextract (vs:=[.agg #[.bool (ng z3),.slice p3 n3 c3],.bool true]) (v:=.agg #[.bool (ng z3),.slice p3 n3 c3]) rfl rfl (ev rfl rfl) rfl ?_)
 refine wl rfl (oextract (vs:=[.agg #[.bool (ng z3),.slice p3 n3 c3],.bool true]) (v:=.bool true) rfl rfl (ev rfl rfl) rfl ?_)
 refine wl rfl (oalloc [.bool false,.slice none 0 0] hS rfl rfl Tryz.zeroValue28 rfl ?_)
 clear hS; intro g17 w18 hS
 refine wl rfl (ostore [.bool (ng z3),.slice p3 n3 c3] [.bool (ng z3),.slice p3 n3 c3] Tryz.sizeOf28 hS 0 rfl rfl (ev rfl rfl) (ev (v:=.agg #[.bool (ng z3),.slice p3 n3 c3]) rfl rfl) rfl rfl rfl rfl rfl rfl ?_)
 clear hS; intro w19 hS
 refine wl rfl (oassign (v:=.bool true) rfl rfl (ev rfl rfl) ?_)
 refine wnil (thenN (wseq (wreg (wl rfl (oload (vs:=[.bool b2,.slice q m d]) aggZ hS 7 rfl rfl (ev rfl rfl) rfl rfl rfl ?_)))))
 refine wl rfl (oload (vs:=[.bool (ng z1),.slice p1 n1 c1]) aggZ hS 2 rfl rfl (ev rfl rfl) rfl rfl rfl ?_)
 obtain ⟨z4,hz4⟩:∃ z:Int,Hid (Int.tdiv y z1 = z):=⟨_,rfl⟩
 have hk4:Wd z4 100000000000:=Wd.tdiv hy.wd hz4
 refine wl rfl (ocall rfl rfl Tryz.call78 rfl (wqexact ((hy.at hS).mono (by omega)) (((hS.sl 3 rfl).zr hk1).mono (by omega)) (hg0) ((congrArg (fun t => t.tmod z1) hyg).trans (Int.mul_tmod_right _ _)) hz4) (args2 (ev rfl rfl) (ev rfl rfl)) ?_)
 rintro _ w20 ⟨_,_,rfl,⟨p4,n4,c4,rfl,rfl⟩,hN⟩
 refine ⟨_,rfl,?_⟩
 replace hS:=hS.news hN; clear hN
 refine wl rfl (omove (v:=.tuple #[.agg #[.bool (ng z4),.slice p4 n4 c4],.bool true]) rfl rfl (ev rfl rfl) ?_)
 refine wl rfl (oextract (vs:=[.agg #[.bool (ng z4),.slice p4 n4 c4],.bool true]) (v:=.agg #[.bool (ng z4),.slice p4 n4 c4]) rfl rfl (ev rfl rfl) rfl ?_)
 refine wl rfl (oextract (vs:=[.agg #[.bool (ng z4),.slice p4 n4 c4],.bool true]) (v:=.bool true) rfl rfl (ev rfl rfl) rfl ?_)
 refine wl rfl (oalloc [.bool false,.slice none 0 0] hS rfl rfl Tryz.zeroValue28 rfl ?_)
 clear hS; intro g21 w22 hS
 refine wl rfl (ostore [.bool (ng z4),.slice p4 n4 c4] [.bool (ng z4),.slice p4 n4 c4] Tryz.sizeOf28 hS 0 rfl rfl (ev rfl rfl) (ev (v:=.agg #[.bool (ng z4),.slice p4 n4 c4]) rfl rfl) rfl rfl rfl rfl rfl rfl ?_)
 clear hS; intro w23 hS
 refine wl rfl (oassign (v:=.bool true) rfl rfl (ev rfl rfl) ?_)
 refine wnil (thenN (wseq (wreg (wl rfl (oload (vs:=[.bool (ng z4),.slice p4 n4 c4]) aggZ hS 0 rfl rfl (ev rfl rfl) rfl rfl rfl ?_)))))
 obtain ⟨z5,hz5⟩:∃ z:Int,Hid ((Int.natAbs z4:Int) = z):=⟨_,rfl⟩
 have hk5:Wd z5 100000000000:=Wd.nabs hk4 hz5
 refine wl rfl (ocall rfl rfl Tryz.call86 rfl (wqabs (((hS.sl 1 rfl).zr hk4).mono (by omega)) hz5) (args1 (ev rfl rfl)) ?_)
 rintro _ w24 ⟨_,_,rfl,⟨p5,n5,c5,rfl,rfl⟩,hN⟩
 refine ⟨_,rfl,?_⟩
 replace hS:=hS.news hN; clear hN
 refine wl rfl (ostore [.bool (ng z5),.slice p5 n5 c5] [.bool (ng z5),.slice p5 n5 c5] Tryz.sizeOf28 hS 1 rfl rfl (ev rfl rfl) (ev (v:=.agg #[.bool (ng z5),.slice p5 n5 c5]) rfl rfl) rfl rfl rfl rfl rfl rfl ?_)
 clear hS; intro w25 hS
 refine wnil (thenN (wseq (wreg (wl rfl (oload (vs:=[.bool (ng z3),.slice p3 n3 c3]) aggZ hS 3 rfl rfl (ev rfl rfl) rfl rfl rfl ?_)))))
 refine wl rfl (oload (vs:=[.bool (ng z5),.slice p5 n5 c5]) aggZ hS 1 rfl rfl (ev rfl rfl) rfl rfl rfl ?_)
 obtain ⟨_,_,_,_,hq0,_,_,_⟩:=bezr_a (r:=z3 % z5) h0 hz1 hz3 hz4 hz5 rfl
 obtain ⟨z6,hz6⟩:∃ z:Int,Hid (z3 / z5 = z):=⟨_,rfl⟩
 have hk6:Wd z6 100000000000:=Wd.ediv hk3 hz6
 obtain ⟨z7,hz7⟩:∃ z:Int,Hid (z3 % z5 = z):=⟨_,rfl⟩
 have hk7:Wd z7 100000000000:=Wd.emod hk5 (by omega) hz7
 refine wl rfl (ocall rfl rfl Tryz.call31 rfl (wqeuclid (((hS.sl 4 rfl).zr hk3).mono (by omega)) (((hS.sl 0 rfl).zr hk5).mono (by omega)) (by omega) hz6 hz7) (args2 (ev rfl rfl) (ev rfl rfl)) ?_)
 rintro _ w26 ⟨_,_,rfl,⟨p6,n6,c6,p7,n7,c7,rfl,rfl⟩,hN⟩
 refine ⟨_,rfl,?_⟩
 replace hS:=hS.news hN; clear hN
 refine wl rfl (omove (v:=.tuple #[.agg #[.bool (ng z6),.slice p6 n6 c6],.agg #[.bool (ng z7),.slice p7 n7 c7]]) rfl rfl (ev rfl rfl) ?_)
 refine wl rfl (oextract (vs:=[.agg #[.bool (ng z6),.slice p6 n6 c6],.agg #[.bool (ng z7),.slice p7 n7 c7]]) (v:=.agg #[.bool (ng z6),.slice p6 n6 c6]) rfl rfl (ev rfl rfl) rfl ?_)
 refine wl rfl (oextract (vs:=[.agg #[.bool (ng z6),.slice p6 n6 c6],.agg #[.bool (ng z7),.slice p7 n7 c7]]) (v:=.agg #[.bool (ng z7),.slice p7 n7 c7]) rfl rfl (ev rfl rfl) rfl ?_)
 refine wl rfl (oalloc [.bool false,.slice none 0 0] hS rfl rfl Tryz.zeroValue28 rfl ?_)
 clear hS; intro g27 w28 hS
 refine wl rfl (oalloc [.bool false,.slice none 0 0] hS rfl rfl Tryz.zeroValue28 rfl ?_)
 clear hS; intro g29 w30 hS
 refine wl rfl (ostore [.bool (ng z6),.slice p6 n6 c6] [.bool (ng z6),.slice p6 n6 c6] Tryz.sizeOf28 hS 1 rfl rfl (ev rfl rfl) (ev (v:=.agg #[.bool (ng z6),.slice p6 n6 c6]) rfl rfl) rfl rfl rfl rfl rfl rfl ?_)
 clear hS; intro w31 hS
 refine wl rfl (ostore [.bool (ng z7),.slice p7 n7 c7] [.bool (ng z7),.slice p7 n7 c7] Tryz.sizeOf28 hS 0 rfl rfl (ev rfl rfl) (ev (v:=.agg #[.bool (ng z7),.slice p7 n7 c7]) rfl rfl) rfl rfl rfl rfl rfl rfl ?_)
 clear hS; intro w32 hS
 refine wnil (thenN (wseq (wreg (wl rfl (oload (vs:=[.bool (ng z7),.slice p7 n7 c7]) aggZ hS 0 rfl rfl (ev rfl rfl) rfl rfl rfl ?_)))))
 refine wl rfl (oload (vs:=[.bool (ng z5),.slice p5 n5 c5]) aggZ hS 5 rfl rfl (ev rfl rfl) rfl rfl rfl ?_)
 obtain ⟨_,_,_,_,_,hr0,hr1,hrg⟩:=bezr_a h0 hz1 hz3 hz4 hz5 hz7
 obtain ⟨z8,hz8⟩:∃ z:Int,Hid (Inv z7 z5 z):=Inv.some (hr0) (hr1) (hrg)
 have hk8:Wd z8 100000000000:=Inv.wd hz8 hk5
 refine wl rfl (ocall rfl rfl Tryz.call131 rfl (wqinverse (((hS.sl 3 rfl).zr hk7).mono (by omega)) (((hS.sl 4 rfl).zr hk5).mono (by omega)) (hr0) (hr1) (hrg) hz8) (args2 (ev rfl rfl) (ev rfl rfl)) ?_)
 rintro _ w33 ⟨_,_,rfl,⟨p8,n8,c8,rfl,rfl⟩,hN⟩
 refine ⟨_,rfl,?_⟩
 replace hS:=hS.news hN; clear hN
 refine wl rfl (oalloc [.bool false,.slice none 0 0] hS rfl rfl Tryz.zeroValue28 rfl ?_)
 clear hS; intro g34 w35 hS
 refine wl rfl (ostore [.bool (ng z8),.slice p8 n8 c8] [.bool (ng z8),.slice p8 n8 c8] Tryz.sizeOf28 hS 0 rfl rfl (ev rfl rfl) (ev (v:=.agg #[.bool (ng z8),.slice p8 n8 c8]) rfl rfl) rfl rfl rfl rfl rfl rfl ?_)
 clear hS; intro w36 hS
 refine wnil (thenN (wseq ?_))
 obtain ⟨z9,hz9⟩:∃ z:Int,Hid (x * z8 = z):=⟨_,rfl⟩
 have hk9:Wd z9 200000000000:=Wd.mul hx.wd hk8 hz9 (by omega)
 obtain ⟨z10,hz10⟩:∃ z:Int,Hid (z1 - z9 = z):=⟨_,rfl⟩
 have hk10:Wd z10 200000000001:=Wd.sub hk1 hk9 hz10 (by omega)
 obtain ⟨z11,hz11⟩:∃ z:Int,Hid (Int.tdiv z10 y = z):=⟨_,rfl⟩
 have hk11:Wd z11 200000000001:=Wd.tdiv hk10 hz11
 refine wstage 11 [52,53,54,55,56,57,58,51,59,60,15] [[],[],[],[1,2],[0,3,1,2],[],[4,5,0,1,2,3],[6,0,1,2,3,4,5],[6,7,0,1,2,3,4,5],[6,7,0,1,2,3,4,5],[]] [[],[],[],[],[],[],[],[6],[6],[],[]] [9] [] (fun i => ([fun _ => Is (.agg #[.bool (ng z1),.slice p1 n1 c1]),fun _ => Is (.agg #[.bool b,.slice p n c]),fun _ => Is (.agg #[.bool (ng z8),.slice p8 n8 c8]),fun _ => Zt z9,fun _ => Zt z10,fun _ => Is (.agg #[.bool b2,.slice q m d]),fun _ => ZBt z11 true,fun us => Is (.tuple #[.agg #[.bool (ng z11),(vat (us.getD 0 undef) [0,1])],.bool true]),fun us => Is (.agg #[.bool (ng z11),(vat (us.getD 0 undef) [0,1])]),fun _ => Is (.bool true),fun _ => Ptr [.bool false,.slice none 0 0] 28]:List (List Value → Tell)).getD i (fun _ _ _ => False)) (heldNil) (fun d _ _ _ _ h => (by cases d <;> exact h)) (by kernel_rfl) (by kernel_rfl) (by kernel_rfl) hS ?_ ?_
 ·
  refine stepsCons rfl (fun Q f' w' ρ S ho hT hS hB => ?_) ?_
  ·exact .inl ⟨want_none rfl,oload (vs:=[.bool (ng z1),.slice p1 n1 c1]) aggZ hS 11 rfl rfl (ev rfl (ho 7 rfl)) rfl rfl rfl ⟨_,_,rfl,isI,New.same _⟩⟩
  refine stepsCons rfl (fun Q f' w' ρ S ho hT hS hB => ?_) ?_
  ·exact .inl ⟨want_none rfl,oload (vs:=[.bool b,.slice p n c]) aggZ hS 17 rfl rfl (ev rfl (ho 2 rfl)) rfl rfl rfl ⟨_,_,rfl,isI,New.same _⟩⟩
  refine stepsCons rfl (fun Q f' w' ρ S ho hT hS hB => ?_) ?_
  ·exact .inl ⟨want_none rfl,oload (vs:=[.bool (ng z8),.slice p8 n8 c8]) aggZ hS 0 rfl rfl (ev rfl (ho 14 rfl)) rfl rfl rfl ⟨_,_,rfl,isI,New.same _⟩⟩
  refine stepsCons rfl (fun Q f' w' ρ S ho hT hS hB => ?_) ?_
  ·obtain ⟨hv1,hr1⟩:=(hT 1 53 rfl rfl:(Is (.agg #[.bool b,.slice p n c])) _ _)
   obtain ⟨hv2,hr2⟩:=(hT 2 54 rfl rfl:(Is (.agg #[.bool (ng z8),.slice p8 n8 c8])) _ _)
   obtain hS:=hS.flat2 hr1 hr2
   exact .inl ⟨want_none rfl,ocall rfl rfl Tryz.call30 rfl (wqmul ((hx.at hS).mono (by omega)) (((hS.sl 1 rfl).zr hk8).mono (by omega)) hz9) (args2 (ev rfl hv1) (ev rfl hv2)) callN⟩
  refine stepsCons rfl (fun Q f' w' ρ S ho hT hS hB => ?_) ?_
  ·obtain ⟨hv0,hr0⟩:=(hT 0 52 rfl rfl:(Is (.agg #[.bool (ng z1),.slice p1 n1 c1])) _ _)
   obtain ⟨p9,n9,c9,hv3,hr3⟩:=(hT 3 55 rfl rfl:(Zt z9) _ _)
   obtain hS:=hS.flat2 hr0 hr3
   exact .inl ⟨want_none rfl,ocall rfl rfl Tryz.call29 rfl (wqsub (((hS.sl 12 rfl).zr hk1).mono (by omega)) (((hS.sl 18 rfl).zr hk9).mono (by omega)) hz10) (args2 (ev rfl hv0) (ev rfl hv3)) callN⟩
  refine stepsCons rfl (fun Q f' w' ρ S ho hT hS hB => ?_) ?_
  ·exact .inl ⟨want_none rfl,oload (vs:=[.bool b2,.slice q m d]) aggZ hS 16 rfl rfl (ev rfl (ho 3 rfl)) rfl rfl rfl ⟨_,_,rfl,isI,New.same _⟩⟩
  refine stepsCons rfl (fun Q f' w' ρ S ho hT hS hB => ?_) ?_
  ·obtain ⟨p10,n10,c10,hv4,hr4⟩:=(hT 4 56 rfl rfl:(Zt z10) _ _)
   obtain ⟨hv5,hr5⟩:=(hT 5 57 rfl rfl:(Is (.agg #[.bool b2,.slice q m d])) _ _)
   obtain hS:=hS.flat2 hr4 hr5
   exact .inl ⟨want_none rfl,ocall rfl rfl Tryz.call78 rfl (wqexact (((hS.sl 18 rfl).zr hk10).mono (by omega)) ((hy.at hS).mono (by omega)) (h0) ((bezr_b (yy:=0) h0 hz1 hz3 hz4 hz5 hz7 hz8 hz9 hz10).1) hz11) (args2 (ev rfl hv4) (ev rfl hv5)) callN⟩
  refine stepsCons rfl (fun Q f' w' ρ S ho hT hS hB => ?_) ?_
  ·obtain ⟨p11,n11,c11,hv6,hr6⟩:=(hT 6 58 rfl rfl:(ZBt z11 true) _ _)
   obtain hS:=hS.flat1 hr6
   have hQ:(.tuple #[.agg #[.bool (ng z11),.slice p11 n11 c11],.bool true]:Value) = (fun (us:List Value) => (.tuple #[.agg #[.bool (ng z11),(vat (us.getD 0 undef) [0,1])],.bool true]:Value)) [f' 58]:=by show _ = (.tuple #[.agg #[.bool (ng z11),(vat (f' 58) [0,1])],.bool true]:Value); rw [hv6]; rfl
   exact .inl ⟨want_none rfl,omove (v:=.tuple #[.agg #[.bool (ng z11),.slice p11 n11 c11],.bool true]) rfl rfl (ev rfl hv6) ⟨_,_,rfl,⟨hQ,rfl⟩,New.same _⟩⟩
  refine stepsCons rfl (fun Q f' w' ρ S ho hT hS hB => ?_) ?_
  ·obtain ⟨p11,n11,c11,hv6,hr6⟩:=(hT 6 58 rfl rfl:(ZBt z11 true) _ _)
   obtain ⟨hv7,hr7⟩:=(hT 7 51 rfl rfl:(fun (us:List Value) => Is (.tuple #[.agg #[.bool (ng z11),(vat (us.getD 0 undef) [0,1])],.bool true])) [f' 58] _ _)
   replace hv7:f' 51 = .tuple #[.agg #[.bool (ng z11),.slice p11 n11 c11],.bool true]:=hv7.trans (by show (.tuple #[.agg #[.bool (ng z11),(vat (f' 58) [0,1])],.bool true]:Value) = _; rw [hv6]; rfl)
   obtain hS:=hS.flat2 hr6 hr7
   have hQ:(.agg #[.bool (ng z11),.slice p11 n11 c11]:Value) = (fun (us:List Value) => (.agg #[.bool (ng z11),(vat (us.getD 0 undef) [0,1])]:Value)) [f' 58]:=by show _ = (.agg #[.bool (ng z11),(vat (f' 58) [0,1])]:Value); rw [hv6]; rfl
   exact .inl ⟨want_none rfl,oextract (vs:=[.agg #[.bool (ng z11),.slice p11 n11 c11],.bool true]) (v:=.agg #[.bool (ng z11),.slice p11 n11 c11]) rfl rfl (ev rfl hv7) rfl ⟨_,_,rfl,⟨hQ,rfl⟩,New.same _⟩⟩
  refine stepsPure rfl ?_ ?_
  ·intro f' ρ ho hT
   obtain ⟨p11,n11,c11,hv6,hr6⟩:=(hT 6 58 rfl rfl:(ZBt z11 true) _ _)
   obtain ⟨hv7,hr7⟩:=(hT 7 51 rfl rfl:(fun (us:List Value) => Is (.tuple #[.agg #[.bool (ng z11),(vat (us.getD 0 undef) [0,1])],.bool true])) [f' 58] _ _)
   replace hv7:f' 51 = .tuple #[.agg #[.bool (ng z11),.slice p11 n11 c11],.bool true]:=hv7.trans (by show (.tuple #[.agg #[.bool (ng z11),(vat (f' 58) [0,1])],.bool true]:Value) = _; rw [hv6]; rfl)
   exact ⟨_,.inl ⟨want_none rfl,fun w hw => yextract (vs:=[.agg #[.bool (ng z11),.slice p11 n11 c11],.bool true]) (v:=.bool true) rfl (ev (v:=.tuple #[.agg #[.bool (ng z11),.slice p11 n11 c11],.bool true]) rfl hv7) rfl w⟩,isI⟩
  refine stepsCons rfl (fun Q f' w' ρ S ho hT hS hB => ?_) ?_
  ·exact .inl ⟨want_none rfl,oallocN [.bool false,.slice none 0 0] rfl rfl Tryz.zeroValue28 rfl ⟨_,_,rfl,ptrI,New.blk _ _ _⟩⟩
  exact stepsNil
 ·
  intro vs ρ w38 f' hf hT hS
  obtain ⟨hv0,hr0⟩:=(hT 0 (by decide):(Is (.agg #[.bool (ng z1),.slice p1 n1 c1])) _ _)
  obtain ⟨hv1,hr1⟩:=(hT 1 (by decide):(Is (.agg #[.bool b,.slice p n c])) _ _)
  obtain ⟨hv2,hr2⟩:=(hT 2 (by decide):(Is (.agg #[.bool (ng z8),.slice p8 n8 c8])) _ _)
  obtain ⟨p9,n9,c9,hv3,hr3⟩:=(hT 3 (by decide):(Zt z9) _ _)
  obtain ⟨p10,n10,c10,hv4,hr4⟩:=(hT 4 (by decide):(Zt z10) _ _)
  obtain ⟨hv5,hr5⟩:=(hT 5 (by decide):(Is (.agg #[.bool b2,.slice q m d])) _ _)
  obtain ⟨p11,n11,c11,hv6,hr6⟩:=(hT 6 (by decide):(ZBt z11 true) _ _)
  obtain ⟨hv7,hr7⟩:=(hT 7 (by decide):(fun (us:List Value) => Is (.tuple #[.agg #[.bool (ng z11),(vat (us.getD 0 undef) [0,1])],.bool true])) [vs 6] _ _)
  replace hv7:vs 7 = .tuple #[.agg #[.bool (ng z11),.slice p11 n11 c11],.bool true]:=hv7.trans (by show (.tuple #[.agg #[.bool (ng z11),(vat (vs 6) [0,1])],.bool true]:Value) = _; rw [hv6]; rfl)
  obtain ⟨hv8,hr8⟩:=(hT 8 (by decide):(fun (us:List Value) => Is (.agg #[.bool (ng z11),(vat (us.getD 0 undef) [0,1])])) [vs 6] _ _)
  replace hv8:vs 8 = .agg #[.bool (ng z11),.slice p11 n11 c11]:=hv8.trans (by show (.agg #[.bool (ng z11),(vat (vs 6) [0,1])]:Value) = _; rw [hv6]; rfl)
  obtain ⟨hv9,hr9⟩:=(hT 9 (by decide):(Is (.bool true)) _ _)
  obtain ⟨g37,hv10,hr10⟩:=(hT 10 (by decide):(Ptr [.bool false,.slice none 0 0] 28) _ _)
  simp only [pool,if_true,hr0,hr1,hr2,hr3,hr4,hr5,hr6,hr7,hr8,hr9,hr10,List.nil_append,List.cons_append,List.append_nil] at hS
  simp only [layf,hv0,hv1,hv2,hv3,hv4,hv5,hv6,hv7,hv8,hv9,hv10] at hf
  subst hf; clear hT hv0 hv1 hv2 hv3 hv4 hv5 hv6 hv7 hv8 hv9 hv10 hr0 hr1 hr2 hr3 hr4 hr5 hr6 hr7 hr8 hr9 hr10
  refine wlate 11 rfl (by kernel_rfl) (ostore [.bool (ng z11),.slice p11 n11 c11] [.bool (ng z11),.slice p11 n11 c11] Tryz.sizeOf28 hS 0 rfl rfl (ev rfl rfl) (ev (v:=.agg #[.bool (ng z11),.slice p11 n11 c11]) rfl rfl) rfl rfl rfl rfl rfl rfl ?_)
  clear hS; intro w39 hS
  refine ⟨heldNil,?_⟩
  refine wlate 12 rfl (by kernel_rfl) (oassign (v:=.bool true) rfl rfl (ev rfl rfl) ?_)
  refine ⟨heldNil,?_⟩
  refine wdone rfl ?_
  refine thenN (wseq ?_)
  refine wstage 3 [61,62,63] [[],[],[]] [[],[],[]] [1,2] [(g34,[.bool (ng z8),.slice p8 n8 c8],28),(g37,[.bool (ng z11),.slice p11 n11 c11],28)] (fun i => ([fun _ => Is (.agg #[.bool (ng z1),.slice p1 n1 c1]),fun _ => Is (.agg #[.bool (ng z8),.slice p8 n8 c8]),fun _ => Is (.agg #[.bool (ng z11),.slice p11 n11 c11])]:List (List Value → Tell)).getD i (fun _ _ _ => False)) ((heldCons (hS.blkAt 4 rfl) (heldCons (hS.blkAt 0 rfl) heldNil))) (fun d _ _ _ _ h => (by cases d <;> exact h)) (by kernel_rfl) (by kernel_rfl) (by kernel_rfl) hS ?_ ?_
  ·
   refine stepsCons rfl (fun Q f' w' ρ S ho hT hS hB => ?_) ?_
   ·exact .inl ⟨want_none rfl,oload (vs:=[.bool (ng z1),.slice p1 n1 c1]) aggZ hS 15 rfl rfl (ev rfl (ho 7 rfl)) rfl rfl rfl ⟨_,_,rfl,isI,New.same _⟩⟩
   refine stepsPure rfl ?_ ?_
   ·intro f' ρ ho hT
    exact ⟨_,.inl ⟨want_none rfl,fun w hw => yload (vs:=[.bool (ng z8),.slice p8 n8 c8]) aggZ rfl (ev rfl (ho 14 rfl)) (hw.at 0 rfl) rfl rfl⟩,isI⟩
   refine stepsPure rfl ?_ ?_
   ·intro f' ρ ho hT
    exact ⟨_,.inl ⟨want_none rfl,fun w hw => yload (vs:=[.bool (ng z11),.slice p11 n11 c11]) aggZ rfl (ev rfl (ho 15 rfl)) (hw.at 1 rfl) rfl rfl⟩,isI⟩
   exact stepsNil
  ·
   intro vs ρ w40 f' hf hT hS
   obtain ⟨hv0,hr0⟩:=(hT 0 (by decide):(Is (.agg #[.bool (ng z1),.slice p1 n1 c1])) _ _)
   obtain ⟨hv1,hr1⟩:=(hT 1 (by decide):(Is (.agg #[.bool (ng z8),.slice p8 n8 c8])) _ _)
   obtain ⟨hv2,hr2⟩:=(hT 2 (by decide):(Is (.agg #[.bool (ng z11),.slice p11 n11 c11])) _ _)
   simp only [pool,if_true,hr0,hr1,hr2,List.nil_append,List.cons_append,List.append_nil] at hS
   simp only [layf,hv0,hv1,hv2] at hf
   subst hf; clear hT hv0 hv1 hv2 hr0 hr1 hr2
   refine wlate 3 rfl (by kernel_rfl) (ostore [.bool (ng z1),.slice p1 n1 c1] [.bool (ng z1),.slice p1 n1 c1] Tryz.sizeOf28 hS 19 rfl rfl (ev rfl rfl) (ev (v:=.agg #[.bool (ng z1),.slice p1 n1 c1]) rfl rfl) rfl rfl rfl rfl rfl rfl ?_)
   clear hS; intro w41 hS
   refine ⟨(heldCons (hS.blkAt 4 rfl) (heldCons (hS.blkAt 0 rfl) heldNil)),?_⟩
   refine wlate 4 rfl (by kernel_rfl) (ostore [.bool (ng z8),.slice p8 n8 c8] [.bool (ng z8),.slice p8 n8 c8] Tryz.sizeOf28 hS 18 rfl rfl (ev rfl rfl) (ev (v:=.agg #[.bool (ng z8),.slice p8 n8 c8]) rfl rfl) rfl rfl rfl rfl rfl rfl ?_)
   clear hS; intro w42 hS
   refine ⟨(heldCons (hS.blkAt 4 rfl) (heldCons (hS.blkAt 0 rfl) heldNil)),?_⟩
   refine wlate 5 rfl (by kernel_rfl) (ostore [.bool (ng z11),.slice p11 n11 c11] [.bool (ng z11),.slice p11 n11 c11] Tryz.sizeOf28 hS 17 rfl rfl (ev rfl rfl) (ev (v:=.agg #[.bool (ng z11),.slice p11 n11 c11]) rfl rfl) rfl rfl rfl rfl rfl rfl ?_)
   clear hS; intro w43 hS
   refine ⟨(heldCons (hS.blkAt 4 rfl) (heldCons (hS.blkAt 0 rfl) heldNil)),?_⟩
   refine wdone rfl ?_
   refine thenN ?_
   refine wleave ?_
   refine wret3 Tryz.results101 (tellC (cs:=[.bool (ng z1),.slice p1 n1 c1]) aggZ hS 19 rfl rfl rfl rfl) (tellC (cs:=[.bool (ng z8),.slice p8 n8 c8]) aggZ hS 18 rfl rfl rfl rfl) (tellC (cs:=[.bool (ng z11),.slice p11 n11 c11]) aggZ hS 17 rfl rfl rfl rfl) ?_
   have hbe:=(bezr_b h0 hz1 hz3 hz4 hz5 hz7 hz8 hz9 hz10).2 hz11
   have hgg:=hz1.out
   subst hgg
   exact ⟨_,_,rfl,⟨z8,z11,hbe,⟨_,_,_,_,_,_,_,_,_,rfl,rfl⟩⟩,hS.new3 16 5 1 rfl rfl rfl⟩
end Go.Proofs.YtjbcjlbbipohjaaGreatDoor
