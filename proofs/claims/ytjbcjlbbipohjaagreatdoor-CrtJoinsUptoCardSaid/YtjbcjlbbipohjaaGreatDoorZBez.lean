
/-
  The walk of zint.Bezout.
-/
import Derived.Test.YtjbcjlbbipohjaaGreatDoorZDiv
set_option linter.unusedVariables false
set_option linter.unusedSimpArgs false
set_option maxRecDepth 100000
set_option maxHeartbeats 16000000
namespace Go.Proofs.YtjbcjlbbipohjaaGreatDoor
open Go.RowKit
def Bez (a b x y:Int):Prop:=a * x + b * y = (Int.gcd a b:Int) ∧ 0 ≤ x ∧ x * (Int.gcd a b:Int) < b.natAbs
def BZt (a b:Int):Tell:=fun v r => ∃ x y,Bez a b x y ∧ ZZZt (Int.gcd a b) x y v r
structure Steps3 (A B r0 r1 x0 x1:Int):Prop where
  n0:0 ≤ r0
  n1:0 ≤ r1
  g:Int.gcd r0 r1 = Int.gcd A B
  c0:∃ k,r0 = x0 * A + k * B
  c1:∃ k,r1 = x1 * A + k * B
  d:(x1.natAbs:Int) * r0 + (x0.natAbs:Int) * r1 = B
  s:0 ≤ x0 ∧ x1 ≤ 0 ∨ x0 ≤ 0 ∧ 0 ≤ x1
  b0:x0.natAbs ≤ B.natAbs
  b1:x1.natAbs ≤ B.natAbs
theorem Steps3.start {A B:Int} (hA:0 ≤ A) (hB:0 < B):Steps3 A B A B 1 0 :=
  ⟨hA,by omega,rfl,⟨0,by omega⟩,⟨1,by omega⟩,by simp,by omega,by simp; omega,by simp⟩
theorem Steps3.next {A B r0 r1 x0 x1 q r m x:Int} (hB:0 < B) (h:Steps3 A B r0 r1 x0 x1) (h1:r1 ≠ 0) (hq:Hid (r0.tdiv r1 = q)) (hr:Hid (r0.tmod r1 = r)) (hm:Hid (q * x1 = m)) (hx:Hid (x0 - m = x)):Steps3 A B r1 r x1 x ∧ r.natAbs < r1.natAbs:=by
 have hr1:0 < r1:=by have:=h.n1; omega
 have e1:r0.tmod r1 = r0 % r1:=Int.tmod_eq_emod_of_nonneg h.n0
 have e2:r0.tdiv r1 = r0 / r1:=Int.tdiv_eq_ediv_of_nonneg h.n0
 have hr0:0 ≤ r:=by rw [← hr.out,e1]; exact Int.emod_nonneg _ h1
 have hr2:r < r1:=by rw [← hr.out,e1]; exact Int.emod_lt_of_pos _ hr1
 have hq0:0 ≤ q:=by rw [← hq.out,e2]; exact Int.ediv_nonneg h.n0 (by omega)
 have he:r0 = r1 * q + r:=by rw [← hq.out, ← hr.out,e1,e2]; have:=Int.mul_ediv_add_emod r0 r1; omega
 have hx':x = x0 - q * x1:=by rw [← hx.out, ← hm.out]
 have habs:(x.natAbs:Int) = x0.natAbs + q * x1.natAbs:=by
  rcases h.s with ⟨s1,s2⟩ | ⟨s1,s2⟩
  ·have h3:q * x1 ≤ 0:=Int.mul_nonpos_of_nonneg_of_nonpos hq0 s2
   have h4:q * (x1.natAbs:Int) = -(q * x1):=by rw [show (x1.natAbs:Int) = -x1 by omega,Int.mul_neg]
   rw [h4,hx']; omega
  ·have h3:0 ≤ q * x1:=Int.mul_nonneg hq0 s2
   have h4:q * (x1.natAbs:Int) = q * x1:=by rw [show (x1.natAbs:Int) = x1 by omega]
   rw [h4,hx']; omega
 have hsum:(x.natAbs:Int) * r1 + (x1.natAbs:Int) * r = B:=by
  have hd:=h.d
  rw [he] at hd
  rw [habs]
  rw [Int.mul_add] at hd
  rw [Int.add_mul]
  have e5:(x1.natAbs:Int) * (r1 * q) = q * (x1.natAbs:Int) * r1:=by
   rw [Int.mul_comm r1 q, ← Int.mul_assoc,Int.mul_comm _ q]
  omega
 have hbd:x.natAbs ≤ B.natAbs:=by
  have h3:0 ≤ (x1.natAbs:Int) * r:=Int.mul_nonneg (by omega) hr0
  have h4:(x.natAbs:Int) * 1 ≤ (x.natAbs:Int) * r1:=Int.mul_le_mul_of_nonneg_left (by omega) (by omega)
  omega
 refine ⟨⟨h.n1,hr0,?_,h.c1,?_,hsum,?_,h.b1,hbd⟩,by omega⟩
 ·rw [← h.g, ← hr.out]
  unfold Int.gcd
  rw [Int.natAbs_tmod,Nat.gcd_comm r0.natAbs,Nat.gcd_rec r1.natAbs r0.natAbs,Nat.gcd_comm]
 ·obtain ⟨k0,hk0⟩:=h.c0
  obtain ⟨k1,hk1⟩:=h.c1
  refine ⟨k0 - q * k1,?_⟩
  have:r = r0 - r1 * q:=by omega
  rw [this,hx',hk0,hk1]
  rw [Int.sub_mul,Int.sub_mul,Int.add_mul]
  have f1:x1 * A * q = q * x1 * A:=by rw [Int.mul_comm _ q,Int.mul_assoc]
  have f2:k1 * B * q = q * k1 * B:=by rw [Int.mul_comm _ q,Int.mul_assoc]
  omega
 ·rcases h.s with ⟨s1,s2⟩ | ⟨s1,s2⟩
  ·right
   have h3:q * x1 ≤ 0:=Int.mul_nonpos_of_nonneg_of_nonpos hq0 s2
   refine ⟨s2,?_⟩; omega
  ·left
   have h3:0 ≤ q * x1:=Int.mul_nonneg hq0 s2
   refine ⟨s2,?_⟩; omega
theorem bez_g {A B r0 x0 x1:Int} (hB:0 < B) (h:Steps3 A B r0 0 x0 x1):r0 = (Int.gcd A B:Int) ∧ r0 ≠ 0:=by
  have h1:=h.g
  rw [Int.gcd_zero] at h1
  have h2:0 < Int.gcd A B:=Nat.gcd_pos_of_pos_right _ (by omega)
  have:=h.n0
  omega
theorem gcd_abs2 (a b:Int):Int.gcd (a.natAbs:Int) (b.natAbs:Int) = Int.gcd a b:=by unfold Int.gcd; rw [Int.natAbs_natCast,Int.natAbs_natCast]
theorem bez_fin {a b A B r0 x0 x1 xs m x p d y:Int} (hb:b ≠ 0) (hA:Hid ((a.natAbs:Int) = A)) (hB:Hid ((b.natAbs:Int) = B)) (h:Steps3 A B r0 0 x0 x1) (hxs:a * xs = x0 * A) (hm:Hid (B.tdiv r0 = m)) (hx:Hid (xs % m = x)) (hp:Hid (a * x = p)) (hd:Hid (r0 - p = d)) :
  r0 = (Int.gcd a b:Int) ∧ r0 ≠ 0 ∧ B.tmod r0 = 0 ∧ m ≠ 0 ∧ d.tmod b = 0 ∧ (Hid (d.tdiv b = y) → Bez a b x y):=by
 have hBp:0 < B:=by rw [← hB.out]; omega
 obtain ⟨hg,hg0⟩:=bez_g hBp h
 have hgab:Int.gcd A B = Int.gcd a b:=by rw [← hA.out, ← hB.out]; exact gcd_abs2 a b
 obtain ⟨a1,ha1⟩:(Int.gcd a b:Int) ∣ a:=Int.gcd_dvd_left ..
 obtain ⟨b1,hb1⟩:(Int.gcd a b:Int) ∣ b:=Int.gcd_dvd_right ..
 have hgr:(Int.gcd a b:Int) = r0:=by rw [hg,hgab]
 rw [hgr] at ha1 hb1
 have hn0:=h.n0
 have hBm:∃ e:Int,(e = 1 ∨ e = -1) ∧ B = r0 * (b1 * e) ∧ B = b * e:=by
  rcases Int.lt_or_le b 0 with h9 | h9
  ·exact ⟨-1,Or.inr rfl,by rw [← hB.out,show (b.natAbs:Int) = -b by omega,Int.mul_neg,Int.mul_one,Int.mul_neg, ← hb1],by rw [← hB.out]; omega⟩
  ·exact ⟨1,Or.inl rfl,by rw [← hB.out,show (b.natAbs:Int) = b by omega,Int.mul_one, ← hb1],by rw [← hB.out]; omega⟩
 obtain ⟨e,he,hBe,hBb⟩:=hBm
 have hmv:m = b1 * e:=by rw [← hm.out,hBe,Int.mul_tdiv_cancel_left _ hg0]
 have hmp:0 < m:=by
  have h8:0 < r0 * m:=by rw [hmv, ← hBe]; exact hBp
  exact Int.pos_of_mul_pos_right h8 (by omega) 
 have hx0:=Int.emod_nonneg xs (b:=m) (by omega)
 have hx1:=Int.emod_lt_of_pos xs hmp
 have hxe:=Int.emod_add_mul_ediv xs m
 rw [hx.out] at hx0 hx1 hxe
 -- d is a multiple of b
 have hdv:∃ k,d = b * k:=by
  obtain ⟨k0,hk0⟩:=h.c0
  refine ⟨e * k0 + e * (a1 * (xs / m)),?_⟩
  have e1:x = xs - m * (xs / m):=by omega
  have e2:a * (m * (xs / m)) = b * (e * (a1 * (xs / m))):=by
   rw [hmv]
   have:a * (b1 * e * (xs / (b1 * e))) = r0 * b1 * e * a1 * (xs / (b1 * e)):=by
    rw [ha1]; simp only [Int.mul_assoc,Int.mul_comm,Int.mul_left_comm]
   rw [this,hb1]
   simp only [Int.mul_assoc,Int.mul_comm,Int.mul_left_comm]
  have e3:b * (e * k0) = k0 * B:=by rw [hBb, ← Int.mul_assoc,Int.mul_comm]
  rw [← hd.out, ← hp.out,e1,Int.mul_sub,e2,hxs,Int.mul_add,e3]
  omega
 obtain ⟨k,hk⟩:=hdv
 refine ⟨hgr.symm,hg0,?_,by omega,?_,fun hy => ⟨?_,hx0,?_⟩⟩
 ·rw [hBe,Int.mul_tmod_right]
 ·rw [hk,Int.mul_tmod_right]
 ·have hyk:y = k:=by rw [← hy.out,hk,Int.mul_tdiv_cancel_left _ hb]
  rw [hyk,hgr, ← hk, ← hd.out, ← hp.out]; omega
 ·have h8:(x + 1) * r0 ≤ m * r0:=Int.mul_le_mul_of_nonneg_right (by omega) hn0
  have h9:m * r0 = b.natAbs:=by rw [hB.out,hBe,hmv,Int.mul_comm]
  rw [Int.add_mul] at h8
  rw [hgr]; omega
theorem sign_neT {z s:Int} (h:Hid (z.sign = s)) (hz:z ≠ 0):(s != 0) = true:=by
  rw [← h.out]; have:=sign_cases z; simp; omega
theorem sign_neF {z s:Int} (h:Hid (z.sign = s)) (hz:z = 0):(s != 0) = false:=by
  rw [← h.out,hz]; rfl
theorem wzbez_n {b b2:Bool} {p q:Option Addr} {n m c d:Nat} {x y:Int} {w:World} (hx:Zr w b p n c x 100000000000) (hy:Zr w b2 q m d y 100000000000) (h0:y ≠ 0) (hx0:x < 0) :
  Calls Tryz.prog 100 #[.agg #[.bool b,.slice p n c],.agg #[.bool b2,.slice q m d]] w (Ret (BZt x y) w):=by
 have hS:=Sep.init w
 refine went Tryz.func100 rfl (n:=88) rfl rfl ?_
 refine wseq (wreg (wl rfl (obox [.bool b,.slice p n c] hS rfl rfl (ev (v:=.agg #[.bool b,.slice p n c]) rfl rfl) rfl ?_)))
 clear hS; intro g1 w2 hS
 refine wl rfl (obox [.bool b2,.slice q m d] hS rfl rfl (ev (v:=.agg #[.bool b2,.slice q m d]) rfl rfl) rfl ?_)
 clear hS; intro g3 w4 hS
 refine wl rfl (oalloc [.bool false,.slice none 0 0] hS rfl rfl Tryz.zeroValue28 rfl ?_)
 clear hS; intro g5 w6 hS
 refine wl rfl (oalloc [.bool false,.slice none 0 0] hS rfl rfl Tryz.zeroValue28 rfl ?_)
 clear hS; intro g7 w8 hS
 refine wl rfl (oalloc [.bool false,.slice none 0 0] hS rfl rfl Tryz.zeroValue28 rfl ?_)
 clear hS; intro g9 w10 hS
 refine wnil (thenN (wseq (wseq (wreg (wl rfl (oload (vs:=[.bool b2,.slice q m d]) aggZ hS 3 rfl rfl (ev rfl rfl) rfl rfl rfl ?_))))))
 obtain ⟨s1,hs1⟩:∃ z:Int,Hid ((y:Int).sign = z):=⟨_,rfl⟩
 refine wl rfl (ocall rfl rfl Tryz.call64 rfl (wzsign ((hy.at hS).mono (by omega)) hs1) (args1 (ev rfl rfl)) ?_)
 rintro _ w11 ⟨_,_,rfl,⟨rfl,rfl⟩,hN⟩
 refine ⟨_,rfl,?_⟩
 replace hS:=hS.news hN; clear hN
 refine wl rfl (obin (u:=.int .i64 s1) (v:=.int .i64 0) (z:=.bool false) rfl rfl (ev rfl rfl) evc (bin_eql (sign_ne hs1 h0)) ?_)
 refine wnil (thenN ?_)
 refine wF (ev rfl rfl) ?_
 refine wskip (thenN (wseq ?_))
 obtain ⟨z2,hz2⟩:∃ z:Int,Hid ((Int.natAbs x:Int) = z):=⟨_,rfl⟩
 have hk2:Wd z2 100000000000:=Wd.nabs hx.wd hz2
 obtain ⟨z3,hz3⟩:∃ z:Int,Hid ((Int.natAbs y:Int) = z):=⟨_,rfl⟩
 have hk3:Wd z3 100000000000:=Wd.nabs hy.wd hz3
 refine wstage 6 [31,32,33,34,7,8] [[],[0],[],[2,0,1],[],[]] [[],[],[],[],[],[]] [] [] (fun i => ([fun _ => Is (.agg #[.bool b,.slice p n c]),fun _ => Zt z2,fun _ => Is (.agg #[.bool b2,.slice q m d]),fun _ => Zt z3,fun _ => Ptr [.bool false,.slice none 0 0] 28,fun _ => Ptr [.bool false,.slice none 0 0] 28]:List (List Value → Tell)).getD i (fun _ _ _ => False)) (heldNil) (fun d _ _ _ _ h => (by cases d <;> exact h)) (by kernel_rfl) (by kernel_rfl) (by kernel_rfl) hS ?_ ?_
 ·
  refine stepsCons rfl (fun Q f' w' ρ S ho hT hS hB => ?_) ?_
  ·exact .inl ⟨want_none rfl,oload (vs:=[.bool b,.slice p n c]) aggZ hS 4 rfl rfl (ev rfl (ho 2 rfl)) rfl rfl rfl ⟨_,_,rfl,isI,New.same _⟩⟩
  refine stepsCons rfl (fun Q f' w' ρ S ho hT hS hB => ?_) ?_
  ·obtain ⟨hv0,hr0⟩:=(hT 0 31 rfl rfl:(Is (.agg #[.bool b,.slice p n c])) _ _)
   obtain hS:=hS.flat1 hr0
   exact .inl ⟨want_none rfl,ocall rfl rfl Tryz.call111 rfl (wzabs ((hx.at hS).mono (by omega)) hz2) (args1 (ev rfl hv0)) callN⟩
  refine stepsCons rfl (fun Q f' w' ρ S ho hT hS hB => ?_) ?_
  ·exact .inl ⟨want_none rfl,oload (vs:=[.bool b2,.slice q m d]) aggZ hS 3 rfl rfl (ev rfl (ho 3 rfl)) rfl rfl rfl ⟨_,_,rfl,isI,New.same _⟩⟩
  refine stepsCons rfl (fun Q f' w' ρ S ho hT hS hB => ?_) ?_
  ·obtain ⟨hv2,hr2⟩:=(hT 2 33 rfl rfl:(Is (.agg #[.bool b2,.slice q m d])) _ _)
   obtain hS:=hS.flat1 hr2
   exact .inl ⟨want_none rfl,ocall rfl rfl Tryz.call111 rfl (wzabs ((hy.at hS).mono (by omega)) hz3) (args1 (ev rfl hv2)) callN⟩
  refine stepsCons rfl (fun Q f' w' ρ S ho hT hS hB => ?_) ?_
  ·exact .inl ⟨want_none rfl,oallocN [.bool false,.slice none 0 0] rfl rfl Tryz.zeroValue28 rfl ⟨_,_,rfl,ptrI,New.blk _ _ _⟩⟩
  refine stepsCons rfl (fun Q f' w' ρ S ho hT hS hB => ?_) ?_
  ·exact .inl ⟨want_none rfl,oallocN [.bool false,.slice none 0 0] rfl rfl Tryz.zeroValue28 rfl ⟨_,_,rfl,ptrI,New.blk _ _ _⟩⟩
  exact stepsNil
 ·
  intro vs ρ w14 f' hf hT hS
  obtain ⟨hv0,hr0⟩:=(hT 0 (by decide):(Is (.agg #[.bool b,.slice p n c])) _ _)
  obtain ⟨p2,n2,c2,hv1,hr1⟩:=(hT 1 (by decide):(Zt z2) _ _)
  obtain ⟨hv2,hr2⟩:=(hT 2 (by decide):(Is (.agg #[.bool b2,.slice q m d])) _ _)
  obtain ⟨p3,n3,c3,hv3,hr3⟩:=(hT 3 (by decide):(Zt z3) _ _)
  obtain ⟨g12,hv4,hr4⟩:=(hT 4 (by decide):(Ptr [.bool false,.slice none 0 0] 28) _ _)
  obtain ⟨g13,hv5,hr5⟩:=(hT 5 (by decide):(Ptr [.bool false,.slice none 0 0] 28) _ _)
  simp only [pool,if_true,hr0,hr1,hr2,hr3,hr4,hr5,List.nil_append,List.cons_append,List.append_nil] at hS
  simp only [layf,hv0,hv1,hv2,hv3,hv4,hv5] at hf
  subst hf; clear hT hv0 hv1 hv2 hv3 hv4 hv5 hr0 hr1 hr2 hr3 hr4 hr5
  refine wlate 6 rfl (by kernel_rfl) (ostore [.bool (ng z2),.slice p2 n2 c2] [.bool (ng z2),.slice p2 n2 c2] Tryz.sizeOf28 hS 1 rfl rfl (ev rfl rfl) (ev (v:=.agg #[.bool (ng z2),.slice p2 n2 c2]) rfl rfl) rfl rfl rfl rfl rfl rfl ?_)
  clear hS; intro w15 hS
  refine ⟨heldNil,?_⟩
  refine wlate 7 rfl (by kernel_rfl) (ostore [.bool (ng z3),.slice p3 n3 c3] [.bool (ng z3),.slice p3 n3 c3] Tryz.sizeOf28 hS 0 rfl rfl (ev rfl rfl) (ev (v:=.agg #[.bool (ng z3),.slice p3 n3 c3]) rfl rfl) rfl rfl rfl rfl rfl rfl ?_)
  clear hS; intro w16 hS
  refine ⟨heldNil,?_⟩
  refine wdone rfl ?_
  refine thenN (wseq (wreg ?_))
  have hk4:Wd 1 2:=Wd.i64 (by omega) (by omega)
  refine wl rfl (ocall rfl rfl Tryz.call59 rfl (wzof (z:=1) (by omega) (by omega)) (args1 evc) ?_)
  rintro _ w17 ⟨_,_,rfl,⟨p4,n4,c4,rfl,rfl⟩,hN⟩
  refine ⟨_,rfl,?_⟩
  replace hS:=hS.news hN; clear hN
  refine wl rfl (obuild (ps:=#[]) (v:=.agg #[.bool false,.slice none 0 0]) rfl rfl (parts0) (fun w => by simp [go_sem,Instr.build,Instr.fill]) ?_)
  refine wl rfl (oalloc [.bool false,.slice none 0 0] hS rfl rfl Tryz.zeroValue28 rfl ?_)
  clear hS; intro g18 w19 hS
  refine wl rfl (oalloc [.bool false,.slice none 0 0] hS rfl rfl Tryz.zeroValue28 rfl ?_)
  clear hS; intro g20 w21 hS
  refine wl rfl (ostore [.bool (ng 1),.slice p4 n4 c4] [.bool (ng 1),.slice p4 n4 c4] Tryz.sizeOf28 hS 1 rfl rfl (ev rfl rfl) (ev (v:=.agg #[.bool (ng 1),.slice p4 n4 c4]) rfl rfl) rfl rfl rfl rfl rfl rfl ?_)
  clear hS; intro w22 hS
  refine wl rfl (ostore [.bool false,.slice none 0 0] [.bool false,.slice none 0 0] Tryz.sizeOf28 hS 0 rfl rfl (ev rfl rfl) (ev (v:=.agg #[.bool false,.slice none 0 0]) rfl rfl) rfl rfl rfl rfl rfl rfl ?_)
  clear hS; intro w23 hS
  refine wnil (thenN (wseq (wblock ?_)))
  replace hS:=hS.nilRow
  refine wloop (σ := Nat) (fun k a w' => ∃ (fb:Nat → Value) (ra:Int) (rb:Int) (xa:Int) (xb:Int) (pra:Option Addr) (nra:Nat) (cra:Nat) (prb:Option Addr) (nrb:Nat) (crb:Nat) (pxa:Option Addr) (nxa:Nat) (cxa:Nat) (pxb:Option Addr) (nxb:Nat) (cxb:Nat),a = act 88 (sets fb [(2,.pointer (some ⟨g1,0,none⟩)),(3,.pointer (some ⟨g3,0,none⟩)),(4,.pointer (some ⟨g5,0,none⟩)),(5,.pointer (some ⟨g7,0,none⟩)),(6,.pointer (some ⟨g9,0,none⟩)),(7,.pointer (some ⟨g12,0,none⟩)),(8,.pointer (some ⟨g13,0,none⟩)),(9,.pointer (some ⟨g18,0,none⟩)),(10,.pointer (some ⟨g20,0,none⟩))]) ∧ Sep w [.row pxb nxb cxb (lim xb.natAbs),.blk g20 [.bool (ng xb),.slice pxb nxb cxb] 28,.blk g18 [.bool (ng xa),.slice pxa nxa cxa] 28,.row pxa nxa cxa (lim xa.natAbs),.blk g13 [.bool (ng rb),.slice prb nrb crb] 28,.blk g12 [.bool (ng ra),.slice pra nra cra] 28,.row prb nrb crb (lim rb.natAbs),.row pra nra cra (lim ra.natAbs),.blk g9 [.bool false,.slice none 0 0] 28,.blk g7 [.bool false,.slice none 0 0] 28,.blk g5 [.bool false,.slice none 0 0] 28,.blk g3 [.bool b2,.slice q m d] 28,.blk g1 [.bool b,.slice p n c] 28] w' ∧ (Steps3 z2 z3 ra rb xa xb) ∧ (rb.natAbs = k) ∧ (Wd ra 100000000000) ∧ (Wd rb 100000000000) ∧ (Wd xa 100000000000) ∧ (Wd xb 100000000000)) (fun k => k) (z3.natAbs) ⟨_,z2,z3,1,0,_,_,_,_,_,_,_,_,_,_,_,_,act_sets (l:=[(2,.pointer (some ⟨g1,0,none⟩)),(3,.pointer (some ⟨g3,0,none⟩)),(4,.pointer (some ⟨g5,0,none⟩)),(5,.pointer (some ⟨g7,0,none⟩)),(6,.pointer (some ⟨g9,0,none⟩)),(7,.pointer (some ⟨g12,0,none⟩)),(8,.pointer (some ⟨g13,0,none⟩)),(9,.pointer (some ⟨g18,0,none⟩)),(10,.pointer (some ⟨g20,0,none⟩))]) ⟨rfl,rfl,rfl,rfl,rfl,rfl,rfl,rfl,rfl,trivial⟩,hS,Steps3.start (by have:=hz2.out; omega) (by have:=hz3.out; omega),rfl,(hk2).mono (by omega),(hk3).mono (by omega),(hk4).mono (by omega),((Wd.i64 (z:=0) (by omega) (by omega))).mono (by omega)⟩ ?_
  clear hS; rintro k _ w24 ⟨fb,ra,rb,xa,xb,pra,nra,cra,prb,nrb,crb,pxa,nxa,cxa,pxb,nxb,cxb,rfl,hS,hst,hmu,hkra,hkrb,hkxa,hkxb⟩
  refine wseq (wseq (wreg (wl rfl (oload (vs:=[.bool (ng rb),.slice prb nrb crb]) aggZ hS 4 rfl rfl (ev rfl rfl) rfl rfl rfl ?_))))
  obtain ⟨s5,hs5⟩:∃ z:Int,Hid ((rb:Int).sign = z):=⟨_,rfl⟩
  refine wl rfl (ocall rfl rfl Tryz.call64 rfl (wzsign (((hS.sl 6 rfl).zr hkrb).mono (by omega)) hs5) (args1 (ev rfl rfl)) ?_)
  rintro _ w25 ⟨_,_,rfl,⟨rfl,rfl⟩,hN⟩
  refine ⟨_,rfl,?_⟩
  replace hS:=hS.news hN; clear hN
  by_cases hrb:rb = 0
  ·
   refine wl rfl (obin (u:=.int .i64 s5) (v:=.int .i64 0) (z:=.bool false) rfl rfl (ev rfl rfl) evc (bin_neq (sign_neF hs5 hrb)) ?_)
   refine wnil (thenN ?_)
   refine wF (ev rfl rfl) ?_
   refine wexit ?_
   refine thenE ?_
   refine thenE ?_
   refine blkE ?_
   refine thenN (wseq (wreg (wl rfl (oload (vs:=[.bool (ng ra),.slice pra nra cra]) aggZ hS 5 rfl rfl (ev rfl rfl) rfl rfl rfl ?_))))
   refine wl rfl (oalloc [.bool false,.slice none 0 0] hS rfl rfl Tryz.zeroValue28 rfl ?_)
   clear hS; intro g26 w27 hS
   refine wl rfl (ostore [.bool (ng ra),.slice pra nra cra] [.bool (ng ra),.slice pra nra cra] Tryz.sizeOf28 hS 0 rfl rfl (ev rfl rfl) (ev (v:=.agg #[.bool (ng ra),.slice pra nra cra]) rfl rfl) rfl rfl rfl rfl rfl rfl ?_)
   clear hS; intro w28 hS
   refine wnil (thenN (wseq (wseq (wreg (wl rfl (oload (vs:=[.bool b,.slice p n c]) aggZ hS 13 rfl rfl (ev rfl rfl) rfl rfl rfl ?_))))))
   obtain ⟨s6,hs6⟩:∃ z:Int,Hid ((x:Int).sign = z):=⟨_,rfl⟩
   refine wl rfl (ocall rfl rfl Tryz.call64 rfl (wzsign ((hx.at hS).mono (by omega)) hs6) (args1 (ev rfl rfl)) ?_)
   rintro _ w29 ⟨_,_,rfl,⟨rfl,rfl⟩,hN⟩
   refine ⟨_,rfl,?_⟩
   replace hS:=hS.news hN; clear hN
   have hst0:Steps3 z2 z3 ra 0 xa xb:=hrb ▸ hst
   obtain ⟨hg,hg0⟩:=bez_g (by have:=hz3.out; omega) hst0
   refine wl rfl (obin (u:=.int .i64 s6) (v:=.int .i64 0) (z:=.bool true) rfl rfl (ev rfl rfl) evc (bin_lss (ltT (sgn_neg hs6 hx0))) ?_)
   refine wnil (thenN ?_)
   refine wT (ev rfl rfl) ?_
   refine wreg (wl rfl (oload (vs:=[.bool (ng xa),.slice pxa nxa cxa]) aggZ hS 3 rfl rfl (ev rfl rfl) rfl rfl rfl ?_))
   obtain ⟨z7,hz7⟩:∃ z:Int,Hid (-xa = z):=⟨_,rfl⟩
   have hk7:Wd z7 100000000000:=Wd.neg hkxa hz7
   refine wl rfl (ocall rfl rfl Tryz.call65 rfl (wzneg (((hS.sl 4 rfl).zr hkxa).mono (by omega)) hz7) (args1 (ev rfl rfl)) ?_)
   rintro _ w30 ⟨_,_,rfl,⟨p7,n7,c7,rfl,rfl⟩,hN⟩
   refine ⟨_,rfl,?_⟩
   replace hS:=hS.news hN; clear hN
   refine wl rfl (ostore [.bool (ng z7),.slice p7 n7 c7] [.bool (ng z7),.slice p7 n7 c7] Tryz.sizeOf28 hS 4 rfl rfl (ev rfl rfl) (ev (v:=.agg #[.bool (ng z7),.slice p7 n7 c7]) rfl rfl) rfl rfl rfl rfl rfl rfl ?_)
   clear hS; intro w31 hS
   refine wnil (thenN (wseq ?_))
   obtain ⟨z8,hz8⟩:∃ z:Int,Hid ((Int.natAbs y:Int) = z):=⟨_,rfl⟩
   have hk8:Wd z8 100000000000:=Wd.nabs hy.wd hz8
   have hxs:x * z7 = xa * z2:=by rw [← hz7.out, ← hz2.out,show (x.natAbs:Int) = -x by omega,Int.mul_neg,Int.mul_neg,Int.mul_comm]
   have hdm:=(bez_fin (p:=x * (z7 % z3.tdiv ra)) (d:=ra - x * (z7 % z3.tdiv ra)) (y:=0) h0 hz2 hz3 hst0 hxs rfl rfl rfl rfl)
   obtain ⟨z9,hz9⟩:∃ z:Int,Hid (Int.tdiv z8 ra = z):=⟨_,rfl⟩
   have hk9:Wd z9 100000000000:=Wd.tdiv hk8 hz9
   refine wstage 8 [62,63,64,65,61,66,67,15] [[],[0],[],[1,2,0],[3,0,1,2],[3,4,0,1,2],[3,4,0,1,2],[]] [[],[],[],[],[3],[3],[],[]] [6] [] (fun i => ([fun _ => Is (.agg #[.bool b2,.slice q m d]),fun _ => Zt z8,fun _ => Is (.agg #[.bool (ng ra),.slice pra nra cra]),fun _ => ZEt z9 0,fun us => Is (.tuple #[.agg #[.bool (ng z9),(vat (us.getD 0 undef) [0,1])],.int .i64 0]),fun us => Is (.agg #[.bool (ng z9),(vat (us.getD 0 undef) [0,1])]),fun _ => Is (.int .i64 0),fun _ => Ptr [.bool false,.slice none 0 0] 28]:List (List Value → Tell)).getD i (fun _ _ _ => False)) (heldNil) (fun d _ _ _ _ h => (by cases d <;> exact h)) (by kernel_rfl) (by kernel_rfl) (by kernel_rfl) hS ?_ ?_
   ·
    refine stepsCons rfl (fun Q f' w' ρ S ho hT hS hB => ?_) ?_
    ·exact .inl ⟨want_none rfl,oload (vs:=[.bool b2,.slice q m d]) aggZ hS 13 rfl rfl (ev rfl (ho 3 rfl)) rfl rfl rfl ⟨_,_,rfl,isI,New.same _⟩⟩
    refine stepsCons rfl (fun Q f' w' ρ S ho hT hS hB => ?_) ?_
    ·obtain ⟨hv0,hr0⟩:=(hT 0 62 rfl rfl:(Is (.agg #[.bool b2,.slice q m d])) _ _)
     obtain hS:=hS.flat1 hr0
     exact .inl ⟨want_none rfl,ocall rfl rfl Tryz.call111 rfl (wzabs ((hy.at hS).mono (by omega)) hz8) (args1 (ev rfl hv0)) callN⟩
    refine stepsCons rfl (fun Q f' w' ρ S ho hT hS hB => ?_) ?_
    ·exact .inl ⟨want_none rfl,oload (vs:=[.bool (ng ra),.slice pra nra cra]) aggZ hS 1 rfl rfl (ev rfl (ho 14 rfl)) rfl rfl rfl ⟨_,_,rfl,isI,New.same _⟩⟩
    refine stepsCons rfl (fun Q f' w' ρ S ho hT hS hB => ?_) ?_
    ·obtain ⟨p8,n8,c8,hv1,hr1⟩:=(hT 1 63 rfl rfl:(Zt z8) _ _)
     obtain ⟨hv2,hr2⟩:=(hT 2 64 rfl rfl:(Is (.agg #[.bool (ng ra),.slice pra nra cra])) _ _)
     obtain hS:=hS.flat2 hr1 hr2
     exact .inl ⟨want_none rfl,ocall rfl rfl Tryz.call130 rfl (wzexact (((hS.sl 15 rfl).zr hk8).mono (by omega)) (((hS.sl 9 rfl).zr hkra).mono (by omega)) (hg0) (by rw [← hz8.out,hz3.out]; exact hdm.2.2.1) hz9) (args2 (ev rfl hv1) (ev rfl hv2)) callN⟩
    refine stepsCons rfl (fun Q f' w' ρ S ho hT hS hB => ?_) ?_
    ·obtain ⟨p9,n9,c9,hv3,hr3⟩:=(hT 3 65 rfl rfl:(ZEt z9 0) _ _)
     obtain hS:=hS.flat1 hr3
     have hQ:(.tuple #[.agg #[.bool (ng z9),.slice p9 n9 c9],.int .i64 0]:Value) = (fun (us:List Value) => (.tuple #[.agg #[.bool (ng z9),(vat (us.getD 0 undef) [0,1])],.int .i64 0]:Value)) [f' 65]:=by show _ = (.tuple #[.agg #[.bool (ng z9),(vat (f' 65) [0,1])],.int .i64 0]:Value); rw [hv3]; rfl
     exact .inl ⟨want_none rfl,omove (v:=.tuple #[.agg #[.bool (ng z9),.slice p9 n9 c9],.int .i64 0]) rfl rfl (ev rfl hv3) ⟨_,_,rfl,⟨hQ,rfl⟩,New.same _⟩⟩
    refine stepsCons rfl (fun Q f' w' ρ S ho hT hS hB => ?_) ?_
    ·obtain ⟨p9,n9,c9,hv3,hr3⟩:=(hT 3 65 rfl rfl:(ZEt z9 0) _ _)
     obtain ⟨hv4,hr4⟩:=(hT 4 61 rfl rfl:(fun (us:List Value) => Is (.tuple #[.agg #[.bool (ng z9),(vat (us.getD 0 undef) [0,1])],.int .i64 0])) [f' 65] _ _)
     replace hv4:f' 61 = .tuple #[.agg #[.bool (ng z9),.slice p9 n9 c9],.int .i64 0]:=hv4.trans (by show (.tuple #[.agg #[.bool (ng z9),(vat (f' 65) [0,1])],.int .i64 0]:Value) = _; rw [hv3]; rfl)
     obtain hS:=hS.flat2 hr3 hr4
     have hQ:(.agg #[.bool (ng z9),.slice p9 n9 c9]:Value) = (fun (us:List Value) => (.agg #[.bool (ng z9),(vat (us.getD 0 undef) [0,1])]:Value)) [f' 65]:=by show _ = (.agg #[.bool (ng z9),(vat (f' 65) [0,1])]:Value); rw [hv3]; rfl
     exact .inl ⟨want_none rfl,oextract (vs:=[.agg #[.bool (ng z9),.slice p9 n9 c9],.int .i64 0]) (v:=.agg #[.bool (ng z9),.slice p9 n9 c9]) rfl rfl (ev rfl hv4) rfl ⟨_,_,rfl,⟨hQ,rfl⟩,New.same _⟩⟩
    refine stepsPure rfl ?_ ?_
    ·intro f' ρ ho hT
     obtain ⟨p9,n9,c9,hv3,hr3⟩:=(hT 3 65 rfl rfl:(ZEt z9 0) _ _)
     obtain ⟨hv4,hr4⟩:=(hT 4 61 rfl rfl:(fun (us:List Value) => Is (.tuple #[.agg #[.bool (ng z9),(vat (us.getD 0 undef) [0,1])],.int .i64 0])) [f' 65] _ _)
     replace hv4:f' 61 = .tuple #[.agg #[.bool (ng z9),.slice p9 n9 c9],.int .i64 0]:=hv4.trans (by show (.tuple #[.agg #[.bool (ng z9),(vat (f' 65) [0,1])],.int .i64 0]:Value) = _; rw [hv3]; rfl)
     exact ⟨_,.inl ⟨want_none rfl,fun w hw => yextract (vs:=[.agg #[.bool (ng z9),.slice p9 n9 c9],.int .i64 0]) (v:=.int .i64 0) rfl (ev (v:=.tuple #[.agg #[.bool (ng z9),.slice p9 n9 c9],.int .i64 0]) rfl hv4) rfl w⟩,isI⟩
    refine stepsCons rfl (fun Q f' w' ρ S ho hT hS hB => ?_) ?_
    ·exact .inl ⟨want_none rfl,oallocN [.bool false,.slice none 0 0] rfl rfl Tryz.zeroValue28 rfl ⟨_,_,rfl,ptrI,New.blk _ _ _⟩⟩
    exact stepsNil
   ·
    intro vs ρ w33 f' hf hT hS
    obtain ⟨hv0,hr0⟩:=(hT 0 (by decide):(Is (.agg #[.bool b2,.slice q m d])) _ _)
    obtain ⟨p8,n8,c8,hv1,hr1⟩:=(hT 1 (by decide):(Zt z8) _ _)
    obtain ⟨hv2,hr2⟩:=(hT 2 (by decide):(Is (.agg #[.bool (ng ra),.slice pra nra cra])) _ _)
    obtain ⟨p9,n9,c9,hv3,hr3⟩:=(hT 3 (by decide):(ZEt z9 0) _ _)
    obtain ⟨hv4,hr4⟩:=(hT 4 (by decide):(fun (us:List Value) => Is (.tuple #[.agg #[.bool (ng z9),(vat (us.getD 0 undef) [0,1])],.int .i64 0])) [vs 3] _ _)
    replace hv4:vs 4 = .tuple #[.agg #[.bool (ng z9),.slice p9 n9 c9],.int .i64 0]:=hv4.trans (by show (.tuple #[.agg #[.bool (ng z9),(vat (vs 3) [0,1])],.int .i64 0]:Value) = _; rw [hv3]; rfl)
    obtain ⟨hv5,hr5⟩:=(hT 5 (by decide):(fun (us:List Value) => Is (.agg #[.bool (ng z9),(vat (us.getD 0 undef) [0,1])])) [vs 3] _ _)
    replace hv5:vs 5 = .agg #[.bool (ng z9),.slice p9 n9 c9]:=hv5.trans (by show (.agg #[.bool (ng z9),(vat (vs 3) [0,1])]:Value) = _; rw [hv3]; rfl)
    obtain ⟨hv6,hr6⟩:=(hT 6 (by decide):(Is (.int .i64 0)) _ _)
    obtain ⟨g32,hv7,hr7⟩:=(hT 7 (by decide):(Ptr [.bool false,.slice none 0 0] 28) _ _)
    simp only [pool,if_true,hr0,hr1,hr2,hr3,hr4,hr5,hr6,hr7,List.nil_append,List.cons_append,List.append_nil] at hS
    simp only [layf,hv0,hv1,hv2,hv3,hv4,hv5,hv6,hv7] at hf
    subst hf; clear hT hv0 hv1 hv2 hv3 hv4 hv5 hv6 hv7 hr0 hr1 hr2 hr3 hr4 hr5 hr6 hr7
    refine wlate 8 rfl (by kernel_rfl) (ostore [.bool (ng z9),.slice p9 n9 c9] [.bool (ng z9),.slice p9 n9 c9] Tryz.sizeOf28 hS 0 rfl rfl (ev rfl rfl) (ev (v:=.agg #[.bool (ng z9),.slice p9 n9 c9]) rfl rfl) rfl rfl rfl rfl rfl rfl ?_)
    clear hS; intro w34 hS
    refine ⟨heldNil,?_⟩
    refine wlate 9 rfl (by kernel_rfl) (oassign (v:=.int .i64 0) rfl rfl (ev rfl rfl) ?_)
    refine ⟨heldNil,?_⟩
    refine wdone rfl ?_
    refine thenN (wseq (wreg (wl rfl (oload (vs:=[.bool (ng z7),.slice p7 n7 c7]) aggZ hS 7 rfl rfl (ev rfl rfl) rfl rfl rfl ?_))))
    refine wl rfl (oload (vs:=[.bool (ng z9),.slice p9 n9 c9]) aggZ hS 0 rfl rfl (ev rfl rfl) rfl rfl rfl ?_)
    have hBB:z8 = z3:=by rw [← hz8.out,hz3.out]
    have hm0:z9 ≠ 0:=by rw [← hz9.out,hBB]; exact hdm.2.2.2.1
    obtain ⟨z10,hz10⟩:∃ z:Int,Hid (z7 / z9 = z):=⟨_,rfl⟩
    have hk10:Wd z10 100000000000:=Wd.ediv hk7 hz10
    obtain ⟨z11,hz11⟩:∃ z:Int,Hid (z7 % z9 = z):=⟨_,rfl⟩
    have hk11:Wd z11 100000000000:=Wd.emod hk9 (hm0) hz11
    refine wl rfl (ocall rfl rfl Tryz.call61 rfl (wzeuclid (((hS.sl 3 rfl).zr hk7).mono (by omega)) (((hS.sl 1 rfl).zr hk9).mono (by omega)) (hm0) hz10 hz11) (args2 (ev rfl rfl) (ev rfl rfl)) ?_)
    rintro _ w35 ⟨_,_,rfl,⟨p10,n10,c10,p11,n11,c11,rfl,rfl⟩,hN⟩
    refine ⟨_,rfl,?_⟩
    replace hS:=hS.news hN; clear hN
    refine wl rfl (omove (v:=.tuple #[.agg #[.bool (ng z10),.slice p10 n10 c10],.agg #[.bool (ng z11),.slice p11 n11 c11],.int .i64 0]) rfl rfl (ev rfl rfl) ?_)
    refine wl rfl (oextract (vs:=[.agg #[.bool (ng z10),.slice p10 n10 c10],.agg #[.bool (ng z11),.slice p11 n11 c11],.int .i64 0]) (v:=.agg #[.bool (ng z10),.slice p10 n10 c10]) rfl rfl (ev rfl rfl) rfl ?_)
    refine wl rfl (oextract (vs:=[.agg #[.bool (ng z10),.slice p10 n10 c10],.agg #[.bool (ng z11),.slice p11 n11 c11],.int .i64 0]) (v:=.agg #[.bool (ng z11),.slice p11 n11 c11]) rfl rfl (ev rfl rfl) rfl ?_)
    refine wl rfl (oextract (vs:=[.agg #[.bool (ng z10),.slice p10 n10 c10],.agg #[.bool (ng z11),.slice p11 n11 c11],.int .i64 0]) (v:=.int .i64 0) rfl rfl (ev rfl rfl) rfl ?_)
    refine wl rfl (oalloc [.bool false,.slice none 0 0] hS rfl rfl Tryz.zeroValue28 rfl ?_)
    clear hS; intro g36 w37 hS
    refine wl rfl (oalloc [.bool false,.slice none 0 0] hS rfl rfl Tryz.zeroValue28 rfl ?_)
    clear hS; intro g38 w39 hS
    refine wl rfl (ostore [.bool (ng z10),.slice p10 n10 c10] [.bool (ng z10),.slice p10 n10 c10] Tryz.sizeOf28 hS 1 rfl rfl (ev rfl rfl) (ev (v:=.agg #[.bool (ng z10),.slice p10 n10 c10]) rfl rfl) rfl rfl rfl rfl rfl rfl ?_)
    clear hS; intro w40 hS
    refine wl rfl (ostore [.bool (ng z11),.slice p11 n11 c11] [.bool (ng z11),.slice p11 n11 c11] Tryz.sizeOf28 hS 0 rfl rfl (ev rfl rfl) (ev (v:=.agg #[.bool (ng z11),.slice p11 n11 c11]) rfl rfl) rfl rfl rfl rfl rfl rfl ?_)
    clear hS; intro w41 hS
    refine wl rfl (oassign (v:=.int .i64 0) rfl rfl (ev rfl rfl) ?_)
    refine wnil (thenN (wseq ?_))
    obtain ⟨z12,hz12⟩:∃ z:Int,Hid (x * z11 = z):=⟨_,rfl⟩
    have hk12:Wd z12 200000000000:=Wd.mul hx.wd hk11 hz12 (by omega)
    obtain ⟨z13,hz13⟩:∃ z:Int,Hid (ra - z12 = z):=⟨_,rfl⟩
    have hk13:Wd z13 200000000001:=Wd.sub hkra hk12 hz13 (by omega)
    obtain ⟨z14,hz14⟩:∃ z:Int,Hid (Int.tdiv z13 y = z):=⟨_,rfl⟩
    have hk14:Wd z14 200000000001:=Wd.tdiv hk13 hz14
    refine wstage 11 [76,77,78,79,80,81,82,75,83,84,20] [[],[],[],[1,2],[0,3,1,2],[],[4,5,0,1,2,3],[6,0,1,2,3,4,5],[6,7,0,1,2,3,4,5],[6,7,0,1,2,3,4,5],[]] [[],[],[],[],[],[],[],[6],[6],[],[]] [9] [] (fun i => ([fun _ => Is (.agg #[.bool (ng ra),.slice pra nra cra]),fun _ => Is (.agg #[.bool b,.slice p n c]),fun _ => Is (.agg #[.bool (ng z11),.slice p11 n11 c11]),fun _ => Zt z12,fun _ => Zt z13,fun _ => Is (.agg #[.bool b2,.slice q m d]),fun _ => ZEt z14 0,fun us => Is (.tuple #[.agg #[.bool (ng z14),(vat (us.getD 0 undef) [0,1])],.int .i64 0]),fun us => Is (.agg #[.bool (ng z14),(vat (us.getD 0 undef) [0,1])]),fun _ => Is (.int .i64 0),fun _ => Ptr [.bool false,.slice none 0 0] 28]:List (List Value → Tell)).getD i (fun _ _ _ => False)) (heldNil) (fun d _ _ _ _ h => (by cases d <;> exact h)) (by kernel_rfl) (by kernel_rfl) (by kernel_rfl) hS ?_ ?_
    ·
     refine stepsCons rfl (fun Q f' w' ρ S ho hT hS hB => ?_) ?_
     ·exact .inl ⟨want_none rfl,oload (vs:=[.bool (ng ra),.slice pra nra cra]) aggZ hS 8 rfl rfl (ev rfl (ho 14 rfl)) rfl rfl rfl ⟨_,_,rfl,isI,New.same _⟩⟩
     refine stepsCons rfl (fun Q f' w' ρ S ho hT hS hB => ?_) ?_
     ·exact .inl ⟨want_none rfl,oload (vs:=[.bool b,.slice p n c]) aggZ hS 21 rfl rfl (ev rfl (ho 2 rfl)) rfl rfl rfl ⟨_,_,rfl,isI,New.same _⟩⟩
     refine stepsCons rfl (fun Q f' w' ρ S ho hT hS hB => ?_) ?_
     ·exact .inl ⟨want_none rfl,oload (vs:=[.bool (ng z11),.slice p11 n11 c11]) aggZ hS 0 rfl rfl (ev rfl (ho 18 rfl)) rfl rfl rfl ⟨_,_,rfl,isI,New.same _⟩⟩
     refine stepsCons rfl (fun Q f' w' ρ S ho hT hS hB => ?_) ?_
     ·obtain ⟨hv1,hr1⟩:=(hT 1 77 rfl rfl:(Is (.agg #[.bool b,.slice p n c])) _ _)
      obtain ⟨hv2,hr2⟩:=(hT 2 78 rfl rfl:(Is (.agg #[.bool (ng z11),.slice p11 n11 c11])) _ _)
      obtain hS:=hS.flat2 hr1 hr2
      exact .inl ⟨want_none rfl,ocall rfl rfl Tryz.call63 rfl (wzmul ((hx.at hS).mono (by omega)) (((hS.sl 3 rfl).zr hk11).mono (by omega)) hz12) (args2 (ev rfl hv1) (ev rfl hv2)) callN⟩
     refine stepsCons rfl (fun Q f' w' ρ S ho hT hS hB => ?_) ?_
     ·obtain ⟨hv0,hr0⟩:=(hT 0 76 rfl rfl:(Is (.agg #[.bool (ng ra),.slice pra nra cra])) _ _)
      obtain ⟨p12,n12,c12,hv3,hr3⟩:=(hT 3 79 rfl rfl:(Zt z12) _ _)
      obtain hS:=hS.flat2 hr0 hr3
      exact .inl ⟨want_none rfl,ocall rfl rfl Tryz.call62 rfl (wzsub (((hS.sl 16 rfl).zr hkra).mono (by omega)) (((hS.sl 22 rfl).zr hk12).mono (by omega)) hz13) (args2 (ev rfl hv0) (ev rfl hv3)) callN⟩
     refine stepsCons rfl (fun Q f' w' ρ S ho hT hS hB => ?_) ?_
     ·exact .inl ⟨want_none rfl,oload (vs:=[.bool b2,.slice q m d]) aggZ hS 20 rfl rfl (ev rfl (ho 3 rfl)) rfl rfl rfl ⟨_,_,rfl,isI,New.same _⟩⟩
     refine stepsCons rfl (fun Q f' w' ρ S ho hT hS hB => ?_) ?_
     ·obtain ⟨p13,n13,c13,hv4,hr4⟩:=(hT 4 80 rfl rfl:(Zt z13) _ _)
      obtain ⟨hv5,hr5⟩:=(hT 5 81 rfl rfl:(Is (.agg #[.bool b2,.slice q m d])) _ _)
      obtain hS:=hS.flat2 hr4 hr5
      exact .inl ⟨want_none rfl,ocall rfl rfl Tryz.call130 rfl (wzexact (((hS.sl 22 rfl).zr hk13).mono (by omega)) ((hy.at hS).mono (by omega)) (h0) ((bez_fin (y:=0) h0 hz2 hz3 hst0 hxs (by show _ = _; rw [← hz3.out,hz8.out]; exact hz9.out) hz11 hz12 hz13).2.2.2.2.1) hz14) (args2 (ev rfl hv4) (ev rfl hv5)) callN⟩
     refine stepsCons rfl (fun Q f' w' ρ S ho hT hS hB => ?_) ?_
     ·obtain ⟨p14,n14,c14,hv6,hr6⟩:=(hT 6 82 rfl rfl:(ZEt z14 0) _ _)
      obtain hS:=hS.flat1 hr6
      have hQ:(.tuple #[.agg #[.bool (ng z14),.slice p14 n14 c14],.int .i64 0]:Value) = (fun (us:List Value) => (.tuple #[.agg #[.bool (ng z14),(vat (us.getD 0 undef) [0,1])],.int .i64 0]:Value)) [f' 82]:=by show _ = (.tuple #[.agg #[.bool (ng z14),(vat (f' 82) [0,1])],.int .i64 0]:Value); rw [hv6]; rfl
      exact .inl ⟨want_none rfl,omove (v:=.tuple #[.agg #[.bool (ng z14),.slice p14 n14 c14],.int .i64 0]) rfl rfl (ev rfl hv6) ⟨_,_,rfl,⟨hQ,rfl⟩,New.same _⟩⟩
     refine stepsCons rfl (fun Q f' w' ρ S ho hT hS hB => ?_) ?_
     ·obtain ⟨p14,n14,c14,hv6,hr6⟩:=(hT 6 82 rfl rfl:(ZEt z14 0) _ _)
      obtain ⟨hv7,hr7⟩:=(hT 7 75 rfl rfl:(fun (us:List Value) => Is (.tuple #[.agg #[.bool (ng z14),(vat (us.getD 0 undef) [0,1])],.int .i64 0])) [f' 82] _ _)
      replace hv7:f' 75 = .tuple #[.agg #[.bool (ng z14),.slice p14 n14 c14],.int .i64 0]:=hv7.trans (by show (.tuple #[.agg #[.bool (ng z14),(vat (f' 82) [0,1])],.int .i64 0]:Value) = _; rw [hv6]; rfl)
      obtain hS:=hS.flat2 hr6 hr7
      have hQ:(.agg #[.bool (ng z14),.slice p14 n14 c14]:Value) = (fun (us:List Value) => (.agg #[.bool (ng z14),(vat (us.getD 0 undef) [0,1])]:Value)) [f' 82]:=by show _ = (.agg #[.bool (ng z14),(vat (f' 82) [0,1])]:Value); rw [hv6]; rfl
      exact .inl ⟨want_none rfl,oextract (vs:=[.agg #[.bool (ng z14),.slice p14 n14 c14],.int .i64 0]) (v:=.agg #[.bool (ng z14),.slice p14 n14 c14]) rfl rfl (ev rfl hv7) rfl ⟨_,_,rfl,⟨hQ,rfl⟩,New.same _⟩⟩
     refine stepsPure rfl ?_ ?_
     ·intro f' ρ ho hT
      obtain ⟨p14,n14,c14,hv6,hr6⟩:=(hT 6 82 rfl rfl:(ZEt z14 0) _ _)
      obtain ⟨hv7,hr7⟩:=(hT 7 75 rfl rfl:(fun (us:List Value) => Is (.tuple #[.agg #[.bool (ng z14),(vat (us.getD 0 undef) [0,1])],.int .i64 0])) [f' 82] _ _)
      replace hv7:f' 75 = .tuple #[.agg #[.bool (ng z14),.slice p14 n14 c14],.int .i64 0]:=hv7.trans (by show (.tuple #[.agg #[.bool (ng z14),(vat (f' 82) [0,1])],.int .i64 0]:Value) = _; rw [hv6]; rfl)
      exact ⟨_,.inl ⟨want_none rfl,fun w hw => yextract (vs:=[.agg #[.bool (ng z14),.slice p14 n14 c14],.int .i64 0]) (v:=.int .i64 0) rfl (ev (v:=.tuple #[.agg #[.bool (ng z14),.slice p14 n14 c14],.int .i64 0]) rfl hv7) rfl w⟩,isI⟩
     refine stepsCons rfl (fun Q f' w' ρ S ho hT hS hB => ?_) ?_
     ·exact .inl ⟨want_none rfl,oallocN [.bool false,.slice none 0 0] rfl rfl Tryz.zeroValue28 rfl ⟨_,_,rfl,ptrI,New.blk _ _ _⟩⟩
     exact stepsNil
    ·
     intro vs ρ w43 f' hf hT hS
     obtain ⟨hv0,hr0⟩:=(hT 0 (by decide):(Is (.agg #[.bool (ng ra),.slice pra nra cra])) _ _)
     obtain ⟨hv1,hr1⟩:=(hT 1 (by decide):(Is (.agg #[.bool b,.slice p n c])) _ _)
     obtain ⟨hv2,hr2⟩:=(hT 2 (by decide):(Is (.agg #[.bool (ng z11),.slice p11 n11 c11])) _ _)
     obtain ⟨p12,n12,c12,hv3,hr3⟩:=(hT 3 (by decide):(Zt z12) _ _)
     obtain ⟨p13,n13,c13,hv4,hr4⟩:=(hT 4 (by decide):(Zt z13) _ _)
     obtain ⟨hv5,hr5⟩:=(hT 5 (by decide):(Is (.agg #[.bool b2,.slice q m d])) _ _)
     obtain ⟨p14,n14,c14,hv6,hr6⟩:=(hT 6 (by decide):(ZEt z14 0) _ _)
     obtain ⟨hv7,hr7⟩:=(hT 7 (by decide):(fun (us:List Value) => Is (.tuple #[.agg #[.bool (ng z14),(vat (us.getD 0 undef) [0,1])],.int .i64 0])) [vs 6] _ _)
     replace hv7:vs 7 = .tuple #[.agg #[.bool (ng z14),.slice p14 n14 c14],.int .i64 0]:=hv7.trans (by show (.tuple #[.agg #[.bool (ng z14),(vat (vs 6) [0,1])],.int .i64 0]:Value) = _; rw [hv6]; rfl)
     obtain ⟨hv8,hr8⟩:=(hT 8 (by decide):(fun (us:List Value) => Is (.agg #[.bool (ng z14),(vat (us.getD 0 undef) [0,1])])) [vs 6] _ _)
     replace hv8:vs 8 = .agg #[.bool (ng z14),.slice p14 n14 c14]:=hv8.trans (by show (.agg #[.bool (ng z14),(vat (vs 6) [0,1])]:Value) = _; rw [hv6]; rfl)
     obtain ⟨hv9,hr9⟩:=(hT 9 (by decide):(Is (.int .i64 0)) _ _)
     obtain ⟨g42,hv10,hr10⟩:=(hT 10 (by decide):(Ptr [.bool false,.slice none 0 0] 28) _ _)
     simp only [pool,if_true,hr0,hr1,hr2,hr3,hr4,hr5,hr6,hr7,hr8,hr9,hr10,List.nil_append,List.cons_append,List.append_nil] at hS
     simp only [layf,hv0,hv1,hv2,hv3,hv4,hv5,hv6,hv7,hv8,hv9,hv10] at hf
     subst hf; clear hT hv0 hv1 hv2 hv3 hv4 hv5 hv6 hv7 hv8 hv9 hv10 hr0 hr1 hr2 hr3 hr4 hr5 hr6 hr7 hr8 hr9 hr10
     refine wlate 11 rfl (by kernel_rfl) (ostore [.bool (ng z14),.slice p14 n14 c14] [.bool (ng z14),.slice p14 n14 c14] Tryz.sizeOf28 hS 0 rfl rfl (ev rfl rfl) (ev (v:=.agg #[.bool (ng z14),.slice p14 n14 c14]) rfl rfl) rfl rfl rfl rfl rfl rfl ?_)
     clear hS; intro w44 hS
     refine ⟨heldNil,?_⟩
     refine wlate 12 rfl (by kernel_rfl) (oassign (v:=.int .i64 0) rfl rfl (ev rfl rfl) ?_)
     refine ⟨heldNil,?_⟩
     refine wdone rfl ?_
     refine thenN (wseq ?_)
     refine wstage 3 [85,86,87] [[],[],[]] [[],[],[]] [1,2] [(g38,[.bool (ng z11),.slice p11 n11 c11],28),(g42,[.bool (ng z14),.slice p14 n14 c14],28)] (fun i => ([fun _ => Is (.agg #[.bool (ng ra),.slice pra nra cra]),fun _ => Is (.agg #[.bool (ng z11),.slice p11 n11 c11]),fun _ => Is (.agg #[.bool (ng z14),.slice p14 n14 c14])]:List (List Value → Tell)).getD i (fun _ _ _ => False)) ((heldCons (hS.blkAt 4 rfl) (heldCons (hS.blkAt 0 rfl) heldNil))) (fun d _ _ _ _ h => (by cases d <;> exact h)) (by kernel_rfl) (by kernel_rfl) (by kernel_rfl) hS ?_ ?_
     ·
      refine stepsCons rfl (fun Q f' w' ρ S ho hT hS hB => ?_) ?_
      ·exact .inl ⟨want_none rfl,oload (vs:=[.bool (ng ra),.slice pra nra cra]) aggZ hS 12 rfl rfl (ev rfl (ho 14 rfl)) rfl rfl rfl ⟨_,_,rfl,isI,New.same _⟩⟩
      refine stepsPure rfl ?_ ?_
      ·intro f' ρ ho hT
       exact ⟨_,.inl ⟨want_none rfl,fun w hw => yload (vs:=[.bool (ng z11),.slice p11 n11 c11]) aggZ rfl (ev rfl (ho 18 rfl)) (hw.at 0 rfl) rfl rfl⟩,isI⟩
      refine stepsPure rfl ?_ ?_
      ·intro f' ρ ho hT
       exact ⟨_,.inl ⟨want_none rfl,fun w hw => yload (vs:=[.bool (ng z14),.slice p14 n14 c14]) aggZ rfl (ev rfl (ho 20 rfl)) (hw.at 1 rfl) rfl rfl⟩,isI⟩
      exact stepsNil
     ·
      intro vs ρ w45 f' hf hT hS
      obtain ⟨hv0,hr0⟩:=(hT 0 (by decide):(Is (.agg #[.bool (ng ra),.slice pra nra cra])) _ _)
      obtain ⟨hv1,hr1⟩:=(hT 1 (by decide):(Is (.agg #[.bool (ng z11),.slice p11 n11 c11])) _ _)
      obtain ⟨hv2,hr2⟩:=(hT 2 (by decide):(Is (.agg #[.bool (ng z14),.slice p14 n14 c14])) _ _)
      simp only [pool,if_true,hr0,hr1,hr2,List.nil_append,List.cons_append,List.append_nil] at hS
      simp only [layf,hv0,hv1,hv2] at hf
      subst hf; clear hT hv0 hv1 hv2 hr0 hr1 hr2
      refine wlate 3 rfl (by kernel_rfl) (ostore [.bool (ng ra),.slice pra nra cra] [.bool (ng ra),.slice pra nra cra] Tryz.sizeOf28 hS 23 rfl rfl (ev rfl rfl) (ev (v:=.agg #[.bool (ng ra),.slice pra nra cra]) rfl rfl) rfl rfl rfl rfl rfl rfl ?_)
      clear hS; intro w46 hS
      refine ⟨(heldCons (hS.blkAt 4 rfl) (heldCons (hS.blkAt 0 rfl) heldNil)),?_⟩
      refine wlate 4 rfl (by kernel_rfl) (ostore [.bool (ng z11),.slice p11 n11 c11] [.bool (ng z11),.slice p11 n11 c11] Tryz.sizeOf28 hS 22 rfl rfl (ev rfl rfl) (ev (v:=.agg #[.bool (ng z11),.slice p11 n11 c11]) rfl rfl) rfl rfl rfl rfl rfl rfl ?_)
      clear hS; intro w47 hS
      refine ⟨(heldCons (hS.blkAt 4 rfl) (heldCons (hS.blkAt 0 rfl) heldNil)),?_⟩
      refine wlate 5 rfl (by kernel_rfl) (ostore [.bool (ng z14),.slice p14 n14 c14] [.bool (ng z14),.slice p14 n14 c14] Tryz.sizeOf28 hS 21 rfl rfl (ev rfl rfl) (ev (v:=.agg #[.bool (ng z14),.slice p14 n14 c14]) rfl rfl) rfl rfl rfl rfl rfl rfl ?_)
      clear hS; intro w48 hS
      refine ⟨(heldCons (hS.blkAt 4 rfl) (heldCons (hS.blkAt 0 rfl) heldNil)),?_⟩
      refine wdone rfl ?_
      refine thenN ?_
      refine wleave ?_
      refine wret3 Tryz.results100 (tellC (cs:=[.bool (ng ra),.slice pra nra cra]) aggZ hS 23 rfl rfl rfl rfl) (tellC (cs:=[.bool (ng z11),.slice p11 n11 c11]) aggZ hS 22 rfl rfl rfl rfl) (tellC (cs:=[.bool (ng z14),.slice p14 n14 c14]) aggZ hS 21 rfl rfl rfl rfl) ?_
      have hbz:=bez_fin (y:=z14) h0 hz2 hz3 hst0 hxs (by show _ = _; rw [← hz3.out,hz8.out]; exact hz9.out) hz11 hz12 hz13
      have hgg:=hbz.1
      have hbe:=hbz.2.2.2.2.2 hz14
      subst hgg
      exact ⟨_,_,rfl,⟨z11,z14,hbe,⟨_,_,_,_,_,_,_,_,_,rfl,rfl⟩⟩,hS.new3 20 7 1 rfl rfl rfl⟩
  ·
   refine wl rfl (obin (u:=.int .i64 s5) (v:=.int .i64 0) (z:=.bool true) rfl rfl (ev rfl rfl) evc (bin_neq (sign_neT hs5 hrb)) ?_)
   refine wnil (thenN ?_)
   refine wT (ev rfl rfl) ?_
   refine wskip (thenN (wblock (wseq (wreg (wl rfl (oload (vs:=[.bool (ng ra),.slice pra nra cra]) aggZ hS 5 rfl rfl (ev rfl rfl) rfl rfl rfl ?_))))))
   refine wl rfl (oload (vs:=[.bool (ng rb),.slice prb nrb crb]) aggZ hS 4 rfl rfl (ev rfl rfl) rfl rfl rfl ?_)
   obtain ⟨z6,hz6⟩:∃ z:Int,Hid (Int.tdiv ra rb = z):=⟨_,rfl⟩
   have hk6:Wd z6 100000000000:=Wd.tdiv hkra hz6
   obtain ⟨z7,hz7⟩:∃ z:Int,Hid (Int.tmod ra rb = z):=⟨_,rfl⟩
   have hk7:Wd z7 100000000000:=Wd.tmod hkra hz7
   refine wl rfl (ocall rfl rfl Tryz.call109 rfl (wztrunc (((hS.sl 7 rfl).zr hkra).mono (by omega)) (((hS.sl 6 rfl).zr hkrb).mono (by omega)) (hrb) hz6 hz7) (args2 (ev rfl rfl) (ev rfl rfl)) ?_)
   rintro _ w26 ⟨_,_,rfl,⟨p6,n6,c6,p7,n7,c7,rfl,rfl⟩,hN⟩
   refine ⟨_,rfl,?_⟩
   replace hS:=hS.news hN; clear hN
   refine wl rfl (omove (v:=.tuple #[.agg #[.bool (ng z6),.slice p6 n6 c6],.agg #[.bool (ng z7),.slice p7 n7 c7],.int .i64 0]) rfl rfl (ev rfl rfl) ?_)
   refine wl rfl (oextract (vs:=[.agg #[.bool (ng z6),.slice p6 n6 c6],.agg #[.bool (ng z7),.slice p7 n7 c7],.int .i64 0]) (v:=.agg #[.bool (ng z6),.slice p6 n6 c6]) rfl rfl (ev rfl rfl) rfl ?_)
   refine wl rfl (oextract (vs:=[.agg #[.bool (ng z6),.slice p6 n6 c6],.agg #[.bool (ng z7),.slice p7 n7 c7],.int .i64 0]) (v:=.agg #[.bool (ng z7),.slice p7 n7 c7]) rfl rfl (ev rfl rfl) rfl ?_)
   refine wl rfl (oextract (vs:=[.agg #[.bool (ng z6),.slice p6 n6 c6],.agg #[.bool (ng z7),.slice p7 n7 c7],.int .i64 0]) (v:=.int .i64 0) rfl rfl (ev rfl rfl) rfl ?_)
   refine wl rfl (oalloc [.bool false,.slice none 0 0] hS rfl rfl Tryz.zeroValue28 rfl ?_)
   clear hS; intro g27 w28 hS
   refine wl rfl (oalloc [.bool false,.slice none 0 0] hS rfl rfl Tryz.zeroValue28 rfl ?_)
   clear hS; intro g29 w30 hS
   refine wl rfl (ostore [.bool (ng z6),.slice p6 n6 c6] [.bool (ng z6),.slice p6 n6 c6] Tryz.sizeOf28 hS 1 rfl rfl (ev rfl rfl) (ev (v:=.agg #[.bool (ng z6),.slice p6 n6 c6]) rfl rfl) rfl rfl rfl rfl rfl rfl ?_)
   clear hS; intro w31 hS
   refine wl rfl (ostore [.bool (ng z7),.slice p7 n7 c7] [.bool (ng z7),.slice p7 n7 c7] Tryz.sizeOf28 hS 0 rfl rfl (ev rfl rfl) (ev (v:=.agg #[.bool (ng z7),.slice p7 n7 c7]) rfl rfl) rfl rfl rfl rfl rfl rfl ?_)
   clear hS; intro w32 hS
   refine wl rfl (oassign (v:=.int .i64 0) rfl rfl (ev rfl rfl) ?_)
   refine wnil (thenN (wseq ?_))
   refine wstage 2 [47,48] [[],[]] [[],[]] [1] [(g29,[.bool (ng z7),.slice p7 n7 c7],28)] (fun i => ([fun _ => Is (.agg #[.bool (ng rb),.slice prb nrb crb]),fun _ => Is (.agg #[.bool (ng z7),.slice p7 n7 c7])]:List (List Value → Tell)).getD i (fun _ _ _ => False)) ((heldCons (hS.blkAt 0 rfl) heldNil)) (fun d _ _ _ _ h => (by cases d <;> exact h)) (by kernel_rfl) (by kernel_rfl) (by kernel_rfl) hS ?_ ?_
   ·
    refine stepsCons rfl (fun Q f' w' ρ S ho hT hS hB => ?_) ?_
    ·exact .inl ⟨want_none rfl,oload (vs:=[.bool (ng rb),.slice prb nrb crb]) aggZ hS 8 rfl rfl (ev rfl (ho 8 rfl)) rfl rfl rfl ⟨_,_,rfl,isI,New.same _⟩⟩
    refine stepsPure rfl ?_ ?_
    ·intro f' ρ ho hT
     exact ⟨_,.inl ⟨want_none rfl,fun w hw => yload (vs:=[.bool (ng z7),.slice p7 n7 c7]) aggZ rfl (ev rfl (ho 12 rfl)) (hw.at 0 rfl) rfl rfl⟩,isI⟩
    exact stepsNil
   ·
    intro vs ρ w33 f' hf hT hS
    obtain ⟨hv0,hr0⟩:=(hT 0 (by decide):(Is (.agg #[.bool (ng rb),.slice prb nrb crb])) _ _)
    obtain ⟨hv1,hr1⟩:=(hT 1 (by decide):(Is (.agg #[.bool (ng z7),.slice p7 n7 c7])) _ _)
    simp only [pool,if_true,hr0,hr1,List.nil_append,List.cons_append,List.append_nil] at hS
    simp only [layf,hv0,hv1] at hf
    subst hf; clear hT hv0 hv1 hr0 hr1
    refine wlate 2 rfl (by kernel_rfl) (ostore [.bool (ng rb),.slice prb nrb crb] [.bool (ng rb),.slice prb nrb crb] Tryz.sizeOf28 hS 9 rfl rfl (ev rfl rfl) (ev (v:=.agg #[.bool (ng rb),.slice prb nrb crb]) rfl rfl) rfl rfl rfl rfl rfl rfl ?_)
    clear hS; intro w34 hS
    refine ⟨(heldCons (hS.blkAt 0 rfl) heldNil),?_⟩
    refine wlate 3 rfl (by kernel_rfl) (ostore [.bool (ng z7),.slice p7 n7 c7] [.bool (ng z7),.slice p7 n7 c7] Tryz.sizeOf28 hS 8 rfl rfl (ev rfl rfl) (ev (v:=.agg #[.bool (ng z7),.slice p7 n7 c7]) rfl rfl) rfl rfl rfl rfl rfl rfl ?_)
    clear hS; intro w35 hS
    refine ⟨(heldCons (hS.blkAt 0 rfl) heldNil),?_⟩
    refine wdone rfl ?_
    refine thenN ?_
    obtain ⟨z8,hz8⟩:∃ z:Int,Hid (z6 * xb = z):=⟨_,rfl⟩
    have hk8:Wd z8 200000000000:=Wd.mul hk6 hkxb hz8 (by omega)
    obtain ⟨z9,hz9⟩:∃ z:Int,Hid (xa - z8 = z):=⟨_,rfl⟩
    have hk9:Wd z9 200000000001:=Wd.sub hkxa hk8 hz9 (by omega)
    refine wstage 6 [49,50,51,52,53,54] [[],[],[],[],[2,3],[1,4,2,3]] [[],[],[],[],[],[]] [] [] (fun i => ([fun _ => Is (.agg #[.bool (ng xb),.slice pxb nxb cxb]),fun _ => Is (.agg #[.bool (ng xa),.slice pxa nxa cxa]),fun _ => Is (.agg #[.bool (ng z6),.slice p6 n6 c6]),fun _ => Is (.agg #[.bool (ng xb),.slice pxb nxb cxb]),fun _ => Zt z8,fun _ => Zt z9]:List (List Value → Tell)).getD i (fun _ _ _ => False)) (heldNil) (fun d _ _ _ _ h => (by cases d <;> exact h)) (by kernel_rfl) (by kernel_rfl) (by kernel_rfl) hS ?_ ?_
    ·
     refine stepsCons rfl (fun Q f' w' ρ S ho hT hS hB => ?_) ?_
     ·exact .inl ⟨want_none rfl,oload (vs:=[.bool (ng xb),.slice pxb nxb cxb]) aggZ hS 5 rfl rfl (ev rfl (ho 10 rfl)) rfl rfl rfl ⟨_,_,rfl,isI,New.same _⟩⟩
     refine stepsCons rfl (fun Q f' w' ρ S ho hT hS hB => ?_) ?_
     ·exact .inl ⟨want_none rfl,oload (vs:=[.bool (ng xa),.slice pxa nxa cxa]) aggZ hS 6 rfl rfl (ev rfl (ho 9 rfl)) rfl rfl rfl ⟨_,_,rfl,isI,New.same _⟩⟩
     refine stepsCons rfl (fun Q f' w' ρ S ho hT hS hB => ?_) ?_
     ·exact .inl ⟨want_none rfl,oload (vs:=[.bool (ng z6),.slice p6 n6 c6]) aggZ hS 1 rfl rfl (ev rfl (ho 11 rfl)) rfl rfl rfl ⟨_,_,rfl,isI,New.same _⟩⟩
     refine stepsCons rfl (fun Q f' w' ρ S ho hT hS hB => ?_) ?_
     ·exact .inl ⟨want_none rfl,oload (vs:=[.bool (ng xb),.slice pxb nxb cxb]) aggZ hS 5 rfl rfl (ev rfl (ho 10 rfl)) rfl rfl rfl ⟨_,_,rfl,isI,New.same _⟩⟩
     refine stepsCons rfl (fun Q f' w' ρ S ho hT hS hB => ?_) ?_
     ·obtain ⟨hv2,hr2⟩:=(hT 2 51 rfl rfl:(Is (.agg #[.bool (ng z6),.slice p6 n6 c6])) _ _)
      obtain ⟨hv3,hr3⟩:=(hT 3 52 rfl rfl:(Is (.agg #[.bool (ng xb),.slice pxb nxb cxb])) _ _)
      obtain hS:=hS.flat2 hr2 hr3
      exact .inl ⟨want_none rfl,ocall rfl rfl Tryz.call63 rfl (wzmul (((hS.sl 2 rfl).zr hk6).mono (by omega)) (((hS.sl 4 rfl).zr hkxb).mono (by omega)) hz8) (args2 (ev rfl hv2) (ev rfl hv3)) callN⟩
     refine stepsCons rfl (fun Q f' w' ρ S ho hT hS hB => ?_) ?_
     ·obtain ⟨hv1,hr1⟩:=(hT 1 50 rfl rfl:(Is (.agg #[.bool (ng xa),.slice pxa nxa cxa])) _ _)
      obtain ⟨p8,n8,c8,hv4,hr4⟩:=(hT 4 53 rfl rfl:(Zt z8) _ _)
      obtain hS:=hS.flat2 hr1 hr4
      exact .inl ⟨want_none rfl,ocall rfl rfl Tryz.call62 rfl (wzsub (((hS.sl 7 rfl).zr hkxa).mono (by omega)) (((hS.sl 17 rfl).zr hk8).mono (by omega)) hz9) (args2 (ev rfl hv1) (ev rfl hv4)) callN⟩
     exact stepsNil
    ·
     intro vs ρ w36 f' hf hT hS
     obtain ⟨hv0,hr0⟩:=(hT 0 (by decide):(Is (.agg #[.bool (ng xb),.slice pxb nxb cxb])) _ _)
     obtain ⟨hv1,hr1⟩:=(hT 1 (by decide):(Is (.agg #[.bool (ng xa),.slice pxa nxa cxa])) _ _)
     obtain ⟨hv2,hr2⟩:=(hT 2 (by decide):(Is (.agg #[.bool (ng z6),.slice p6 n6 c6])) _ _)
     obtain ⟨hv3,hr3⟩:=(hT 3 (by decide):(Is (.agg #[.bool (ng xb),.slice pxb nxb cxb])) _ _)
     obtain ⟨p8,n8,c8,hv4,hr4⟩:=(hT 4 (by decide):(Zt z8) _ _)
     obtain ⟨p9,n9,c9,hv5,hr5⟩:=(hT 5 (by decide):(Zt z9) _ _)
     simp only [pool,if_true,hr0,hr1,hr2,hr3,hr4,hr5,List.nil_append,List.cons_append,List.append_nil] at hS
     simp only [layf,hv0,hv1,hv2,hv3,hv4,hv5] at hf
     subst hf; clear hT hv0 hv1 hv2 hv3 hv4 hv5 hr0 hr1 hr2 hr3 hr4 hr5
     refine wlate 6 rfl (by kernel_rfl) (ostore [.bool (ng xb),.slice pxb nxb cxb] [.bool (ng xb),.slice pxb nxb cxb] Tryz.sizeOf28 hS 8 rfl rfl (ev rfl rfl) (ev (v:=.agg #[.bool (ng xb),.slice pxb nxb cxb]) rfl rfl) rfl rfl rfl rfl rfl rfl ?_)
     clear hS; intro w37 hS
     refine ⟨heldNil,?_⟩
     refine wlate 7 rfl (by kernel_rfl) (ostore [.bool (ng z9),.slice p9 n9 c9] [.bool (ng z9),.slice p9 n9 c9] Tryz.sizeOf28 hS 7 rfl rfl (ev rfl rfl) (ev (v:=.agg #[.bool (ng z9),.slice p9 n9 c9]) rfl rfl) rfl rfl rfl rfl rfl rfl ?_)
     clear hS; intro w38 hS
     refine ⟨heldNil,?_⟩
     refine wdone rfl ?_
     refine blkN (thenN ?_)
     obtain ⟨hst2,hlt⟩:=Steps3.next (by have:=hz3.out; omega) hst hrb hz6 hz7 hz8 hz9
     exact ⟨z7.natAbs,⟨_,rb,z7,xb,z9,_,_,_,_,_,_,_,_,_,_,_,_,act_sets (l:=[(2,.pointer (some ⟨g1,0,none⟩)),(3,.pointer (some ⟨g3,0,none⟩)),(4,.pointer (some ⟨g5,0,none⟩)),(5,.pointer (some ⟨g7,0,none⟩)),(6,.pointer (some ⟨g9,0,none⟩)),(7,.pointer (some ⟨g12,0,none⟩)),(8,.pointer (some ⟨g13,0,none⟩)),(9,.pointer (some ⟨g18,0,none⟩)),(10,.pointer (some ⟨g20,0,none⟩))]) ⟨rfl,rfl,rfl,rfl,rfl,rfl,rfl,rfl,rfl,trivial⟩,hS.pick [0,7,8,6,10,11,5,12,14,15,16,17,18] (by decide) rfl,hst2,rfl,(hkrb).mono (by omega),(hk7).mono (by omega),(hkxb).mono (by omega),hk3.abs hst2.b1⟩,by omega⟩
theorem wzbez_p {b b2:Bool} {p q:Option Addr} {n m c d:Nat} {x y:Int} {w:World} (hx:Zr w b p n c x 100000000000) (hy:Zr w b2 q m d y 100000000000) (h0:y ≠ 0) (hx0:0 ≤ x) :
  Calls Tryz.prog 100 #[.agg #[.bool b,.slice p n c],.agg #[.bool b2,.slice q m d]] w (Ret (BZt x y) w):=by
 have hS:=Sep.init w
 refine went Tryz.func100 rfl (n:=88) rfl rfl ?_
 refine wseq (wreg (wl rfl (obox [.bool b,.slice p n c] hS rfl rfl (ev (v:=.agg #[.bool b,.slice p n c]) rfl rfl) rfl ?_)))
 clear hS; intro g1 w2 hS
 refine wl rfl (obox [.bool b2,.slice q m d] hS rfl rfl (ev (v:=.agg #[.bool b2,.slice q m d]) rfl rfl) rfl ?_)
 clear hS; intro g3 w4 hS
 refine wl rfl (oalloc [.bool false,.slice none 0 0] hS rfl rfl Tryz.zeroValue28 rfl ?_)
 clear hS; intro g5 w6 hS
 refine wl rfl (oalloc [.bool false,.slice none 0 0] hS rfl rfl Tryz.zeroValue28 rfl ?_)
 clear hS; intro g7 w8 hS
 refine wl rfl (oalloc [.bool false,.slice none 0 0] hS rfl rfl Tryz.zeroValue28 rfl ?_)
 clear hS; intro g9 w10 hS
 refine wnil (thenN (wseq (wseq (wreg (wl rfl (oload (vs:=[.bool b2,.slice q m d]) aggZ hS 3 rfl rfl (ev rfl rfl) rfl rfl rfl ?_))))))
 obtain ⟨s1,hs1⟩:∃ z:Int,Hid ((y:Int).sign = z):=⟨_,rfl⟩
 refine wl rfl (ocall rfl rfl Tryz.call64 rfl (wzsign ((hy.at hS).mono (by omega)) hs1) (args1 (ev rfl rfl)) ?_)
 rintro _ w11 ⟨_,_,rfl,⟨rfl,rfl⟩,hN⟩
 refine ⟨_,rfl,?_⟩
 replace hS:=hS.news hN; clear hN
 refine wl rfl (obin (u:=.int .i64 s1) (v:=.int .i64 0) (z:=.bool false) rfl rfl (ev rfl rfl) evc (bin_eql (sign_ne hs1 h0)) ?_)
 refine wnil (thenN ?_)
 refine wF (ev rfl rfl) ?_
 refine wskip (thenN (wseq ?_))
 obtain ⟨z2,hz2⟩:∃ z:Int,Hid ((Int.natAbs x:Int) = z):=⟨_,rfl⟩
 have hk2:Wd z2 100000000000:=Wd.nabs hx.wd hz2
 obtain ⟨z3,hz3⟩:∃ z:Int,Hid ((Int.natAbs y:Int) = z):=⟨_,rfl⟩
 have hk3:Wd z3 100000000000:=Wd.nabs hy.wd hz3
 refine wstage 6 [31,32,33,34,7,8] [[],[0],[],[2,0,1],[],[]] [[],[],[],[],[],[]] [] [] (fun i => ([fun _ => Is (.agg #[.bool b,.slice p n c]),fun _ => Zt z2,fun _ => Is (.agg #[.bool b2,.slice q m d]),fun _ => Zt z3,fun _ => Ptr [.bool false,.slice none 0 0] 28,fun _ => Ptr [.bool false,.slice none 0 0] 28]:List (List Value → Tell)).getD i (fun _ _ _ => False)) (heldNil) (fun d _ _ _ _ h => (by cases d <;> exact h)) (by kernel_rfl) (by kernel_rfl) (by kernel_rfl) hS ?_ ?_
 ·
  refine stepsCons rfl (fun Q f' w' ρ S ho hT hS hB => ?_) ?_
  ·exact .inl ⟨want_none rfl,oload (vs:=[.bool b,.slice p n c]) aggZ hS 4 rfl rfl (ev rfl (ho 2 rfl)) rfl rfl rfl ⟨_,_,rfl,isI,New.same _⟩⟩
  refine stepsCons rfl (fun Q f' w' ρ S ho hT hS hB => ?_) ?_
  ·obtain ⟨hv0,hr0⟩:=(hT 0 31 rfl rfl:(Is (.agg #[.bool b,.slice p n c])) _ _)
   obtain hS:=hS.flat1 hr0
   exact .inl ⟨want_none rfl,ocall rfl rfl Tryz.call111 rfl (wzabs ((hx.at hS).mono (by omega)) hz2) (args1 (ev rfl hv0)) callN⟩
  refine stepsCons rfl (fun Q f' w' ρ S ho hT hS hB => ?_) ?_
  ·exact .inl ⟨want_none rfl,oload (vs:=[.bool b2,.slice q m d]) aggZ hS 3 rfl rfl (ev rfl (ho 3 rfl)) rfl rfl rfl ⟨_,_,rfl,isI,New.same _⟩⟩
  refine stepsCons rfl (fun Q f' w' ρ S ho hT hS hB => ?_) ?_
  ·obtain ⟨hv2,hr2⟩:=(hT 2 33 rfl rfl:(Is (.agg #[.bool b2,.slice q m d])) _ _)
   obtain hS:=hS.flat1 hr2
   exact .inl ⟨want_none rfl,ocall rfl rfl Tryz.call111 rfl (wzabs ((hy.at hS).mono (by omega)) hz3) (args1 (ev rfl hv2)) callN⟩
  refine stepsCons rfl (fun Q f' w' ρ S ho hT hS hB => ?_) ?_
  ·exact .inl ⟨want_none rfl,oallocN [.bool false,.slice none 0 0] rfl rfl Tryz.zeroValue28 rfl ⟨_,_,rfl,ptrI,New.blk _ _ _⟩⟩
  refine stepsCons rfl (fun Q f' w' ρ S ho hT hS hB => ?_) ?_
  ·exact .inl ⟨want_none rfl,oallocN [.bool false,.slice none 0 0] rfl rfl Tryz.zeroValue28 rfl ⟨_,_,rfl,ptrI,New.blk _ _ _⟩⟩
  exact stepsNil
 ·
  intro vs ρ w14 f' hf hT hS
  obtain ⟨hv0,hr0⟩:=(hT 0 (by decide):(Is (.agg #[.bool b,.slice p n c])) _ _)
  obtain ⟨p2,n2,c2,hv1,hr1⟩:=(hT 1 (by decide):(Zt z2) _ _)
  obtain ⟨hv2,hr2⟩:=(hT 2 (by decide):(Is (.agg #[.bool b2,.slice q m d])) _ _)
  obtain ⟨p3,n3,c3,hv3,hr3⟩:=(hT 3 (by decide):(Zt z3) _ _)
  obtain ⟨g12,hv4,hr4⟩:=(hT 4 (by decide):(Ptr [.bool false,.slice none 0 0] 28) _ _)
  obtain ⟨g13,hv5,hr5⟩:=(hT 5 (by decide):(Ptr [.bool false,.slice none 0 0] 28) _ _)
  simp only [pool,if_true,hr0,hr1,hr2,hr3,hr4,hr5,List.nil_append,List.cons_append,List.append_nil] at hS
  simp only [layf,hv0,hv1,hv2,hv3,hv4,hv5] at hf
  subst hf; clear hT hv0 hv1 hv2 hv3 hv4 hv5 hr0 hr1 hr2 hr3 hr4 hr5
  refine wlate 6 rfl (by kernel_rfl) (ostore [.bool (ng z2),.slice p2 n2 c2] [.bool (ng z2),.slice p2 n2 c2] Tryz.sizeOf28 hS 1 rfl rfl (ev rfl rfl) (ev (v:=.agg #[.bool (ng z2),.slice p2 n2 c2]) rfl rfl) rfl rfl rfl rfl rfl rfl ?_)
  clear hS; intro w15 hS
  refine ⟨heldNil,?_⟩
  refine wlate 7 rfl (by kernel_rfl) (ostore [.bool (ng z3),.slice p3 n3 c3] [.bool (ng z3),.slice p3 n3 c3] Tryz.sizeOf28 hS 0 rfl rfl (ev rfl rfl) (ev (v:=.agg #[.bool (ng z3),.slice p3 n3 c3]) rfl rfl) rfl rfl rfl rfl rfl rfl ?_)
  clear hS; intro w16 hS
  refine ⟨heldNil,?_⟩
  refine wdone rfl ?_
  refine thenN (wseq (wreg ?_))
  have hk4:Wd 1 2:=Wd.i64 (by omega) (by omega)
  refine wl rfl (ocall rfl rfl Tryz.call59 rfl (wzof (z:=1) (by omega) (by omega)) (args1 evc) ?_)
  rintro _ w17 ⟨_,_,rfl,⟨p4,n4,c4,rfl,rfl⟩,hN⟩
  refine ⟨_,rfl,?_⟩
  replace hS:=hS.news hN; clear hN
  refine wl rfl (obuild (ps:=#[]) (v:=.agg #[.bool false,.slice none 0 0]) rfl rfl (parts0) (fun w => by simp [go_sem,Instr.build,Instr.fill]) ?_)
  refine wl rfl (oalloc [.bool false,.slice none 0 0] hS rfl rfl Tryz.zeroValue28 rfl ?_)
  clear hS; intro g18 w19 hS
  refine wl rfl (oalloc [.bool false,.slice none 0 0] hS rfl rfl Tryz.zeroValue28 rfl ?_)
  clear hS; intro g20 w21 hS
  refine wl rfl (ostore [.bool (ng 1),.slice p4 n4 c4] [.bool (ng 1),.slice p4 n4 c4] Tryz.sizeOf28 hS 1 rfl rfl (ev rfl rfl) (ev (v:=.agg #[.bool (ng 1),.slice p4 n4 c4]) rfl rfl) rfl rfl rfl rfl rfl rfl ?_)
  clear hS; intro w22 hS
  refine wl rfl (ostore [.bool false,.slice none 0 0] [.bool false,.slice none 0 0] Tryz.sizeOf28 hS 0 rfl rfl (ev rfl rfl) (ev (v:=.agg #[.bool false,.slice none 0 0]) rfl rfl) rfl rfl rfl rfl rfl rfl ?_)
  clear hS; intro w23 hS
  refine wnil (thenN (wseq (wblock ?_)))
  replace hS:=hS.nilRow
  refine wloop (σ := Nat) (fun k a w' => ∃ (fb:Nat → Value) (ra:Int) (rb:Int) (xa:Int) (xb:Int) (pra:Option Addr) (nra:Nat) (cra:Nat) (prb:Option Addr) (nrb:Nat) (crb:Nat) (pxa:Option Addr) (nxa:Nat) (cxa:Nat) (pxb:Option Addr) (nxb:Nat) (cxb:Nat),a = act 88 (sets fb [(2,.pointer (some ⟨g1,0,none⟩)),(3,.pointer (some ⟨g3,0,none⟩)),(4,.pointer (some ⟨g5,0,none⟩)),(5,.pointer (some ⟨g7,0,none⟩)),(6,.pointer (some ⟨g9,0,none⟩)),(7,.pointer (some ⟨g12,0,none⟩)),(8,.pointer (some ⟨g13,0,none⟩)),(9,.pointer (some ⟨g18,0,none⟩)),(10,.pointer (some ⟨g20,0,none⟩))]) ∧ Sep w [.row pxb nxb cxb (lim xb.natAbs),.blk g20 [.bool (ng xb),.slice pxb nxb cxb] 28,.blk g18 [.bool (ng xa),.slice pxa nxa cxa] 28,.row pxa nxa cxa (lim xa.natAbs),.blk g13 [.bool (ng rb),.slice prb nrb crb] 28,.blk g12 [.bool (ng ra),.slice pra nra cra] 28,.row prb nrb crb (lim rb.natAbs),.row pra nra cra (lim ra.natAbs),.blk g9 [.bool false,.slice none 0 0] 28,.blk g7 [.bool false,.slice none 0 0] 28,.blk g5 [.bool false,.slice none 0 0] 28,.blk g3 [.bool b2,.slice q m d] 28,.blk g1 [.bool b,.slice p n c] 28] w' ∧ (Steps3 z2 z3 ra rb xa xb) ∧ (rb.natAbs = k) ∧ (Wd ra 100000000000) ∧ (Wd rb 100000000000) ∧ (Wd xa 100000000000) ∧ (Wd xb 100000000000)) (fun k => k) (z3.natAbs) ⟨_,z2,z3,1,0,_,_,_,_,_,_,_,_,_,_,_,_,act_sets (l:=[(2,.pointer (some ⟨g1,0,none⟩)),(3,.pointer (some ⟨g3,0,none⟩)),(4,.pointer (some ⟨g5,0,none⟩)),(5,.pointer (some ⟨g7,0,none⟩)),(6,.pointer (some ⟨g9,0,none⟩)),(7,.pointer (some ⟨g12,0,none⟩)),(8,.pointer (some ⟨g13,0,none⟩)),(9,.pointer (some ⟨g18,0,none⟩)),(10,.pointer (some ⟨g20,0,none⟩))]) ⟨rfl,rfl,rfl,rfl,rfl,rfl,rfl,rfl,rfl,trivial⟩,hS,Steps3.start (by have:=hz2.out; omega) (by have:=hz3.out; omega),rfl,(hk2).mono (by omega),(hk3).mono (by omega),(hk4).mono (by omega),((Wd.i64 (z:=0) (by omega) (by omega))).mono (by omega)⟩ ?_
  clear hS; rintro k _ w24 ⟨fb,ra,rb,xa,xb,pra,nra,cra,prb,nrb,crb,pxa,nxa,cxa,pxb,nxb,cxb,rfl,hS,hst,hmu,hkra,hkrb,hkxa,hkxb⟩
  refine wseq (wseq (wreg (wl rfl (oload (vs:=[.bool (ng rb),.slice prb nrb crb]) aggZ hS 4 rfl rfl (ev rfl rfl) rfl rfl rfl ?_))))
  obtain ⟨s5,hs5⟩:∃ z:Int,Hid ((rb:Int).sign = z):=⟨_,rfl⟩
  refine wl rfl (ocall rfl rfl Tryz.call64 rfl (wzsign (((hS.sl 6 rfl).zr hkrb).mono (by omega)) hs5) (args1 (ev rfl rfl)) ?_)
  rintro _ w25 ⟨_,_,rfl,⟨rfl,rfl⟩,hN⟩
  refine ⟨_,rfl,?_⟩
  replace hS:=hS.news hN; clear hN
  by_cases hrb:rb = 0
  ·
   refine wl rfl (obin (u:=.int .i64 s5) (v:=.int .i64 0) (z:=.bool false) rfl rfl (ev rfl rfl) evc (bin_neq (sign_neF hs5 hrb)) ?_)
   refine wnil (thenN ?_)
   refine wF (ev rfl rfl) ?_
   refine wexit ?_
   refine thenE ?_
   refine thenE ?_
   refine blkE ?_
   refine thenN (wseq (wreg (wl rfl (oload (vs:=[.bool (ng ra),.slice pra nra cra]) aggZ hS 5 rfl rfl (ev rfl rfl) rfl rfl rfl ?_))))
   refine wl rfl (oalloc [.bool false,.slice none 0 0] hS rfl rfl Tryz.zeroValue28 rfl ?_)
   clear hS; intro g26 w27 hS
   refine wl rfl (ostore [.bool (ng ra),.slice pra nra cra] [.bool (ng ra),.slice pra nra cra] Tryz.sizeOf28 hS 0 rfl rfl (ev rfl rfl) (ev (v:=.agg #[.bool (ng ra),.slice pra nra cra]) rfl rfl) rfl rfl rfl rfl rfl rfl ?_)
   clear hS; intro w28 hS
   refine wnil (thenN (wseq (wseq (wreg (wl rfl (oload (vs:=[.bool b,.slice p n c]) aggZ hS 13 rfl rfl (ev rfl rfl) rfl rfl rfl ?_))))))
   obtain ⟨s6,hs6⟩:∃ z:Int,Hid ((x:Int).sign = z):=⟨_,rfl⟩
   refine wl rfl (ocall rfl rfl Tryz.call64 rfl (wzsign ((hx.at hS).mono (by omega)) hs6) (args1 (ev rfl rfl)) ?_)
   rintro _ w29 ⟨_,_,rfl,⟨rfl,rfl⟩,hN⟩
   refine ⟨_,rfl,?_⟩
   replace hS:=hS.news hN; clear hN
   have hst0:Steps3 z2 z3 ra 0 xa xb:=hrb ▸ hst
   obtain ⟨hg,hg0⟩:=bez_g (by have:=hz3.out; omega) hst0
   refine wl rfl (obin (u:=.int .i64 s6) (v:=.int .i64 0) (z:=.bool false) rfl rfl (ev rfl rfl) evc (bin_lss (ltF (sgn_nn hs6 hx0))) ?_)
   refine wnil (thenN ?_)
   refine wF (ev rfl rfl) ?_
   refine wskip (thenN (wseq ?_))
   obtain ⟨z7,hz7⟩:∃ z:Int,Hid ((Int.natAbs y:Int) = z):=⟨_,rfl⟩
   have hk7:Wd z7 100000000000:=Wd.nabs hy.wd hz7
   have hxs:x * xa = xa * z2:=by rw [← hz2.out,show (x.natAbs:Int) = x by omega,Int.mul_comm]
   have hdm:=(bez_fin (p:=x * (xa % z3.tdiv ra)) (d:=ra - x * (xa % z3.tdiv ra)) (y:=0) h0 hz2 hz3 hst0 hxs rfl rfl rfl rfl)
   obtain ⟨z8,hz8⟩:∃ z:Int,Hid (Int.tdiv z7 ra = z):=⟨_,rfl⟩
   have hk8:Wd z8 100000000000:=Wd.tdiv hk7 hz8
   refine wstage 8 [62,63,64,65,61,66,67,15] [[],[0],[],[1,2,0],[3,0,1,2],[3,4,0,1,2],[3,4,0,1,2],[]] [[],[],[],[],[3],[3],[],[]] [6] [] (fun i => ([fun _ => Is (.agg #[.bool b2,.slice q m d]),fun _ => Zt z7,fun _ => Is (.agg #[.bool (ng ra),.slice pra nra cra]),fun _ => ZEt z8 0,fun us => Is (.tuple #[.agg #[.bool (ng z8),(vat (us.getD 0 undef) [0,1])],.int .i64 0]),fun us => Is (.agg #[.bool (ng z8),(vat (us.getD 0 undef) [0,1])]),fun _ => Is (.int .i64 0),fun _ => Ptr [.bool false,.slice none 0 0] 28]:List (List Value → Tell)).getD i (fun _ _ _ => False)) (heldNil) (fun d _ _ _ _ h => (by cases d <;> exact h)) (by kernel_rfl) (by kernel_rfl) (by kernel_rfl) hS ?_ ?_
   ·
    refine stepsCons rfl (fun Q f' w' ρ S ho hT hS hB => ?_) ?_
    ·exact .inl ⟨want_none rfl,oload (vs:=[.bool b2,.slice q m d]) aggZ hS 12 rfl rfl (ev rfl (ho 3 rfl)) rfl rfl rfl ⟨_,_,rfl,isI,New.same _⟩⟩
    refine stepsCons rfl (fun Q f' w' ρ S ho hT hS hB => ?_) ?_
    ·obtain ⟨hv0,hr0⟩:=(hT 0 62 rfl rfl:(Is (.agg #[.bool b2,.slice q m d])) _ _)
     obtain hS:=hS.flat1 hr0
     exact .inl ⟨want_none rfl,ocall rfl rfl Tryz.call111 rfl (wzabs ((hy.at hS).mono (by omega)) hz7) (args1 (ev rfl hv0)) callN⟩
    refine stepsCons rfl (fun Q f' w' ρ S ho hT hS hB => ?_) ?_
    ·exact .inl ⟨want_none rfl,oload (vs:=[.bool (ng ra),.slice pra nra cra]) aggZ hS 0 rfl rfl (ev rfl (ho 14 rfl)) rfl rfl rfl ⟨_,_,rfl,isI,New.same _⟩⟩
    refine stepsCons rfl (fun Q f' w' ρ S ho hT hS hB => ?_) ?_
    ·obtain ⟨p7,n7,c7,hv1,hr1⟩:=(hT 1 63 rfl rfl:(Zt z7) _ _)
     obtain ⟨hv2,hr2⟩:=(hT 2 64 rfl rfl:(Is (.agg #[.bool (ng ra),.slice pra nra cra])) _ _)
     obtain hS:=hS.flat2 hr1 hr2
     exact .inl ⟨want_none rfl,ocall rfl rfl Tryz.call130 rfl (wzexact (((hS.sl 14 rfl).zr hk7).mono (by omega)) (((hS.sl 8 rfl).zr hkra).mono (by omega)) (hg0) (by rw [← hz7.out,hz3.out]; exact hdm.2.2.1) hz8) (args2 (ev rfl hv1) (ev rfl hv2)) callN⟩
    refine stepsCons rfl (fun Q f' w' ρ S ho hT hS hB => ?_) ?_
    ·obtain ⟨p8,n8,c8,hv3,hr3⟩:=(hT 3 65 rfl rfl:(ZEt z8 0) _ _)
     obtain hS:=hS.flat1 hr3
     have hQ:(.tuple #[.agg #[.bool (ng z8),.slice p8 n8 c8],.int .i64 0]:Value) = (fun (us:List Value) => (.tuple #[.agg #[.bool (ng z8),(vat (us.getD 0 undef) [0,1])],.int .i64 0]:Value)) [f' 65]:=by show _ = (.tuple #[.agg #[.bool (ng z8),(vat (f' 65) [0,1])],.int .i64 0]:Value); rw [hv3]; rfl
     exact .inl ⟨want_none rfl,omove (v:=.tuple #[.agg #[.bool (ng z8),.slice p8 n8 c8],.int .i64 0]) rfl rfl (ev rfl hv3) ⟨_,_,rfl,⟨hQ,rfl⟩,New.same _⟩⟩
    refine stepsCons rfl (fun Q f' w' ρ S ho hT hS hB => ?_) ?_
    ·obtain ⟨p8,n8,c8,hv3,hr3⟩:=(hT 3 65 rfl rfl:(ZEt z8 0) _ _)
     obtain ⟨hv4,hr4⟩:=(hT 4 61 rfl rfl:(fun (us:List Value) => Is (.tuple #[.agg #[.bool (ng z8),(vat (us.getD 0 undef) [0,1])],.int .i64 0])) [f' 65] _ _)
     replace hv4:f' 61 = .tuple #[.agg #[.bool (ng z8),.slice p8 n8 c8],.int .i64 0]:=hv4.trans (by show (.tuple #[.agg #[.bool (ng z8),(vat (f' 65) [0,1])],.int .i64 0]:Value) = _; rw [hv3]; rfl)
     obtain hS:=hS.flat2 hr3 hr4
     have hQ:(.agg #[.bool (ng z8),.slice p8 n8 c8]:Value) = (fun (us:List Value) => (.agg #[.bool (ng z8),(vat (us.getD 0 undef) [0,1])]:Value)) [f' 65]:=by show _ = (.agg #[.bool (ng z8),(vat (f' 65) [0,1])]:Value); rw [hv3]; rfl
     exact .inl ⟨want_none rfl,oextract (vs:=[.agg #[.bool (ng z8),.slice p8 n8 c8],.int .i64 0]) (v:=.agg #[.bool (ng z8),.slice p8 n8 c8]) rfl rfl (ev rfl hv4) rfl ⟨_,_,rfl,⟨hQ,rfl⟩,New.same _⟩⟩
    refine stepsPure rfl ?_ ?_
    ·intro f' ρ ho hT
     obtain ⟨p8,n8,c8,hv3,hr3⟩:=(hT 3 65 rfl rfl:(ZEt z8 0) _ _)
     obtain ⟨hv4,hr4⟩:=(hT 4 61 rfl rfl:(fun (us:List Value) => Is (.tuple #[.agg #[.bool (ng z8),(vat (us.getD 0 undef) [0,1])],.int .i64 0])) [f' 65] _ _)
     replace hv4:f' 61 = .tuple #[.agg #[.bool (ng z8),.slice p8 n8 c8],.int .i64 0]:=hv4.trans (by show (.tuple #[.agg #[.bool (ng z8),(vat (f' 65) [0,1])],.int .i64 0]:Value) = _; rw [hv3]; rfl)
     exact ⟨_,.inl ⟨want_none rfl,fun w hw => yextract (vs:=[.agg #[.bool (ng z8),.slice p8 n8 c8],.int .i64 0]) (v:=.int .i64 0) rfl (ev (v:=.tuple #[.agg #[.bool (ng z8),.slice p8 n8 c8],.int .i64 0]) rfl hv4) rfl w⟩,isI⟩
    refine stepsCons rfl (fun Q f' w' ρ S ho hT hS hB => ?_) ?_
    ·exact .inl ⟨want_none rfl,oallocN [.bool false,.slice none 0 0] rfl rfl Tryz.zeroValue28 rfl ⟨_,_,rfl,ptrI,New.blk _ _ _⟩⟩
    exact stepsNil
   ·
    intro vs ρ w31 f' hf hT hS
    obtain ⟨hv0,hr0⟩:=(hT 0 (by decide):(Is (.agg #[.bool b2,.slice q m d])) _ _)
    obtain ⟨p7,n7,c7,hv1,hr1⟩:=(hT 1 (by decide):(Zt z7) _ _)
    obtain ⟨hv2,hr2⟩:=(hT 2 (by decide):(Is (.agg #[.bool (ng ra),.slice pra nra cra])) _ _)
    obtain ⟨p8,n8,c8,hv3,hr3⟩:=(hT 3 (by decide):(ZEt z8 0) _ _)
    obtain ⟨hv4,hr4⟩:=(hT 4 (by decide):(fun (us:List Value) => Is (.tuple #[.agg #[.bool (ng z8),(vat (us.getD 0 undef) [0,1])],.int .i64 0])) [vs 3] _ _)
    replace hv4:vs 4 = .tuple #[.agg #[.bool (ng z8),.slice p8 n8 c8],.int .i64 0]:=hv4.trans (by show (.tuple #[.agg #[.bool (ng z8),(vat (vs 3) [0,1])],.int .i64 0]:Value) = _; rw [hv3]; rfl)
    obtain ⟨hv5,hr5⟩:=(hT 5 (by decide):(fun (us:List Value) => Is (.agg #[.bool (ng z8),(vat (us.getD 0 undef) [0,1])])) [vs 3] _ _)
    replace hv5:vs 5 = .agg #[.bool (ng z8),.slice p8 n8 c8]:=hv5.trans (by show (.agg #[.bool (ng z8),(vat (vs 3) [0,1])]:Value) = _; rw [hv3]; rfl)
    obtain ⟨hv6,hr6⟩:=(hT 6 (by decide):(Is (.int .i64 0)) _ _)
    obtain ⟨g30,hv7,hr7⟩:=(hT 7 (by decide):(Ptr [.bool false,.slice none 0 0] 28) _ _)
    simp only [pool,if_true,hr0,hr1,hr2,hr3,hr4,hr5,hr6,hr7,List.nil_append,List.cons_append,List.append_nil] at hS
    simp only [layf,hv0,hv1,hv2,hv3,hv4,hv5,hv6,hv7] at hf
    subst hf; clear hT hv0 hv1 hv2 hv3 hv4 hv5 hv6 hv7 hr0 hr1 hr2 hr3 hr4 hr5 hr6 hr7
    refine wlate 8 rfl (by kernel_rfl) (ostore [.bool (ng z8),.slice p8 n8 c8] [.bool (ng z8),.slice p8 n8 c8] Tryz.sizeOf28 hS 0 rfl rfl (ev rfl rfl) (ev (v:=.agg #[.bool (ng z8),.slice p8 n8 c8]) rfl rfl) rfl rfl rfl rfl rfl rfl ?_)
    clear hS; intro w32 hS
    refine ⟨heldNil,?_⟩
    refine wlate 9 rfl (by kernel_rfl) (oassign (v:=.int .i64 0) rfl rfl (ev rfl rfl) ?_)
    refine ⟨heldNil,?_⟩
    refine wdone rfl ?_
    refine thenN (wseq (wreg (wl rfl (oload (vs:=[.bool (ng xa),.slice pxa nxa cxa]) aggZ hS 6 rfl rfl (ev rfl rfl) rfl rfl rfl ?_))))
    refine wl rfl (oload (vs:=[.bool (ng z8),.slice p8 n8 c8]) aggZ hS 0 rfl rfl (ev rfl rfl) rfl rfl rfl ?_)
    have hBB:z7 = z3:=by rw [← hz7.out,hz3.out]
    have hm0:z8 ≠ 0:=by rw [← hz8.out,hBB]; exact hdm.2.2.2.1
    obtain ⟨z9,hz9⟩:∃ z:Int,Hid (xa / z8 = z):=⟨_,rfl⟩
    have hk9:Wd z9 100000000000:=Wd.ediv hkxa hz9
    obtain ⟨z10,hz10⟩:∃ z:Int,Hid (xa % z8 = z):=⟨_,rfl⟩
    have hk10:Wd z10 100000000000:=Wd.emod hk8 (hm0) hz10
    refine wl rfl (ocall rfl rfl Tryz.call61 rfl (wzeuclid (((hS.sl 7 rfl).zr hkxa).mono (by omega)) (((hS.sl 1 rfl).zr hk8).mono (by omega)) (hm0) hz9 hz10) (args2 (ev rfl rfl) (ev rfl rfl)) ?_)
    rintro _ w33 ⟨_,_,rfl,⟨p9,n9,c9,p10,n10,c10,rfl,rfl⟩,hN⟩
    refine ⟨_,rfl,?_⟩
    replace hS:=hS.news hN; clear hN
    refine wl rfl (omove (v:=.tuple #[.agg #[.bool (ng z9),.slice p9 n9 c9],.agg #[.bool (ng z10),.slice p10 n10 c10],.int .i64 0]) rfl rfl (ev rfl rfl) ?_)
    refine wl rfl (oextract (vs:=[.agg #[.bool (ng z9),.slice p9 n9 c9],.agg #[.bool (ng z10),.slice p10 n10 c10],.int .i64 0]) (v:=.agg #[.bool (ng z9),.slice p9 n9 c9]) rfl rfl (ev rfl rfl) rfl ?_)
    refine wl rfl (oextract (vs:=[.agg #[.bool (ng z9),.slice p9 n9 c9],.agg #[.bool (ng z10),.slice p10 n10 c10],.int .i64 0]) (v:=.agg #[.bool (ng z10),.slice p10 n10 c10]) rfl rfl (ev rfl rfl) rfl ?_)
    refine wl rfl (oextract (vs:=[.agg #[.bool (ng z9),.slice p9 n9 c9],.agg #[.bool (ng z10),.slice p10 n10 c10],.int .i64 0]) (v:=.int .i64 0) rfl rfl (ev rfl rfl) rfl ?_)
    refine wl rfl (oalloc [.bool false,.slice none 0 0] hS rfl rfl Tryz.zeroValue28 rfl ?_)
    clear hS; intro g34 w35 hS
    refine wl rfl (oalloc [.bool false,.slice none 0 0] hS rfl rfl Tryz.zeroValue28 rfl ?_)
    clear hS; intro g36 w37 hS
    refine wl rfl (ostore [.bool (ng z9),.slice p9 n9 c9] [.bool (ng z9),.slice p9 n9 c9] Tryz.sizeOf28 hS 1 rfl rfl (ev rfl rfl) (ev (v:=.agg #[.bool (ng z9),.slice p9 n9 c9]) rfl rfl) rfl rfl rfl rfl rfl rfl ?_)
    clear hS; intro w38 hS
    refine wl rfl (ostore [.bool (ng z10),.slice p10 n10 c10] [.bool (ng z10),.slice p10 n10 c10] Tryz.sizeOf28 hS 0 rfl rfl (ev rfl rfl) (ev (v:=.agg #[.bool (ng z10),.slice p10 n10 c10]) rfl rfl) rfl rfl rfl rfl rfl rfl ?_)
    clear hS; intro w39 hS
    refine wl rfl (oassign (v:=.int .i64 0) rfl rfl (ev rfl rfl) ?_)
    refine wnil (thenN (wseq ?_))
    obtain ⟨z11,hz11⟩:∃ z:Int,Hid (x * z10 = z):=⟨_,rfl⟩
    have hk11:Wd z11 200000000000:=Wd.mul hx.wd hk10 hz11 (by omega)
    obtain ⟨z12,hz12⟩:∃ z:Int,Hid (ra - z11 = z):=⟨_,rfl⟩
    have hk12:Wd z12 200000000001:=Wd.sub hkra hk11 hz12 (by omega)
    obtain ⟨z13,hz13⟩:∃ z:Int,Hid (Int.tdiv z12 y = z):=⟨_,rfl⟩
    have hk13:Wd z13 200000000001:=Wd.tdiv hk12 hz13
    refine wstage 11 [76,77,78,79,80,81,82,75,83,84,20] [[],[],[],[1,2],[0,3,1,2],[],[4,5,0,1,2,3],[6,0,1,2,3,4,5],[6,7,0,1,2,3,4,5],[6,7,0,1,2,3,4,5],[]] [[],[],[],[],[],[],[],[6],[6],[],[]] [9] [] (fun i => ([fun _ => Is (.agg #[.bool (ng ra),.slice pra nra cra]),fun _ => Is (.agg #[.bool b,.slice p n c]),fun _ => Is (.agg #[.bool (ng z10),.slice p10 n10 c10]),fun _ => Zt z11,fun _ => Zt z12,fun _ => Is (.agg #[.bool b2,.slice q m d]),fun _ => ZEt z13 0,fun us => Is (.tuple #[.agg #[.bool (ng z13),(vat (us.getD 0 undef) [0,1])],.int .i64 0]),fun us => Is (.agg #[.bool (ng z13),(vat (us.getD 0 undef) [0,1])]),fun _ => Is (.int .i64 0),fun _ => Ptr [.bool false,.slice none 0 0] 28]:List (List Value → Tell)).getD i (fun _ _ _ => False)) (heldNil) (fun d _ _ _ _ h => (by cases d <;> exact h)) (by kernel_rfl) (by kernel_rfl) (by kernel_rfl) hS ?_ ?_
    ·
     refine stepsCons rfl (fun Q f' w' ρ S ho hT hS hB => ?_) ?_
     ·exact .inl ⟨want_none rfl,oload (vs:=[.bool (ng ra),.slice pra nra cra]) aggZ hS 7 rfl rfl (ev rfl (ho 14 rfl)) rfl rfl rfl ⟨_,_,rfl,isI,New.same _⟩⟩
     refine stepsCons rfl (fun Q f' w' ρ S ho hT hS hB => ?_) ?_
     ·exact .inl ⟨want_none rfl,oload (vs:=[.bool b,.slice p n c]) aggZ hS 20 rfl rfl (ev rfl (ho 2 rfl)) rfl rfl rfl ⟨_,_,rfl,isI,New.same _⟩⟩
     refine stepsCons rfl (fun Q f' w' ρ S ho hT hS hB => ?_) ?_
     ·exact .inl ⟨want_none rfl,oload (vs:=[.bool (ng z10),.slice p10 n10 c10]) aggZ hS 0 rfl rfl (ev rfl (ho 18 rfl)) rfl rfl rfl ⟨_,_,rfl,isI,New.same _⟩⟩
     refine stepsCons rfl (fun Q f' w' ρ S ho hT hS hB => ?_) ?_
     ·obtain ⟨hv1,hr1⟩:=(hT 1 77 rfl rfl:(Is (.agg #[.bool b,.slice p n c])) _ _)
      obtain ⟨hv2,hr2⟩:=(hT 2 78 rfl rfl:(Is (.agg #[.bool (ng z10),.slice p10 n10 c10])) _ _)
      obtain hS:=hS.flat2 hr1 hr2
      exact .inl ⟨want_none rfl,ocall rfl rfl Tryz.call63 rfl (wzmul ((hx.at hS).mono (by omega)) (((hS.sl 3 rfl).zr hk10).mono (by omega)) hz11) (args2 (ev rfl hv1) (ev rfl hv2)) callN⟩
     refine stepsCons rfl (fun Q f' w' ρ S ho hT hS hB => ?_) ?_
     ·obtain ⟨hv0,hr0⟩:=(hT 0 76 rfl rfl:(Is (.agg #[.bool (ng ra),.slice pra nra cra])) _ _)
      obtain ⟨p11,n11,c11,hv3,hr3⟩:=(hT 3 79 rfl rfl:(Zt z11) _ _)
      obtain hS:=hS.flat2 hr0 hr3
      exact .inl ⟨want_none rfl,ocall rfl rfl Tryz.call62 rfl (wzsub (((hS.sl 15 rfl).zr hkra).mono (by omega)) (((hS.sl 21 rfl).zr hk11).mono (by omega)) hz12) (args2 (ev rfl hv0) (ev rfl hv3)) callN⟩
     refine stepsCons rfl (fun Q f' w' ρ S ho hT hS hB => ?_) ?_
     ·exact .inl ⟨want_none rfl,oload (vs:=[.bool b2,.slice q m d]) aggZ hS 19 rfl rfl (ev rfl (ho 3 rfl)) rfl rfl rfl ⟨_,_,rfl,isI,New.same _⟩⟩
     refine stepsCons rfl (fun Q f' w' ρ S ho hT hS hB => ?_) ?_
     ·obtain ⟨p12,n12,c12,hv4,hr4⟩:=(hT 4 80 rfl rfl:(Zt z12) _ _)
      obtain ⟨hv5,hr5⟩:=(hT 5 81 rfl rfl:(Is (.agg #[.bool b2,.slice q m d])) _ _)
      obtain hS:=hS.flat2 hr4 hr5
      exact .inl ⟨want_none rfl,ocall rfl rfl Tryz.call130 rfl (wzexact (((hS.sl 21 rfl).zr hk12).mono (by omega)) ((hy.at hS).mono (by omega)) (h0) ((bez_fin (y:=0) h0 hz2 hz3 hst0 hxs (by show _ = _; rw [← hz3.out,hz7.out]; exact hz8.out) hz10 hz11 hz12).2.2.2.2.1) hz13) (args2 (ev rfl hv4) (ev rfl hv5)) callN⟩
     refine stepsCons rfl (fun Q f' w' ρ S ho hT hS hB => ?_) ?_
     ·obtain ⟨p13,n13,c13,hv6,hr6⟩:=(hT 6 82 rfl rfl:(ZEt z13 0) _ _)
      obtain hS:=hS.flat1 hr6
      have hQ:(.tuple #[.agg #[.bool (ng z13),.slice p13 n13 c13],.int .i64 0]:Value) = (fun (us:List Value) => (.tuple #[.agg #[.bool (ng z13),(vat (us.getD 0 undef) [0,1])],.int .i64 0]:Value)) [f' 82]:=by show _ = (.tuple #[.agg #[.bool (ng z13),(vat (f' 82) [0,1])],.int .i64 0]:Value); rw [hv6]; rfl
      exact .inl ⟨want_none rfl,omove (v:=.tuple #[.agg #[.bool (ng z13),.slice p13 n13 c13],.int .i64 0]) rfl rfl (ev rfl hv6) ⟨_,_,rfl,⟨hQ,rfl⟩,New.same _⟩⟩
     refine stepsCons rfl (fun Q f' w' ρ S ho hT hS hB => ?_) ?_
     ·obtain ⟨p13,n13,c13,hv6,hr6⟩:=(hT 6 82 rfl rfl:(ZEt z13 0) _ _)
      obtain ⟨hv7,hr7⟩:=(hT 7 75 rfl rfl:(fun (us:List Value) => Is (.tuple #[.agg #[.bool (ng z13),(vat (us.getD 0 undef) [0,1])],.int .i64 0])) [f' 82] _ _)
      replace hv7:f' 75 = .tuple #[.agg #[.bool (ng z13),.slice p13 n13 c13],.int .i64 0]:=hv7.trans (by show (.tuple #[.agg #[.bool (ng z13),(vat (f' 82) [0,1])],.int .i64 0]:Value) = _; rw [hv6]; rfl)
      obtain hS:=hS.flat2 hr6 hr7
      have hQ:(.agg #[.bool (ng z13),.slice p13 n13 c13]:Value) = (fun (us:List Value) => (.agg #[.bool (ng z13),(vat (us.getD 0 undef) [0,1])]:Value)) [f' 82]:=by show _ = (.agg #[.bool (ng z13),(vat (f' 82) [0,1])]:Value); rw [hv6]; rfl
      exact .inl ⟨want_none rfl,oextract (vs:=[.agg #[.bool (ng z13),.slice p13 n13 c13],.int .i64 0]) (v:=.agg #[.bool (ng z13),.slice p13 n13 c13]) rfl rfl (ev rfl hv7) rfl ⟨_,_,rfl,⟨hQ,rfl⟩,New.same _⟩⟩
     refine stepsPure rfl ?_ ?_
     ·intro f' ρ ho hT
      obtain ⟨p13,n13,c13,hv6,hr6⟩:=(hT 6 82 rfl rfl:(ZEt z13 0) _ _)
      obtain ⟨hv7,hr7⟩:=(hT 7 75 rfl rfl:(fun (us:List Value) => Is (.tuple #[.agg #[.bool (ng z13),(vat (us.getD 0 undef) [0,1])],.int .i64 0])) [f' 82] _ _)
      replace hv7:f' 75 = .tuple #[.agg #[.bool (ng z13),.slice p13 n13 c13],.int .i64 0]:=hv7.trans (by show (.tuple #[.agg #[.bool (ng z13),(vat (f' 82) [0,1])],.int .i64 0]:Value) = _; rw [hv6]; rfl)
      exact ⟨_,.inl ⟨want_none rfl,fun w hw => yextract (vs:=[.agg #[.bool (ng z13),.slice p13 n13 c13],.int .i64 0]) (v:=.int .i64 0) rfl (ev (v:=.tuple #[.agg #[.bool (ng z13),.slice p13 n13 c13],.int .i64 0]) rfl hv7) rfl w⟩,isI⟩
     refine stepsCons rfl (fun Q f' w' ρ S ho hT hS hB => ?_) ?_
     ·exact .inl ⟨want_none rfl,oallocN [.bool false,.slice none 0 0] rfl rfl Tryz.zeroValue28 rfl ⟨_,_,rfl,ptrI,New.blk _ _ _⟩⟩
     exact stepsNil
    ·
     intro vs ρ w41 f' hf hT hS
     obtain ⟨hv0,hr0⟩:=(hT 0 (by decide):(Is (.agg #[.bool (ng ra),.slice pra nra cra])) _ _)
     obtain ⟨hv1,hr1⟩:=(hT 1 (by decide):(Is (.agg #[.bool b,.slice p n c])) _ _)
     obtain ⟨hv2,hr2⟩:=(hT 2 (by decide):(Is (.agg #[.bool (ng z10),.slice p10 n10 c10])) _ _)
     obtain ⟨p11,n11,c11,hv3,hr3⟩:=(hT 3 (by decide):(Zt z11) _ _)
     obtain ⟨p12,n12,c12,hv4,hr4⟩:=(hT 4 (by decide):(Zt z12) _ _)
     obtain ⟨hv5,hr5⟩:=(hT 5 (by decide):(Is (.agg #[.bool b2,.slice q m d])) _ _)
     obtain ⟨p13,n13,c13,hv6,hr6⟩:=(hT 6 (by decide):(ZEt z13 0) _ _)
     obtain ⟨hv7,hr7⟩:=(hT 7 (by decide):(fun (us:List Value) => Is (.tuple #[.agg #[.bool (ng z13),(vat (us.getD 0 undef) [0,1])],.int .i64 0])) [vs 6] _ _)
     replace hv7:vs 7 = .tuple #[.agg #[.bool (ng z13),.slice p13 n13 c13],.int .i64 0]:=hv7.trans (by show (.tuple #[.agg #[.bool (ng z13),(vat (vs 6) [0,1])],.int .i64 0]:Value) = _; rw [hv6]; rfl)
     obtain ⟨hv8,hr8⟩:=(hT 8 (by decide):(fun (us:List Value) => Is (.agg #[.bool (ng z13),(vat (us.getD 0 undef) [0,1])])) [vs 6] _ _)
     replace hv8:vs 8 = .agg #[.bool (ng z13),.slice p13 n13 c13]:=hv8.trans (by show (.agg #[.bool (ng z13),(vat (vs 6) [0,1])]:Value) = _; rw [hv6]; rfl)
     obtain ⟨hv9,hr9⟩:=(hT 9 (by decide):(Is (.int .i64 0)) _ _)
     obtain ⟨g40,hv10,hr10⟩:=(hT 10 (by decide):(Ptr [.bool false,.slice none 0 0] 28) _ _)
     simp only [pool,if_true,hr0,hr1,hr2,hr3,hr4,hr5,hr6,hr7,hr8,hr9,hr10,List.nil_append,List.cons_append,List.append_nil] at hS
     simp only [layf,hv0,hv1,hv2,hv3,hv4,hv5,hv6,hv7,hv8,hv9,hv10] at hf
     subst hf; clear hT hv0 hv1 hv2 hv3 hv4 hv5 hv6 hv7 hv8 hv9 hv10 hr0 hr1 hr2 hr3 hr4 hr5 hr6 hr7 hr8 hr9 hr10
     refine wlate 11 rfl (by kernel_rfl) (ostore [.bool (ng z13),.slice p13 n13 c13] [.bool (ng z13),.slice p13 n13 c13] Tryz.sizeOf28 hS 0 rfl rfl (ev rfl rfl) (ev (v:=.agg #[.bool (ng z13),.slice p13 n13 c13]) rfl rfl) rfl rfl rfl rfl rfl rfl ?_)
     clear hS; intro w42 hS
     refine ⟨heldNil,?_⟩
     refine wlate 12 rfl (by kernel_rfl) (oassign (v:=.int .i64 0) rfl rfl (ev rfl rfl) ?_)
     refine ⟨heldNil,?_⟩
     refine wdone rfl ?_
     refine thenN (wseq ?_)
     refine wstage 3 [85,86,87] [[],[],[]] [[],[],[]] [1,2] [(g36,[.bool (ng z10),.slice p10 n10 c10],28),(g40,[.bool (ng z13),.slice p13 n13 c13],28)] (fun i => ([fun _ => Is (.agg #[.bool (ng ra),.slice pra nra cra]),fun _ => Is (.agg #[.bool (ng z10),.slice p10 n10 c10]),fun _ => Is (.agg #[.bool (ng z13),.slice p13 n13 c13])]:List (List Value → Tell)).getD i (fun _ _ _ => False)) ((heldCons (hS.blkAt 4 rfl) (heldCons (hS.blkAt 0 rfl) heldNil))) (fun d _ _ _ _ h => (by cases d <;> exact h)) (by kernel_rfl) (by kernel_rfl) (by kernel_rfl) hS ?_ ?_
     ·
      refine stepsCons rfl (fun Q f' w' ρ S ho hT hS hB => ?_) ?_
      ·exact .inl ⟨want_none rfl,oload (vs:=[.bool (ng ra),.slice pra nra cra]) aggZ hS 11 rfl rfl (ev rfl (ho 14 rfl)) rfl rfl rfl ⟨_,_,rfl,isI,New.same _⟩⟩
      refine stepsPure rfl ?_ ?_
      ·intro f' ρ ho hT
       exact ⟨_,.inl ⟨want_none rfl,fun w hw => yload (vs:=[.bool (ng z10),.slice p10 n10 c10]) aggZ rfl (ev rfl (ho 18 rfl)) (hw.at 0 rfl) rfl rfl⟩,isI⟩
      refine stepsPure rfl ?_ ?_
      ·intro f' ρ ho hT
       exact ⟨_,.inl ⟨want_none rfl,fun w hw => yload (vs:=[.bool (ng z13),.slice p13 n13 c13]) aggZ rfl (ev rfl (ho 20 rfl)) (hw.at 1 rfl) rfl rfl⟩,isI⟩
      exact stepsNil
     ·
      intro vs ρ w43 f' hf hT hS
      obtain ⟨hv0,hr0⟩:=(hT 0 (by decide):(Is (.agg #[.bool (ng ra),.slice pra nra cra])) _ _)
      obtain ⟨hv1,hr1⟩:=(hT 1 (by decide):(Is (.agg #[.bool (ng z10),.slice p10 n10 c10])) _ _)
      obtain ⟨hv2,hr2⟩:=(hT 2 (by decide):(Is (.agg #[.bool (ng z13),.slice p13 n13 c13])) _ _)
      simp only [pool,if_true,hr0,hr1,hr2,List.nil_append,List.cons_append,List.append_nil] at hS
      simp only [layf,hv0,hv1,hv2] at hf
      subst hf; clear hT hv0 hv1 hv2 hr0 hr1 hr2
      refine wlate 3 rfl (by kernel_rfl) (ostore [.bool (ng ra),.slice pra nra cra] [.bool (ng ra),.slice pra nra cra] Tryz.sizeOf28 hS 22 rfl rfl (ev rfl rfl) (ev (v:=.agg #[.bool (ng ra),.slice pra nra cra]) rfl rfl) rfl rfl rfl rfl rfl rfl ?_)
      clear hS; intro w44 hS
      refine ⟨(heldCons (hS.blkAt 4 rfl) (heldCons (hS.blkAt 0 rfl) heldNil)),?_⟩
      refine wlate 4 rfl (by kernel_rfl) (ostore [.bool (ng z10),.slice p10 n10 c10] [.bool (ng z10),.slice p10 n10 c10] Tryz.sizeOf28 hS 21 rfl rfl (ev rfl rfl) (ev (v:=.agg #[.bool (ng z10),.slice p10 n10 c10]) rfl rfl) rfl rfl rfl rfl rfl rfl ?_)
      clear hS; intro w45 hS
      refine ⟨(heldCons (hS.blkAt 4 rfl) (heldCons (hS.blkAt 0 rfl) heldNil)),?_⟩
      refine wlate 5 rfl (by kernel_rfl) (ostore [.bool (ng z13),.slice p13 n13 c13] [.bool (ng z13),.slice p13 n13 c13] Tryz.sizeOf28 hS 20 rfl rfl (ev rfl rfl) (ev (v:=.agg #[.bool (ng z13),.slice p13 n13 c13]) rfl rfl) rfl rfl rfl rfl rfl rfl ?_)
      clear hS; intro w46 hS
      refine ⟨(heldCons (hS.blkAt 4 rfl) (heldCons (hS.blkAt 0 rfl) heldNil)),?_⟩
      refine wdone rfl ?_
      refine thenN ?_
      refine wleave ?_
      refine wret3 Tryz.results100 (tellC (cs:=[.bool (ng ra),.slice pra nra cra]) aggZ hS 22 rfl rfl rfl rfl) (tellC (cs:=[.bool (ng z10),.slice p10 n10 c10]) aggZ hS 21 rfl rfl rfl rfl) (tellC (cs:=[.bool (ng z13),.slice p13 n13 c13]) aggZ hS 20 rfl rfl rfl rfl) ?_
      have hbz:=bez_fin (y:=z13) h0 hz2 hz3 hst0 hxs (by show _ = _; rw [← hz3.out,hz7.out]; exact hz8.out) hz10 hz11 hz12
      have hgg:=hbz.1
      have hbe:=hbz.2.2.2.2.2 hz13
      subst hgg
      exact ⟨_,_,rfl,⟨z10,z13,hbe,⟨_,_,_,_,_,_,_,_,_,rfl,rfl⟩⟩,hS.new3 19 7 1 rfl rfl rfl⟩
  ·
   refine wl rfl (obin (u:=.int .i64 s5) (v:=.int .i64 0) (z:=.bool true) rfl rfl (ev rfl rfl) evc (bin_neq (sign_neT hs5 hrb)) ?_)
   refine wnil (thenN ?_)
   refine wT (ev rfl rfl) ?_
   refine wskip (thenN (wblock (wseq (wreg (wl rfl (oload (vs:=[.bool (ng ra),.slice pra nra cra]) aggZ hS 5 rfl rfl (ev rfl rfl) rfl rfl rfl ?_))))))
   refine wl rfl (oload (vs:=[.bool (ng rb),.slice prb nrb crb]) aggZ hS 4 rfl rfl (ev rfl rfl) rfl rfl rfl ?_)
   obtain ⟨z6,hz6⟩:∃ z:Int,Hid (Int.tdiv ra rb = z):=⟨_,rfl⟩
   have hk6:Wd z6 100000000000:=Wd.tdiv hkra hz6
   obtain ⟨z7,hz7⟩:∃ z:Int,Hid (Int.tmod ra rb = z):=⟨_,rfl⟩
   have hk7:Wd z7 100000000000:=Wd.tmod hkra hz7
   refine wl rfl (ocall rfl rfl Tryz.call109 rfl (wztrunc (((hS.sl 7 rfl).zr hkra).mono (by omega)) (((hS.sl 6 rfl).zr hkrb).mono (by omega)) (hrb) hz6 hz7) (args2 (ev rfl rfl) (ev rfl rfl)) ?_)
   rintro _ w26 ⟨_,_,rfl,⟨p6,n6,c6,p7,n7,c7,rfl,rfl⟩,hN⟩
   refine ⟨_,rfl,?_⟩
   replace hS:=hS.news hN; clear hN
   refine wl rfl (omove (v:=.tuple #[.agg #[.bool (ng z6),.slice p6 n6 c6],.agg #[.bool (ng z7),.slice p7 n7 c7],.int .i64 0]) rfl rfl (ev rfl rfl) ?_)
   refine wl rfl (oextract (vs:=[.agg #[.bool (ng z6),.slice p6 n6 c6],.agg #[.bool (ng z7),.slice p7 n7 c7],.int .i64 0]) (v:=.agg #[.bool (ng z6),.slice p6 n6 c6]) rfl rfl (ev rfl rfl) rfl ?_)
   refine wl rfl (oextract (vs:=[.agg #[.bool (ng z6),.slice p6 n6 c6],.agg #[.bool (ng z7),.slice p7 n7 c7],.int .i64 0]) (v:=.agg #[.bool (ng z7),.slice p7 n7 c7]) rfl rfl (ev rfl rfl) rfl ?_)
   refine wl rfl (oextract (vs:=[.agg #[.bool (ng z6),.slice p6 n6 c6],.agg #[.bool (ng z7),.slice p7 n7 c7],.int .i64 0]) (v:=.int .i64 0) rfl rfl (ev rfl rfl) rfl ?_)
   refine wl rfl (oalloc [.bool false,.slice none 0 0] hS rfl rfl Tryz.zeroValue28 rfl ?_)
   clear hS; intro g27 w28 hS
   refine wl rfl (oalloc [.bool false,.slice none 0 0] hS rfl rfl Tryz.zeroValue28 rfl ?_)
   clear hS; intro g29 w30 hS
   refine wl rfl (ostore [.bool (ng z6),.slice p6 n6 c6] [.bool (ng z6),.slice p6 n6 c6] Tryz.sizeOf28 hS 1 rfl rfl (ev rfl rfl) (ev (v:=.agg #[.bool (ng z6),.slice p6 n6 c6]) rfl rfl) rfl rfl rfl rfl rfl rfl ?_)
   clear hS; intro w31 hS
   refine wl rfl (ostore [.bool (ng z7),.slice p7 n7 c7] [.bool (ng z7),.slice p7 n7 c7] Tryz.sizeOf28 hS 0 rfl rfl (ev rfl rfl) (ev (v:=.agg #[.bool (ng z7),.slice p7 n7 c7]) rfl rfl) rfl rfl rfl rfl rfl rfl ?_)
   clear hS; intro w32 hS
   refine wl rfl (oassign (v:=.int .i64 0) rfl rfl (ev rfl rfl) ?_)
   refine wnil (thenN (wseq ?_))
   refine wstage 2 [47,48] [[],[]] [[],[]] [1] [(g29,[.bool (ng z7),.slice p7 n7 c7],28)] (fun i => ([fun _ => Is (.agg #[.bool (ng rb),.slice prb nrb crb]),fun _ => Is (.agg #[.bool (ng z7),.slice p7 n7 c7])]:List (List Value → Tell)).getD i (fun _ _ _ => False)) ((heldCons (hS.blkAt 0 rfl) heldNil)) (fun d _ _ _ _ h => (by cases d <;> exact h)) (by kernel_rfl) (by kernel_rfl) (by kernel_rfl) hS ?_ ?_
   ·
    refine stepsCons rfl (fun Q f' w' ρ S ho hT hS hB => ?_) ?_
    ·exact .inl ⟨want_none rfl,oload (vs:=[.bool (ng rb),.slice prb nrb crb]) aggZ hS 8 rfl rfl (ev rfl (ho 8 rfl)) rfl rfl rfl ⟨_,_,rfl,isI,New.same _⟩⟩
    refine stepsPure rfl ?_ ?_
    ·intro f' ρ ho hT
     exact ⟨_,.inl ⟨want_none rfl,fun w hw => yload (vs:=[.bool (ng z7),.slice p7 n7 c7]) aggZ rfl (ev rfl (ho 12 rfl)) (hw.at 0 rfl) rfl rfl⟩,isI⟩
    exact stepsNil
   ·
    intro vs ρ w33 f' hf hT hS
    obtain ⟨hv0,hr0⟩:=(hT 0 (by decide):(Is (.agg #[.bool (ng rb),.slice prb nrb crb])) _ _)
    obtain ⟨hv1,hr1⟩:=(hT 1 (by decide):(Is (.agg #[.bool (ng z7),.slice p7 n7 c7])) _ _)
    simp only [pool,if_true,hr0,hr1,List.nil_append,List.cons_append,List.append_nil] at hS
    simp only [layf,hv0,hv1] at hf
    subst hf; clear hT hv0 hv1 hr0 hr1
    refine wlate 2 rfl (by kernel_rfl) (ostore [.bool (ng rb),.slice prb nrb crb] [.bool (ng rb),.slice prb nrb crb] Tryz.sizeOf28 hS 9 rfl rfl (ev rfl rfl) (ev (v:=.agg #[.bool (ng rb),.slice prb nrb crb]) rfl rfl) rfl rfl rfl rfl rfl rfl ?_)
    clear hS; intro w34 hS
    refine ⟨(heldCons (hS.blkAt 0 rfl) heldNil),?_⟩
    refine wlate 3 rfl (by kernel_rfl) (ostore [.bool (ng z7),.slice p7 n7 c7] [.bool (ng z7),.slice p7 n7 c7] Tryz.sizeOf28 hS 8 rfl rfl (ev rfl rfl) (ev (v:=.agg #[.bool (ng z7),.slice p7 n7 c7]) rfl rfl) rfl rfl rfl rfl rfl rfl ?_)
    clear hS; intro w35 hS
    refine ⟨(heldCons (hS.blkAt 0 rfl) heldNil),?_⟩
    refine wdone rfl ?_
    refine thenN ?_
    obtain ⟨z8,hz8⟩:∃ z:Int,Hid (z6 * xb = z):=⟨_,rfl⟩
    have hk8:Wd z8 200000000000:=Wd.mul hk6 hkxb hz8 (by omega)
    obtain ⟨z9,hz9⟩:∃ z:Int,Hid (xa - z8 = z):=⟨_,rfl⟩
    have hk9:Wd z9 200000000001:=Wd.sub hkxa hk8 hz9 (by omega)
    refine wstage 6 [49,50,51,52,53,54] [[],[],[],[],[2,3],[1,4,2,3]] [[],[],[],[],[],[]] [] [] (fun i => ([fun _ => Is (.agg #[.bool (ng xb),.slice pxb nxb cxb]),fun _ => Is (.agg #[.bool (ng xa),.slice pxa nxa cxa]),fun _ => Is (.agg #[.bool (ng z6),.slice p6 n6 c6]),fun _ => Is (.agg #[.bool (ng xb),.slice pxb nxb cxb]),fun _ => Zt z8,fun _ => Zt z9]:List (List Value → Tell)).getD i (fun _ _ _ => False)) (heldNil) (fun d _ _ _ _ h => (by cases d <;> exact h)) (by kernel_rfl) (by kernel_rfl) (by kernel_rfl) hS ?_ ?_
    ·
     refine stepsCons rfl (fun Q f' w' ρ S ho hT hS hB => ?_) ?_
     ·exact .inl ⟨want_none rfl,oload (vs:=[.bool (ng xb),.slice pxb nxb cxb]) aggZ hS 5 rfl rfl (ev rfl (ho 10 rfl)) rfl rfl rfl ⟨_,_,rfl,isI,New.same _⟩⟩
     refine stepsCons rfl (fun Q f' w' ρ S ho hT hS hB => ?_) ?_
     ·exact .inl ⟨want_none rfl,oload (vs:=[.bool (ng xa),.slice pxa nxa cxa]) aggZ hS 6 rfl rfl (ev rfl (ho 9 rfl)) rfl rfl rfl ⟨_,_,rfl,isI,New.same _⟩⟩
     refine stepsCons rfl (fun Q f' w' ρ S ho hT hS hB => ?_) ?_
     ·exact .inl ⟨want_none rfl,oload (vs:=[.bool (ng z6),.slice p6 n6 c6]) aggZ hS 1 rfl rfl (ev rfl (ho 11 rfl)) rfl rfl rfl ⟨_,_,rfl,isI,New.same _⟩⟩
     refine stepsCons rfl (fun Q f' w' ρ S ho hT hS hB => ?_) ?_
     ·exact .inl ⟨want_none rfl,oload (vs:=[.bool (ng xb),.slice pxb nxb cxb]) aggZ hS 5 rfl rfl (ev rfl (ho 10 rfl)) rfl rfl rfl ⟨_,_,rfl,isI,New.same _⟩⟩
     refine stepsCons rfl (fun Q f' w' ρ S ho hT hS hB => ?_) ?_
     ·obtain ⟨hv2,hr2⟩:=(hT 2 51 rfl rfl:(Is (.agg #[.bool (ng z6),.slice p6 n6 c6])) _ _)
      obtain ⟨hv3,hr3⟩:=(hT 3 52 rfl rfl:(Is (.agg #[.bool (ng xb),.slice pxb nxb cxb])) _ _)
      obtain hS:=hS.flat2 hr2 hr3
      exact .inl ⟨want_none rfl,ocall rfl rfl Tryz.call63 rfl (wzmul (((hS.sl 2 rfl).zr hk6).mono (by omega)) (((hS.sl 4 rfl).zr hkxb).mono (by omega)) hz8) (args2 (ev rfl hv2) (ev rfl hv3)) callN⟩
     refine stepsCons rfl (fun Q f' w' ρ S ho hT hS hB => ?_) ?_
     ·obtain ⟨hv1,hr1⟩:=(hT 1 50 rfl rfl:(Is (.agg #[.bool (ng xa),.slice pxa nxa cxa])) _ _)
      obtain ⟨p8,n8,c8,hv4,hr4⟩:=(hT 4 53 rfl rfl:(Zt z8) _ _)
      obtain hS:=hS.flat2 hr1 hr4
      exact .inl ⟨want_none rfl,ocall rfl rfl Tryz.call62 rfl (wzsub (((hS.sl 7 rfl).zr hkxa).mono (by omega)) (((hS.sl 17 rfl).zr hk8).mono (by omega)) hz9) (args2 (ev rfl hv1) (ev rfl hv4)) callN⟩
     exact stepsNil
    ·
     intro vs ρ w36 f' hf hT hS
     obtain ⟨hv0,hr0⟩:=(hT 0 (by decide):(Is (.agg #[.bool (ng xb),.slice pxb nxb cxb])) _ _)
     obtain ⟨hv1,hr1⟩:=(hT 1 (by decide):(Is (.agg #[.bool (ng xa),.slice pxa nxa cxa])) _ _)
     obtain ⟨hv2,hr2⟩:=(hT 2 (by decide):(Is (.agg #[.bool (ng z6),.slice p6 n6 c6])) _ _)
     obtain ⟨hv3,hr3⟩:=(hT 3 (by decide):(Is (.agg #[.bool (ng xb),.slice pxb nxb cxb])) _ _)
     obtain ⟨p8,n8,c8,hv4,hr4⟩:=(hT 4 (by decide):(Zt z8) _ _)
     obtain ⟨p9,n9,c9,hv5,hr5⟩:=(hT 5 (by decide):(Zt z9) _ _)
     simp only [pool,if_true,hr0,hr1,hr2,hr3,hr4,hr5,List.nil_append,List.cons_append,List.append_nil] at hS
     simp only [layf,hv0,hv1,hv2,hv3,hv4,hv5] at hf
     subst hf; clear hT hv0 hv1 hv2 hv3 hv4 hv5 hr0 hr1 hr2 hr3 hr4 hr5
     refine wlate 6 rfl (by kernel_rfl) (ostore [.bool (ng xb),.slice pxb nxb cxb] [.bool (ng xb),.slice pxb nxb cxb] Tryz.sizeOf28 hS 8 rfl rfl (ev rfl rfl) (ev (v:=.agg #[.bool (ng xb),.slice pxb nxb cxb]) rfl rfl) rfl rfl rfl rfl rfl rfl ?_)
     clear hS; intro w37 hS
     refine ⟨heldNil,?_⟩
     refine wlate 7 rfl (by kernel_rfl) (ostore [.bool (ng z9),.slice p9 n9 c9] [.bool (ng z9),.slice p9 n9 c9] Tryz.sizeOf28 hS 7 rfl rfl (ev rfl rfl) (ev (v:=.agg #[.bool (ng z9),.slice p9 n9 c9]) rfl rfl) rfl rfl rfl rfl rfl rfl ?_)
     clear hS; intro w38 hS
     refine ⟨heldNil,?_⟩
     refine wdone rfl ?_
     refine blkN (thenN ?_)
     obtain ⟨hst2,hlt⟩:=Steps3.next (by have:=hz3.out; omega) hst hrb hz6 hz7 hz8 hz9
     exact ⟨z7.natAbs,⟨_,rb,z7,xb,z9,_,_,_,_,_,_,_,_,_,_,_,_,act_sets (l:=[(2,.pointer (some ⟨g1,0,none⟩)),(3,.pointer (some ⟨g3,0,none⟩)),(4,.pointer (some ⟨g5,0,none⟩)),(5,.pointer (some ⟨g7,0,none⟩)),(6,.pointer (some ⟨g9,0,none⟩)),(7,.pointer (some ⟨g12,0,none⟩)),(8,.pointer (some ⟨g13,0,none⟩)),(9,.pointer (some ⟨g18,0,none⟩)),(10,.pointer (some ⟨g20,0,none⟩))]) ⟨rfl,rfl,rfl,rfl,rfl,rfl,rfl,rfl,rfl,trivial⟩,hS.pick [0,7,8,6,10,11,5,12,14,15,16,17,18] (by decide) rfl,hst2,rfl,(hkrb).mono (by omega),(hk7).mono (by omega),(hkxb).mono (by omega),hk3.abs hst2.b1⟩,by omega⟩
theorem wzbez {b b2:Bool} {p q:Option Addr} {n m c d:Nat} {x y:Int} {w:World} (hx:Zr w b p n c x 100000000000) (hy:Zr w b2 q m d y 100000000000) (h0:y ≠ 0) :
  Calls Tryz.prog 100 #[.agg #[.bool b,.slice p n c],.agg #[.bool b2,.slice q m d]] w (Ret (BZt x y) w):=by
 rcases Int.lt_or_le x 0 with h | h
 ·exact wzbez_n hx hy h0 h
 ·exact wzbez_p hx hy h0 h
end Go.Proofs.YtjbcjlbbipohjaaGreatDoor
