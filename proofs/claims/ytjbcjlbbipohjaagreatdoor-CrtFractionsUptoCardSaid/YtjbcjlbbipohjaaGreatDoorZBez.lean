
/-
  The walk of zint.Bezout.
-/
import Derived.Test.YtjbcjlbbipohjaaGreatDoorZDiv
set_option linter.unusedVariables false
set_option linter.unusedSimpArgs false
set_option maxRecDepth 100000
set_option maxHeartbeats 16000000
namespace Go.Proofs.YtjbcjlbbipohjaaGreatDoor
open Go.RowKit
def Bez (a b x y:Int):Prop:=a * x + b * y = (Int.gcd a b:Int) ∧ 0 ≤ x ∧ x * (Int.gcd a b:Int) < b.natAbs
def BZt (a b:Int):Tell:=fun v r => ∃ x y,Bez a b x y ∧ ZZZt (Int.gcd a b) x y v r
structure Steps3 (A B r0 r1 x0 x1:Int):Prop where
  n0:0 ≤ r0
  n1:0 ≤ r1
  g:Int.gcd r0 r1 = Int.gcd A B
  c0:∃ k,r0 = x0 * A + k * B
  c1:∃ k,r1 = x1 * A + k * B
  d:(x1.natAbs:Int) * r0 + (x0.natAbs:Int) * r1 = B
  s:0 ≤ x0 ∧ x1 ≤ 0 ∨ x0 ≤ 0 ∧ 0 ≤ x1
  b0:x0.natAbs ≤ B.natAbs
  b1:x1.natAbs ≤ B.natAbs
theorem Steps3.next {A B r0 r1 x0 x1 q r m x:Int} (hB:0 < B) (h:Steps3 A B r0 r1 x0 x1) (h1:r1 ≠ 0) (hq:Hid (r0.tdiv r1 = q)) (hr:Hid (r0.tmod r1 = r)) (hm:Hid (q * x1 = m)) (hx:Hid (x0 - m = x)):Steps3 A B r1 r x1 x ∧ r.natAbs < r1.natAbs:=by
 have hr1:0 < r1:=by have:=h.n1; omega
 have e1:r0.tmod r1 = r0 % r1:=Int.tmod_eq_emod_of_nonneg h.n0
 have e2:r0.tdiv r1 = r0 / r1:=Int.tdiv_eq_ediv_of_nonneg h.n0
 have hr0:0 ≤ r:=by rw [← hr.out,e1]; exact Int.emod_nonneg _ h1
 have hr2:r < r1:=by rw [← hr.out,e1]; exact Int.emod_lt_of_pos _ hr1
 have hq0:0 ≤ q:=by rw [← hq.out,e2]; exact Int.ediv_nonneg h.n0 (by omega)
 have he:r0 = r1 * q + r:=by rw [← hq.out, ← hr.out,e1,e2]; have:=Int.mul_ediv_add_emod r0 r1; omega
 have hx':x = x0 - q * x1:=by rw [← hx.out, ← hm.out]
 have habs:(x.natAbs:Int) = x0.natAbs + q * x1.natAbs:=by
  rcases h.s with ⟨s1,s2⟩ | ⟨s1,s2⟩
  ·have h3:q * x1 ≤ 0:=Int.mul_nonpos_of_nonneg_of_nonpos hq0 s2
   have h4:q * (x1.natAbs:Int) = -(q * x1):=by rw [show (x1.natAbs:Int) = -x1 by omega,Int.mul_neg]
   rw [h4,hx']; omega
  ·have h3:0 ≤ q * x1:=Int.mul_nonneg hq0 s2
   have h4:q * (x1.natAbs:Int) = q * x1:=by rw [show (x1.natAbs:Int) = x1 by omega]
   rw [h4,hx']; omega
 have hsum:(x.natAbs:Int) * r1 + (x1.natAbs:Int) * r = B:=by
  have hd:=h.d
  rw [he] at hd
  rw [habs]
  rw [Int.mul_add] at hd
  rw [Int.add_mul]
  have e5:(x1.natAbs:Int) * (r1 * q) = q * (x1.natAbs:Int) * r1:=by
   rw [Int.mul_comm r1 q, ← Int.mul_assoc,Int.mul_comm _ q]
  omega
 have hbd:x.natAbs ≤ B.natAbs:=by
  have h3:0 ≤ (x1.natAbs:Int) * r:=Int.mul_nonneg (by omega) hr0
  have h4:(x.natAbs:Int) * 1 ≤ (x.natAbs:Int) * r1:=Int.mul_le_mul_of_nonneg_left (by omega) (by omega)
  omega
 refine ⟨⟨h.n1,hr0,?_,h.c1,?_,hsum,?_,h.b1,hbd⟩,by omega⟩
 ·rw [← h.g, ← hr.out]
  unfold Int.gcd
  rw [Int.natAbs_tmod,Nat.gcd_comm r0.natAbs,Nat.gcd_rec r1.natAbs r0.natAbs,Nat.gcd_comm]
 ·obtain ⟨k0,hk0⟩:=h.c0
  obtain ⟨k1,hk1⟩:=h.c1
  refine ⟨k0 - q * k1,?_⟩
  have:r = r0 - r1 * q:=by omega
  rw [this,hx',hk0,hk1]
  rw [Int.sub_mul,Int.sub_mul,Int.add_mul]
  have f1:x1 * A * q = q * x1 * A:=by rw [Int.mul_comm _ q,Int.mul_assoc]
  have f2:k1 * B * q = q * k1 * B:=by rw [Int.mul_comm _ q,Int.mul_assoc]
  omega
 ·rcases h.s with ⟨s1,s2⟩ | ⟨s1,s2⟩
  ·right
   have h3:q * x1 ≤ 0:=Int.mul_nonpos_of_nonneg_of_nonpos hq0 s2
   refine ⟨s2,?_⟩; omega
  ·left
   have h3:0 ≤ q * x1:=Int.mul_nonneg hq0 s2
   refine ⟨s2,?_⟩; omega
end Go.Proofs.YtjbcjlbbipohjaaGreatDoor
