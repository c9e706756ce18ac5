/-
  Contracts and lemmas, joined in one text.
-/
import Derived.Test.YtjnpdpcldmjdjaaGreatDoorRO
set_option linter.unusedVariables false
set_option linter.unusedSimpArgs false
/-
  The walk of zint.Bezout.
-/
namespace Go.Proofs.YtjnpdpcldmjdjaaGreatDoor
open Go.RowKit
def Bez (a b x y:Int):Prop:=a * x + b * y = (Int.gcd a b:Int) ∧ 0 ≤ x ∧ x * (Int.gcd a b:Int) < b.natAbs
def BZt (a b:Int):Tell:=fun v r => ∃ x y,Bez a b x y ∧ ZZZt (Int.gcd a b) x y v r
structure Steps3 (A B r0 r1 x0 x1:Int):Prop where
  n0:0 ≤ r0
  n1:0 ≤ r1
  g:Int.gcd r0 r1 = Int.gcd A B
  c0:∃ k,r0 = x0 * A + k * B
  c1:∃ k,r1 = x1 * A + k * B
  d:(x1.natAbs:Int) * r0 + (x0.natAbs:Int) * r1 = B
  s:0 ≤ x0 ∧ x1 ≤ 0 ∨ x0 ≤ 0 ∧ 0 ≤ x1
  b0:x0.natAbs ≤ B.natAbs
  b1:x1.natAbs ≤ B.natAbs
theorem Steps3.next {A B r0 r1 x0 x1 q r m x:Int} (hB:0 < B) (h:Steps3 A B r0 r1 x0 x1) (h1:r1 ≠ 0) (hq:Hid (r0.tdiv r1 = q)) (hr:Hid (r0.tmod r1 = r)) (hm:Hid (q * x1 = m)) (hx:Hid (x0 - m = x)):Steps3 A B r1 r x1 x ∧ r.natAbs < r1.natAbs:=by
 have hr1:0 < r1:=by have:=h.n1; omega
 have e1:r0.tmod r1 = r0 % r1:=Int.tmod_eq_emod_of_nonneg h.n0
 have e2:r0.tdiv r1 = r0 / r1:=Int.tdiv_eq_ediv_of_nonneg h.n0
 have hr0:0 ≤ r:=by rw [← hr.out,e1]; exact Int.emod_nonneg _ h1
 have hr2:r < r1:=by rw [← hr.out,e1]; exact Int.emod_lt_of_pos _ hr1
 have hq0:0 ≤ q:=by rw [← hq.out,e2]; exact Int.ediv_nonneg h.n0 (by omega)
 have he:r0 = r1 * q + r:=by rw [← hq.out, ← hr.out,e1,e2]; have:=Int.mul_ediv_add_emod r0 r1; omega
 have hx':x = x0 - q * x1:=by rw [← hx.out, ← hm.out]
 have habs:(x.natAbs:Int) = x0.natAbs + q * x1.natAbs:=by
  rcases h.s with ⟨s1,s2⟩ | ⟨s1,s2⟩
  ·have h3:q * x1 ≤ 0:=Int.mul_nonpos_of_nonneg_of_nonpos hq0 s2
   have h4:q * (x1.natAbs:Int) = -(q * x1):=by rw [show (x1.natAbs:Int) = -x1 by omega,Int.mul_neg]
   rw [h4,hx']; omega
  have h3:0 ≤ q * x1:=Int.mul_nonneg hq0 s2
  have h4:q * (x1.natAbs:Int) = q * x1:=by rw [show (x1.natAbs:Int) = x1 by omega]
  rw [h4,hx']; omega
 have hsum:(x.natAbs:Int) * r1 + (x1.natAbs:Int) * r = B:=by
  have hd:=h.d
  rw [he] at hd
  rw [habs]
  rw [Int.mul_add] at hd
  rw [Int.add_mul]
  have e5:(x1.natAbs:Int) * (r1 * q) = q * (x1.natAbs:Int) * r1:=by
   rw [Int.mul_comm r1 q, ← Int.mul_assoc,Int.mul_comm _ q]
  omega
 have hbd:x.natAbs ≤ B.natAbs:=by
  have h3:0 ≤ (x1.natAbs:Int) * r:=Int.mul_nonneg (by omega) hr0
  have h4:(x.natAbs:Int) * 1 ≤ (x.natAbs:Int) * r1:=Int.mul_le_mul_of_nonneg_left (by omega) (by omega)
  omega
 refine ⟨⟨h.n1,hr0,?_,h.c1,?_,hsum,?_,h.b1,hbd⟩,by omega⟩
 ·rw [← h.g, ← hr.out]
  unfold Int.gcd
  rw [Int.natAbs_tmod,Nat.gcd_comm r0.natAbs,Nat.gcd_rec r1.natAbs r0.natAbs,Nat.gcd_comm]
 ·obtain ⟨k0,hk0⟩:=h.c0
  obtain ⟨k1,hk1⟩:=h.c1
  refine ⟨k0 - q * k1,?_⟩
  have:r = r0 - r1 * q:=by omega
  rw [this,hx',hk0,hk1]
  rw [Int.sub_mul,Int.sub_mul,Int.add_mul]
  have f1:x1 * A * q = q * x1 * A:=by rw [Int.mul_comm _ q,Int.mul_assoc]
  have f2:k1 * B * q = q * k1 * B:=by rw [Int.mul_comm _ q,Int.mul_assoc]
  omega
 rcases h.s with ⟨s1,s2⟩ | ⟨s1,s2⟩
 ·right
  have h3:q * x1 ≤ 0:=Int.mul_nonpos_of_nonneg_of_nonpos hq0 s2
  refine ⟨s2,?_⟩; omega
 left
 have h3:0 ≤ q * x1:=Int.mul_nonneg hq0 s2
 refine ⟨s2,?_⟩; omega
open Go.RowKit
def Inv (r q z:Int):Prop:=0 ≤ z ∧ z < q ∧ ∃ k,r * z + q * k = 1 % q
theorem Inv.uniq {r q z y:Int} (hz:Inv r q z) (hy:Inv r q y):z = y:=by
 obtain ⟨a1,a2,k,hk⟩:=hz
 obtain ⟨b1,b2,l,hl⟩:=hy
 have hq:0 < q:=by omega
 have h1:1 % q = 1 - q * (1 / q):=by have:=Int.emod_add_mul_ediv 1 q; omega
 -- q divides z - y
 have h2:r * (z - y) = q * (l - k):=by rw [Int.mul_sub,Int.mul_sub]; omega
 have h3:z - y = q * ((z - y) * (k + 1 / q) + (l - k) * z):=by
  have e:r * z + q * (k + 1 / q) = 1:=by rw [Int.mul_add]; omega
  have e2:(z - y) * (r * z + q * (k + 1 / q)) = z - y:=by rw [e,Int.mul_one]
  rw [Int.mul_add] at e2
  have e3:(z - y) * (r * z) = q * ((l - k) * z):=by
   rw [← Int.mul_assoc,Int.mul_comm (z - y) r,h2,Int.mul_assoc]
  have e4:(z - y) * (q * (k + 1 / q)) = q * ((z - y) * (k + 1 / q)):=by
   rw [← Int.mul_assoc,Int.mul_comm (z - y) q,Int.mul_assoc]
  rw [Int.mul_add]; omega
 generalize (z - y) * (k + 1 / q) + (l - k) * z = t at h3
 have h4:t = 0:=by
  rcases Int.lt_trichotomy t 0 with h | h | h
  ·have h5:q * t ≤ q * (-1):=Int.mul_le_mul_of_nonneg_left (by omega) (by omega)
   omega
  ·exact h
  have h5:q * 1 ≤ q * t:=Int.mul_le_mul_of_nonneg_left (by omega) (by omega)
  omega
 rw [h4,Int.mul_zero] at h3; omega
theorem Inv.wd {r q z:Int} {k:Nat} (h:Hid (Inv r q z)) (hk:Wd q k):Wd z k:=hk.abs (by have:=h.out.1; have:=h.out.2.1; omega)
theorem Steps3.startI {A B:Int} (hA:0 ≤ A) (hB:0 < B) (hAB:A < B):Steps3 A B B A 0 1 :=
  ⟨by omega,hA,Int.gcd_comm _ _,⟨1,by omega⟩,⟨0,by omega⟩,by simp,by omega,by simp,by simp; omega⟩
theorem Steps3.nextE {A B r0 r1 x0 x1 q r m x:Int} (hB:0 < B) (h:Steps3 A B r0 r1 x0 x1) (h1:r1 ≠ 0) (hq:Hid (r0 / r1 = q)) (hr:Hid (r0 % r1 = r)) (hm:Hid (q * x1 = m)) (hx:Hid (x0 - m = x)):Steps3 A B r1 r x1 x ∧ r.natAbs < r1.natAbs :=
  h.next hB h1 (by show _ = _; rw [Int.tdiv_eq_ediv_of_nonneg h.n0]; exact hq.out) (by show _ = _; rw [Int.tmod_eq_emod_of_nonneg h.n0]; exact hr.out) hm hx
theorem bezout_nat (a b:Nat):∃ u v:Int,(a:Int) * u + (b:Int) * v = (Nat.gcd a b:Int):=by
 induction a,b using Nat.gcd.induction with
 | H0 n => exact ⟨0,1,by simp⟩
 | H1 m n hm ih =>
  obtain ⟨u,v,h⟩:=ih
  refine ⟨v - (n / m:Nat) * u,u,?_⟩
  rw [Nat.gcd_rec, ← h]
  have e:(n:Int) = (m:Int) * ((n / m:Nat):Int) + ((n % m:Nat):Int):=by
   rw [← Int.natCast_mul, ← Int.natCast_add,Nat.div_add_mod]
  have e2:(n:Int) * u = (m:Int) * (((n / m:Nat):Int) * u) + ((n % m:Nat):Int) * u:=by
   rw [← Int.mul_assoc, ← Int.add_mul, ← e]
  rw [Int.mul_sub,e2]; omega
theorem Inv.some {r q:Int} (h0:0 ≤ r) (h1:r < q) (hg:Int.gcd r q = 1):∃ z,Hid (Inv r q z):=by
  obtain ⟨u,v,huv⟩:=bezout_nat r.natAbs q.natAbs
  have hg':Nat.gcd r.natAbs q.natAbs = 1:=hg
  rw [hg',show (r.natAbs:Int) = r by omega,show (q.natAbs:Int) = q by omega] at huv
  have e1:=Int.emod_add_mul_ediv u q
  refine ⟨u % q,Int.emod_nonneg _ (by omega),Int.emod_lt_of_pos _ (by omega),r * (u / q) + v - 1 / q,?_⟩
  have e2:r * (u % q) = r * u - r * (q * (u / q)):=by rw [← Int.mul_sub]; congr 1; omega
  have e3:r * (q * (u / q)) = q * (r * (u / q)):=by rw [← Int.mul_assoc,Int.mul_comm r q,Int.mul_assoc]
  have e4:=Int.emod_add_mul_ediv 1 q
  rw [Int.mul_sub,Int.mul_add]
  have huv':r * u + q * v = 1:=huv
  omega
theorem Bez.uniq {a b x y x' y':Int} (hb:b ≠ 0) (h:Bez a b x y) (h':Bez a b x' y'):x = x' ∧ y = y':=by
 obtain ⟨h1,h2,h3⟩:=h
 obtain ⟨k1,k2,k3⟩:=h'
 have hgn:0 < Int.gcd a b:=Nat.gcd_pos_of_pos_right _ (by omega)
 obtain ⟨a1,ha⟩:(Int.gcd a b:Int) ∣ a:=Int.gcd_dvd_left ..
 obtain ⟨b1,hb1⟩:(Int.gcd a b:Int) ∣ b:=Int.gcd_dvd_right ..
 generalize hG:(Int.gcd a b:Int) = g at *
 have hg:0 < g:=by omega
 have e1:a1 * x + b1 * y = 1:=Int.eq_of_mul_eq_mul_left (by omega:g ≠ 0) (by rw [Int.mul_add, ← Int.mul_assoc, ← Int.mul_assoc, ← ha, ← hb1,h1,Int.mul_one])
 have e2:a1 * x' + b1 * y' = 1:=Int.eq_of_mul_eq_mul_left (by omega:g ≠ 0) (by rw [Int.mul_add, ← Int.mul_assoc, ← Int.mul_assoc, ← ha, ← hb1,k1,Int.mul_one])
 have e3:a1 * (x - x') = b1 * (y' - y):=by rw [Int.mul_sub,Int.mul_sub]; omega
 have e4:x - x' = b1 * ((y' - y) * x + (x - x') * y):=by
  have f:=congrArg (fun t => (x - x') * t) e1
  simp only [Int.mul_add,Int.mul_one] at f
  have f1:(x - x') * (a1 * x) = b1 * ((y' - y) * x):=by rw [← Int.mul_assoc,Int.mul_comm (x - x') a1,e3,Int.mul_assoc]
  have f2:(x - x') * (b1 * y) = b1 * ((x - x') * y):=by rw [← Int.mul_assoc,Int.mul_comm (x - x') b1,Int.mul_assoc]
  rw [Int.mul_add]; omega
 have hbn:(b.natAbs:Int) = g * b1.natAbs:=by
  have:b.natAbs = g.natAbs * b1.natAbs:=by rw [← Int.natAbs_mul, ← hb1]
  rw [this,Int.natCast_mul,show (g.natAbs:Int) = g by omega]
 have hlt:∀ z:Int,z * g < b.natAbs → z < b1.natAbs:=fun z hz => by
  rcases Int.lt_or_le z b1.natAbs with h9 | h9
  ·exact h9
  have:=Int.mul_le_mul_of_nonneg_right (c:=g) h9 (by omega)
  rw [Int.mul_comm (b1.natAbs:Int) g] at this
  omega
 have l1:=hlt x h3
 have l2:=hlt x' k3
 generalize (y' - y) * x + (x - x') * y = t at e4
 have ht:t = 0:=by
  rcases Nat.eq_zero_or_pos t.natAbs with h9 | h9
  ·omega
  exfalso
  have:(x - x').natAbs = b1.natAbs * t.natAbs:=by rw [← Int.natAbs_mul, ← e4]
  have h10:b1.natAbs * 1 ≤ b1.natAbs * t.natAbs:=Nat.mul_le_mul_left _ h9
  omega
 rw [ht,Int.mul_zero] at e4
 have hxx:x = x':=by omega
 subst hxx
 exact ⟨rfl,Int.eq_of_mul_eq_mul_left hb (by omega)⟩
end Go.Proofs.YtjnpdpcldmjdjaaGreatDoor
