
/-
  The walks of simileref03.inverse and Bezout and of similelaw03.ZintBezout.
-/
import Derived.Test.YtjbcjlbbipohjaaGreatDoorZBez
set_option linter.unusedVariables false
set_option linter.unusedSimpArgs false
set_option maxRecDepth 100000
set_option maxHeartbeats 16000000
namespace Go.Proofs.YtjbcjlbbipohjaaGreatDoor
open Go.RowKit
def Inv (r q z:Int):Prop:=0 ≤ z ∧ z < q ∧ ∃ k,r * z + q * k = 1 % q
theorem Inv.uniq {r q z y:Int} (hz:Inv r q z) (hy:Inv r q y):z = y:=by
 obtain ⟨a1,a2,k,hk⟩:=hz
 obtain ⟨b1,b2,l,hl⟩:=hy
 have hq:0 < q:=by omega
 have h1:1 % q = 1 - q * (1 / q):=by have:=Int.emod_add_mul_ediv 1 q; omega
 -- q divides z - y
 have h2:r * (z - y) = q * (l - k):=by rw [Int.mul_sub,Int.mul_sub]; omega
 have h3:z - y = q * ((z - y) * (k + 1 / q) + (l - k) * z):=by
  have e:r * z + q * (k + 1 / q) = 1:=by rw [Int.mul_add]; omega
  have e2:(z - y) * (r * z + q * (k + 1 / q)) = z - y:=by rw [e,Int.mul_one]
  rw [Int.mul_add] at e2
  have e3:(z - y) * (r * z) = q * ((l - k) * z):=by
   rw [← Int.mul_assoc,Int.mul_comm (z - y) r,h2,Int.mul_assoc]
  have e4:(z - y) * (q * (k + 1 / q)) = q * ((z - y) * (k + 1 / q)):=by
   rw [← Int.mul_assoc,Int.mul_comm (z - y) q,Int.mul_assoc]
  rw [Int.mul_add]; omega
 generalize (z - y) * (k + 1 / q) + (l - k) * z = t at h3
 have h4:t = 0:=by
  rcases Int.lt_trichotomy t 0 with h | h | h
  ·have h5:q * t ≤ q * (-1):=Int.mul_le_mul_of_nonneg_left (by omega) (by omega)
   omega
  ·exact h
  ·have h5:q * 1 ≤ q * t:=Int.mul_le_mul_of_nonneg_left (by omega) (by omega)
   omega
 rw [h4,Int.mul_zero] at h3; omega
theorem Inv.wd {r q z:Int} {k:Nat} (h:Hid (Inv r q z)) (hk:Wd q k):Wd z k:=hk.abs (by have:=h.out.1; have:=h.out.2.1; omega)
theorem Steps3.startI {A B:Int} (hA:0 ≤ A) (hB:0 < B) (hAB:A < B):Steps3 A B B A 0 1 :=
  ⟨by omega,hA,Int.gcd_comm _ _,⟨1,by omega⟩,⟨0,by omega⟩,by simp,by omega,by simp,by simp; omega⟩
theorem Steps3.nextE {A B r0 r1 x0 x1 q r m x:Int} (hB:0 < B) (h:Steps3 A B r0 r1 x0 x1) (h1:r1 ≠ 0) (hq:Hid (r0 / r1 = q)) (hr:Hid (r0 % r1 = r)) (hm:Hid (q * x1 = m)) (hx:Hid (x0 - m = x)):Steps3 A B r1 r x1 x ∧ r.natAbs < r1.natAbs :=
  h.next hB h1 (by show _ = _; rw [Int.tdiv_eq_ediv_of_nonneg h.n0]; exact hq.out) (by show _ = _; rw [Int.tmod_eq_emod_of_nonneg h.n0]; exact hr.out) hm hx
theorem bezout_nat (a b:Nat):∃ u v:Int,(a:Int) * u + (b:Int) * v = (Nat.gcd a b:Int):=by
 induction a,b using Nat.gcd.induction with
 | H0 n => exact ⟨0,1,by simp⟩
 | H1 m n hm ih =>
  obtain ⟨u,v,h⟩:=ih
  refine ⟨v - (n / m:Nat) * u,u,?_⟩
  rw [Nat.gcd_rec, ← h]
  have e:(n:Int) = (m:Int) * ((n / m:Nat):Int) + ((n % m:Nat):Int):=by
   rw [← Int.natCast_mul, ← Int.natCast_add,Nat.div_add_mod]
  have e2:(n:Int) * u = (m:Int) * (((n / m:Nat):Int) * u) + ((n % m:Nat):Int) * u:=by
   rw [← Int.mul_assoc, ← Int.add_mul, ← e]
  rw [Int.mul_sub,e2]; omega
theorem Inv.some {r q:Int} (h0:0 ≤ r) (h1:r < q) (hg:Int.gcd r q = 1):∃ z,Hid (Inv r q z):=by
  obtain ⟨u,v,huv⟩:=bezout_nat r.natAbs q.natAbs
  have hg':Nat.gcd r.natAbs q.natAbs = 1:=hg
  rw [hg',show (r.natAbs:Int) = r by omega,show (q.natAbs:Int) = q by omega] at huv
  have e1:=Int.emod_add_mul_ediv u q
  refine ⟨u % q,Int.emod_nonneg _ (by omega),Int.emod_lt_of_pos _ (by omega),r * (u / q) + v - 1 / q,?_⟩
  have e2:r * (u % q) = r * u - r * (q * (u / q)):=by rw [← Int.mul_sub]; congr 1; omega
  have e3:r * (q * (u / q)) = q * (r * (u / q)):=by rw [← Int.mul_assoc,Int.mul_comm r q,Int.mul_assoc]
  have e4:=Int.emod_add_mul_ediv 1 q
  rw [Int.mul_sub,Int.mul_add]
  have huv':r * u + q * v = 1:=huv
  omega
theorem Bez.uniq {a b x y x' y':Int} (hb:b ≠ 0) (h:Bez a b x y) (h':Bez a b x' y'):x = x' ∧ y = y':=by
 obtain ⟨h1,h2,h3⟩:=h
 obtain ⟨k1,k2,k3⟩:=h'
 have hgn:0 < Int.gcd a b:=Nat.gcd_pos_of_pos_right _ (by omega)
 obtain ⟨a1,ha⟩:(Int.gcd a b:Int) ∣ a:=Int.gcd_dvd_left ..
 obtain ⟨b1,hb1⟩:(Int.gcd a b:Int) ∣ b:=Int.gcd_dvd_right ..
 generalize hG:(Int.gcd a b:Int) = g at *
 have hg:0 < g:=by omega
 have e1:a1 * x + b1 * y = 1:=Int.eq_of_mul_eq_mul_left (by omega:g ≠ 0) (by rw [Int.mul_add, ← Int.mul_assoc, ← Int.mul_assoc, ← ha, ← hb1,h1,Int.mul_one])
 have e2:a1 * x' + b1 * y' = 1:=Int.eq_of_mul_eq_mul_left (by omega:g ≠ 0) (by rw [Int.mul_add, ← Int.mul_assoc, ← Int.mul_assoc, ← ha, ← hb1,k1,Int.mul_one])
 have e3:a1 * (x - x') = b1 * (y' - y):=by rw [Int.mul_sub,Int.mul_sub]; omega
 have e4:x - x' = b1 * ((y' - y) * x + (x - x') * y):=by
  have f:=congrArg (fun t => (x - x') * t) e1
  simp only [Int.mul_add,Int.mul_one] at f
  have f1:(x - x') * (a1 * x) = b1 * ((y' - y) * x):=by rw [← Int.mul_assoc,Int.mul_comm (x - x') a1,e3,Int.mul_assoc]
  have f2:(x - x') * (b1 * y) = b1 * ((x - x') * y):=by rw [← Int.mul_assoc,Int.mul_comm (x - x') b1,Int.mul_assoc]
  rw [Int.mul_add]; omega
 have hbn:(b.natAbs:Int) = g * b1.natAbs:=by
  have:b.natAbs = g.natAbs * b1.natAbs:=by rw [← Int.natAbs_mul, ← hb1]
  rw [this,Int.natCast_mul,show (g.natAbs:Int) = g by omega]
 have hlt:∀ z:Int,z * g < b.natAbs → z < b1.natAbs:=fun z hz => by
  rcases Int.lt_or_le z b1.natAbs with h9 | h9
  ·exact h9
  ·have:=Int.mul_le_mul_of_nonneg_right (c:=g) h9 (by omega)
   rw [Int.mul_comm (b1.natAbs:Int) g] at this
   omega
 have l1:=hlt x h3
 have l2:=hlt x' k3
 generalize (y' - y) * x + (x - x') * y = t at e4
 have ht:t = 0:=by
  rcases Nat.eq_zero_or_pos t.natAbs with h9 | h9
  ·omega
  ·exfalso
   have:(x - x').natAbs = b1.natAbs * t.natAbs:=by rw [← Int.natAbs_mul, ← e4]
   have h10:b1.natAbs * 1 ≤ b1.natAbs * t.natAbs:=Nat.mul_le_mul_left _ h9
   omega
 rw [ht,Int.mul_zero] at e4
 have hxx:x = x':=by omega
 subst hxx
 exact ⟨rfl,Int.eq_of_mul_eq_mul_left hb (by omega)⟩
end Go.Proofs.YtjbcjlbbipohjaaGreatDoor
