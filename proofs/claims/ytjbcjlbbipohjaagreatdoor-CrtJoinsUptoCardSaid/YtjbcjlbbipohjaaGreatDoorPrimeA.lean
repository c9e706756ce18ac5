
/-
  Numbers modulo a prime, plain: inverses, powers, the least divisor.
-/
import Derived.Test.YtjbcjlbbipohjaaGreatDoorMrB
set_option linter.unusedVariables false
set_option linter.unusedSimpArgs false
namespace Go.Proofs.YtjbcjlbbipohjaaGreatDoor
theorem pow_even_mod {a e n:Nat} (h:e % 2 = 0):a ^ (e / 2) % n * (a ^ (e / 2) % n) % n = a ^ e % n:=by
  rw [← Nat.mul_mod, ← Nat.pow_add]
  congr 2; omega
theorem pow_odd_mod {a e n:Nat} (h:e % 2 = 1):a ^ (e / 2) % n * (a ^ (e / 2) % n) % n * (a % n) % n = a ^ e % n:=by
  rw [← Nat.mul_mod (a ^ (e / 2)), ← Nat.pow_add, ← Nat.mul_mod, ← Nat.pow_succ]
  congr 2; omega
theorem inv_pow {p a:Nat} (hp:MR.Pr p) (ha:¬ p ∣ a):a * (a ^ (p - 2) % p) % p = 1:=by
  have h2:=hp.1
  rw [Nat.mul_mod,Nat.mod_mod, ← Nat.mul_mod,Nat.mul_comm, ← Nat.pow_succ,show (p - 2).succ = p - 1 by omega]
  exact MR.flt hp ha
theorem inv_uniq {p a x y:Nat} (hp:MR.Pr p) (ha:¬ p ∣ a) (hx:x < p) (hy:y < p) (h1:a * x % p = 1) (h2:a * y % p = 1):x = y:=by
 have key:∀ u v:Nat,u ≤ v → v < p → a * u % p = 1 → a * v % p = 1 → u = v:=fun u v huv hv hu1 hv1 => by
  have hd:p ∣ a * (v - u):=by
   rw [Nat.mul_sub]
   have h1:=Nat.mod_add_div (a * u) p
   have h2:=Nat.mod_add_div (a * v) p
   rw [hu1] at h1; rw [hv1] at h2
   refine ⟨a * v / p - a * u / p,?_⟩
   rw [Nat.mul_sub]; omega
  rcases hp.dvd_mul hd with h | h
  ·exact absurd h ha
  ·have:=Nat.eq_zero_of_dvd_of_lt h (by omega); omega
 rcases Nat.le_total x y with h | h
 ·exact key x y h hy h1 h2
 ·exact (key y x h hx h2 h1).symm
theorem inv_is {p a x:Nat} (hp:MR.Pr p) (ha:¬ p ∣ a) (hx:x < p) (h1:a * x % p = 1):x = a ^ (p - 2) % p :=
  inv_uniq hp ha hx (Nat.mod_lt _ (by have:=hp.1; omega)) h1 (inv_pow hp ha)
structure EInv (p a r s:Nat) (x y:Int):Prop where
  r0:0 < r
  rp:r ≤ p
  sp:s ≤ p
  g:Nat.gcd r s = 1
  cx:(p:Int) ∣ (r:Int) - x * a
  cy:(p:Int) ∣ (s:Int) - y * a
  uv:∃ u v:Nat,u ≤ p ∧ v ≤ p ∧ u * s + v * r = p ∧ ((x = -(u:Int) ∧ y = v) ∨ (x = u ∧ y = -(v:Int)))
theorem EInv.init {p a:Nat} (hp:MR.Pr p) (ha:¬ p ∣ a):EInv p a p (a % p) 0 1:=by
 have h2:=hp.1
 have hm:=Nat.mod_lt a (show 0 < p by omega)
 refine ⟨by omega,Nat.le_refl _,by omega,?_,?_,?_,0,1,by omega,by omega,by omega,.inl ⟨rfl,rfl⟩⟩
 ·rw [Nat.gcd_comm, ← Nat.gcd_rec,Nat.gcd_comm]
  rcases hp.2 _ (Nat.gcd_dvd_right a p) with h | h
  ·exact h
  ·exact absurd (h ▸ Nat.gcd_dvd_left a p) ha
 ·exact ⟨1,by omega⟩
 ·refine ⟨-((a / p:Nat):Int),?_⟩
  have:=Nat.mod_add_div a p
  have h3:((a % p:Nat):Int) + ((p * (a / p):Nat):Int) = (a:Int):=by exact_mod_cast this
  rw [Int.natCast_mul] at h3
  rw [Int.mul_neg]
  omega
theorem EInv.bd {p a r s:Nat} {x y:Int} (h:EInv p a r s x y) : -(p:Int) ≤ x ∧ x ≤ p ∧ -(p:Int) ≤ y ∧ y ≤ p:=by
  obtain ⟨u,v,hu,hv,_,h | h⟩:=h.uv <;> omega
theorem EInv.next {p a r s:Nat} {x y:Int} (h:EInv p a r s x y) (hs:s ≠ 0):EInv p a s (r % s) y (x - ((r / s:Nat):Int) * y) ∧ -(p:Int) ≤ ((r / s:Nat):Int) * y ∧ ((r / s:Nat):Int) * y ≤ p:=by
 obtain ⟨u,v,hu,hv,he,hxy⟩:=h.uv
 have hdm:=Nat.mod_add_div r s
 have hlt:=Nat.mod_lt r (show 0 < s by omega)
 -- the next pair's equation
 have e2:v * (r % s) + (u + r / s * v) * s = p:=by
  have:v * r = v * (r % s) + r / s * v * s:=by
   conv => lhs; rw [← hdm]
   rw [Nat.mul_add,Nat.mul_comm s (r / s), ← Nat.mul_assoc,Nat.mul_comm v (r / s)]
  rw [Nat.add_mul]; omega
 have hv2:u + r / s * v ≤ p:=by
  have h1:(u + r / s * v) * 1 ≤ (u + r / s * v) * s:=Nat.mul_le_mul_left _ (by omega)
  omega
 have hq:((r / s * v:Nat):Int) = ((r / s:Nat):Int) * (v:Int):=Int.natCast_mul _ _
 have hqy:((r / s:Nat):Int) * y = ((r / s * v:Nat):Int) ∨ ((r / s:Nat):Int) * y = -((r / s * v:Nat):Int):=by
  rcases hxy with ⟨_,rfl⟩ | ⟨_,rfl⟩
  ·exact .inl hq.symm
  ·exact .inr (by rw [Int.mul_neg,hq])
 refine ⟨⟨by omega,h.sp,by have:=h.sp; omega,?_,h.cy,?_,v,u + r / s * v,hv,hv2,by rw [Nat.add_comm] at e2; omega,?_⟩,by omega,by omega⟩
 ·rw [Nat.gcd_comm, ← Nat.gcd_rec,Nat.gcd_comm]; exact h.g
 ·have e3:((r % s:Nat):Int) - (x - ((r / s:Nat):Int) * y) * a = ((r:Int) - x * a) - ((r / s:Nat):Int) * ((s:Int) - y * a):=by
   have h3:((r % s:Nat):Int) + (s:Int) * ((r / s:Nat):Int) = (r:Int):=by exact_mod_cast hdm
   rw [← h3,Int.sub_mul,Int.mul_sub,Int.mul_comm (s:Int),Int.mul_assoc]
   omega
  rw [e3]
  exact Int.dvd_sub h.cx (Int.dvd_trans h.cy (Int.dvd_mul_left _ _))
 ·rcases hxy with ⟨rfl,rfl⟩ | ⟨rfl,rfl⟩
  ·right
   refine ⟨rfl,?_⟩
   rw [Int.natCast_add,hq]; omega
  ·left
   refine ⟨rfl,?_⟩
   rw [Int.natCast_add,hq,Int.mul_neg]; omega
theorem EInv.done {p a r:Nat} {x y:Int} (hp:MR.Pr p) (ha:¬ p ∣ a) (h:EInv p a r 0 x y):((x + p).tmod p) = ((a ^ (p - 2) % p:Nat):Int):=by
 have h2:=hp.1
 obtain ⟨hb,hb2,_⟩:=h.bd
 obtain rfl:r = 1:=by have:=h.g; rwa [Nat.gcd_zero_right] at this
 obtain ⟨k,hk⟩:∃ k:Nat,x + p = k:=⟨(x + p).toNat,by omega⟩
 rw [hk,show ((k:Nat):Int).tmod (p:Int) = ((k % p:Nat):Int) from rfl]
 congr 1
 refine inv_is hp ha (Nat.mod_lt _ (by omega)) ?_
 rw [Nat.mul_mod,Nat.mod_mod, ← Nat.mul_mod]
 have hc:=h.cx
 rw [show x = (k:Int) - p by omega] at hc
 have hd:(p:Int) ∣ (1:Int) - ((a * k:Nat):Int):=by
  have e:(1:Int) - ((a * k:Nat):Int) = (((1:Nat):Int) - ((k:Int) - p) * a) - p * a:=by
   rw [Int.natCast_mul,Int.sub_mul,Int.mul_comm (a:Int)]; omega
  rw [e]
  exact Int.dvd_sub hc (Int.dvd_mul_right _ _)
 have h3:=MR.mod_cg (n:=p) (a:=1) (b:=a * k) hd
 rw [Nat.mod_eq_of_lt (by omega:1 < p)] at h3
 exact h3.symm
theorem ld_ex {n:Nat} (h:2 ≤ n):∃ d,2 ≤ d ∧ d ∣ n ∧ ∀ e,2 ≤ e → e ∣ n → d ≤ e:=by
  obtain ⟨p,hp,hd,hl⟩:=MR.pr_least n h
  refine ⟨p,hp.1,hd,fun e he hen => ?_⟩
  obtain ⟨q,hq,hqe⟩:=MR.pr_ex e he
  exact Nat.le_trans (hl q hq (Nat.dvd_trans hqe hen)) (Nat.le_of_dvd (by omega) hqe)
open Classical in
noncomputable def ld (n:Nat):Nat:=if h:2 ≤ n then Classical.choose (ld_ex h) else n
theorem pr_of {n:Nat} (h2:2 ≤ n) (h:∀ d,d < n → 2 ≤ d → ¬ d ∣ n):MR.Pr n:=⟨h2,fun d hd => by
 have hle:=Nat.le_of_dvd (by omega) hd
 have hpos:=Nat.pos_of_dvd_of_pos hd (by omega)
 rcases Nat.lt_or_ge d n with h' | h'
 ·rcases Nat.lt_or_ge d 2 with h3 | h3
  ·left; omega
  ·exact absurd hd (h d h' h3)
 ·right; omega⟩
def spL:List Nat:=[2,3,5,7,11,13,61]
theorem spL_pr {i:Nat} (h:i < 7):MR.Pr (spL.getD i 0):=by
  have key:∀ i,i < 7 → 2 ≤ spL.getD i 0 ∧ ∀ d,d < spL.getD i 0 → 2 ≤ d → ¬ d ∣ spL.getD i 0:=by decide
  exact pr_of (key i h).1 (key i h).2
def bsL:List Nat:=[2,7,61]
end Go.Proofs.YtjbcjlbbipohjaaGreatDoor
