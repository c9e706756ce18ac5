
/-
  The strong test: what it says modulo a divisor; that primes pass it; as a function that the kernel reckons quickly.
-/
import Derived.Test.YtjbcjlbbipohjaaGreatDoorMrA
set_option linter.unusedVariables false
set_option linter.unusedSimpArgs false
namespace Go.Proofs.YtjbcjlbbipohjaaGreatDoor.MR
def Cg (n:Nat) (x y:Int):Prop:=(n:Int) ∣ x - y
theorem Cg.refl (n:Nat) (x:Int):Cg n x x:=⟨0,by omega⟩
theorem Cg.symm {n:Nat} {x y:Int} (h:Cg n x y):Cg n y x:=by
  obtain ⟨k,hk⟩:=h
  exact ⟨-k,by rw [Int.mul_neg, ← hk]; omega⟩
theorem Cg.trans {n:Nat} {x y z:Int} (h:Cg n x y) (h':Cg n y z):Cg n x z:=by
  have:=Int.dvd_add h h'
  rwa [show x - y + (y - z) = x - z by omega] at this
theorem Cg.mul {n:Nat} {x y u v:Int} (h:Cg n x y) (h':Cg n u v):Cg n (x * u) (y * v):=by
  obtain ⟨k,hk⟩:=h
  obtain ⟨l,hl⟩:=h'
  refine ⟨k * u + y * l,?_⟩
  have e1:x = y + n * k:=by omega
  have e2:u = v + n * l:=by omega
  rw [e1,e2]; grind
theorem Cg.pow {n:Nat} {x y:Int} (h:Cg n x y):∀ k:Nat,Cg n (x ^ k) (y ^ k)
  | 0 => by simpa using Cg.refl n 1
  | k + 1 => by rw [Int.pow_succ,Int.pow_succ]; exact (h.pow k).mul h
theorem Cg.dvd {n q:Nat} {x y:Int} (h:Cg n x y) (hq:q ∣ n):Cg q x y:=Int.dvd_trans (Int.natCast_dvd_natCast.2 hq) h
theorem cg_mod {n a b:Nat} (h:a % n = b % n):Cg n (a:Int) (b:Int):=by
 unfold Cg
 have:((a:Int) - b) % n = 0:=by
  have h1:((a:Int) % n) = ((b:Int) % n):=by exact_mod_cast h
  rw [Int.sub_emod,h1,Int.sub_self]; simp
 exact Int.dvd_of_emod_eq_zero this
theorem mod_cg {n a b:Nat} (h:Cg n (a:Int) (b:Int)):a % n = b % n:=by
  have h1:((a:Int) % n) = ((b:Int) % n):=Int.emod_eq_emod_iff_emod_sub_eq_zero.2 (Int.emod_eq_zero_of_dvd h)
  exact_mod_cast h1
theorem neg1_odd {D:Nat} (h:D % 2 = 1):(-1:Int) ^ D = -1:=by
  obtain ⟨k,rfl⟩:∃ k,D = 2 * k + 1:=⟨D / 2,by omega⟩
  rw [Int.pow_succ,Int.pow_mul,show ((-1:Int) ^ 2) = 1 from rfl,Int.one_pow]; rfl
theorem neg1_even {D:Nat} (h:D % 2 = 0):(-1:Int) ^ D = 1:=by
  obtain ⟨k,rfl⟩:∃ k,D = 2 * k:=⟨D / 2,by omega⟩
  rw [Int.pow_mul,show ((-1:Int) ^ 2) = 1 from rfl,Int.one_pow]
def Cl (n a v:Nat):Prop := ∃ D,D % 2 = 1 ∧ ((v = 0 ∧ Cg n ((a:Int) ^ D) 1) ∨ ∃ u,v = u + 1 ∧ Cg n ((a:Int) ^ (D * 2 ^ u)) (-1))
theorem Cl.dvd {n q a v:Nat} (h:Cl n a v) (hq:q ∣ n):Cl q a v:=by
  obtain ⟨D,h1,h2⟩:=h
  refine ⟨D,h1,?_⟩
  rcases h2 with ⟨h2,h3⟩ | ⟨u,h2,h3⟩
  · exact .inl ⟨h2,h3.dvd hq⟩
  · exact .inr ⟨u,h2,h3.dvd hq⟩
theorem cg_two {q:Nat} (hq:2 < q) (h:Cg q 1 (-1)):False:=by
  have:=Int.le_of_dvd (by omega) h
  omega
theorem cl_lt {q a D E u u':Nat} (hq:2 < q) (hD:D % 2 = 1) (hlt:u < u') (h1:Cg q ((a:Int) ^ (D * 2 ^ u)) (-1)) (h2:Cg q ((a:Int) ^ (E * 2 ^ u')) (-1)):False:=by
 have e1:=h1.pow (E * 2 ^ (u' - u))
 have e2:=h2.pow D
 rw [neg1_odd hD] at e2
 rw [neg1_even (D:=E * 2 ^ (u' - u)) (by
  obtain ⟨k,hk⟩:∃ k,u' - u = k + 1:=⟨u' - u - 1,by omega⟩
  rw [hk,Nat.pow_succ, ← Nat.mul_assoc]; omega)] at e1
 rw [← Int.pow_mul] at e1 e2
 have e3:D * 2 ^ u * (E * 2 ^ (u' - u)) = E * 2 ^ u' * D:=by
  have:2 ^ u' = 2 ^ u * 2 ^ (u' - u):=by rw [← Nat.pow_add]; congr 1; omega
  rw [this]
  generalize 2 ^ u = A; generalize 2 ^ (u' - u) = B
  grind
 rw [e3] at e1
 exact cg_two hq (e1.symm.trans e2)
theorem cl_zero {q a D E u:Nat} (hq:2 < q) (hD:D % 2 = 1) (h1:Cg q ((a:Int) ^ D) 1) (h2:Cg q ((a:Int) ^ (E * 2 ^ u)) (-1)):False:=by
  have e1:=h1.pow (E * 2 ^ u)
  have e2:=h2.pow D
  rw [neg1_odd hD, ← Int.pow_mul] at e2
  rw [Int.one_pow, ← Int.pow_mul,Nat.mul_comm] at e1
  exact cg_two hq (e1.symm.trans e2)
theorem Cl.uniq {q a v v':Nat} (hq:2 < q) (h:Cl q a v) (h':Cl q a v'):v = v':=by
 obtain ⟨D,h1,h2⟩:=h
 obtain ⟨E,h3,h4⟩:=h'
 rcases h2 with ⟨rfl,h2⟩ | ⟨u,rfl,h2⟩ <;> rcases h4 with ⟨rfl,h4⟩ | ⟨u',rfl,h4⟩
 ·rfl
 ·exact (cl_zero hq h1 h2 h4).elim
 ·exact (cl_zero hq h3 h4 h2).elim
 ·rcases Nat.lt_trichotomy u u' with h | h | h
  ·exact (cl_lt hq h1 h h2 h4).elim
  ·rw [h]
  ·exact (cl_lt hq h3 h h4 h2).elim
def Strong (a n:Nat):Prop := ∃ d s,n - 1 = d * 2 ^ s ∧ d % 2 = 1 ∧ (a ^ d % n = 1 ∨ ∃ i,i < s ∧ a ^ (d * 2 ^ i) % n = n - 1)
theorem cg_one {n a:Nat} (hn:1 < n) (h:a % n = 1):Cg n (a:Int) 1:=by
  have:=cg_mod (n:=n) (a:=a) (b:=1) (by rw [h,Nat.mod_eq_of_lt hn])
  simpa using this
theorem cg_neg {n a:Nat} (hn:1 < n) (h:a % n = n - 1):Cg n (a:Int) (-1):=by
  have h1:=cg_mod (n:=n) (a:=a) (b:=n - 1) (by rw [h,Nat.mod_eq_of_lt (by omega)])
  refine h1.trans ⟨1,?_⟩
  omega
theorem Strong.cl {a n:Nat} (hn:1 < n) (h:Strong a n):∃ v,Cl n a v:=by
  obtain ⟨d,s,h1,h2,h3 | ⟨i,_,h3⟩⟩:=h
  · exact ⟨0,d,h2,.inl ⟨rfl,by have:=cg_one hn h3; simpa using this⟩⟩
  · exact ⟨i + 1,d,h2,.inr ⟨i,rfl,by have:=cg_neg hn h3; simpa using this⟩⟩
theorem Strong.fermat {a n:Nat} (hn:1 < n) (h:Strong a n):Cg n ((a:Int) ^ (n - 1)) 1:=by
 obtain ⟨d,s,h1,h2,h3 | ⟨i,hi,h3⟩⟩:=h
 ·have h4:Cg n ((a:Int) ^ d) 1:=by have:=cg_one hn h3; simpa using this
  have h5:=h4.pow (2 ^ s)
  rw [← Int.pow_mul, ← h1,Int.one_pow] at h5
  exact h5
 ·have h4:Cg n ((a:Int) ^ (d * 2 ^ i)) (-1):=by have:=cg_neg hn h3; simpa using this
  have h5:=h4.pow (2 ^ (s - i))
  obtain ⟨k,hk⟩:∃ k,s - i = k + 1:=⟨s - i - 1,by omega⟩
  rw [neg1_even (by rw [hk,Nat.pow_succ]; omega), ← Int.pow_mul,Nat.mul_assoc, ← Nat.pow_add,show i + (s - i) = s by omega, ← h1] at h5
  exact h5
theorem pr_strong {a n d s:Nat} (h:Pr n) (ha:¬ n ∣ a) (hd:n - 1 = d * 2 ^ s):a ^ d % n = 1 ∨ ∃ i,i < s ∧ a ^ (d * 2 ^ i) % n = n - 1:=by
 have hn:=h.1
 have key:∀ k,k ≤ s → a ^ (d * 2 ^ k) % n = 1 → a ^ d % n = 1 ∨ ∃ i,i < s ∧ a ^ (d * 2 ^ i) % n = n - 1:=by
  intro k
  induction k with
  | zero => intro _ h1; left; simpa using h1
  | succ k ih =>
   intro hk h1
   have e:a ^ (d * 2 ^ (k + 1)) = a ^ (d * 2 ^ k) * a ^ (d * 2 ^ k):=by rw [← Nat.pow_add]; congr 1; rw [Nat.pow_succ, ← Nat.mul_assoc]; omega
   rw [e] at h1
   generalize hx:a ^ (d * 2 ^ k) = x at *
   have hx0:0 < x:=by
    rw [← hx]; exact Nat.pow_pos (Nat.pos_of_ne_zero fun e => ha (by subst e; exact Nat.dvd_zero n))
   have h2:n ∣ x * x - 1:=Nat.dvd_of_mod_eq_zero (Nat.sub_mod_eq_zero_of_mod_eq (by rw [h1,Nat.mod_eq_of_lt (by omega)]))
   have h3:x * x - 1 = (x - 1) * (x + 1):=by
    obtain ⟨y,rfl⟩:∃ y,x = y + 1:=⟨x - 1,by omega⟩
    simp only [Nat.add_sub_cancel]
    have:(y + 1) * (y + 1) = y * (y + 1 + 1) + 1:=by grind
    omega
   rw [h3] at h2
   rcases h.dvd_mul h2 with ⟨c,hc⟩ | ⟨c,hc⟩
   ·refine ih (by omega) ?_
    rw [show x = 1 + n * c by omega,Nat.add_mul_mod_self_left,Nat.mod_eq_of_lt (by omega)]
   ·refine .inr ⟨k,by omega,?_⟩
    rw [hx]
    clear ih
    have hc0:c ≠ 0:=fun e => by rw [e] at hc; omega
    obtain ⟨c',rfl⟩:∃ c',c = c' + 1:=⟨c - 1,by omega⟩
    rw [Nat.mul_succ] at hc
    rw [show x = n - 1 + n * c' by omega,Nat.add_mul_mod_self_left,Nat.mod_eq_of_lt (by omega)]
 exact key s (Nat.le_refl s) (by rw [← hd]; exact flt h ha)
theorem two_adic {d d' s s':Nat} (hd:d % 2 = 1) (hd':d' % 2 = 1) (h:d * 2 ^ s = d' * 2 ^ s'):d = d' ∧ s = s':=by
 have aux:∀ {d d' s s':Nat},d % 2 = 1 → d * 2 ^ s = d' * 2 ^ s' → s < s' → False:=by
  intro d d' s s' hd h hlt
  obtain ⟨k,rfl⟩:∃ k,s' = s + (k + 1):=⟨s' - s - 1,by omega⟩
  rw [Nat.pow_add,Nat.mul_comm (2 ^ s), ← Nat.mul_assoc] at h
  have:=Nat.eq_of_mul_eq_mul_right (Nat.two_pow_pos s) h
  rw [Nat.pow_succ, ← Nat.mul_assoc] at this
  omega
 rcases Nat.lt_trichotomy s s' with hs | hs | hs
 ·exact (aux hd h hs).elim
 ·subst hs
  exact ⟨Nat.eq_of_mul_eq_mul_right (Nat.two_pow_pos s) h,rfl⟩
 ·exact (aux hd' h.symm hs).elim
def pw (a k q:Nat):Nat:=Nat.mod (Nat.mul (Nat.mod (Nat.pow (Nat.mod (Nat.pow a (Nat.div k 256)) q) 256) q) (Nat.mod (Nat.pow a (Nat.mod k 256)) q)) q
theorem pw_eq (a k q:Nat):pw a k q = a ^ k % q:=by
  show ((a ^ (k / 256) % q) ^ 256 % q) * (a ^ (k % 256) % q) % q = _
  rw [← Nat.pow_mod, ← Nat.mul_mod, ← Nat.pow_mul, ← Nat.pow_add]
  congr 2; omega
def pwL (a k q:Nat):Nat:=Nat.mod (Nat.mul (Nat.mod (Nat.pow (Nat.mod (Nat.pow (pw a (Nat.div k 65536) q) 256) q) 256) q) (pw a (Nat.mod k 65536) q)) q
theorem pwL_gen (a k1 k2 m n q:Nat):((a ^ k1 % q) ^ m % q) ^ n % q * (a ^ k2 % q) % q = a ^ (k1 * (m * n) + k2) % q:=by
  rw [← Nat.pow_mod, ← Nat.pow_mul, ← Nat.pow_mod, ← Nat.mul_mod, ← Nat.pow_mul, ← Nat.pow_add]
theorem pwL_eq (a k q:Nat):pwL a k q = a ^ k % q:=by
  show ((pw a (k / 65536) q) ^ 256 % q) ^ 256 % q * (pw a (k % 65536) q) % q = _
  rw [pw_eq,pw_eq,pwL_gen]
  congr 2; omega
def tzs (fuel:Nat):Nat → Nat:=Nat.rec (motive:=fun _ => Nat → Nat) (fun _ => 0) (fun _ ih m => cond (Nat.beq (Nat.mod m 2) 0) (Nat.succ (ih (Nat.div m 2))) 0) fuel
theorem tzs_spec:∀ (fuel m:Nat),0 < m → m < 2 ^ fuel → ∃ d,m = d * 2 ^ tzs fuel m ∧ d % 2 = 1
 | 0,m,h0,h => by simp at h; omega
 | k + 1,m,h0,h => by
  have e:tzs (k + 1) m = cond (Nat.beq (m % 2) 0) (tzs k (m / 2) + 1) 0:=rfl
  rw [e]
  by_cases h2:m % 2 = 0
  ·rw [show Nat.beq (m % 2) 0 = true by rw [h2]; rfl]
   obtain ⟨d,h3,h4⟩:=tzs_spec k (m / 2) (by omega) (by rw [Nat.pow_succ] at h; omega)
   refine ⟨d,?_,h4⟩
   show m = d * 2 ^ (tzs k (m / 2) + 1)
   rw [Nat.pow_succ, ← Nat.mul_assoc, ← h3]; omega
  ·rw [show Nat.beq (m % 2) 0 = false by rw [show m % 2 = 1 by omega]; rfl]
   exact ⟨m,by simp,by omega⟩
def sqs (n fuel:Nat):Nat → Bool:=Nat.rec (motive:=fun _ => Nat → Bool) (fun _ => false) (fun _ ih x => cond (Nat.beq x (Nat.pred n)) true (ih (Nat.mod (Nat.mul x x) n))) fuel
theorem sqs_of {n:Nat}:∀ (fuel x i:Nat),i < fuel → x % n = x → x ^ 2 ^ i % n = n - 1 → sqs n fuel x = true
 | 0,_,i,hi,_,_ => by omega
 | k + 1,x,i,hi,hx,h => by
  have e:sqs n (k + 1) x = cond (Nat.beq x (n - 1)) true (sqs n k (x * x % n)):=rfl
  rw [e]
  cases hb:Nat.beq x (n - 1)
  ·show sqs n k (x * x % n) = true
   cases i with
   | zero =>
    simp at h
    rw [hx] at h
    rw [h,Nat.beq_refl] at hb; cases hb
   | succ i =>
    refine sqs_of k _ i (by omega) (Nat.mod_mod _ _) ?_
    rw [← Nat.pow_mod, ← Nat.pow_two, ← Nat.pow_mul,Nat.mul_comm, ← Nat.pow_succ]
    exact h
  ·rfl
def strongB (a n:Nat):Bool:=cond (Nat.beq (pwL a (Nat.div (Nat.pred n) (Nat.pow 2 (tzs 32 (Nat.pred n)))) n) 1) true (sqs n (tzs 32 (Nat.pred n)) (pwL a (Nat.div (Nat.pred n) (Nat.pow 2 (tzs 32 (Nat.pred n)))) n))
theorem strongB_of {a n:Nat} (hn:1 < n) (hlt:n < 4294967296) (h:Strong a n):strongB a n = true:=by
 obtain ⟨d,s,h1,h2,h3⟩:=h
 obtain ⟨d',h4,h5⟩:=tzs_spec 32 (n - 1) (by omega) (by omega)
 obtain ⟨rfl,hs⟩:=two_adic h2 h5 (h1.symm.trans h4)
 have hd:(n - 1) / 2 ^ tzs 32 (n - 1) = d:=by rw [← hs,h1]; exact Nat.mul_div_cancel _ (Nat.two_pow_pos s)
 have e:strongB a n = cond (Nat.beq (pwL a ((n - 1) / 2 ^ tzs 32 (n - 1)) n) 1) true (sqs n (tzs 32 (n - 1)) (pwL a ((n - 1) / 2 ^ tzs 32 (n - 1)) n)):=rfl
 rw [e,hd,pwL_eq, ← hs]
 rcases h3 with h3 | ⟨i,hi,h3⟩
 ·rw [h3]; rfl
 ·cases Nat.beq (a ^ d % n) 1
  ·exact sqs_of s _ i hi (Nat.mod_mod _ _) (by rw [← Nat.pow_mod, ← Nat.pow_mul]; exact h3)
  ·rfl
end Go.Proofs.YtjbcjlbbipohjaaGreatDoor.MR
