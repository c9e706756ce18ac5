
/-
  Primes, plainly: Euclid's lemma, Fermat's little theorem.
-/
import Derived.Test.YtjbcjlbbipohjaaGreatDoorProg
set_option linter.unusedVariables false
set_option linter.unusedSimpArgs false
namespace Go.Proofs.YtjbcjlbbipohjaaGreatDoor.MR
def Pr (p:Nat):Prop:=2 ≤ p ∧ ∀ d,d ∣ p → d = 1 ∨ d = p
theorem pr_ex:∀ n,2 ≤ n → ∃ p,Pr p ∧ p ∣ n:=by
 intro n
 induction n using Nat.strongRecOn with
 | _ n ih =>
  intro hn
  by_cases h:Pr n
  ·exact ⟨n,h,Nat.dvd_refl n⟩
  ·have:∃ d,d ∣ n ∧ d ≠ 1 ∧ d ≠ n:=by
    refine Classical.byContradiction fun h' => h ⟨hn,fun d hd => ?_⟩
    by_cases h1:d = 1
    ·exact .inl h1
    ·by_cases h2:d = n
     ·exact .inr h2
     ·exact absurd ⟨d,hd,h1,h2⟩ h'
   obtain ⟨d,hd,h1,h2⟩:=this
   have hle:=Nat.le_of_dvd (by omega) hd
   have h0:d ≠ 0:=fun e => by subst e; rw [Nat.zero_dvd] at hd; omega
   obtain ⟨p,hp,hpd⟩:=ih d (by omega) (by omega)
   exact ⟨p,hp,Nat.dvd_trans hpd hd⟩
theorem Pr.dvd_mul {p a b:Nat} (h:Pr p) (hd:p ∣ a * b):p ∣ a ∨ p ∣ b:=by
 rcases h.2 _ (Nat.gcd_dvd_left p a) with h1 | h1
 ·exact .inr (Nat.Coprime.dvd_of_dvd_mul_left h1 hd)
 ·refine .inl ?_
  have:=Nat.gcd_dvd_right p a
  rwa [h1] at this
theorem Pr.dvd_pow {p a:Nat} (h:Pr p):∀ k,p ∣ a ^ k → p ∣ a
 | 0,hd => by
  rw [Nat.pow_zero] at hd
  have h1:=Nat.le_of_dvd (by omega) hd
  have h2:=h.1
  omega
 | k + 1,hd => by
  rw [Nat.pow_succ] at hd
  rcases h.dvd_mul hd with h1 | h1
  ·exact h.dvd_pow k h1
  ·exact h1
theorem pr_least (n:Nat) (hn:2 ≤ n):∃ p,Pr p ∧ p ∣ n ∧ ∀ q,Pr q → q ∣ n → p ≤ q:=by
 have:∀ k,(∃ p,Pr p ∧ p ∣ n ∧ p ≤ k) → ∃ p,Pr p ∧ p ∣ n ∧ ∀ q,Pr q → q ∣ n → p ≤ q:=by
  intro k
  induction k using Nat.strongRecOn with
  | _ k ih =>
   rintro ⟨p,h1,h2,h3⟩
   by_cases h:∃ q,Pr q ∧ q ∣ n ∧ q < p
   ·obtain ⟨q,q1,q2,q3⟩:=h
    exact ih q (by omega) ⟨q,q1,q2,Nat.le_refl q⟩
   ·exact ⟨p,h1,h2,fun q hq hqn => Classical.byContradiction fun h' => h ⟨q,hq,hqn,by omega⟩⟩
 obtain ⟨p,h1,h2⟩:=pr_ex n hn
 exact this p ⟨p,h1,h2,Nat.le_refl p⟩
theorem pr_split {n:Nat} (hn:2 ≤ n) (h:¬ Pr n):∃ p m,Pr p ∧ n = p * m ∧ p ≤ m ∧ ∀ q,Pr q → q ∣ n → p ≤ q:=by
  obtain ⟨p,h1,⟨m,hm⟩,h3⟩:=pr_least n hn
  refine ⟨p,m,h1,hm,?_,h3⟩
  have hm1:m ≠ 1:=fun e => h (by rw [hm,e,Nat.mul_one]; exact h1)
  have hm0:m ≠ 0:=fun e => by rw [e,Nat.mul_zero] at hm; omega
  obtain ⟨q,hq,hqm⟩:=pr_ex m (by omega)
  have:=h3 q hq (by rw [hm]; exact Nat.dvd_trans hqm (Nat.dvd_mul_left m p))
  exact Nat.le_trans this (Nat.le_of_dvd (by omega) hqm)
def prodL:List Nat → Nat
  | [] => 1
  | x :: l => x * prodL l
theorem prodL_perm {l m:List Nat} (h:l.Perm m):prodL l = prodL m:=by
  induction h with
  | nil => rfl
  | cons x _ ih => simp only [prodL,ih]
  | swap x y l => simp only [prodL]; rw [← Nat.mul_assoc, ← Nat.mul_assoc,Nat.mul_comm x y]
  | trans _ _ h1 h2 => exact h1.trans h2
theorem perm_of_sub:∀ (m l:List Nat),m.Nodup → (∀ x ∈ m,x ∈ l) → l.length ≤ m.length → m.Perm l
 | [],l,_,_,h => by
  have:l = []:=List.eq_nil_of_length_eq_zero (by simpa using h)
  subst this; exact List.Perm.refl _
 | x :: m,l,hn,hs,hl => by
  have hx:=hs x List.mem_cons_self
  have hn':=List.nodup_cons.1 hn
  have h1:l.Perm (x :: l.erase x):=List.perm_cons_erase hx
  refine List.Perm.trans ?_ h1.symm
  refine (perm_of_sub m (l.erase x) hn'.2 (fun y hy => ?_) ?_).cons x
  ·exact (List.mem_erase_of_ne (fun e => hn'.1 (by rw [← e]; exact hy))).2 (hs y (List.mem_cons_of_mem _ hy))
  ·rw [List.length_erase_of_mem hx]; simp only [List.length_cons] at hl; omega
theorem prodL_map (a p:Nat):∀ l:List Nat,prodL (l.map fun i => a * i % p) % p = a ^ l.length * prodL l % p
 | [] => by simp [prodL]
 | x :: l => by
  have ih:=prodL_map a p l
  simp only [List.map_cons,prodL,List.length_cons]
  rw [Nat.mul_mod,Nat.mod_mod,ih, ← Nat.mul_mod,Nat.pow_succ]
  congr 1
  generalize a ^ l.length = A
  generalize prodL l = B
  rw [Nat.mul_comm A a]
  simp only [Nat.mul_assoc,Nat.mul_left_comm]
theorem prodL_not {p:Nat} (h:Pr p):∀ l:List Nat,(∀ x ∈ l, ¬ p ∣ x) → ¬ p ∣ prodL l
 | [],_,hd => by have:=Nat.le_of_dvd (by simp [prodL]) hd; have:=h.1; simp [prodL] at *; omega
 | x :: l,hl,hd => by
  rcases h.dvd_mul hd with h1 | h1
  ·exact hl x List.mem_cons_self h1
  ·exact prodL_not h l (fun y hy => hl y (List.mem_cons_of_mem _ hy)) h1
theorem not_dvd_small {p i:Nat} (h0:0 < i) (hi:i < p):¬ p ∣ i:=fun hd => by have:=Nat.le_of_dvd h0 hd; omega
theorem flt {p a:Nat} (h:Pr p) (ha:¬ p ∣ a):a ^ (p - 1) % p = 1:=by
 have hp:=h.1
 let l:=List.range' 1 (p - 1)
 have hl:∀ x,x ∈ l ↔ 1 ≤ x ∧ x < p:=fun x => by
  simp only [l,List.mem_range'_1]; omega
 have hlen:l.length = p - 1:=by simp [l]
 have hperm:(l.map fun i => a * i % p).Perm l:=by
  refine perm_of_sub _ _ ?_ ?_ (by simp)
  ·rw [List.Nodup,List.pairwise_map]
   refine (List.pairwise_lt_range' (s:=1) (n:=p - 1)).imp_of_mem fun {i j} hi hj hij e => ?_
   have h1:=(hl i).1 hi
   have h2:=(hl j).1 hj
   have:p ∣ a * (j - i):=by
    rw [Nat.mul_sub]
    have hle:a * i ≤ a * j:=Nat.mul_le_mul_left a (Nat.le_of_lt hij)
    exact Nat.dvd_of_mod_eq_zero (Nat.sub_mod_eq_zero_of_mod_eq e.symm)
   rcases h.dvd_mul this with h3 | h3
   ·exact ha h3
   ·exact not_dvd_small (by omega) (by omega) h3
  ·intro x hx
   obtain ⟨i,hi,rfl⟩:=List.mem_map.1 hx
   have h1:=(hl i).1 hi
   refine (hl _).2 ⟨?_,Nat.mod_lt _ (by omega)⟩
   have:a * i % p ≠ 0:=fun e => by
    rcases h.dvd_mul (Nat.dvd_of_mod_eq_zero e) with h3 | h3
    ·exact ha h3
    ·exact not_dvd_small (by omega) (by omega) h3
   omega
 have h1:=prodL_map a p l
 rw [prodL_perm hperm,hlen] at h1
 have hP:¬ p ∣ prodL l:=prodL_not h l fun x hx => by have:=(hl x).1 hx; exact not_dvd_small (by omega) (by omega)
 have hA:0 < a ^ (p - 1):=Nat.pow_pos (Nat.pos_of_ne_zero fun e => ha (by subst e; exact Nat.dvd_zero p))
 have h2:p ∣ a ^ (p - 1) * prodL l - prodL l:=Nat.dvd_of_mod_eq_zero (Nat.sub_mod_eq_zero_of_mod_eq h1.symm)
 have h3:a ^ (p - 1) * prodL l - prodL l = (a ^ (p - 1) - 1) * prodL l:=by rw [Nat.sub_mul,Nat.one_mul]
 rw [h3] at h2
 rcases h.dvd_mul h2 with h4 | h4
 ·obtain ⟨k,hk⟩:=h4
  have:a ^ (p - 1) = 1 + p * k:=by omega
  rw [this,Nat.add_mul_mod_self_left,Nat.mod_eq_of_lt (by omega)]
 ·exact absurd h4 hP
end Go.Proofs.YtjbcjlbbipohjaaGreatDoor.MR
