
/-
  The table is whole: its check.
-/
import Derived.Test.YtjbcjlbbipohjaaGreatDoorMrC
set_option linter.unusedVariables false
set_option linter.unusedSimpArgs false
namespace Go.Proofs.YtjbcjlbbipohjaaGreatDoor.MR
def P256:Nat:=64266330917908644872330635228106713310880186591609208114244758680898150367880703152525200743234420230
def prB (x:Nat):Bool:=Nat.beq (Nat.gcd x (cond (Nat.ble x 256) 30030 P256)) 1
def allB (M:Nat):Nat → Bool
  | 0 => true
  | k + 1 => cond (cond (Nat.ble k 1) true (not (Nat.beq (Nat.gcd k M) 1))) (allB M k) false
theorem allB_of {M:Nat}:∀ {n:Nat},allB M n = true → ∀ k,k < n → 2 ≤ k → Nat.gcd k M ≠ 1
 | 0,_,k,hk,_ => by omega
 | n + 1,h,k,hk,h2 => by
  have h':cond (cond (Nat.ble n 1) true (not (Nat.beq (Nat.gcd n M) 1))) (allB M n) false = true:=h
  cases hc:(cond (Nat.ble n 1) true (not (Nat.beq (Nat.gcd n M) 1))) <;> rw [hc] at h'
  ·simp at h'
  ·rcases Nat.lt_or_eq_of_le (Nat.le_of_lt_succ hk) with h3 | h3
   ·exact allB_of h' k h3 h2
   ·subst h3
    cases hb:Nat.ble k 1 <;> rw [hb] at hc
    ·intro e
     rw [e] at hc
     simp at hc
    ·have:=bl hb; omega
theorem all256:allB P256 257 = true:=by decide +kernel
theorem all30030:allB 30030 17 = true:=by decide +kernel
theorem f256:fac 256 % P256 = 0:=by decide +kernel
theorem f13:fac 13 % 30030 = 0:=by decide +kernel
theorem prB_pr {x:Nat} (h17:17 ≤ x) (hx:x ≤ 65535) (h:prB x = true):Pr x:=by
 refine Classical.byContradiction fun hn => ?_
 obtain ⟨p,m,hp,hpm,hle,_⟩:=pr_split (by omega) hn
 have hpx:p ∣ x:=⟨m,hpm⟩
 have hpp:p * p ≤ x:=by rw [hpm]; exact Nat.mul_le_mul_left _ hle
 have hg:=be h
 have main:∀ M,Nat.gcd x M = 1 → Nat.gcd p M ≠ 1 → False:=by
  intro M h1 h2
  rcases hp.2 _ (Nat.gcd_dvd_left p M) with h3 | h3
  ·exact h2 h3
  ·have h4:=Nat.gcd_dvd_right p M
   rw [h3] at h4
   have h5:=Nat.dvd_gcd hpx h4
   rw [h1] at h5
   have:=Nat.le_of_dvd (by omega) h5
   have:=hp.1
   omega
 cases hb:Nat.ble x 256 <;> rw [hb] at hg
 ·refine main P256 hg (allB_of all256 p ?_ hp.1)
  rcases Nat.lt_or_ge p 257 with h1 | h1
  ·exact h1
  ·have:257 * 257 ≤ p * p:=Nat.mul_le_mul h1 h1
   omega
 ·refine main 30030 hg (allB_of all30030 p ?_ hp.1)
  have:=bl hb
  rcases Nat.lt_or_ge p 17 with h1 | h1
  ·exact h1
  ·have:17 * 17 ≤ p * p:=Nat.mul_le_mul h1 h1
   omega
theorem pr_prB {x:Nat} (h17:17 ≤ x) (h:Pr x):prB x = true:=by
 have main:∀ M b,fac b % M = 0 → b < x → Nat.gcd x M = 1:=by
  intro M b h1 h2
  rcases h.2 _ (Nat.gcd_dvd_left x M) with h3 | h3
  ·exact h3
  ·exfalso
   have h4:=Nat.gcd_dvd_right x M
   rw [h3] at h4
   have:=fac_pr h b (Nat.dvd_trans h4 (Nat.dvd_of_mod_eq_zero h1))
   omega
 unfold prB
 cases hb:Nat.ble x 256
 ·have h1:=ble_false hb
  show Nat.beq (Nat.gcd x P256) 1 = true
  rw [main P256 256 f256 (by omega)]; rfl
 ·show Nat.beq (Nat.gcd x 30030) 1 = true
  rw [main 30030 13 f13 (by omega)]; rfl
def cmpB (fuel:Nat):Nat → List Nat → Bool :=
 Nat.rec (motive:=fun _ => Nat → List Nat → Bool) (fun x T => cond (Nat.ble 65536 x) (List.isEmpty T) false)
  (fun _ ih x T => match T with
   | [] => cond (cond (prB x) (Nat.beq x 61) true) (frc (Nat.succ x) fun y => ih y []) false
   | e :: T' => cond (Nat.beq (qE e) x) (cond (prB x) (frc (Nat.succ x) fun y => ih y T') false) (cond (cond (prB x) (Nat.beq x 61) true) (frc (Nat.succ x) fun y => ih y (e :: T')) false)) fuel
structure TC (T:List Nat) (x:Nat):Prop where
  up:T.Pairwise fun e e' => qE e < qE e'
  gt:∀ e ∈ T,x ≤ qE e
  pr:∀ e ∈ T,Pr (qE e)
  all:∀ q,Pr q → x ≤ q → q ≤ 65535 → q ≠ 61 → ∃ e ∈ T,qE e = q
theorem cmpB_of:∀ (fuel x:Nat) (T:List Nat),17 ≤ x → x + fuel ≤ 65536 → cmpB fuel x T = true → TC T x
 | 0,x,T,h17,hx,h => by
  have h':cond (Nat.ble 65536 x) (List.isEmpty T) false = true:=h
  cases hb:Nat.ble 65536 x <;> rw [hb] at h'
  ·simp at h'
  ·have hT:T = []:=by cases T with
    | nil => rfl
    | cons a l => simp at h'
   subst hT
   have:=bl hb
   exact ⟨List.Pairwise.nil,(fun e he => by cases he),(fun e he => by cases he),fun q _ h1 h2 _ => by omega⟩
 | fuel + 1,x,[],h17,hx,h => by
  have h':cond (cond (prB x) (Nat.beq x 61) true) (frc (x + 1) fun y => cmpB fuel y []) false = true:=h
  rw [frc_eq] at h'
  cases hc:(cond (prB x) (Nat.beq x 61) true) <;> rw [hc] at h'
  ·simp at h'
  ·have ih:=cmpB_of fuel (x + 1) [] (by omega) (by omega) h'
   refine ⟨List.Pairwise.nil,(fun e he => by cases he),(fun e he => by cases he),fun q hq h1 h2 h3 => ?_⟩
   rcases Nat.lt_or_eq_of_le h1 with h4 | h4
   ·exact ih.all q hq h4 h2 h3
   ·subst h4
    rw [pr_prB h17 hq] at hc
    exact absurd (be hc) h3
 | fuel + 1,x,e :: T,h17,hx,h => by
  have h':cond (Nat.beq (qE e) x) (cond (prB x) (frc (x + 1) fun y => cmpB fuel y T) false) (cond (cond (prB x) (Nat.beq x 61) true) (frc (x + 1) fun y => cmpB fuel y (e :: T)) false) = true:=h
  rw [frc_eq,frc_eq] at h'
  cases hq:Nat.beq (qE e) x <;> rw [hq] at h'
  ·cases hc:(cond (prB x) (Nat.beq x 61) true) <;> rw [hc] at h'
   ·simp at h'
   ·have ih:=cmpB_of fuel (x + 1) (e :: T) (by omega) (by omega) h'
    refine ⟨ih.up,fun y hy => by have:=ih.gt y hy; omega,ih.pr,fun q hq' h1 h2 h3 => ?_⟩
    rcases Nat.lt_or_eq_of_le h1 with h4 | h4
    ·exact ih.all q hq' h4 h2 h3
    ·subst h4
     rw [pr_prB h17 hq'] at hc
     exact absurd (be hc) h3
  ·have hqx:=be hq
   cases hp:prB x <;> rw [hp] at h'
   ·simp at h'
   ·have ih:=cmpB_of fuel (x + 1) T (by omega) (by omega) h'
    refine ⟨List.pairwise_cons.2 ⟨fun y hy => by have:=ih.gt y hy; omega,ih.up⟩,fun y hy => ?_,fun y hy => ?_,fun q hq' h1 h2 h3 => ?_⟩
    ·rcases List.mem_cons.1 hy with rfl | hy
     ·omega
     ·have:=ih.gt y hy; omega
    ·rcases List.mem_cons.1 hy with rfl | hy
     ·rw [hqx]; exact prB_pr h17 (by omega) hp
     ·exact ih.pr y hy
    ·rcases Nat.lt_or_eq_of_le h1 with h4 | h4
     ·obtain ⟨y,hy,hyq⟩:=ih.all q hq' h4 h2 h3
      exact ⟨y,List.mem_cons_of_mem _ hy,hyq⟩
     ·exact ⟨e,List.mem_cons_self,by omega⟩
def okAll:List Nat → Bool
  | [] => true
  | e :: T => cond (okE e) (okAll T) false
theorem okAll_of:∀ {T:List Nat},okAll T = true → ∀ e ∈ T,VE e
 | x :: T,h,e,he => by
  have h':cond (okE x) (okAll T) false = true:=h
  cases hx:okE x <;> rw [hx] at h'
  ·simp at h'
  ·rcases List.mem_cons.1 he with rfl | he
   ·exact okE_of hx
   ·exact okAll_of h' e he
theorem strong_prime {K:Nat} {T:List Nat} (h1:cmpB 65519 17 T = true) (h2:okAll T = true) (h3:tl (top K) (fun _ => false) T = true) {n:Nat} (hB:Bad n):Pr n:=by
  have hc:=cmpB_of _ _ _ (by omega) (by omega) h1
  refine Classical.byContradiction fun hn => ?_
  exact none_bad ⟨okAll_of h2,hc.up,fun e he => by have:=hc.gt e he; omega,fun q hq h1 h2 h3 h4 => hc.all q hq h3 h2 h4⟩ hc.pr h3 hB hn
end Go.Proofs.YtjbcjlbbipohjaaGreatDoor.MR
