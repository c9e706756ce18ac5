/-
  Contracts and lemmas, joined in one text.
-/
import Derived.Test.YtcfcdbeemhjhgaaDoorHV
import Derived.Test.YtcfcdbeemhjhgaaDoorHB
import Derived.Test.YtcfcdbeemhjhgaaDoorH8
set_option linter.unusedVariables false
set_option linter.unusedSimpArgs false
/-
  Determinants,plainly: by the first column.
-/
namespace Go.Proofs.YtcfcdbeemhjhgaaDoor
open Go.RowKit
def sg:Nat → Int
  | 0 => 1
  | n + 1 => -sg n
def mnr (A:Nat → Nat → Int) (i:Nat):Nat → Nat → Int:=fun r c => A (if r < i then r else r + 1) (c + 1)
def dt:Nat → (Nat → Nat → Int) → Int
  | 0,_ => 1
  | n + 1,A => su (n + 1) fun i => sg i * A i 0 * dt n (mnr A i)
theorem dt_em {p:Nat}:∀ {n:Nat} {A B:Nat → Nat → Int},(∀ r c,r < n → c < n → Em p (A r c) (B r c)) → Em p (dt n A) (dt n B)
  | 0,_,_,_ => Em.rf _
  | n + 1,A,B,h => su_em fun i hi => ((Em.rf _).mul (h i 0 hi (by omega))).mul (dt_em fun r c hr hc => h _ _ (by split <;> omega) (by omega))
theorem dt_congr:∀ {n:Nat} {A B:Nat → Nat → Int},(∀ r c,r < n → c < n → A r c = B r c) → dt n A = dt n B
  | 0,_,_,_ => rfl
  | n + 1,A,B,h => su_congr fun i hi => by rw [h i 0 hi (by omega),dt_congr (A:=mnr A i) (B:=mnr B i) fun r c hr hc => h _ _ (by split <;> omega) (by omega)]
def up (A:Nat → Nat → Int) (k:Nat) (u:Nat → Int):Nat → Nat → Int:=fun r => if r = k then u else A r
theorem up_at (A:Nat → Nat → Int) (k:Nat) (u:Nat → Int):up A k u k = u:=if_pos rfl
theorem up_ne {A:Nat → Nat → Int} {k r:Nat} {u:Nat → Int} (h:r ≠ k):up A k u r = A r:=if_neg h
theorem up_self (A:Nat → Nat → Int) (k:Nat):up A k (A k) = A:=by
  funext r; unfold up; split
  · subst_vars; rfl
  rfl
theorem mnr_up_self (A:Nat → Nat → Int) (k:Nat) (u:Nat → Int):mnr (up A k u) k = mnr A k:=by
  funext r c; unfold mnr; rw [up_ne (by split <;> omega)]
theorem mnr_up {A:Nat → Nat → Int} {k i:Nat} {u:Nat → Int} (h:i ≠ k):mnr (up A k u) i = up (mnr A i) (if k < i then k else k - 1) (fun c => u (c + 1)):=by
 funext r c
 unfold mnr up
 by_cases h1:r = if k < i then k else k - 1
 ·have e:(if r < i then r else r + 1) = k:=by
   split at h1
   ·rw [if_pos (by omega)]; exact h1
   rw [if_neg (by omega)]; omega
  rw [if_pos e,if_pos h1]
 have e:(if r < i then r else r + 1) ≠ k:=by
  split at h1 <;> split <;> omega
 rw [if_neg e,if_neg h1]
theorem dt_lin {a b:Int}:∀ {n k:Nat} {A:Nat → Nat → Int} {u v:Nat → Int},k < n → dt n (up A k fun c => a * u c + b * v c) = a * dt n (up A k u) + b * dt n (up A k v)
 | n + 1,k,A,u,v,hk => by
  show su (n + 1) _ = a * su (n + 1) _ + b * su (n + 1) _
  rw [← su_mul, ← su_mul, ← su_add]
  refine su_congr fun i hi => ?_
  by_cases e:i = k
  ·subst e
   rw [up_at,up_at,up_at,mnr_up_self,mnr_up_self,mnr_up_self]
   generalize dt n (mnr A i) = D
   generalize sg i = s
   simp only [Int.mul_add,Int.add_mul]
   rw [show s * (a * u 0) * D = a * (s * u 0 * D) by simp only [Int.mul_left_comm,Int.mul_assoc],show s * (b * v 0) * D = b * (s * v 0 * D) by simp only [Int.mul_left_comm,Int.mul_assoc]]
  rw [up_ne e,up_ne e,up_ne e,mnr_up e,mnr_up e,mnr_up e]
  have ih:=dt_lin (a:=a) (b:=b) (n:=n) (k:=if k < i then k else k - 1) (A:=mnr A i) (u:=fun c => u (c + 1)) (v:=fun c => v (c + 1)) (by split <;> omega)
  rw [ih,Int.mul_add]
  simp only [Int.mul_left_comm,Int.mul_assoc]
theorem su_two {f:Nat → Int} {k n:Nat} (hk:k + 1 < n) (h:∀ i,i < n → i ≠ k → i ≠ k + 1 → f i = 0):su n f = f k + f (k + 1):=by
 rw [su_congr (g:=fun i => (if i = k then f i else 0) + (if i = k + 1 then f i else 0)),su_add,su_one (by omega),su_one hk]
 intro i hi
 by_cases e1:i = k
 ·rw [if_pos e1,if_neg (by omega)]; omega
 by_cases e2:i = k + 1
 ·rw [if_neg e1,if_pos e2]; omega
 rw [if_neg e1,if_neg e2,h i hi e1 e2]; rfl
theorem dt_adj:∀ {n k:Nat} {A:Nat → Nat → Int},k + 1 < n → A k = A (k + 1) → dt n A = 0
 | n + 1,k,A,hk,he => by
  show su (n + 1) _ = 0
  rw [su_two hk]
  ·have e:mnr A k = mnr A (k + 1):=by
    funext r c
    unfold mnr
    by_cases h1:r = k
    ·subst h1; rw [if_neg (by omega),if_pos (by omega),he]
    by_cases h2:r < k
    ·rw [if_pos h2,if_pos (by omega)]
    rw [if_neg h2,if_neg (by omega)]
   rw [e, ← he]
   show sg k * A k 0 * dt n (mnr A (k + 1)) + -sg k * A k 0 * dt n (mnr A (k + 1)) = 0
   rw [Int.neg_mul,Int.neg_mul]; omega
  intro i hi h1 h2
  have hm:dt n (mnr A i) = 0:=by
   by_cases h3:i < k
   ·refine dt_adj (k:=k - 1) (by omega) ?_
    funext c
    unfold mnr
    rw [if_neg (by omega),if_neg (by omega),show k - 1 + 1 = k by omega,he]
   refine dt_adj (k:=k) (by omega) ?_
   funext c
   unfold mnr
   rw [if_pos (by omega),if_pos (by omega),he]
  rw [hm,Int.mul_zero]
theorem dt_swap0 {n i j:Nat} {A:Nat → Nat → Int} (hi:i < n) (hj:j < n) (hne:i ≠ j) (hz:∀ A:Nat → Nat → Int,A i = A j → dt n A = 0):dt n (up (up A i (A j)) j (A i)) = -dt n A:=by
 have sw:∀ u v:Nat → Int,up (up A i u) j v = up (up A j v) i u:=fun u v => by
  funext r
  unfold up
  by_cases h1:r = i
  ·have h2:¬ r = j:=by omega
   simp only [if_pos h1,if_neg h2]
  by_cases h2:r = j
  ·simp only [if_pos h2,if_neg h1]
  simp only [if_neg h1,if_neg h2]
 have z:∀ u:Nat → Int,dt n (up (up A i u) j u) = 0:=fun u => hz _ (by rw [up_at,up_ne hne,up_at])
 have l1:∀ u v x:Nat → Int,dt n (up (up A i x) j fun c => 1 * u c + 1 * v c) = 1 * dt n (up (up A i x) j u) + 1 * dt n (up (up A i x) j v):=fun u v x => dt_lin (u:=u) (v:=v) hj
 have l2:∀ u v x:Nat → Int,dt n (up (up A i fun c => 1 * u c + 1 * v c) j x) = 1 * dt n (up (up A i u) j x) + 1 * dt n (up (up A i v) j x):=fun u v x => by
  rw [sw,sw,sw]; exact dt_lin (u:=u) (v:=v) hi
 have h:=z (fun c => 1 * A i c + 1 * A j c)
 rw [l1,l2,l2,z,z] at h
 have e:up (up A i (A i)) j (A j) = A:=by
  rw [up_self,up_self]
 rw [e] at h
 omega
theorem dt_eq {n:Nat}:∀ (d i:Nat) {A:Nat → Nat → Int},i + d + 1 < n → A i = A (i + d + 1) → dt n A = 0
 | 0,i,A,h,he => dt_adj h he
 | d + 1,i,A,h,he => by
  have h1:=dt_swap0 (n:=n) (A:=A) (i:=i + d + 1) (j:=i + (d + 1) + 1) (by omega) h (by omega) (fun B hB => dt_adj (n:=n) (k:=i + d + 1) (by omega) hB)
  have h2:=dt_eq (n:=n) d i (A:=up (up A (i + d + 1) (A (i + (d + 1) + 1))) (i + (d + 1) + 1) (A (i + d + 1))) (by omega) (by
   rw [up_ne (show i ≠ i + (d + 1) + 1 by omega),up_ne (show i ≠ i + d + 1 by omega),up_ne (show i + d + 1 ≠ i + (d + 1) + 1 by omega),up_at,he])
  omega
theorem dt_same {n i j:Nat} {A:Nat → Nat → Int} (hi:i < n) (hj:j < n) (hne:i ≠ j) (he:A i = A j):dt n A = 0:=by
 by_cases h:i < j
 ·obtain ⟨d,rfl⟩:=Nat.exists_eq_add_of_lt h
  exact dt_eq d i hj he
 obtain ⟨d,rfl⟩:=Nat.exists_eq_add_of_lt (show j < i by omega)
 exact dt_eq d j hi he.symm
theorem dt_swap {n i j:Nat} {A:Nat → Nat → Int} (hi:i < n) (hj:j < n) (hne:i ≠ j):dt n (up (up A i (A j)) j (A i)) = -dt n A:=dt_swap0 hi hj hne fun _ h => dt_same hi hj hne h
theorem dt_scale {n k:Nat} {A:Nat → Nat → Int} {u:Nat → Int} (a:Int) (hk:k < n):dt n (up A k fun c => a * u c) = a * dt n (up A k u):=by
 have h:=dt_lin (a:=a) (b:=0) (A:=A) (u:=u) (v:=u) hk
 rw [Int.zero_mul,Int.add_zero] at h
 rw [← h]
 congr 1
 funext r c
 unfold up
 split
 ·show a * u c = a * u c + 0 * u c
  rw [Int.zero_mul,Int.add_zero]
 rfl
theorem dt_addrow {n k l:Nat} {A:Nat → Nat → Int} (a:Int) (hk:k < n) (hl:l < n) (hne:l ≠ k):dt n (up A k fun c => 1 * A k c + a * A l c) = dt n A:=by
  rw [dt_lin (u:=A k) (v:=A l) hk,up_self,dt_same (A:=up A k (A l)) (i:=k) (j:=l) hk hl (fun e => hne e.symm) (by rw [up_at,up_ne hne])]
  omega
theorem dt_zero {n k:Nat} {A:Nat → Nat → Int} (hk:k < n) (h:∀ c,c < n → A k c = 0):dt n A = 0:=by
  have h1:=dt_scale (A:=A) (u:=A k) 0 hk
  rw [Int.zero_mul] at h1
  rw [← h1]
  refine dt_congr fun r c hr hc => ?_
  unfold up
  split
  · subst_vars; rw [h c hc]; exact (Int.zero_mul _).symm
  rfl
theorem dt_id:∀ n,dt n (fun r c => ((if r = c then 1 else 0:Nat):Int)) = 1
 | 0 => rfl
 | n + 1 => by
  show su (n + 1) _ = 1
  rw [su_congr (g:=fun i => if i = 0 then 1 else 0),su_one (f:=fun _ => 1) (by omega)]
  intro i hi
  by_cases e:i = 0
  ·subst e
   rw [dt_congr (B:=fun r c => ((if r = c then 1 else 0:Nat):Int)),dt_id n]
   ·rfl
   intro r c _ _
   show ((if (if r < 0 then r else r + 1) = c + 1 then 1 else 0:Nat):Int) = _
   rw [if_neg (by omega:¬ r < 0)]
   by_cases e:r = c
   ·rw [if_pos e,if_pos (by omega)]
   rw [if_neg e,if_neg (by omega)]
  rw [if_neg e]
  show sg i * ((if i = 0 then 1 else 0:Nat):Int) * _ = 0
  rw [if_neg e,show ((0:Nat):Int) = 0 from rfl,Int.mul_zero,Int.zero_mul]
open Go.RowKit
theorem su_head (f:Nat → Int):∀ n,su (n + 1) f = f 0 + su n fun i => f (i + 1)
  | 0 => by simp [su]
  | n + 1 => by rw [su,su_head f n,su]; omega
def mnc (A:Nat → Nat → Int) (k:Nat):Nat → Nat → Int:=fun r c => A (r + 1) (if c < k then c else c + 1)
theorem mn_mn (A:Nat → Nat → Int) (i k:Nat):mnr (mnc A (k + 1)) i = mnc (mnr A (i + 1)) k:=by
 funext r c
 show A ((if r < i then r else r + 1) + 1) (if c + 1 < k + 1 then c + 1 else c + 1 + 1) = A (if r + 1 < i + 1 then r + 1 else r + 1 + 1) ((if c < k then c else c + 1) + 1)
 congr 1
 ·split
  ·rw [if_pos (by omega)]
  rw [if_neg (by omega)]
 split
 ·rw [if_pos (by omega)]
 rw [if_neg (by omega)]
theorem dt_row:∀ (n:Nat) (A:Nat → Nat → Int),dt (n + 1) A = su (n + 1) fun k => sg k * A 0 k * dt n (mnc A k)
 | 0,A => by show su 1 _ = su 1 _; rfl
 | n + 1,A => by
  show su (n + 2) (fun i => sg i * A i 0 * dt (n + 1) (mnr A i)) = su (n + 2) fun k => sg k * A 0 k * dt (n + 1) (mnc A k)
  rw [su_head,su_head (fun k => sg k * A 0 k * dt (n + 1) (mnc A k))]
  congr 1
  have hl:∀ i,i < n + 1 → sg (i + 1) * A (i + 1) 0 * dt (n + 1) (mnr A (i + 1)) = su (n + 1) fun k => sg (i + 1) * A (i + 1) 0 * (sg k * A 0 (k + 1) * dt n (mnc (mnr A (i + 1)) k)):=fun i _ => by
   rw [su_mul,dt_row n (mnr A (i + 1))]; rfl
  have hr:∀ k,k < n + 1 → sg (k + 1) * A 0 (k + 1) * dt (n + 1) (mnc A (k + 1)) = su (n + 1) fun i => sg (k + 1) * A 0 (k + 1) * (sg i * A (i + 1) 0 * dt n (mnr (mnc A (k + 1)) i)):=fun k _ => by
   rw [su_mul]; rfl
  rw [su_congr hl,su_congr hr,su_swap]
  refine su_congr fun k _ => su_congr fun i _ => ?_
  rw [mn_mn,show sg (i + 1) = -sg i from rfl,show sg (k + 1) = -sg k from rfl]
  generalize dt n (mnc (mnr A (i + 1)) k) = D
  grind
def tp (A:Nat → Nat → Int):Nat → Nat → Int:=fun r c => A c r
theorem dt_tp:∀ (n:Nat) (A:Nat → Nat → Int),dt n (tp A) = dt n A
 | 0,_ => rfl
 | n + 1,A => by
  rw [dt_row n A]
  show su (n + 1) _ = _
  refine su_congr fun i _ => ?_
  rw [show mnr (tp A) i = tp (mnc A i) from rfl,dt_tp n]; rfl
def hsM (A:Nat → Nat → Int) (j i:Nat):Nat → Nat → Int:=fun r c => A (if r = 0 then i else j + r) (j + c)
def hsq (A:Nat → Nat → Int):Nat → Nat → Int
  | 0,_ => 1
  | k + 1,i => if i = k + 1 then su (k + 1) fun l => hsq A k l * A l k else -(A (k + 1) k * hsq A k i)
theorem hs_open {A:Nat → Nat → Int} {n:Nat} (hz:∀ r c,c + 1 < r → r < n → A r c = 0) {j i m:Nat} (hm:j + m + 2 ≤ n):dt (m + 2) (hsM A j i) = A i j * dt (m + 1) (hsM A (j + 1) (j + 1)) - A (j + 1) j * dt (m + 1) (hsM A (j + 1) i):=by
 show su (m + 2) (fun r => sg r * hsM A j i r 0 * dt (m + 1) (mnr (hsM A j i) r)) = _
 rw [su_head,su_head,su_zero]
 ·have e0:dt (m + 1) (mnr (hsM A j i) 0) = dt (m + 1) (hsM A (j + 1) (j + 1)):=dt_congr fun r c _ _ => by
   show A (if (if r < 0 then r else r + 1) = 0 then i else j + (if r < 0 then r else r + 1)) (j + (c + 1)) = A (if r = 0 then j + 1 else j + 1 + r) (j + 1 + c)
   rw [if_neg (by omega:¬ r < 0),if_neg (by omega)]
   congr 1
   ·split <;> omega
   omega
  have e1:dt (m + 1) (mnr (hsM A j i) 1) = dt (m + 1) (hsM A (j + 1) i):=dt_congr fun r c _ _ => by
   show A (if (if r < 1 then r else r + 1) = 0 then i else j + (if r < 1 then r else r + 1)) (j + (c + 1)) = A (if r = 0 then i else j + 1 + r) (j + 1 + c)
   congr 1
   ·by_cases h:r = 0
    ·subst h; rfl
    rw [if_neg (by omega:¬ r < 1),if_neg (by omega),if_neg h]; omega
   omega
  rw [e0,show (0:Nat) + 1 = 1 from rfl,e1]
  show sg 0 * A i (j + 0) * _ + (sg 1 * A (j + 1) (j + 0) * _ + 0) = _
  rw [Nat.add_zero,show sg 0 = 1 from rfl,show sg 1 = -1 from rfl]
  grind
 intro r hr
 show sg (r + 1 + 1) * A (if r + 1 + 1 = 0 then i else j + (r + 1 + 1)) (j + 0) * _ = 0
 rw [if_neg (by omega),hz _ _ (by omega) (by omega),Int.mul_zero,Int.zero_mul]
theorem hs_go {A:Nat → Nat → Int} {n:Nat} (hz:∀ r c,c + 1 < r → r < n → A r c = 0):∀ k m,k + m + 1 = n → dt n A = su (k + 1) fun i => hsq A k i * dt (m + 1) (hsM A k i)
 | 0,m,h => by
  show _ = 0 + hsq A 0 0 * _
  rw [show hsq A 0 0 = 1 from rfl,Int.one_mul,Int.zero_add,show m + 1 = n by omega]
  exact dt_congr fun r c _ _ => by
   show A r c = A (if r = 0 then 0 else 0 + r) (0 + c)
   congr 1
   ·split <;> omega
   omega
 | k + 1,m,h => by
  rw [hs_go hz k (m + 1) (by omega)]
  rw [su_congr (g:=fun i => (hsq A k i * A i k) * dt (m + 1) (hsM A (k + 1) (k + 1)) + (-(A (k + 1) k * hsq A k i)) * dt (m + 1) (hsM A (k + 1) i)) fun i _ => by
   rw [hs_open hz (by omega)]
   generalize dt (m + 1) (hsM A (k + 1) (k + 1)) = D
   generalize dt (m + 1) (hsM A (k + 1) i) = D2
   grind]
  rw [su_add,su_mulr]
  show _ = su (k + 1) (fun i => hsq A (k + 1) i * dt (m + 1) (hsM A (k + 1) i)) + hsq A (k + 1) (k + 1) * dt (m + 1) (hsM A (k + 1) (k + 1))
  rw [show hsq A (k + 1) (k + 1) = su (k + 1) fun l => hsq A k l * A l k from if_pos rfl,su_congr (f:=fun i => hsq A (k + 1) i * dt (m + 1) (hsM A (k + 1) i)) (g:=fun i => (-(A (k + 1) k * hsq A k i)) * dt (m + 1) (hsM A (k + 1) i)) fun i hi => by
   rw [show hsq A (k + 1) i = -(A (k + 1) k * hsq A k i) from if_neg (by omega)]]
  omega
theorem hs_dt {A:Nat → Nat → Int} {n:Nat} (hz:∀ r c,c + 1 < r → r < n → A r c = 0):dt n A = hsq A n n:=by
 cases n with
 | zero => rfl
 | succ n =>
  rw [hs_go hz n 0 rfl]
  show _ = hsq A (n + 1) (n + 1)
  rw [show hsq A (n + 1) (n + 1) = su (n + 1) fun l => hsq A n l * A l n from if_pos rfl]
  refine su_congr fun i _ => ?_
  congr 1
  show 0 + sg 0 * A i (n + 0) * 1 = _
  rw [show sg 0 = 1 from rfl,Nat.add_zero]; omega
def pw (x:Int):Nat → Int
  | 0 => 1
  | n + 1 => x * pw x n
def pv (N:Nat) (c:Nat → Int) (x:Int):Int:=su N fun i => c i * pw x i
def Pol (f:Int → Int):Prop := ∃ N c, ∀ x,f x = pv N c x
theorem pv_more {N M:Nat} {c:Nat → Int} (h:N ≤ M) (x:Int):pv N c x = pv M (fun i => if i < N then c i else 0) x:=by
  unfold pv
  rw [su_le h fun l hl => by dsimp only; rw [if_neg (by omega),Int.zero_mul]]
  exact su_congr fun i hi => by dsimp only; rw [if_pos hi]
theorem Pol.const (a:Int):Pol fun _ => a:=⟨1,fun _ => a,fun x => by show a = 0 + a * 1; omega⟩
theorem Pol.add {f g:Int → Int} (hf:Pol f) (hg:Pol g):Pol fun x => f x + g x:=by
  obtain ⟨N,c,hc⟩:=hf
  obtain ⟨M,d,hd⟩:=hg
  refine ⟨max N M,fun i => (if i < N then c i else 0) + (if i < M then d i else 0),fun x => ?_⟩
  dsimp only
  rw [hc,hd,pv_more (Nat.le_max_left N M),pv_more (Nat.le_max_right N M)]
  unfold pv
  rw [← su_add]
  exact su_congr fun i _ => by rw [Int.add_mul]
theorem Pol.smul {f:Int → Int} (a:Int) (hf:Pol f):Pol fun x => a * f x:=by
  obtain ⟨N,c,hc⟩:=hf
  refine ⟨N,fun i => a * c i,fun x => ?_⟩
  dsimp only
  rw [hc]; unfold pv; rw [← su_mul]
  exact su_congr fun i _ => (Int.mul_assoc ..).symm
theorem Pol.xmul {f:Int → Int} (hf:Pol f):Pol fun x => x * f x:=by
  obtain ⟨N,c,hc⟩:=hf
  refine ⟨N + 1,fun i => if i = 0 then 0 else c (i - 1),fun x => ?_⟩
  dsimp only
  rw [hc]; unfold pv
  rw [su_head]
  dsimp only
  rw [if_pos rfl,Int.zero_mul,Int.zero_add, ← su_mul]
  exact su_congr fun i _ => by rw [if_neg (by omega),Nat.add_sub_cancel,pw]; grind
theorem Pol.of_eq {f g:Int → Int} (hf:Pol f) (h:∀ x,g x = f x):Pol g:=by
  obtain ⟨N,c,hc⟩:=hf; exact ⟨N,c,fun x => (h x).trans (hc x)⟩
theorem Pol.pmul {g:Int → Int} (hg:Pol g):∀ n,Pol fun x => pw x n * g x
  | 0 => hg.of_eq fun x => by show 1 * g x = _; omega
  | n + 1 => (hg.pmul n).xmul.of_eq fun x => by show x * pw x n * g x = _; rw [Int.mul_assoc]
theorem Pol.mul {f g:Int → Int} (hf:Pol f) (hg:Pol g):Pol fun x => f x * g x:=by
 obtain ⟨N,c,hc⟩:=hf
 have h:∀ N,Pol fun x => pv N c x * g x:=fun N => by
  induction N with
  | zero => exact (Pol.const 0).of_eq fun x => by show 0 * g x = 0; rw [Int.zero_mul]
  | succ N ih => exact (ih.add ((hg.pmul N).smul (c N))).of_eq fun x => by show (pv N c x + c N * pw x N) * g x = _; grind
 exact (h N).of_eq fun x => by rw [hc]
theorem Pol.neg {f:Int → Int} (hf:Pol f):Pol fun x => -f x:=(hf.smul (-1)).of_eq fun x => by omega
theorem Pol.sub {f g:Int → Int} (hf:Pol f) (hg:Pol g):Pol fun x => f x - g x:=(hf.add hg.neg).of_eq fun x => by omega
theorem Pol.su {f:Nat → Int → Int}:∀ {n:Nat},(∀ i,i < n → Pol (f i)) → Pol fun x => su n fun i => f i x
  | 0,_ => Pol.const 0
  | n + 1,h => (Pol.su fun i hi => h i (by omega)).add (h n (by omega))
theorem Pol.x:Pol fun x => x:=(Pol.const 1).xmul.of_eq fun x => by omega
theorem pv_zero:∀ {N:Nat} {c:Nat → Int},(∀ x,x ≠ 0 → pv N c x = 0) → ∀ i,i < N → c i = 0
 | 0,_,_,_,h => by omega
 | N + 1,c,h,i,hi => by
  have hx:∀ x,x ≠ 0 → c 0 + x * pv N (fun i => c (i + 1)) x = 0:=fun x hx => by
   rw [← h x hx]; unfold pv
   rw [su_head, ← su_mul]
   show c 0 + _ = c 0 * 1 + _
   rw [Int.mul_one]; congr 1
   exact su_congr fun i _ => by rw [pw]; grind
  have h0:c 0 = 0:=by
   have h9:c 0 * c 0 = (c 0).natAbs * (c 0).natAbs:=by rw [← Int.natCast_mul,Int.natAbs_mul_self]
   have h8:(0:Int) ≤ ((c 0).natAbs:Int) * (c 0).natAbs:=Int.mul_nonneg (by omega) (by omega)
   have h1:=hx (c 0 * c 0 + 1) (by omega)
   generalize pv N (fun i => c (i + 1)) (c 0 * c 0 + 1) = g at h1
   by_cases hg:g = 0
   ·rw [hg] at h1; omega
   exfalso
   have hd:(c 0 * c 0 + 1) ∣ c 0:=⟨-g,by rw [Int.mul_neg]; omega⟩
   have hc:c 0 ≠ 0:=fun e => by
    rw [e] at h1; simp at h1; exact hg h1
   have h3:=Int.le_of_dvd (a:=c 0 * c 0 + 1) (b:=(c 0).natAbs) (by omega) (Int.dvd_natAbs.2 hd)
   have h4:((c 0).natAbs:Int) * 1 ≤ ((c 0).natAbs:Int) * (c 0).natAbs:=Int.mul_le_mul_of_nonneg_left (by omega) (by omega)
   have h5:((c 0).natAbs:Int) * (c 0).natAbs = c 0 * c 0:=by rw [← Int.natCast_mul,Int.natAbs_mul_self]
   omega
  cases i with
  | zero => exact h0
  | succ i =>
   refine pv_zero (N:=N) (c:=fun i => c (i + 1)) (fun x hx0 => ?_) i (by omega)
   have h1:=hx x hx0
   rw [h0,Int.zero_add] at h1
   exact (Int.mul_eq_zero.1 h1).resolve_left hx0
def Pe (p:Nat) (f g:Int → Int):Prop := ∃ t,Pol t ∧ ∀ x,f x = g x + p * t x
section
variable {p:Nat} {f g f' g' h:Int → Int}
theorem Pe.of_eq (e:∀ x,f x = g x):Pe p f g:=⟨fun _ => 0,Pol.const 0,fun x => by dsimp only; rw [e]; omega⟩
theorem Pe.rf (f:Int → Int):Pe p f f:=Pe.of_eq fun _ => rfl
theorem Pe.symm (e:Pe p f g):Pe p g f:=by
  obtain ⟨t,ht,e⟩:=e
  exact ⟨fun x => -t x,ht.neg,fun x => by dsimp only; rw [e,Int.mul_neg]; omega⟩
theorem Pe.trans (e:Pe p f g) (e2:Pe p g h):Pe p f h:=by
  obtain ⟨t,ht,e⟩:=e
  obtain ⟨t2,ht2,e2⟩:=e2
  exact ⟨fun x => t x + t2 x,ht.add ht2,fun x => by dsimp only; rw [e,e2,Int.mul_add]; omega⟩
theorem Pe.add (e:Pe p f g) (e2:Pe p f' g'):Pe p (fun x => f x + f' x) fun x => g x + g' x:=by
  obtain ⟨t,ht,e⟩:=e
  obtain ⟨t2,ht2,e2⟩:=e2
  exact ⟨fun x => t x + t2 x,ht.add ht2,fun x => by dsimp only; rw [e,e2,Int.mul_add]; omega⟩
theorem Pe.sub (e:Pe p f g) (e2:Pe p f' g'):Pe p (fun x => f x - f' x) fun x => g x - g' x:=by
  obtain ⟨t,ht,e⟩:=e
  obtain ⟨t2,ht2,e2⟩:=e2
  exact ⟨fun x => t x - t2 x,ht.sub ht2,fun x => by dsimp only; rw [e,e2,Int.mul_sub]; omega⟩
theorem Pe.mul (e:Pe p f g) (e2:Pe p f' g') (hg:Pol g) (hg':Pol g'):Pe p (fun x => f x * f' x) fun x => g x * g' x:=by
  obtain ⟨t,ht,e⟩:=e
  obtain ⟨t2,ht2,e2⟩:=e2
  exact ⟨fun x => g x * t2 x + (t x * g' x + p * (t x * t2 x)),(hg.mul ht2).add ((ht.mul hg').add ((ht.mul ht2).smul p)),fun x => by dsimp only; rw [e,e2]; grind⟩
theorem Pe.const {a b:Int} (e:Em p a b):Pe p (fun _ => a) fun _ => b:=by
  obtain ⟨k,hk⟩:=e
  exact ⟨fun _ => k,Pol.const k,fun _ => by dsimp only; omega⟩
theorem Pe.su {f g:Nat → Int → Int}:∀ {n:Nat},(∀ i,i < n → Pe p (f i) (g i)) → Pe p (fun x => su n fun i => f i x) fun x => su n fun i => g i x
  | 0,_ => Pe.rf _
  | n + 1,h => (Pe.su fun i hi => h i (by omega)).add (h n (by omega))
theorem Pe.pv {N:Nat} {c d:Nat → Int} (h:∀ i,i < N → Em p (c i) (d i)):Pe p (pv N c) (pv N d):=Pe.su (f:=fun i x => c i * pw x i) (g:=fun i x => d i * pw x i) fun i hi => by
  obtain ⟨k,hk⟩:=h i hi
  exact ⟨fun x => pw x i * k,(Pol.const k).pmul i,fun x => by rw [show c i = d i + p * k by omega]; grind⟩
theorem Pe.coef {N:Nat} {c d:Nat → Int} (h:Pe p (Go.Proofs.YtcfcdbeemhjhgaaDoor.pv N c) (Go.Proofs.YtcfcdbeemhjhgaaDoor.pv N d)):∀ i,i < N → Em p (c i) (d i):=by
 obtain ⟨t,⟨M,e,he⟩,h⟩:=h
 have hz:∀ x,Go.Proofs.YtcfcdbeemhjhgaaDoor.pv (max N M) (fun i => (if i < N then c i - d i else 0) - p * (if i < M then e i else 0)) x = 0:=fun x => by
  have h1:=h x
  rw [he,pv_more (Nat.le_max_left N M),pv_more (c:=d) (Nat.le_max_left N M),pv_more (c:=e) (Nat.le_max_right N M)] at h1
  unfold Go.Proofs.YtcfcdbeemhjhgaaDoor.pv at h1 ⊢
  have hcg:∀ i,((if i < N then c i - d i else 0) - p * (if i < M then e i else 0)) * pw x i = (if i < N then c i else 0) * pw x i + ((-1) * ((if i < N then d i else 0) * pw x i) + (-(p:Int)) * ((if i < M then e i else 0) * pw x i)):=fun i => by
   by_cases h9:i < N
   ·rw [if_pos h9,if_pos h9,if_pos h9]; grind
   rw [if_neg h9,if_neg h9,if_neg h9]; grind
  rw [su_congr (f:=fun i => ((if i < N then c i - d i else 0) - p * (if i < M then e i else 0)) * pw x i) fun i _ => hcg i]
  rw [su_add,su_add,su_mul,su_mul]; dsimp only at h1; grind
 intro i hi
 have h1:=pv_zero (fun x _ => hz x) i (by omega)
 rw [if_pos hi] at h1
 exact ⟨_,show c i - d i = p * (if i < M then e i else 0) by omega⟩
end
theorem dt_pol:∀ {n:Nat} {A:Int → Nat → Nat → Int},(∀ r c,r < n → c < n → Pol fun x => A x r c) → Pol fun x => dt n (A x)
  | 0,_,_ => Pol.const 1
  | n + 1,A,h => Pol.su fun i hi => ((h i 0 hi (by omega)).smul (sg i)).mul (dt_pol (A:=fun x => mnr (A x) i) fun r c hr hc => h _ _ (by split <;> omega) (by omega))
theorem dt_pe {p:Nat}:∀ {n:Nat} {A B:Int → Nat → Nat → Int},(∀ r c,r < n → c < n → Pol fun x => B x r c) → (∀ r c,r < n → c < n → Pe p (fun x => A x r c) fun x => B x r c) → Pe p (fun x => dt n (A x)) fun x => dt n (B x)
 | 0,_,_,_,_ => Pe.rf _
 | n + 1,A,B,hB,h => Pe.su (f:=fun i x => sg i * A x i 0 * dt n (mnr (A x) i)) (g:=fun i x => sg i * B x i 0 * dt n (mnr (B x) i)) fun i hi => by
  refine Pe.mul (f:=fun x => sg i * A x i 0) (g:=fun x => sg i * B x i 0) (f':=fun x => dt n (mnr (A x) i)) (g':=fun x => dt n (mnr (B x) i)) ?_ ?_ ((hB i 0 hi (by omega)).smul _) (dt_pol (A:=fun x => mnr (B x) i) fun r c hr hc => hB _ _ (by split <;> omega) (by omega))
  ·exact Pe.mul (f:=fun _ => sg i) (g:=fun _ => sg i) (Pe.rf _) (h i 0 hi (by omega)) (Pol.const _) (hB i 0 hi (by omega))
  exact dt_pe (A:=fun x => mnr (A x) i) (B:=fun x => mnr (B x) i) (fun r c hr hc => hB _ _ (by split <;> omega) (by omega)) fun r c hr hc => h _ _ (by split <;> omega) (by omega)
open Go.RowKit
def xm (H:List (List Nat)) (x:Int):Nat → Nat → Int:=fun r c => (if r = c then x else 0) - en H r c
theorem xm_pol (H:List (List Nat)) (r c:Nat):Pol fun x => xm H x r c:=by
  unfold xm
  by_cases h:r = c
  · exact (Pol.x.sub (Pol.const (en H r c))).of_eq fun x => by rw [if_pos h]
  exact ((Pol.const 0).sub (Pol.const (en H r c))).of_eq fun x => by rw [if_neg h]
theorem hsq_pol (H:List (List Nat)):∀ k i,Pol fun x => hsq (xm H x) k i
 | 0,_ => Pol.const 1
 | k + 1,i => by
  by_cases h:i = k + 1
  ·exact (Pol.su (n:=k + 1) (f:=fun l x => hsq (xm H x) k l * xm H x l k) fun l _ => (hsq_pol H k l).mul (xm_pol H l k)).of_eq fun x => if_pos h
  exact ((xm_pol H (k + 1) k).mul (hsq_pol H k i)).neg.of_eq fun x => if_neg h
def prd (H:List (List Nat)) (i:Nat):Nat → Int
  | 0 => 1
  | t + 1 => en H (i + t + 1) (i + t) * prd H i t
theorem prd_rev (H:List (List Nat)):∀ t i,prd H i (t + 1) = en H (i + 1) i * prd H (i + 1) t
 | 0,i => rfl
 | t + 1,i => by
  rw [prd,prd_rev H t i,prd]
  rw [show i + (t + 1) + 1 = i + 1 + t + 1 by omega,show i + (t + 1) = i + 1 + t by omega]
  generalize en H (i + 1 + t + 1) (i + 1 + t) = a
  grind
theorem hsq_prd (H:List (List Nat)) (x:Int) (i:Nat):∀ t,hsq (xm H x) (i + t) i = prd H i t * hsq (xm H x) i i
 | 0 => by rw [prd,Int.one_mul]; rfl
 | t + 1 => by
  show (if i = i + t + 1 then _ else -(xm H x (i + t + 1) (i + t) * hsq (xm H x) (i + t) i)) = _
  rw [if_neg (by omega),hsq_prd H x i t,prd]
  unfold xm
  rw [if_neg (by omega)]
  grind
def plv (l:List Nat) (x:Int):Int:=pv l.length (fun i => (nd l i:Int)) x
theorem plv_of {l:List Nat} {N:Nat} (h:l.length ≤ N) (x:Int):plv l x = pv N (fun i => (nd l i:Int)) x:=by
  unfold plv pv
  exact (su_le h fun i hi => by dsimp only; rw [nd_lt_len hi,Int.natCast_zero,Int.zero_mul]).symm
section
variable {p:Nat} {a b:List Nat}
theorem normP_nd (p:Nat) (a:List Nat) (i:Nat):nd (normP p a) i = nd a i % p:=by unfold normP; rw [trimL_nd,nd_mod]
theorem plv_norm (p:Nat) (a:List Nat):Pe p (plv (normP p a)) (plv a):=by
  have h:=Pe.pv (p:=p) (N:=a.length) (c:=fun i => (nd (normP p a) i:Int)) (d:=fun i => (nd a i:Int)) fun i _ => by rw [normP_nd]; exact Em.md _
  exact (Pe.of_eq fun x => plv_of (normP_len p a) x).trans h
theorem nd_mulm {p c:Nat} {xs:List Nat} (k:Nat):nd (xs.map (· * c % p)) k = nd xs k * c % p:=by
  unfold nd; rw [List.getD,List.getD,List.getElem?_map]; cases xs[k]? <;> simp
theorem scaleP_nd (p:Nat) (a:List Nat) (c i:Nat):nd (scaleP p a c) i = nd a i % p * (c % p) % p:=by unfold scaleP; rw [trimL_nd,nd_mulm,normP_nd]
theorem plv_scale (p:Nat) (a:List Nat) (c:Nat):Pe p (plv (scaleP p a c)) fun x => (c:Int) * plv a x:=by
 have h:=Pe.pv (p:=p) (N:=a.length) (c:=fun i => (nd (scaleP p a c) i:Int)) (d:=fun i => (c:Int) * (nd a i:Int)) fun i _ => by
  rw [scaleP_nd]
  refine (Em.md _).trans ?_
  rw [Int.natCast_mul,Int.mul_comm]
  exact (Em.md _).mul (Em.md _)
 refine (Pe.of_eq fun x => plv_of (scaleP_len p a c) x).trans (h.trans (Pe.of_eq fun x => ?_))
 show su _ _ = (c:Int) * su _ _
 rw [← su_mul]
 exact su_congr fun i _ => Int.mul_assoc ..
theorem subP_nd (hp:0 < p) (a b:List Nat) (i:Nat):Em p (nd (subP p a b) i:Nat) ((nd a i:Int) - nd b i):=by
 unfold subP subL
 rw [trimL_nd]
 by_cases hi:i < max (normP p a).length (normP p b).length
 ·rw [rowF_nd hi,normP_nd,normP_nd]
  have hm:=Nat.mod_lt (nd b i) hp
  have h:=(Em.less (p:=p) (x:=nd a i % p) (y:=nd b i) (f:=1) hp)
  rw [Nat.one_mul] at h
  exact h.trans ((Em.md _).sub (Em.of_eq (by omega)))
 rw [nd_lt_len (by rw [rowF_len]; omega)]
 have h1:=normP_nd p a i
 have h2:=normP_nd p b i
 rw [nd_lt_len (by omega)] at h1 h2
 have e1:=Em.md (p:=p) (nd a i)
 have e2:=Em.md (p:=p) (nd b i)
 rw [← h1] at e1
 rw [← h2] at e2
 exact (Em.of_eq (by omega)).trans (e1.sub e2)
theorem plv_sub (hp:0 < p) (a b:List Nat):Pe p (plv (subP p a b)) fun x => plv a x - plv b x:=by
  have h:=Pe.pv (p:=p) (N:=max a.length b.length) (c:=fun i => (nd (subP p a b) i:Int)) (d:=fun i => (nd a i:Int) - nd b i) fun i _ => subP_nd hp a b i
  refine (Pe.of_eq fun x => plv_of (subP_len p a b) x).trans (h.trans (Pe.of_eq fun x => ?_))
  rw [plv_of (Nat.le_max_left a.length b.length),plv_of (Nat.le_max_right a.length b.length)]
  unfold pv
  rw [su_congr (g:=fun i => (nd a i:Int) * pw x i + (-1) * ((nd b i:Int) * pw x i)) fun i _ => by grind,su_add,su_mul]
  dsimp only; omega
theorem plv_shift (p:Nat) (a:List Nat):Pe p (plv (shiftP p a)) fun x => x * plv a x:=by
 have h:∀ x,plv (shiftP p a) x = x * plv (normP p a) x:=fun x => by
  unfold shiftP
  by_cases h:normP p a = []
  ·rw [if_pos h,h]; show (0:Int) = x * 0; omega
  rw [if_neg h]
  show su ((normP p a).length + 1) (fun i => (nd (0 :: normP p a) i:Int) * pw x i) = x * su _ _
  rw [su_head, ← su_mul]
  show ((0:Nat):Int) * 1 + _ = _
  rw [su_congr (g:=fun i => x * ((nd (normP p a) i:Int) * pw x i)) fun i _ => by
   show (nd (normP p a) i:Int) * (x * pw x i) = _
   grind]
  dsimp only; omega
 obtain ⟨t,ht,e⟩:=plv_norm p a
 exact ⟨fun x => x * t x,ht.xmul,fun x => by dsimp only; rw [h,e,Int.mul_add,Int.mul_left_comm]⟩
end
theorem su_rev (f:Nat → Int):∀ n,su (n + 1) (fun t => f (n - t)) = su (n + 1) f
 | 0 => rfl
 | n + 1 => by
  rw [su_head,su_congr (g:=fun t => f (n - t)) fun t _ => by congr 1; omega,su_rev f n,su]
  show f (n + 1 - 0) + _ = _
  rw [Nat.sub_zero]; rw [su,su]; omega
section
variable {p:Nat} {H:List (List Nat)}
theorem inP_prd (hp:1 < p) {P:List (List Nat)} {k:Nat}:∀ d,d ≤ k → Em p ((inP p H P k d).2:Nat) (prd H (k - d) d)
 | 0,_ => Em.of_eq rfl
 | d + 1,h => by
  rw [inP]
  show Em p (((inP p H P k d).2 * nd (H.getD (k - 1 - d + 1) []) (k - 1 - d) % p:Nat):Int) _
  rw [prd_rev]
  have ih:=inP_prd (P:=P) (k:=k) hp d (by omega)
  refine (Em.md _).trans ?_
  rw [Int.natCast_mul,Int.mul_comm,show k - (d + 1) = k - 1 - d by omega]
  rw [show k - d = k - 1 - d + 1 by omega] at ih
  exact (Em.rf _).mul ih
theorem inP_val (hp:1 < p) {P:List (List Nat)} {k:Nat} (hP:∀ i,i ≤ k → Pe p (plv (P.getD i [])) fun x => hsq (xm H x) i i):∀ d,d ≤ k → Pe p (plv (inP p H P k d).1) fun x => su (d + 1) fun t => hsq (xm H x) k (k - t) * xm H x (k - t) k
 | 0,_ => by
  rw [inP]
  have h0:0 < p:=by omega
  have hk:=hP k (Nat.le_refl _)
  refine (plv_sub h0 _ _).trans (((plv_shift p (P.getD k [])).sub (plv_scale p (P.getD k []) (nd (H.getD k []) k))).trans ?_)
  have h1:Pe p (fun x => x * plv (P.getD k []) x) fun x => x * hsq (xm H x) k k:=(Pe.rf fun x => x).mul hk Pol.x (hsq_pol H k k)
  have h2:Pe p (fun x => ((nd (H.getD k []) k:Nat):Int) * plv (P.getD k []) x) fun x => en H k k * hsq (xm H x) k k:=(Pe.rf fun _ => en H k k).mul hk (Pol.const _) (hsq_pol H k k)
  refine (h1.sub h2).trans (Pe.of_eq fun x => ?_)
  show _ = 0 + hsq (xm H x) k (k - 0) * xm H x (k - 0) k
  rw [Nat.sub_zero]
  unfold xm
  rw [if_pos rfl]
  grind
 | d + 1,hd => by
  rw [inP]
  have h0:0 < p:=by omega
  have ih:=inP_val hp hP d (by omega)
  refine (plv_sub h0 _ _).trans ((ih.sub (plv_scale p _ _)).trans ?_)
  have hc:Em p (((inP p H P k d).2 * nd (H.getD (k - 1 - d + 1) []) (k - 1 - d) % p * nd (H.getD (k - 1 - d) []) k % p:Nat):Int) (prd H (k - 1 - d) (d + 1) * en H (k - 1 - d) k):=by
   refine (Em.md _).trans ?_
   rw [Int.natCast_mul]
   have:=inP_prd (P:=P) (H:=H) hp (d + 1) hd
   rw [show k - (d + 1) = k - 1 - d by omega] at this
   exact this.mul (Em.rf _)
  have h1:=(Pe.const hc).mul (hP (k - 1 - d) (by omega)) (Pol.const _) (hsq_pol H _ _)
  refine ((Pe.rf _).sub h1).trans (Pe.of_eq fun x => ?_)
  show _ = su (d + 1) _ + hsq (xm H x) k (k - (d + 1)) * xm H x (k - (d + 1)) k
  have e:=hsq_prd H x (k - 1 - d) (d + 1)
  rw [show k - 1 - d + (d + 1) = k by omega] at e
  rw [show k - (d + 1) = k - 1 - d by omega,e]
  generalize su (d + 1) (fun t => hsq (xm H x) k (k - t) * xm H x (k - t) k) = S
  unfold xm
  rw [if_neg (by omega:¬ k - 1 - d = k)]
  grind
theorem polysL_val (hp:1 < p):∀ k, ∀ i,i ≤ k → Pe p (plv ((polysL p H k).getD i [])) fun x => hsq (xm H x) i i
 | 0,i,hi => by
  obtain rfl:i = 0:=by omega
  have e:1 % p = 1:=Nat.mod_eq_of_lt hp
  refine Pe.of_eq fun x => ?_
  show plv [1 % p] x = 1
  rw [e]; rfl
 | k + 1,i,hi => by
  by_cases e:i ≤ k
  ·rw [polysL_at k e]; exact polysL_val hp k i e
  obtain rfl:i = k + 1:=by omega
  rw [polysL_last]
  refine (inP_val hp (polysL_val hp k) k (Nat.le_refl _)).trans (Pe.of_eq fun x => ?_)
  rw [su_rev (fun l => hsq (xm H x) k l * xm H x l k)]
  exact (if_pos rfl).symm
end
section
variable {p n:Nat} {s:HS} {i k f:Nat}
theorem row_dt {A:Nat → Nat → Int} {n i k:Nat} (a:Int) (hi:i < n) (hk:k < n) (hne:i ≠ k):dt n (fun r c => A r c + if r = i then a * A k c else 0) = dt n A:=by
  rw [← dt_addrow (A:=A) a hi hk (fun h => hne h.symm)]
  refine dt_congr fun r c _ _ => ?_
  unfold up
  by_cases h:r = i
  · subst h; rw [if_pos rfl,if_pos rfl]; omega
  rw [if_neg h,if_neg h]; omega
theorem col_dt {A:Nat → Nat → Int} {n i k:Nat} (a:Int) (hi:i < n) (hk:k < n) (hne:i ≠ k):dt n (fun r c => A r c + if c = i then a * A r k else 0) = dt n A:=by
  rw [← dt_tp n A, ← row_dt (A:=tp A) a hi hk hne, ← dt_tp]; rfl
theorem swap_dt {A:Nat → Nat → Int} {n i k:Nat} (hi:i < n) (hk:k < n):dt n (fun r c => A (tr i k r) (tr i k c)) = dt n A:=by
 by_cases hne:i = k
 ·subst hne
  refine dt_congr fun r c _ _ => ?_
  have:∀ x,tr i i x = x:=fun x => by unfold tr; split <;> simp_all
  rw [this,this]
 have h1:∀ B:Nat → Nat → Int,dt n (fun r c => B (tr i k r) c) = -dt n B:=fun B => by
  rw [← dt_swap (A:=B) hi hk hne]
  refine dt_congr fun r c _ _ => ?_
  unfold up tr
  by_cases e:r = k
  ·subst e; simp only [if_true,if_neg (fun h => hne h.symm:¬ r = i)]
  by_cases e2:r = i
  ·simp only [if_neg e,if_pos e2]
  simp only [if_neg e,if_neg e2]
 have h2:=h1 (fun r c => A r (tr i k c))
 rw [h2]
 have h3:=h1 (tp A)
 rw [dt_tp] at h3
 have h4:dt n (fun r c => A r (tr i k c)) = dt n (fun r c => tp A (tr i k r) c):=by rw [← dt_tp]; rfl
 rw [h4,h3]; omega
theorem xm_em {H G:List (List Nat)} (h:∀ r c,r < n → c < n → Em p (en H r c) (en G r c)):Pe p (fun x => dt n (xm H x)) fun x => dt n (xm G x) :=
  dt_pe (A:=xm H) (B:=xm G) (fun r c _ _ => xm_pol G r c) fun r c hr hc => (Pe.rf fun x => if r = c then x else 0).sub (Pe.const (h r c hr hc))
theorem less_dt (hok:HOk p n s) (hp:0 < p) (hi:i < n) (hk:k < n) (hne:i ≠ k):Pe p (fun x => dt n (xm (s.less p i k f).H x)) fun x => dt n (xm s.H x):=by
 have hG:∀ r c,r < n → c < n → Em p (en (subM p f i k s.H) r c) (en s.H r c - if r = i then (f:Int) * en s.H k c else 0):=fun r c hr hc => en_subM hp hok.hs (by rw [hok.hl]; exact hi) (by rw [hok.hl]; exact hk) hc
 have hH:∀ r c,r < n → c < n → Em p (en (s.less p i k f).H r c) ((en s.H r c - if r = i then (f:Int) * en s.H k c else 0) + if c = k then (f:Int) * (en s.H r i - if r = i then (f:Int) * en s.H k i else 0) else 0):=fun r c hr hc => by
  refine (en_addC (hok.hs.subM hp (by rw [hok.hl]; exact hi) (by rw [hok.hl]; exact hk)) hk (by rw [subM_len,hok.hl]; exact hr)).trans ((hG r c hr hc).add ?_)
  split
  ·exact (Em.rf _).mul (hG r i hr hi)
  exact Em.rf _
 have hB:Pe p (fun x => dt n (xm (s.less p i k f).H x)) fun x => dt n (fun r c => (xm s.H x r c + if r = i then -(f:Int) * xm s.H x k c else 0) + if c = k then (f:Int) * (xm s.H x r i + if r = i then -(f:Int) * xm s.H x k i else 0) else 0):=by
  refine dt_pe (A:=xm (s.less p i k f).H) (B:=fun x r c => (xm s.H x r c + if r = i then -(f:Int) * xm s.H x k c else 0) + if c = k then (f:Int) * (xm s.H x r i + if r = i then -(f:Int) * xm s.H x k i else 0) else 0) (fun r c _ _ => ?_) fun r c hr hc => ?_
  ·have q1:∀ c,Pol fun x => xm s.H x r c + if r = i then -(f:Int) * xm s.H x k c else 0:=fun c => (xm_pol s.H r c).add (by
    by_cases h:r = i
    ·exact ((xm_pol s.H k c).smul (-(f:Int))).of_eq fun x => if_pos h
    exact (Pol.const 0).of_eq fun x => if_neg h)
   exact (q1 c).add (by
    by_cases h:c = k
    ·exact ((q1 i).smul (f:Int)).of_eq fun x => if_pos h
    exact (Pol.const 0).of_eq fun x => if_neg h)
  refine ((Pe.rf fun x => if r = c then x else 0).sub (Pe.const (hH r c hr hc))).trans (Pe.of_eq fun x => ?_)
  unfold xm
  by_cases h1:r = i
  ·subst h1
   by_cases h2:c = k
   ·subst h2
    simp only [if_pos rfl,if_neg hne,if_neg (fun h => hne h.symm:¬ c = r)]
    grind
   simp only [if_pos rfl,if_neg h2]
   by_cases h3:r = c
   ·subst h3; simp only [if_pos rfl,if_neg (fun h => h2 h.symm:¬ k = r)]; grind
   simp only [if_neg h3,if_neg (fun h => h2 h.symm:¬ k = c)]; grind
  simp only [if_neg h1]
  by_cases h2:c = k
  ·subst h2; simp only [if_pos rfl]; grind
  simp only [if_neg h2]; grind
 refine hB.trans (Pe.of_eq fun x => ?_)
 rw [col_dt (A:=fun r c => xm s.H x r c + if r = i then -(f:Int) * xm s.H x k c else 0) (f:Int) hk hi (fun h => hne h.symm)]
 exact row_dt (A:=xm s.H x) (-(f:Int)) hi hk hne
theorem swap_dtx (hok:HOk p n s) (hi:i < n) (hk:k < n):Pe p (fun x => dt n (xm (s.swap i k).H x)) fun x => dt n (xm s.H x):=Pe.of_eq fun x => by
 rw [← swap_dt (A:=xm s.H x) hi hk]
 refine dt_congr fun r c hr hc => ?_
 unfold xm
 have h1:en (s.swap i k).H r c = en s.H (tr i k r) (tr i k c):=by
  have:=swap_at (c:=c) hok hi hk hr
  unfold en; rw [this]
 have h2:(tr i k r = tr i k c) ↔ r = c:=by
  unfold tr
  constructor
  ·intro h
   split at h <;> split at h <;> (try split at h) <;> (try split at h) <;> omega
  intro h; rw [h]
 rw [h1]
 by_cases e:r = c
 ·rw [if_pos e,if_pos (h2.2 e)]
 rw [if_neg e,if_neg (fun h => e (h2.1 h))]
theorem elim_dt (hok:HOk p n s) (hp:0 < p) {iv:Nat}:∀ d,d + k + 2 ≤ n → Pe p (fun x => dt n (xm (s.elim p k iv d).H x)) fun x => dt n (xm s.H x)
 | 0,_ => Pe.rf _
 | d + 1,hd => by
  have ih:=elim_dt hok hp (iv:=iv) d (by omega)
  rw [HS.elim]
  split
  ·exact ih
  exact (less_dt (hok.elim hp d (by omega)) hp (by omega) (by omega) (by omega)).trans ih
theorem step_dt (hok:HOk p n s) (hp:0 < p) (hk:k + 2 ≤ n):Pe p (fun x => dt n (xm (s.step p n k).H x)) fun x => dt n (xm s.H x):=by
 unfold HS.step
 split
 ·exact Pe.rf _
 rename_i j hf
 obtain ⟨f1,f2,f3,f4⟩:=firstNZ_is hf
 refine (elim_dt (hok.pivot hp (by omega) (by omega)) hp _ (by omega)).trans ?_
 unfold HS.pivot
 split
 ·exact Pe.rf _
 exact swap_dtx hok (by omega) (by omega)
end
section
variable {p n:Nat} {M:List (List Nat)}
theorem en_mod (p:Nat) (M:List (List Nat)) (r c:Nat):Em p (en (modM p M) r c) (en M r c):=by
 unfold en
 by_cases hr:r < M.length
 ·rw [show (modM p M).getD r [] = (M.getD r []).map (· % p) from mapM_at hr,nd_mod]; exact Em.md _
 have e:∀ N:List (List Nat),N.length ≤ r → N.getD r [] = []:=fun N h => by simp [List.getD,List.getElem?_eq_none h]
 rw [e _ (by rw [modM_len]; omega),e _ (by omega)]; exact Em.rf _
theorem red_dt (hp:1 < p) (hr:RectM M) (hl:M.length = n) (hq:M.length = colsM M):∀ k,k + 1 ≤ n → Pe p (fun x => dt n (xm (HS.red p n M (k - 1)).H x)) fun x => dt n (xm M x)
  | 0,_ => xm_em fun r c _ _ => en_mod p M r c
  | 1,_ => xm_em fun r c _ _ => en_mod p M r c
  | k + 2,hk => (step_dt (HOk.red hp hr hl hq (k + 1) (by omega)) (by omega) (by show k + 2 ≤ n; omega)).trans (red_dt hp hr hl hq (k + 1) (by omega))
theorem char_val (hp:MR.Pr p) (hr:RectM M) (h0:M.length ≠ 0) (hq:M.length = colsM M):Pe p (plv (charL p M)) fun x => dt M.length (xm M x):=by
  have hp1:1 < p:=hp.1
  obtain ⟨n,hn⟩:∃ n,M.length = n:=⟨_,rfl⟩
  have hz:=Hz.redk hp hr hn hq (by omega)
  have h1:=polysL_val (p:=p) (H:=(HS.red p n M (n - 2)).H) hp1 n n (Nat.le_refl _)
  have h2:=red_dt hp1 hr hn hq (n - 1) (by omega)
  unfold charL
  rw [hn]
  refine h1.trans (Pe.trans (Pe.of_eq fun x => ?_) h2)
  refine (hs_dt (n:=n) fun r c hc hr' => ?_).symm
  unfold xm
  rw [if_neg (by omega)]
  show (0:Int) - ((nd _ c:Nat):Int) = 0
  rw [hz c r (by omega) hc hr']; rfl
end
section
variable {p:Nat}
theorem trimL_top {xs:List Nat} {m:Nat} (h:xs.length = m + 1) (h1:nd xs m ≠ 0):trimL xs = xs:=trimL_self (.inr (by rw [h]; exact h1))
theorem normP_top {a:List Nat} {m:Nat} (hp:1 < p) (h:a.length = m + 1) (h1:nd a m = 1):(normP p a).length = m + 1:=by
  unfold normP
  rw [trimL_top (m:=m) (by rw [List.length_map]; exact h) (by rw [nd_mod,h1,Nat.mod_eq_of_lt hp]; omega),List.length_map]; exact h
theorem subP_top {a b:List Nat} {m:Nat} (hp:1 < p) (h:a.length = m + 1) (h1:nd a m = 1) (hb:b.length ≤ m):(subP p a b).length = m + 1 ∧ nd (subP p a b) m = 1:=by
 have ha:=normP_top hp h h1
 have hb2:=normP_len p b
 have hl:(subL p (normP p a) (normP p b)).length = m + 1:=by rw [subL,rowF_len,ha]; omega
 have ht:nd (subL p (normP p a) (normP p b)) m = 1:=by
  rw [subL,rowF_nd (by rw [ha]; omega),normP_nd,h1,nd_lt_len (by omega),Nat.mod_eq_of_lt hp,Nat.sub_zero,Nat.add_mod_right,Nat.mod_eq_of_lt hp]
 unfold subP
 rw [trimL_top hl (by rw [ht]; omega)]
 exact ⟨hl,ht⟩
theorem shiftP_top {a:List Nat} {m:Nat} (hp:1 < p) (h:a.length = m + 1) (h1:nd a m = 1):(shiftP p a).length = m + 2 ∧ nd (shiftP p a) (m + 1) = 1:=by
  have ha:=normP_top hp h h1
  unfold shiftP
  rw [if_neg (fun e => by rw [e] at ha; cases ha)]
  refine ⟨by rw [List.length_cons,ha],?_⟩
  show nd (normP p a) m = 1
  rw [normP_nd,h1,Nat.mod_eq_of_lt hp]
theorem inP_top {H P:List (List Nat)} {k:Nat} (hp:1 < p) (hP:∀ i,i ≤ k → (P.getD i []).length = i + 1 ∧ nd (P.getD i []) i = 1):∀ d,d ≤ k → (inP p H P k d).1.length = k + 2 ∧ nd (inP p H P k d).1 (k + 1) = 1
 | 0,_ => by
  rw [inP]
  obtain ⟨h1,h2⟩:=hP k (Nat.le_refl _)
  obtain ⟨h3,h4⟩:=shiftP_top hp h1 h2
  dsimp only
  exact subP_top hp h3 h4 (by have:=scaleP_len p (P.getD k []) (nd (H.getD k []) k); omega)
 | d + 1,hd => by
  rw [inP]
  obtain ⟨h3,h4⟩:=inP_top (H:=H) hp hP d (by omega)
  obtain ⟨h1,h2⟩:=hP (k - 1 - d) (by omega)
  dsimp only
  exact subP_top hp h3 h4 (by have:=scaleP_len p (P.getD (k - 1 - d) []) ((inP p H P k d).2 * nd (H.getD (k - 1 - d + 1) []) (k - 1 - d) % p * nd (H.getD (k - 1 - d) []) k % p); omega)
theorem polysL_top {H:List (List Nat)} (hp:1 < p):∀ k, ∀ i,i ≤ k → ((polysL p H k).getD i []).length = i + 1 ∧ nd ((polysL p H k).getD i []) i = 1
 | 0,i,hi => by
  obtain rfl:i = 0:=by omega
  exact ⟨rfl,Nat.mod_eq_of_lt hp⟩
 | k + 1,i,hi => by
  by_cases e:i ≤ k
  ·rw [polysL_at k e]; exact polysL_top hp k i e
  obtain rfl:i = k + 1:=by omega
  rw [polysL_last]; exact inP_top hp (polysL_top hp k) k (Nat.le_refl _)
def trc (H:List (List Nat)) (k:Nat):Int:=su k fun j => en H j j
end
section
variable {p n:Nat} {M:List (List Nat)}
theorem charL_len (hp:1 < p) (M:List (List Nat)):(charL p M).length = M.length + 1:=(polysL_top hp _ _ (Nat.le_refl _)).1
theorem charL_lt (hp:0 < p) (M:List (List Nat)):∀ x ∈ charL p M,x < p:=polysL_lt hp _ (Nat.le_refl _)
def tpM (n:Nat) (M:List (List Nat)):List (List Nat):=mkM n n fun i k => nd (M.getD k []) i
end
end Go.Proofs.YtcfcdbeemhjhgaaDoor
