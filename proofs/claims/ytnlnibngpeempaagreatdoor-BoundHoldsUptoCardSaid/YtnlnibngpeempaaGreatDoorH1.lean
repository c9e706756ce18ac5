/-
  Contracts and lemmas, joined in one text.
-/
import Derived.Test.YtnlnibngpeempaaGreatDoorBA
import Derived.Test.YtnlnibngpeempaaGreatDoorMR
import Derived.Test.YtnlnibngpeempaaGreatDoorCB
set_option linter.unusedVariables false
set_option linter.unusedSimpArgs false
/-
  Matrices of words modulo a prime,plainly: elimination,row by row.
-/
namespace Go.Proofs.YtnlnibngpeempaaGreatDoor
open Go.RowKit
def Shp (p C:Nat) (M:List (List Nat)):Prop := ∀ r ∈ M,r.length = C ∧ ∀ x ∈ r,x < p
theorem Shp.get {p C:Nat} {M:List (List Nat)} (h:Shp p C M) {i:Nat} {r:List Nat} (hi:M[i]? = some r):r.length = C ∧ ∀ x ∈ r,x < p:=h r (List.mem_of_getElem? hi)
theorem get_getD {M:List (List Nat)} {i:Nat} (h:i < M.length):M[i]? = some (M.getD i []):=by simp [List.getD,h]
theorem Shp.at {p C:Nat} {M:List (List Nat)} (h:Shp p C M) {i:Nat} (hi:i < M.length):(M.getD i []).length = C ∧ ∀ x ∈ M.getD i [],x < p:=h.get (get_getD hi)
theorem Shp.nd {p C:Nat} {M:List (List Nat)} (h:Shp p C M) (hp:0 < p) (i k:Nat):nd (M.getD i []) k < p:=by
 by_cases hi:i < M.length
 ·by_cases hk:k < (M.getD i []).length
  ·rw [nd_get hk]; exact (h.at hi).2 _ (List.getElem_mem hk)
  rw [nd_lt_len (by omega)]; exact hp
 have:M.getD i [] = []:=by simp [List.getD,List.getElem?_eq_none (by omega:M.length ≤ i)]
 rw [this]; exact hp
theorem Shp.set {p C:Nat} {M:List (List Nat)} (h:Shp p C M) (i:Nat) {r:List Nat} (hr:r.length = C ∧ ∀ x ∈ r,x < p):Shp p C (M.set i r):=fun s hs => by
  rcases List.mem_or_eq_of_mem_set hs with hs | rfl
  · exact h s hs
  exact hr
theorem getD_set_self {M:List (List Nat)} {i:Nat} (h:i < M.length) (r:List Nat):(M.set i r).getD i [] = r:=by simp [List.getD,h]
theorem getD_set_ne {M:List (List Nat)} {i j:Nat} (h:i ≠ j) (r:List Nat):(M.set i r).getD j [] = M.getD j []:=by simp [List.getD,List.getElem?_set_ne h]
def firstNZ (M:List (List Nat)) (c:Nat):Nat → Nat → Option Nat
  | 0,_ => none
  | k + 1,i => if nd (M.getD i []) c ≠ 0 then some i else firstNZ M c k (i + 1)
def pinv (p a:Nat):Nat:=a ^ (p - 2) % p
def lessR (p f:Nat) (a b:List Nat):List Nat:=List.zipWith (fun x y => (x + p - f * y % p) % p) a b
def swapM (M:List (List Nat)) (i j:Nat):List (List Nat):=(M.set i (M.getD j [])).set j (M.getD i [])
theorem lessR_len {p f:Nat} {a b:List Nat} (h:a.length = b.length):(lessR p f a b).length = a.length:=by simp [lessR,h]
theorem lessR_nd {p f:Nat} {a b:List Nat} {k:Nat} (h:a.length = b.length) (hk:k < a.length):nd (lessR p f a b) k = (nd a k + p - f * nd b k % p) % p:=by
  unfold lessR
  rw [nd_get (by simp [h] at *; omega),nd_get hk,nd_get (by omega),List.getElem_zipWith]
theorem mem_nd {a:List Nat} {x:Nat} (h:x ∈ a):∃ k,k < a.length ∧ nd a k = x:=by
  obtain ⟨k,hk,rfl⟩:=List.getElem_of_mem h
  exact ⟨k,hk,nd_get hk⟩
theorem lessR_lt {p f:Nat} {a b:List Nat} (h:a.length = b.length) (hp:0 < p):∀ x ∈ lessR p f a b,x < p:=fun x hx => by
  obtain ⟨k,hk,rfl⟩:=mem_nd hx
  rw [lessR_nd h (by rw [lessR_len h] at hk; exact hk)]
  exact Nat.mod_lt _ hp
theorem swapM_len (M:List (List Nat)) (i j:Nat):(swapM M i j).length = M.length:=by simp [swapM]
theorem swapM_shp {p C:Nat} {M:List (List Nat)} (h:Shp p C M) {i j:Nat} (hi:i < M.length) (hj:j < M.length):Shp p C (swapM M i j):=(h.set i (h.at hj)).set j (h.at hi)
theorem swapM_at {M:List (List Nat)} {i j:Nat} (hi:i < M.length) (hj:j < M.length) (l:Nat):(swapM M i j).getD l [] = if l = i then M.getD j [] else if l = j then M.getD i [] else M.getD l []:=by
 unfold swapM
 by_cases e1:l = j
 ·subst e1
  rw [getD_set_self (by simpa using hj)]
  by_cases e2:l = i
  ·subst e2; rw [if_pos rfl]
  rw [if_neg e2,if_pos rfl]
 rw [getD_set_ne (fun h => e1 h.symm)]
 by_cases e2:l = i
 ·subst e2; rw [getD_set_self hi,if_pos rfl]
 rw [getD_set_ne (fun h => e2 h.symm),if_neg e2,if_neg e1]
section
variable {p r c C:Nat} {M:List (List Nat)}
end
open Go.RowKit
def Em (p:Nat) (a b:Int):Prop:=(p:Int) ∣ a - b
section
variable {p:Nat} {a b c d:Int}
theorem Em.rf (a:Int):Em p a a:=⟨0,by omega⟩
theorem Em.of_eq (h:a = b):Em p a b:=h ▸ Em.rf a
theorem Em.symm (h:Em p a b):Em p b a:=by obtain ⟨k,hk⟩:=h; exact ⟨-k,by rw [Int.mul_neg]; omega⟩
theorem Em.trans (h:Em p a b) (h2:Em p b c):Em p a c:=by obtain ⟨k,hk⟩:=h; obtain ⟨l,hl⟩:=h2; exact ⟨k + l,by rw [Int.mul_add]; omega⟩
theorem Em.add (h:Em p a b) (h2:Em p c d):Em p (a + c) (b + d):=by obtain ⟨k,hk⟩:=h; obtain ⟨l,hl⟩:=h2; exact ⟨k + l,by rw [Int.mul_add]; omega⟩
theorem Em.sub (h:Em p a b) (h2:Em p c d):Em p (a - c) (b - d):=by obtain ⟨k,hk⟩:=h; obtain ⟨l,hl⟩:=h2; exact ⟨k - l,by rw [Int.mul_sub]; omega⟩
theorem Em.mul (h:Em p a b) (h2:Em p c d):Em p (a * c) (b * d):=by
  obtain ⟨k,hk⟩:=h; obtain ⟨l,hl⟩:=h2
  refine ⟨k * c + b * l,?_⟩
  have e:a * c - b * d = (a - b) * c + b * (c - d):=by rw [Int.sub_mul,Int.mul_sub]; omega
  rw [e,hk,hl,Int.mul_add,Int.mul_assoc,Int.mul_left_comm b]
theorem Em.md (x:Nat):Em p ((x % p:Nat):Int) x:=by
  refine ⟨-((x / p:Nat):Int),?_⟩
  have h:=Nat.div_add_mod x p
  have h2:((p * (x / p):Nat):Int) = (p:Int) * ((x / p:Nat):Int):=Int.natCast_mul ..
  rw [Int.mul_neg, ← h2]; omega
theorem Em.pz:Em p (p:Int) 0:=⟨1,by omega⟩
theorem Em.less {x y f:Nat} (hp:0 < p):Em p (((x + p - f * y % p) % p:Nat):Int) ((x:Int) - f * y):=by
  have hm:=Nat.mod_lt (f * y) hp
  refine (Em.md _).trans ?_
  have e:((x + p - f * y % p:Nat):Int) = ((x:Int) - ((f * y % p:Nat):Int)) + p:=by omega
  rw [e]
  have h1:Em p ((x:Int) - ((f * y % p:Nat):Int)) ((x:Int) - f * y):=(Em.rf _).sub ((Em.md _).trans (Em.of_eq (Int.natCast_mul ..)))
  exact (h1.add Em.pz).trans (Em.of_eq (by omega))
end
def su:Nat → (Nat → Int) → Int
  | 0,_ => 0
  | n + 1,f => su n f + f n
theorem su_congr {f g:Nat → Int}:∀ {n:Nat},(∀ k,k < n → f k = g k) → su n f = su n g
  | 0,_ => rfl
  | n + 1,h => by rw [su,su,su_congr (fun k hk => h k (by omega)),h n (by omega)]
theorem su_em {p:Nat} {f g:Nat → Int}:∀ {n:Nat},(∀ k,k < n → Em p (f k) (g k)) → Em p (su n f) (su n g)
  | 0,_ => Em.rf _
  | n + 1,h => (su_em (fun k hk => h k (by omega))).add (h n (by omega))
theorem su_add (f g:Nat → Int):∀ n:Nat,su n (fun k => f k + g k) = su n f + su n g
  | 0 => rfl
  | n + 1 => by rw [su,su,su,su_add f g n]; omega
theorem su_mul (c:Int) (f:Nat → Int):∀ n:Nat,su n (fun k => c * f k) = c * su n f
  | 0 => by simp [su]
  | n + 1 => by rw [su,su,su_mul c f n,Int.mul_add]
theorem su_mulr (c:Int) (f:Nat → Int) (n:Nat):su n (fun k => f k * c) = su n f * c:=by
  rw [Int.mul_comm, ← su_mul]; exact su_congr fun k _ => Int.mul_comm _ _
theorem su_zero {f:Nat → Int}:∀ {n:Nat},(∀ k,k < n → f k = 0) → su n f = 0
  | 0,_ => rfl
  | n + 1,h => by rw [su,su_zero (fun k hk => h k (by omega)),h n (by omega)]; rfl
theorem su_one {f:Nat → Int} {i:Nat}:∀ {n:Nat},i < n → su n (fun k => if k = i then f k else 0) = f i
 | n + 1,h => by
  rw [su]
  by_cases e:n = i
  ·rw [if_pos e,su_zero (fun k hk => if_neg (by omega)),e]; omega
  rw [if_neg e,su_one (by omega)]; omega
theorem su_swap (f:Nat → Nat → Int) (m:Nat):∀ n:Nat,su n (fun i => su m (fun j => f i j)) = su m (fun j => su n (fun i => f i j))
 | 0 => (su_zero fun _ _ => rfl).symm
 | n + 1 => by
  rw [su,su_swap f m n, ← su_add]; rfl
theorem su_more {f:Nat → Int} {m:Nat}:∀ {k:Nat},(∀ l,m ≤ l → f l = 0) → su (m + k) f = su m f
 | 0,_ => rfl
 | k + 1,h => by
  show su (m + k) f + f (m + k) = _
  rw [su_more h,h _ (by omega)]; omega
theorem su_le {f:Nat → Int} {m n:Nat} (h:m ≤ n) (h0:∀ l,m ≤ l → f l = 0):su n f = su m f:=by
  obtain ⟨k,rfl⟩:=Nat.exists_eq_add_of_le h
  exact su_more h0
def Cb (p n C:Nat) (E:Nat → Nat → Int) (v:Nat → Int):Prop := ∃ s:Nat → Int, ∀ j,j < C → Em p (v j) (su n fun l => s l * E l j)
section
variable {p n m C:Nat} {E F:Nat → Nat → Int} {u v x:Nat → Int}
theorem Cb.row {i:Nat} (h:i < n):Cb p n C E (E i):=⟨fun l => if l = i then 1 else 0,fun j _ => Em.of_eq (by
  rw [su_congr (g:=fun l => if l = i then E l j else 0),su_one h]
  intro k _
  simp only
  split
  · rw [Int.one_mul]
  rw [Int.zero_mul])⟩
theorem Cb.of (h:Cb p n C E v) (hx:∀ j,j < C → Em p (x j) (v j)):Cb p n C E x:=by
  obtain ⟨s,hs⟩:=h
  exact ⟨s,fun j hj => (hx j hj).trans (hs j hj)⟩
theorem Cb.zero (hx:∀ j,j < C → Em p (x j) 0):Cb p n C E x:=⟨fun _ => 0,fun j hj => (hx j hj).trans (Em.of_eq (su_zero fun k _ => Int.zero_mul _).symm)⟩
theorem Cb.all {k:Nat} {G:Nat → Nat → Int} (h:∀ i,i < k → Cb p n C E (G i)):∃ S:Nat → Nat → Int, ∀ i,i < k → ∀ j,j < C → Em p (G i j) (su n fun l => S i l * E l j):=by
  refine ⟨fun i => if h':i < k then (h i h').choose else fun _ => 0,fun i hi j hj => ?_⟩
  simp only [dif_pos hi]
  exact (h i hi).choose_spec j hj
theorem Cb.trans (h:Cb p m C F v) (hF:∀ i,i < m → Cb p n C E (F i)):Cb p n C E v:=by
  obtain ⟨S,hS⟩:=Cb.all hF
  obtain ⟨s,hs⟩:=h
  refine ⟨fun l => su m fun i => s i * S i l,fun j hj => (hs j hj).trans ?_⟩
  refine (su_em (g:=fun i => s i * su n fun l => S i l * E l j) fun i hi => (Em.rf _).mul (hS i hi j hj)).trans (Em.of_eq ?_)
  rw [su_congr (g:=fun i => su n fun l => s i * S i l * E l j) (fun i _ => by rw [← su_mul]; exact su_congr fun l _ => (Int.mul_assoc ..).symm),su_swap]
  exact su_congr fun l _ => su_mulr ..
end
def en (M:List (List Nat)) (i j:Nat):Int:=((nd (M.getD i []) j:Nat):Int)
def Sp (p C:Nat) (M N:List (List Nat)):Prop := ∀ i,i < N.length → Cb p M.length C (en M) (en N i)
theorem Sp.rf (p C:Nat) (M:List (List Nat)):Sp p C M M:=fun _ hi => Cb.row hi
theorem Sp.trans {p C:Nat} {M N K:List (List Nat)} (h:Sp p C M N) (h2:Sp p C N K):Sp p C M K:=fun i hi => (h2 i hi).trans h
section
variable {p C:Nat} {M:List (List Nat)}
theorem en_swap {i j l:Nat} (hi:i < M.length) (hj:j < M.length):en (swapM M i j) l = if l = i then en M j else if l = j then en M i else en M l:=by
  funext k
  unfold en
  rw [swapM_at hi hj]
  split
  · rfl
  split <;> rfl
end
structure Rf (p c:Nat) (s:List (List Nat) × List Nat):Prop where
  unit:∀ i,i < s.2.length → ∀ l,l < s.1.length → nd (s.1.getD l []) (nd s.2 i) = if l = i then 1 else 0
  zero:∀ l,s.2.length ≤ l → l < s.1.length → ∀ j,j < c → nd (s.1.getD l []) j = 0
  left:∀ i,i < s.2.length → ∀ j,j < nd s.2 i → nd (s.1.getD i []) j = 0
  incr:∀ i k,i < k → k < s.2.length → nd s.2 i < nd s.2 k
  low:∀ i,i < s.2.length → nd s.2 i < c
open Go.RowKit
def sg:Nat → Int
  | 0 => 1
  | n + 1 => -sg n
def mnr (A:Nat → Nat → Int) (i:Nat):Nat → Nat → Int:=fun r c => A (if r < i then r else r + 1) (c + 1)
def dt:Nat → (Nat → Nat → Int) → Int
  | 0,_ => 1
  | n + 1,A => su (n + 1) fun i => sg i * A i 0 * dt n (mnr A i)
theorem dt_em {p:Nat}:∀ {n:Nat} {A B:Nat → Nat → Int},(∀ r c,r < n → c < n → Em p (A r c) (B r c)) → Em p (dt n A) (dt n B)
  | 0,_,_,_ => Em.rf _
  | n + 1,A,B,h => su_em fun i hi => ((Em.rf _).mul (h i 0 hi (by omega))).mul (dt_em fun r c hr hc => h _ _ (by split <;> omega) (by omega))
theorem dt_congr:∀ {n:Nat} {A B:Nat → Nat → Int},(∀ r c,r < n → c < n → A r c = B r c) → dt n A = dt n B
  | 0,_,_,_ => rfl
  | n + 1,A,B,h => su_congr fun i hi => by rw [h i 0 hi (by omega),dt_congr (A:=mnr A i) (B:=mnr B i) fun r c hr hc => h _ _ (by split <;> omega) (by omega)]
def up (A:Nat → Nat → Int) (k:Nat) (u:Nat → Int):Nat → Nat → Int:=fun r => if r = k then u else A r
theorem up_at (A:Nat → Nat → Int) (k:Nat) (u:Nat → Int):up A k u k = u:=if_pos rfl
theorem up_ne {A:Nat → Nat → Int} {k r:Nat} {u:Nat → Int} (h:r ≠ k):up A k u r = A r:=if_neg h
theorem up_self (A:Nat → Nat → Int) (k:Nat):up A k (A k) = A:=by
  funext r; unfold up; split
  · subst_vars; rfl
  rfl
theorem mnr_up_self (A:Nat → Nat → Int) (k:Nat) (u:Nat → Int):mnr (up A k u) k = mnr A k:=by
  funext r c; unfold mnr; rw [up_ne (by split <;> omega)]
theorem mnr_up {A:Nat → Nat → Int} {k i:Nat} {u:Nat → Int} (h:i ≠ k):mnr (up A k u) i = up (mnr A i) (if k < i then k else k - 1) (fun c => u (c + 1)):=by
 funext r c
 unfold mnr up
 by_cases h1:r = if k < i then k else k - 1
 ·have e:(if r < i then r else r + 1) = k:=by
   split at h1
   ·rw [if_pos (by omega)]; exact h1
   rw [if_neg (by omega)]; omega
  rw [if_pos e,if_pos h1]
 have e:(if r < i then r else r + 1) ≠ k:=by
  split at h1 <;> split <;> omega
 rw [if_neg e,if_neg h1]
theorem dt_lin {a b:Int}:∀ {n k:Nat} {A:Nat → Nat → Int} {u v:Nat → Int},k < n → dt n (up A k fun c => a * u c + b * v c) = a * dt n (up A k u) + b * dt n (up A k v)
 | n + 1,k,A,u,v,hk => by
  show su (n + 1) _ = a * su (n + 1) _ + b * su (n + 1) _
  rw [← su_mul, ← su_mul, ← su_add]
  refine su_congr fun i hi => ?_
  by_cases e:i = k
  ·subst e
   rw [up_at,up_at,up_at,mnr_up_self,mnr_up_self,mnr_up_self]
   generalize dt n (mnr A i) = D
   generalize sg i = s
   simp only [Int.mul_add,Int.add_mul]
   rw [show s * (a * u 0) * D = a * (s * u 0 * D) by simp only [Int.mul_left_comm,Int.mul_assoc],show s * (b * v 0) * D = b * (s * v 0 * D) by simp only [Int.mul_left_comm,Int.mul_assoc]]
  rw [up_ne e,up_ne e,up_ne e,mnr_up e,mnr_up e,mnr_up e]
  have ih:=dt_lin (a:=a) (b:=b) (n:=n) (k:=if k < i then k else k - 1) (A:=mnr A i) (u:=fun c => u (c + 1)) (v:=fun c => v (c + 1)) (by split <;> omega)
  rw [ih,Int.mul_add]
  simp only [Int.mul_left_comm,Int.mul_assoc]
theorem su_two {f:Nat → Int} {k n:Nat} (hk:k + 1 < n) (h:∀ i,i < n → i ≠ k → i ≠ k + 1 → f i = 0):su n f = f k + f (k + 1):=by
 rw [su_congr (g:=fun i => (if i = k then f i else 0) + (if i = k + 1 then f i else 0)),su_add,su_one (by omega),su_one hk]
 intro i hi
 by_cases e1:i = k
 ·rw [if_pos e1,if_neg (by omega)]; omega
 by_cases e2:i = k + 1
 ·rw [if_neg e1,if_pos e2]; omega
 rw [if_neg e1,if_neg e2,h i hi e1 e2]; rfl
theorem dt_adj:∀ {n k:Nat} {A:Nat → Nat → Int},k + 1 < n → A k = A (k + 1) → dt n A = 0
 | n + 1,k,A,hk,he => by
  show su (n + 1) _ = 0
  rw [su_two hk]
  ·have e:mnr A k = mnr A (k + 1):=by
    funext r c
    unfold mnr
    by_cases h1:r = k
    ·subst h1; rw [if_neg (by omega),if_pos (by omega),he]
    by_cases h2:r < k
    ·rw [if_pos h2,if_pos (by omega)]
    rw [if_neg h2,if_neg (by omega)]
   rw [e, ← he]
   show sg k * A k 0 * dt n (mnr A (k + 1)) + -sg k * A k 0 * dt n (mnr A (k + 1)) = 0
   rw [Int.neg_mul,Int.neg_mul]; omega
  intro i hi h1 h2
  have hm:dt n (mnr A i) = 0:=by
   by_cases h3:i < k
   ·refine dt_adj (k:=k - 1) (by omega) ?_
    funext c
    unfold mnr
    rw [if_neg (by omega),if_neg (by omega),show k - 1 + 1 = k by omega,he]
   refine dt_adj (k:=k) (by omega) ?_
   funext c
   unfold mnr
   rw [if_pos (by omega),if_pos (by omega),he]
  rw [hm,Int.mul_zero]
theorem dt_swap0 {n i j:Nat} {A:Nat → Nat → Int} (hi:i < n) (hj:j < n) (hne:i ≠ j) (hz:∀ A:Nat → Nat → Int,A i = A j → dt n A = 0):dt n (up (up A i (A j)) j (A i)) = -dt n A:=by
 have sw:∀ u v:Nat → Int,up (up A i u) j v = up (up A j v) i u:=fun u v => by
  funext r
  unfold up
  by_cases h1:r = i
  ·have h2:¬ r = j:=by omega
   simp only [if_pos h1,if_neg h2]
  by_cases h2:r = j
  ·simp only [if_pos h2,if_neg h1]
  simp only [if_neg h1,if_neg h2]
 have z:∀ u:Nat → Int,dt n (up (up A i u) j u) = 0:=fun u => hz _ (by rw [up_at,up_ne hne,up_at])
 have l1:∀ u v x:Nat → Int,dt n (up (up A i x) j fun c => 1 * u c + 1 * v c) = 1 * dt n (up (up A i x) j u) + 1 * dt n (up (up A i x) j v):=fun u v x => dt_lin (u:=u) (v:=v) hj
 have l2:∀ u v x:Nat → Int,dt n (up (up A i fun c => 1 * u c + 1 * v c) j x) = 1 * dt n (up (up A i u) j x) + 1 * dt n (up (up A i v) j x):=fun u v x => by
  rw [sw,sw,sw]; exact dt_lin (u:=u) (v:=v) hi
 have h:=z (fun c => 1 * A i c + 1 * A j c)
 rw [l1,l2,l2,z,z] at h
 have e:up (up A i (A i)) j (A j) = A:=by
  rw [up_self,up_self]
 rw [e] at h
 omega
theorem dt_eq {n:Nat}:∀ (d i:Nat) {A:Nat → Nat → Int},i + d + 1 < n → A i = A (i + d + 1) → dt n A = 0
 | 0,i,A,h,he => dt_adj h he
 | d + 1,i,A,h,he => by
  have h1:=dt_swap0 (n:=n) (A:=A) (i:=i + d + 1) (j:=i + (d + 1) + 1) (by omega) h (by omega) (fun B hB => dt_adj (n:=n) (k:=i + d + 1) (by omega) hB)
  have h2:=dt_eq (n:=n) d i (A:=up (up A (i + d + 1) (A (i + (d + 1) + 1))) (i + (d + 1) + 1) (A (i + d + 1))) (by omega) (by
   rw [up_ne (show i ≠ i + (d + 1) + 1 by omega),up_ne (show i ≠ i + d + 1 by omega),up_ne (show i + d + 1 ≠ i + (d + 1) + 1 by omega),up_at,he])
  omega
theorem dt_same {n i j:Nat} {A:Nat → Nat → Int} (hi:i < n) (hj:j < n) (hne:i ≠ j) (he:A i = A j):dt n A = 0:=by
 by_cases h:i < j
 ·obtain ⟨d,rfl⟩:=Nat.exists_eq_add_of_lt h
  exact dt_eq d i hj he
 obtain ⟨d,rfl⟩:=Nat.exists_eq_add_of_lt (show j < i by omega)
 exact dt_eq d j hi he.symm
theorem dt_swap {n i j:Nat} {A:Nat → Nat → Int} (hi:i < n) (hj:j < n) (hne:i ≠ j):dt n (up (up A i (A j)) j (A i)) = -dt n A:=dt_swap0 hi hj hne fun _ h => dt_same hi hj hne h
theorem dt_scale {n k:Nat} {A:Nat → Nat → Int} {u:Nat → Int} (a:Int) (hk:k < n):dt n (up A k fun c => a * u c) = a * dt n (up A k u):=by
 have h:=dt_lin (a:=a) (b:=0) (A:=A) (u:=u) (v:=u) hk
 rw [Int.zero_mul,Int.add_zero] at h
 rw [← h]
 congr 1
 funext r c
 unfold up
 split
 ·show a * u c = a * u c + 0 * u c
  rw [Int.zero_mul,Int.add_zero]
 rfl
theorem dt_zero {n k:Nat} {A:Nat → Nat → Int} (hk:k < n) (h:∀ c,c < n → A k c = 0):dt n A = 0:=by
  have h1:=dt_scale (A:=A) (u:=A k) 0 hk
  rw [Int.zero_mul] at h1
  rw [← h1]
  refine dt_congr fun r c hr hc => ?_
  unfold up
  split
  · subst_vars; rw [h c hc]; exact (Int.zero_mul _).symm
  rfl
theorem dt_id:∀ n,dt n (fun r c => ((if r = c then 1 else 0:Nat):Int)) = 1
 | 0 => rfl
 | n + 1 => by
  show su (n + 1) _ = 1
  rw [su_congr (g:=fun i => if i = 0 then 1 else 0),su_one (f:=fun _ => 1) (by omega)]
  intro i hi
  by_cases e:i = 0
  ·subst e
   rw [dt_congr (B:=fun r c => ((if r = c then 1 else 0:Nat):Int)),dt_id n]
   ·rfl
   intro r c _ _
   show ((if (if r < 0 then r else r + 1) = c + 1 then 1 else 0:Nat):Int) = _
   rw [if_neg (by omega:¬ r < 0)]
   by_cases e:r = c
   ·rw [if_pos e,if_pos (by omega)]
   rw [if_neg e,if_neg (by omega)]
  rw [if_neg e]
  show sg i * ((if i = 0 then 1 else 0:Nat):Int) * _ = 0
  rw [if_neg e,show ((0:Nat):Int) = 0 from rfl,Int.mul_zero,Int.zero_mul]
open Go.RowKit
def swapR (i k:Nat) (r:List Nat):List Nat:=(r.set i (nd r k)).set k (nd r i)
def swapC (i k:Nat) (M:List (List Nat)):List (List Nat):=M.map (swapR i k)
def addR (p f i k:Nat) (r:List Nat):List Nat:=r.set k ((nd r k + f * nd r i % p) % p)
def addC (p f i k:Nat) (M:List (List Nat)):List (List Nat):=M.map (addR p f i k)
def subM (p f i k:Nat) (M:List (List Nat)):List (List Nat):=M.set i (lessR p f (M.getD i []) (M.getD k []))
structure HS where
  H:List (List Nat)
  S:List (List Nat)
  R:List (List Nat)
def HS.swap (s:HS) (i k:Nat):HS:=⟨swapC i k (swapM s.H i k),swapC i k s.S,swapM s.R i k⟩
def HS.less (s:HS) (p i k f:Nat):HS:=⟨addC p f i k (subM p f i k s.H),addC p f i k s.S,subM p f i k s.R⟩
def HS.elim (s:HS) (p k iv:Nat):Nat → HS
  | 0 => s
  | d + 1 => if nd (((s.elim p k iv d).H).getD (k + 2 + d) []) k = 0 then s.elim p k iv d else (s.elim p k iv d).less p (k + 2 + d) (k + 1) (nd (((s.elim p k iv d).H).getD (k + 2 + d) []) k * iv % p)
def HS.pivot (s:HS) (k i:Nat):HS:=if i = k + 1 then s else s.swap i (k + 1)
def HS.step (s:HS) (p n k:Nat):HS :=
  match firstNZ s.H k (n - (k + 1)) (k + 1) with
  | none => s
  | some i => (s.pivot k i).elim p k (pinv p (nd ((s.pivot k i).H.getD (k + 1) []) k)) (n - (k + 2))
theorem swapR_len (i k:Nat) (r:List Nat):(swapR i k r).length = r.length:=by simp [swapR]
theorem swapR_nd {i k:Nat} {r:List Nat} (hi:i < r.length) (hk:k < r.length) (j:Nat):nd (swapR i k r) j = if j = k then nd r i else if j = i then nd r k else nd r j:=by
  unfold swapR
  rw [nd_set _ _ _ _ (by simpa using hk),nd_set _ _ _ _ hi]
theorem addR_len (p f i k:Nat) (r:List Nat):(addR p f i k r).length = r.length:=by simp [addR]
theorem addR_nd {p f i k:Nat} {r:List Nat} (hk:k < r.length) (j:Nat):nd (addR p f i k r) j = if j = k then (nd r k + f * nd r i % p) % p else nd r j:=nd_set _ _ _ _ hk
theorem mapM_len (g:List Nat → List Nat) (M:List (List Nat)):(M.map g).length = M.length:=List.length_map _
theorem mapM_at {g:List Nat → List Nat} {M:List (List Nat)} {l:Nat} (h:l < M.length):(M.map g).getD l [] = g (M.getD l []):=by
  simp [List.getD,List.getElem?_map,List.getElem?_eq_getElem h]
theorem subM_len (p f i k:Nat) (M:List (List Nat)):(subM p f i k M).length = M.length:=List.length_set
theorem subM_at {p f i k:Nat} {M:List (List Nat)} (hi:i < M.length) (l:Nat):(subM p f i k M).getD l [] = if l = i then lessR p f (M.getD i []) (M.getD k []) else M.getD l []:=by
  unfold subM
  by_cases e:l = i
  · subst e; rw [getD_set_self hi,if_pos rfl]
  rw [getD_set_ne (fun h => e h.symm),if_neg e]
section
variable {p n:Nat} {M:List (List Nat)}
theorem lt_nd {r:List Nat} (h:∀ x ∈ r,x < p) (hp:0 < p) (k:Nat):nd r k < p:=by
  by_cases hk:k < r.length
  · rw [nd_get hk]; exact h _ (List.getElem_mem hk)
  rw [nd_lt_len (by omega)]; exact hp
theorem set_lt {r:List Nat} {i v:Nat} (h:∀ x ∈ r,x < p) (hv:v < p):∀ x ∈ r.set i v,x < p:=fun x hx => by
  rcases List.mem_or_eq_of_mem_set hx with hx | rfl
  · exact h x hx
  exact hv
theorem Shp.swapC (h:Shp p n M) (hp:0 < p) (i k:Nat):Shp p n (swapC i k M):=fun r hr => by
  obtain ⟨s,hs,rfl⟩:=List.mem_map.1 hr
  obtain ⟨h1,h2⟩:=h s hs
  exact ⟨by rw [swapR_len]; exact h1,set_lt (set_lt h2 (lt_nd h2 hp _)) (lt_nd h2 hp _)⟩
theorem Shp.addC (h:Shp p n M) (hp:0 < p) (f i k:Nat):Shp p n (addC p f i k M):=fun r hr => by
  obtain ⟨s,hs,rfl⟩:=List.mem_map.1 hr
  obtain ⟨h1,h2⟩:=h s hs
  exact ⟨by rw [addR_len]; exact h1,set_lt h2 (Nat.mod_lt _ hp)⟩
theorem Shp.subM (h:Shp p n M) (hp:0 < p) {f i k:Nat} (hi:i < M.length) (hk:k < M.length):Shp p n (subM p f i k M):=by
  have e:(M.getD i []).length = (M.getD k []).length:=by rw [(h.at hi).1,(h.at hk).1]
  exact h.set i ⟨by rw [lessR_len e]; exact (h.at hi).1,lessR_lt e hp⟩
structure HOk (p n:Nat) (s:HS):Prop where
  hl:s.H.length = n
  sl:s.S.length = n
  rl:s.R.length = n
  hs:Shp p n s.H
  ss:Shp p n s.S
  rs:Shp p n s.R
variable {s:HS}
theorem HOk.swap (h:HOk p n s) (hp:0 < p) {i k:Nat} (hi:i < n) (hk:k < n):HOk p n (s.swap i k) where
  hl:=by show (List.map _ _).length = _; rw [mapM_len,swapM_len,h.hl]
  sl:=by show (List.map _ _).length = _; rw [mapM_len,h.sl]
  rl:=by show (swapM _ _ _).length = _; rw [swapM_len,h.rl]
  hs:=(swapM_shp h.hs (by rw [h.hl]; exact hi) (by rw [h.hl]; exact hk)).swapC hp i k
  ss:=h.ss.swapC hp i k
  rs:=swapM_shp h.rs (by rw [h.rl]; exact hi) (by rw [h.rl]; exact hk)
theorem HOk.less (h:HOk p n s) (hp:0 < p) {i k f:Nat} (hi:i < n) (hk:k < n):HOk p n (s.less p i k f) where
  hl:=by show (List.map _ _).length = _; rw [mapM_len,subM_len,h.hl]
  sl:=by show (List.map _ _).length = _; rw [mapM_len,h.sl]
  rl:=by show (Go.Proofs.YtnlnibngpeempaaGreatDoor.subM _ _ _ _ _).length = _; rw [subM_len,h.rl]
  hs:=(h.hs.subM hp (by rw [h.hl]; exact hi) (by rw [h.hl]; exact hk)).addC hp f i k
  ss:=h.ss.addC hp f i k
  rs:=h.rs.subM hp (by rw [h.rl]; exact hi) (by rw [h.rl]; exact hk)
theorem HOk.elim (h:HOk p n s) (hp:0 < p) {k iv:Nat}:∀ d,d + k + 2 ≤ n → HOk p n (s.elim p k iv d)
 | 0,_ => h
 | d + 1,hd => by
  rw [HS.elim]
  split
  ·exact h.elim hp d (by omega)
  exact (h.elim hp d (by omega)).less hp (by omega) (by omega)
theorem HOk.pivot (h:HOk p n s) (hp:0 < p) {k i:Nat} (hi:i < n) (hk:k + 1 < n):HOk p n (s.pivot k i):=by
  unfold HS.pivot
  split
  · exact h
  exact h.swap hp hi hk
end
def tr (i k x:Nat):Nat:=if x = i then k else if x = k then i else x
section
variable {p n:Nat} {M:List (List Nat)} {i k r c f:Nat}
theorem tr_lt (hi:i < n) (hk:k < n) (h:c < n):tr i k c < n:=by unfold tr; split; exact hk; split; exact hi; exact h
theorem en_swapC (hs:Shp p n M) (hi:i < n) (hk:k < n) (hr:r < M.length):en (swapC i k M) r c = en M r (tr i k c):=by
 have h1:=(hs.at hr).1
 unfold en swapC tr
 rw [mapM_at hr,swapR_nd (by omega) (by omega)]
 by_cases e1:c = k
 ·subst e1
  rw [if_pos rfl]
  by_cases e2:c = i
  ·rw [if_pos e2,e2]
  rw [if_neg e2,if_pos rfl]
 rw [if_neg e1]
 by_cases e2:c = i
 ·rw [if_pos e2,if_pos e2]
 rw [if_neg e2,if_neg e2,if_neg e1]
theorem en_swapM (hi:i < M.length) (hk:k < M.length):en (swapM M i k) r c = en M (tr i k r) c:=by
  rw [en_swap hi hk]
  unfold tr
  split
  · rfl
  split <;> rfl
theorem en_addC (hs:Shp p n M) (hk:k < n) (hr:r < M.length):Em p (en (addC p f i k M) r c) (en M r c + if c = k then (f:Int) * en M r i else 0):=by
 have h1:=(hs.at hr).1
 unfold en addC
 rw [mapM_at hr,addR_nd (by omega)]
 split
 ·rename_i e
  subst e
  refine (Em.md _).trans ?_
  rw [Int.natCast_add, ← Int.natCast_mul]
  exact (Em.rf _).add (Em.md _)
 exact Em.of_eq (by omega)
theorem en_subM (hp:0 < p) (hs:Shp p n M) (hi:i < M.length) (hk:k < M.length) (hc:c < n):Em p (en (subM p f i k M) r c) (en M r c - if r = i then (f:Int) * en M k c else 0):=by
 unfold en
 rw [subM_at hi]
 split
 ·rename_i e
  subst e
  rw [lessR_nd (by rw [(hs.at hi).1,(hs.at hk).1]) (by rw [(hs.at hi).1]; exact hc)]
  exact Em.less hp
 exact Em.of_eq (by omega)
end
def mm (n:Nat) (A B:Nat → Nat → Int):Nat → Nat → Int:=fun i k => su n fun j => A i j * B j k
theorem su_tr {n i k:Nat} (f:Nat → Int) (hi:i < n) (hk:k < n):su n (fun j => f (tr i k j)) = su n f:=by
 by_cases e:i = k
 ·subst e
  exact su_congr fun j _ => by unfold tr; split <;> simp_all
 have h:su n (fun j => f (tr i k j)) = su n fun j => f j + ((if j = i then f k - f i else 0) + if j = k then f i - f k else 0):=su_congr fun j _ => by
  unfold tr
  by_cases e1:j = i
  ·subst e1; rw [if_pos rfl,if_pos rfl,if_neg e]; omega
  rw [if_neg e1,if_neg e1]
  by_cases e2:j = k
  ·subst e2; rw [if_pos rfl,if_pos rfl]; omega
  rw [if_neg e2,if_neg e2]; omega
 rw [h,su_add,su_add,su_one (f:=fun _ => f k - f i) hi,su_one (f:=fun _ => f i - f k) hk]; omega
theorem mm_em {p n:Nat} {A A' B B':Nat → Nat → Int} {i k:Nat} (hA:∀ j,j < n → Em p (A i j) (A' i j)) (hB:∀ j,j < n → Em p (B j k) (B' j k)):Em p (mm n A B i k) (mm n A' B' i k):=su_em fun j hj => (hA j hj).mul (hB j hj)
theorem mm_tr {n i k:Nat} {A B A' B':Nat → Nat → Int} {r c:Nat} (hi:i < n) (hk:k < n) (hA:∀ j,j < n → A' r j = A r (tr i k j)) (hB:∀ j,j < n → B' j c = B (tr i k j) c):mm n A' B' r c = mm n A B r c:=by
  unfold mm
  rw [su_congr fun j hj => by rw [hA j hj,hB j hj]]
  exact su_tr (fun j => A r j * B j c) hi hk
theorem mm_row {p n i k r c:Nat} {f:Int} {A B A':Nat → Nat → Int} (hA:∀ j,j < n → Em p (A' r j) (A r j - if r = i then f * A k j else 0)):Em p (mm n A' B r c) (mm n A B r c - if r = i then f * mm n A B k c else 0):=by
 refine (mm_em (A':=fun r j => A r j - if r = i then f * A k j else 0) (B':=B) hA fun j _ => Em.rf _).trans (Em.of_eq ?_)
 show su n (fun j => (A r j - if r = i then f * A k j else 0) * B j c) = _
 by_cases e:r = i
 ·rw [if_pos e,su_congr (g:=fun j => A r j * B j c + -f * (A k j * B j c)) fun j _ => by rw [if_pos e]; grind,su_add,su_mul]
  show mm n A B r c + -f * mm n A B k c = _
  grind
 rw [if_neg e,su_congr (g:=fun j => A r j * B j c) fun j _ => by rw [if_neg e,Int.sub_zero]]
 show mm n A B r c = _
 omega
theorem mm_col {p n i k r c:Nat} {f:Int} {A B B':Nat → Nat → Int} (hB:∀ j,j < n → Em p (B' j c) (B j c + if c = k then f * B j i else 0)):Em p (mm n A B' r c) (mm n A B r c + if c = k then f * mm n A B r i else 0):=by
 refine (mm_em (A':=A) (B':=fun j c => B j c + if c = k then f * B j i else 0) (fun j _ => Em.rf _) hB).trans (Em.of_eq ?_)
 show su n (fun j => A r j * (B j c + if c = k then f * B j i else 0)) = _
 by_cases e:c = k
 ·rw [if_pos e,su_congr (g:=fun j => A r j * B j c + f * (A r j * B j i)) fun j _ => by rw [if_pos e]; grind,su_add,su_mul]
  rfl
 rw [if_neg e,su_congr (g:=fun j => A r j * B j c) fun j _ => by rw [if_neg e,Int.add_zero]]
 show mm n A B r c = _
 omega
theorem mm_both {p n i k r c:Nat} {f:Int} {A B A' B':Nat → Nat → Int} (hi:i < n) (hk:k < n) (hne:i ≠ k) (hA:∀ j,j < n → Em p (A' r j) (A r j + if j = k then f * A r i else 0)) (hB:∀ j,j < n → Em p (B' j c) (B j c - if j = i then f * B k c else 0)):Em p (mm n A' B' r c) (mm n A B r c):=by
 refine (mm_em (A':=fun r j => A r j + if j = k then f * A r i else 0) (B':=fun j c => B j c - if j = i then f * B k c else 0) hA hB).trans (Em.of_eq ?_)
 unfold mm
 have h:su n (fun j => (A r j + if j = k then f * A r i else 0) * (B j c - if j = i then f * B k c else 0)) = su n fun j => A r j * B j c + ((if j = k then f * A r i * B k c else 0) + if j = i then -(A r i * (f * B k c)) else 0):=su_congr fun j _ => by
  by_cases e1:j = k
  ·subst e1
   rw [if_pos rfl,if_pos rfl,if_neg (fun h => hne h.symm),if_neg (fun h => hne h.symm)]; grind
  rw [if_neg e1,if_neg e1]
  by_cases e2:j = i
  ·subst e2; rw [if_pos rfl,if_pos rfl]; grind
  rw [if_neg e2,if_neg e2]; grind
 rw [h,su_add,su_add,su_one (f:=fun _ => f * A r i * B k c) hk,su_one (f:=fun _ => -(A r i * (f * B k c))) hi]; grind
def dl (i k:Nat):Int:=((if i = k then 1 else 0:Nat):Int)
structure HInv (p n:Nat) (A:Nat → Nat → Int) (s:HS):Prop where
  one:∀ r c,r < n → c < n → Em p (mm n (en s.S) (en s.R) r c) (dl r c)
  sim:∀ r c,r < n → c < n → Em p (mm n (mm n (en s.R) A) (en s.S) r c) (en s.H r c)
section
variable {p n:Nat} {A:Nat → Nat → Int} {s:HS} {i k f:Nat}
theorem HInv.swap (h:HInv p n A s) (hk0:HOk p n s) (hi:i < n) (hk:k < n):HInv p n A (s.swap i k) where
 one r c hr hc:=by
  refine (Em.of_eq ?_).trans (h.one r c hr hc)
  exact mm_tr hi hk (fun j _ => en_swapC hk0.ss hi hk (by rw [hk0.sl]; exact hr)) fun j _ => en_swapM (by rw [hk0.rl]; exact hi) (by rw [hk0.rl]; exact hk)
 sim r c hr hc:=by
  have h1:=h.sim (tr i k r) (tr i k c) (tr_lt hi hk hr) (tr_lt hi hk hc)
  have h2:en (s.swap i k).H r c = en s.H (tr i k r) (tr i k c):=by
   have:=en_swapC (c:=c) (swapM_shp hk0.hs (by rw [hk0.hl]; exact hi) (by rw [hk0.hl]; exact hk)) hi hk (show r < (swapM s.H i k).length by rw [swapM_len,hk0.hl]; exact hr)
   exact this.trans (en_swapM (by rw [hk0.hl]; exact hi) (by rw [hk0.hl]; exact hk))
  rw [h2]
  refine (Em.of_eq ?_).trans h1
  unfold mm
  refine su_congr fun j hj => ?_
  rw [show en (s.swap i k).S j c = en s.S j (tr i k c) from en_swapC hk0.ss hi hk (by rw [hk0.sl]; exact hj)]
  congr 1
  exact su_congr fun l _ => by rw [show en (s.swap i k).R r l = en s.R (tr i k r) l from en_swapM (by rw [hk0.rl]; exact hi) (by rw [hk0.rl]; exact hk)]
theorem HInv.less (h:HInv p n A s) (hk0:HOk p n s) (hp:0 < p) (hi:i < n) (hk:k < n) (hne:i ≠ k):HInv p n A (s.less p i k f) where
 one r c hr hc:=by
  refine Em.trans ?_ (h.one r c hr hc)
  exact mm_both (f:=(f:Int)) hi hk hne (fun j _ => en_addC hk0.ss hk (by rw [hk0.sl]; exact hr)) fun j _ => en_subM hp hk0.rs (by rw [hk0.rl]; exact hi) (by rw [hk0.rl]; exact hk) hc
 sim r c hr hc:=by
  have hA:∀ r c,r < n → Em p (mm n (en (s.less p i k f).R) A r c) (mm n (en s.R) A r c - if r = i then (f:Int) * mm n (en s.R) A k c else 0):=fun r c hr => mm_row fun j hj => en_subM hp hk0.rs (by rw [hk0.rl]; exact hi) (by rw [hk0.rl]; exact hk) hj
  have h1:∀ r c,r < n → Em p (mm n (mm n (en (s.less p i k f).R) A) (en s.S) r c) (mm n (mm n (en s.R) A) (en s.S) r c - if r = i then (f:Int) * mm n (mm n (en s.R) A) (en s.S) k c else 0):=fun r c hr => mm_row fun j _ => hA r j hr
  have h2:Em p (mm n (mm n (en (s.less p i k f).R) A) (en (s.less p i k f).S) r c) (mm n (mm n (en (s.less p i k f).R) A) (en s.S) r c + if c = k then (f:Int) * mm n (mm n (en (s.less p i k f).R) A) (en s.S) r i else 0):=mm_col fun j hj => en_addC hk0.ss hk (by rw [hk0.sl]; exact hj)
  have h3:∀ c,c < n → Em p (mm n (mm n (en (s.less p i k f).R) A) (en s.S) r c) (en (subM p f i k s.H) r c):=fun c hc => by
   refine (h1 r c hr).trans (Em.trans ?_ (en_subM hp hk0.hs (by rw [hk0.hl]; exact hi) (by rw [hk0.hl]; exact hk) hc).symm)
   refine (h.sim r c hr hc).sub ?_
   split
   ·exact (Em.rf _).mul (h.sim k c hk hc)
   exact Em.rf _
  refine h2.trans (Em.trans ?_ (en_addC (hk0.hs.subM hp (by rw [hk0.hl]; exact hi) (by rw [hk0.hl]; exact hk)) hk (by rw [subM_len,hk0.hl]; exact hr)).symm)
  refine (h3 c hc).add ?_
  split
  ·exact (Em.rf _).mul (h3 i hi)
  exact Em.rf _
theorem HInv.elim (h:HInv p n A s) (hk0:HOk p n s) (hp:0 < p) {iv:Nat}:∀ d,d + k + 2 ≤ n → HInv p n A (s.elim p k iv d)
 | 0,_ => h
 | d + 1,hd => by
  rw [HS.elim]
  split
  ·exact h.elim hk0 hp d (by omega)
  exact (h.elim hk0 hp d (by omega)).less (hk0.elim hp d (by omega)) hp (by omega) (by omega) (by omega)
theorem HInv.pivot (h:HInv p n A s) (hk0:HOk p n s) (hi:i < n) (hk:k + 1 < n):HInv p n A (s.pivot k i):=by
  unfold HS.pivot
  split
  · exact h
  exact h.swap hk0 hi hk
theorem su_dl (hk:k < n) (g:Nat → Int):su n (fun j => g j * dl j k) = g k:=by
  rw [su_congr (g:=fun j => if j = k then g j else 0) fun j _ => by unfold dl; split <;> simp]
  exact su_one hk
theorem su_dl2 (hk:k < n) (g:Nat → Int):su n (fun j => dl k j * g j) = g k:=by
  rw [← su_dl hk g]
  exact su_congr fun j _ => by unfold dl; by_cases e : k = j; · subst e; rw [Int.mul_comm]
                               · rw [if_neg e,if_neg (fun h => e h.symm)]; simp
end
def Hz (n k:Nat) (H:List (List Nat)):Prop := ∀ c r,c < k → c + 1 < r → r < n → nd (H.getD r []) c = 0
section
variable {p n k:Nat} {s:HS}
theorem less_at {i j r f:Nat} (hk0:HOk p n s) (hp:0 < p) (hi:i < n) (hj:j < n) (hr:r < n) {c:Nat} (hc:c < n) (hcj:c ≠ j):nd ((s.less p i j f).H.getD r []) c = if r = i then (nd (s.H.getD r []) c + p - f * nd (s.H.getD j []) c % p) % p else nd (s.H.getD r []) c:=by
 show nd ((addC p f i j (subM p f i j s.H)).getD r []) c = _
 have hsm:=hk0.hs.subM (f:=f) (i:=i) (k:=j) hp (by rw [hk0.hl]; exact hi) (by rw [hk0.hl]; exact hj)
 have hr':r < (subM p f i j s.H).length:=by rw [subM_len,hk0.hl]; exact hr
 rw [show addC p f i j (subM p f i j s.H) = (subM p f i j s.H).map (addR p f i j) from rfl,mapM_at hr',addR_nd (by rw [(hsm.at hr').1]; exact hj),if_neg hcj,subM_at (by rw [hk0.hl]; exact hi)]
 split
 ·rename_i e
  subst e
  rw [lessR_nd (by rw [(hk0.hs.at (by rw [hk0.hl]; exact hi)).1,(hk0.hs.at (by rw [hk0.hl]; exact hj)).1]) (by rw [(hk0.hs.at (by rw [hk0.hl]; exact hi)).1]; exact hc)]
 rfl
theorem swap_at {i j r c:Nat} (hk0:HOk p n s) (hi:i < n) (hj:j < n) (hr:r < n):nd ((s.swap i j).H.getD r []) c = nd (s.H.getD (tr i j r) []) (tr i j c):=by
  have:=en_swapC (c:=c) (swapM_shp hk0.hs (by rw [hk0.hl]; exact hi) (by rw [hk0.hl]; exact hj)) hi hj (show r < (swapM s.H i j).length by rw [swapM_len,hk0.hl]; exact hr)
  have h2:=this.trans (en_swapM (by rw [hk0.hl]; exact hi) (by rw [hk0.hl]; exact hj))
  unfold en at h2
  exact Int.ofNat.inj h2
theorem less0 {x f:Nat} (hp:0 < p) (hx:x = 0):(x + p - f * 0 % p) % p = 0:=by subst hx; rw [Nat.mul_zero,Nat.zero_mod,Nat.sub_zero,Nat.zero_add,Nat.mod_self]
theorem Hz.pivot (h:Hz n k s.H) (hk0:HOk p n s) {i:Nat} (hi:i < n) (hk:k + 1 < n) (hki:k + 1 ≤ i):Hz n k (s.pivot k i).H:=by
 unfold HS.pivot
 split
 ·exact h
 intro c r hc hcr hr
 rw [swap_at hk0 hi hk hr]
 have e:tr i (k + 1) c = c:=by unfold tr; rw [if_neg (by omega),if_neg (by omega)]
 rw [e]
 refine h c _ hc ?_ (tr_lt hi hk hr)
 unfold tr; split; omega; split <;> omega
theorem Hz.less (h:Hz n k s.H) (hk0:HOk p n s) (hp:0 < p) {i f:Nat} (hi:i < n) (hk:k + 1 < n) (hki:k + 1 < i):Hz n k (s.less p i (k + 1) f).H:=by
  intro c r hc hcr hr
  rw [less_at hk0 hp hi hk hr (by omega) (by omega)]
  split
  · rw [h c (k + 1) hc (by omega) hk]; exact less0 hp (h c r hc hcr hr)
  exact h c r hc hcr hr
theorem Hz.elim (h:Hz n k s.H) (hk0:HOk p n s) (hp:0 < p) {iv:Nat}:∀ d,d + k + 2 ≤ n → Hz n k (s.elim p k iv d).H
 | 0,_ => h
 | d + 1,hd => by
  rw [HS.elim]
  split
  ·exact h.elim hk0 hp d (by omega)
  exact (h.elim hk0 hp d (by omega)).less (hk0.elim hp d (by omega)) hp (by omega) (by omega) (by omega)
end
open Go.RowKit
open Go.RowKit
theorem su_head (f:Nat → Int):∀ n,su (n + 1) f = f 0 + su n fun i => f (i + 1)
  | 0 => by simp [su]
  | n + 1 => by rw [su,su_head f n,su]; omega
def mnc (A:Nat → Nat → Int) (k:Nat):Nat → Nat → Int:=fun r c => A (r + 1) (if c < k then c else c + 1)
theorem mn_mn (A:Nat → Nat → Int) (i k:Nat):mnr (mnc A (k + 1)) i = mnc (mnr A (i + 1)) k:=by
 funext r c
 show A ((if r < i then r else r + 1) + 1) (if c + 1 < k + 1 then c + 1 else c + 1 + 1) = A (if r + 1 < i + 1 then r + 1 else r + 1 + 1) ((if c < k then c else c + 1) + 1)
 congr 1
 ·split
  ·rw [if_pos (by omega)]
  rw [if_neg (by omega)]
 split
 ·rw [if_pos (by omega)]
 rw [if_neg (by omega)]
theorem dt_row:∀ (n:Nat) (A:Nat → Nat → Int),dt (n + 1) A = su (n + 1) fun k => sg k * A 0 k * dt n (mnc A k)
 | 0,A => by show su 1 _ = su 1 _; rfl
 | n + 1,A => by
  show su (n + 2) (fun i => sg i * A i 0 * dt (n + 1) (mnr A i)) = su (n + 2) fun k => sg k * A 0 k * dt (n + 1) (mnc A k)
  rw [su_head,su_head (fun k => sg k * A 0 k * dt (n + 1) (mnc A k))]
  congr 1
  have hl:∀ i,i < n + 1 → sg (i + 1) * A (i + 1) 0 * dt (n + 1) (mnr A (i + 1)) = su (n + 1) fun k => sg (i + 1) * A (i + 1) 0 * (sg k * A 0 (k + 1) * dt n (mnc (mnr A (i + 1)) k)):=fun i _ => by
   rw [su_mul,dt_row n (mnr A (i + 1))]; rfl
  have hr:∀ k,k < n + 1 → sg (k + 1) * A 0 (k + 1) * dt (n + 1) (mnc A (k + 1)) = su (n + 1) fun i => sg (k + 1) * A 0 (k + 1) * (sg i * A (i + 1) 0 * dt n (mnr (mnc A (k + 1)) i)):=fun k _ => by
   rw [su_mul]; rfl
  rw [su_congr hl,su_congr hr,su_swap]
  refine su_congr fun k _ => su_congr fun i _ => ?_
  rw [mn_mn,show sg (i + 1) = -sg i from rfl,show sg (k + 1) = -sg k from rfl]
  generalize dt n (mnc (mnr A (i + 1)) k) = D
  grind
def tp (A:Nat → Nat → Int):Nat → Nat → Int:=fun r c => A c r
theorem dt_tp:∀ (n:Nat) (A:Nat → Nat → Int),dt n (tp A) = dt n A
 | 0,_ => rfl
 | n + 1,A => by
  rw [dt_row n A]
  show su (n + 1) _ = _
  refine su_congr fun i _ => ?_
  rw [show mnr (tp A) i = tp (mnc A i) from rfl,dt_tp n]; rfl
def hsq (A:Nat → Nat → Int):Nat → Nat → Int
  | 0,_ => 1
  | k + 1,i => if i = k + 1 then su (k + 1) fun l => hsq A k l * A l k else -(A (k + 1) k * hsq A k i)
def pw (x:Int):Nat → Int
  | 0 => 1
  | n + 1 => x * pw x n
def pv (N:Nat) (c:Nat → Int) (x:Int):Int:=su N fun i => c i * pw x i
def Pol (f:Int → Int):Prop := ∃ N c, ∀ x,f x = pv N c x
theorem pv_more {N M:Nat} {c:Nat → Int} (h:N ≤ M) (x:Int):pv N c x = pv M (fun i => if i < N then c i else 0) x:=by
  unfold pv
  rw [su_le h fun l hl => by dsimp only; rw [if_neg (by omega),Int.zero_mul]]
  exact su_congr fun i hi => by dsimp only; rw [if_pos hi]
theorem Pol.const (a:Int):Pol fun _ => a:=⟨1,fun _ => a,fun x => by show a = 0 + a * 1; omega⟩
theorem Pol.add {f g:Int → Int} (hf:Pol f) (hg:Pol g):Pol fun x => f x + g x:=by
  obtain ⟨N,c,hc⟩:=hf
  obtain ⟨M,d,hd⟩:=hg
  refine ⟨max N M,fun i => (if i < N then c i else 0) + (if i < M then d i else 0),fun x => ?_⟩
  dsimp only
  rw [hc,hd,pv_more (Nat.le_max_left N M),pv_more (Nat.le_max_right N M)]
  unfold pv
  rw [← su_add]
  exact su_congr fun i _ => by rw [Int.add_mul]
theorem Pol.smul {f:Int → Int} (a:Int) (hf:Pol f):Pol fun x => a * f x:=by
  obtain ⟨N,c,hc⟩:=hf
  refine ⟨N,fun i => a * c i,fun x => ?_⟩
  dsimp only
  rw [hc]; unfold pv; rw [← su_mul]
  exact su_congr fun i _ => (Int.mul_assoc ..).symm
theorem Pol.xmul {f:Int → Int} (hf:Pol f):Pol fun x => x * f x:=by
  obtain ⟨N,c,hc⟩:=hf
  refine ⟨N + 1,fun i => if i = 0 then 0 else c (i - 1),fun x => ?_⟩
  dsimp only
  rw [hc]; unfold pv
  rw [su_head]
  dsimp only
  rw [if_pos rfl,Int.zero_mul,Int.zero_add, ← su_mul]
  exact su_congr fun i _ => by rw [if_neg (by omega),Nat.add_sub_cancel,pw]; grind
theorem Pol.of_eq {f g:Int → Int} (hf:Pol f) (h:∀ x,g x = f x):Pol g:=by
  obtain ⟨N,c,hc⟩:=hf; exact ⟨N,c,fun x => (h x).trans (hc x)⟩
theorem Pol.pmul {g:Int → Int} (hg:Pol g):∀ n,Pol fun x => pw x n * g x
  | 0 => hg.of_eq fun x => by show 1 * g x = _; omega
  | n + 1 => (hg.pmul n).xmul.of_eq fun x => by show x * pw x n * g x = _; rw [Int.mul_assoc]
theorem Pol.mul {f g:Int → Int} (hf:Pol f) (hg:Pol g):Pol fun x => f x * g x:=by
 obtain ⟨N,c,hc⟩:=hf
 have h:∀ N,Pol fun x => pv N c x * g x:=fun N => by
  induction N with
  | zero => exact (Pol.const 0).of_eq fun x => by show 0 * g x = 0; rw [Int.zero_mul]
  | succ N ih => exact (ih.add ((hg.pmul N).smul (c N))).of_eq fun x => by show (pv N c x + c N * pw x N) * g x = _; grind
 exact (h N).of_eq fun x => by rw [hc]
theorem Pol.neg {f:Int → Int} (hf:Pol f):Pol fun x => -f x:=(hf.smul (-1)).of_eq fun x => by omega
theorem Pol.sub {f g:Int → Int} (hf:Pol f) (hg:Pol g):Pol fun x => f x - g x:=(hf.add hg.neg).of_eq fun x => by omega
theorem Pol.su {f:Nat → Int → Int}:∀ {n:Nat},(∀ i,i < n → Pol (f i)) → Pol fun x => su n fun i => f i x
  | 0,_ => Pol.const 0
  | n + 1,h => (Pol.su fun i hi => h i (by omega)).add (h n (by omega))
theorem Pol.x:Pol fun x => x:=(Pol.const 1).xmul.of_eq fun x => by omega
theorem pv_zero:∀ {N:Nat} {c:Nat → Int},(∀ x,x ≠ 0 → pv N c x = 0) → ∀ i,i < N → c i = 0
 | 0,_,_,_,h => by omega
 | N + 1,c,h,i,hi => by
  have hx:∀ x,x ≠ 0 → c 0 + x * pv N (fun i => c (i + 1)) x = 0:=fun x hx => by
   rw [← h x hx]; unfold pv
   rw [su_head, ← su_mul]
   show c 0 + _ = c 0 * 1 + _
   rw [Int.mul_one]; congr 1
   exact su_congr fun i _ => by rw [pw]; grind
  have h0:c 0 = 0:=by
   have h9:c 0 * c 0 = (c 0).natAbs * (c 0).natAbs:=by rw [← Int.natCast_mul,Int.natAbs_mul_self]
   have h8:(0:Int) ≤ ((c 0).natAbs:Int) * (c 0).natAbs:=Int.mul_nonneg (by omega) (by omega)
   have h1:=hx (c 0 * c 0 + 1) (by omega)
   generalize pv N (fun i => c (i + 1)) (c 0 * c 0 + 1) = g at h1
   by_cases hg:g = 0
   ·rw [hg] at h1; omega
   exfalso
   have hd:(c 0 * c 0 + 1) ∣ c 0:=⟨-g,by rw [Int.mul_neg]; omega⟩
   have hc:c 0 ≠ 0:=fun e => by
    rw [e] at h1; simp at h1; exact hg h1
   have h3:=Int.le_of_dvd (a:=c 0 * c 0 + 1) (b:=(c 0).natAbs) (by omega) (Int.dvd_natAbs.2 hd)
   have h4:((c 0).natAbs:Int) * 1 ≤ ((c 0).natAbs:Int) * (c 0).natAbs:=Int.mul_le_mul_of_nonneg_left (by omega) (by omega)
   have h5:((c 0).natAbs:Int) * (c 0).natAbs = c 0 * c 0:=by rw [← Int.natCast_mul,Int.natAbs_mul_self]
   omega
  cases i with
  | zero => exact h0
  | succ i =>
   refine pv_zero (N:=N) (c:=fun i => c (i + 1)) (fun x hx0 => ?_) i (by omega)
   have h1:=hx x hx0
   rw [h0,Int.zero_add] at h1
   exact (Int.mul_eq_zero.1 h1).resolve_left hx0
def Pe (p:Nat) (f g:Int → Int):Prop := ∃ t,Pol t ∧ ∀ x,f x = g x + p * t x
section
variable {p:Nat} {f g f' g' h:Int → Int}
theorem Pe.of_eq (e:∀ x,f x = g x):Pe p f g:=⟨fun _ => 0,Pol.const 0,fun x => by dsimp only; rw [e]; omega⟩
theorem Pe.rf (f:Int → Int):Pe p f f:=Pe.of_eq fun _ => rfl
theorem Pe.symm (e:Pe p f g):Pe p g f:=by
  obtain ⟨t,ht,e⟩:=e
  exact ⟨fun x => -t x,ht.neg,fun x => by dsimp only; rw [e,Int.mul_neg]; omega⟩
theorem Pe.trans (e:Pe p f g) (e2:Pe p g h):Pe p f h:=by
  obtain ⟨t,ht,e⟩:=e
  obtain ⟨t2,ht2,e2⟩:=e2
  exact ⟨fun x => t x + t2 x,ht.add ht2,fun x => by dsimp only; rw [e,e2,Int.mul_add]; omega⟩
theorem Pe.add (e:Pe p f g) (e2:Pe p f' g'):Pe p (fun x => f x + f' x) fun x => g x + g' x:=by
  obtain ⟨t,ht,e⟩:=e
  obtain ⟨t2,ht2,e2⟩:=e2
  exact ⟨fun x => t x + t2 x,ht.add ht2,fun x => by dsimp only; rw [e,e2,Int.mul_add]; omega⟩
theorem Pe.sub (e:Pe p f g) (e2:Pe p f' g'):Pe p (fun x => f x - f' x) fun x => g x - g' x:=by
  obtain ⟨t,ht,e⟩:=e
  obtain ⟨t2,ht2,e2⟩:=e2
  exact ⟨fun x => t x - t2 x,ht.sub ht2,fun x => by dsimp only; rw [e,e2,Int.mul_sub]; omega⟩
theorem Pe.mul (e:Pe p f g) (e2:Pe p f' g') (hg:Pol g) (hg':Pol g'):Pe p (fun x => f x * f' x) fun x => g x * g' x:=by
  obtain ⟨t,ht,e⟩:=e
  obtain ⟨t2,ht2,e2⟩:=e2
  exact ⟨fun x => g x * t2 x + (t x * g' x + p * (t x * t2 x)),(hg.mul ht2).add ((ht.mul hg').add ((ht.mul ht2).smul p)),fun x => by dsimp only; rw [e,e2]; grind⟩
theorem Pe.const {a b:Int} (e:Em p a b):Pe p (fun _ => a) fun _ => b:=by
  obtain ⟨k,hk⟩:=e
  exact ⟨fun _ => k,Pol.const k,fun _ => by dsimp only; omega⟩
theorem Pe.su {f g:Nat → Int → Int}:∀ {n:Nat},(∀ i,i < n → Pe p (f i) (g i)) → Pe p (fun x => su n fun i => f i x) fun x => su n fun i => g i x
  | 0,_ => Pe.rf _
  | n + 1,h => (Pe.su fun i hi => h i (by omega)).add (h n (by omega))
theorem Pe.pv {N:Nat} {c d:Nat → Int} (h:∀ i,i < N → Em p (c i) (d i)):Pe p (pv N c) (pv N d):=Pe.su (f:=fun i x => c i * pw x i) (g:=fun i x => d i * pw x i) fun i hi => by
  obtain ⟨k,hk⟩:=h i hi
  exact ⟨fun x => pw x i * k,(Pol.const k).pmul i,fun x => by rw [show c i = d i + p * k by omega]; grind⟩
end
open Go.RowKit
def Lc (m:Nat) (f:Int → Int) (l:Int):Prop := ∃ c:Nat → Int,(∀ x,f x = pv (m + 1) c x) ∧ c m = l
theorem pv_S (N:Nat) (c:Nat → Int) (x:Int):pv (N + 1) c x = pv N c x + c N * pw x N:=rfl
theorem pv_head (N:Nat) (c:Nat → Int) (x:Int):pv (N + 1) c x = c 0 + x * pv N (fun i => c (i + 1)) x:=by
  unfold pv
  rw [su_head, ← su_mul]
  show c 0 * 1 + _ = _
  rw [Int.mul_one]; congr 1
  exact su_congr fun i _ => by rw [pw]; grind
theorem Lc.add {m:Nat} {f g:Int → Int} {a b:Int} (hf:Lc m f a) (hg:Lc m g b):Lc m (fun x => f x + g x) (a + b):=by
  obtain ⟨c,hc,h1⟩:=hf
  obtain ⟨d,hd,h2⟩:=hg
  refine ⟨fun i => c i + d i,fun x => ?_,by dsimp only; rw [h1,h2]⟩
  dsimp only
  rw [hc,hd]; unfold pv; rw [← su_add]
  exact su_congr fun i _ => by rw [Int.add_mul]
theorem Lc.smul {m:Nat} {f:Int → Int} {a:Int} (k:Int) (hf:Lc m f a):Lc m (fun x => k * f x) (k * a):=by
  obtain ⟨c,hc,h1⟩:=hf
  refine ⟨fun i => k * c i,fun x => ?_,by dsimp only; rw [h1]⟩
  dsimp only
  rw [hc]; unfold pv; rw [← su_mul]
  exact su_congr fun i _ => (Int.mul_assoc ..).symm
theorem Lc.of_eq {m:Nat} {f g:Int → Int} {a b:Int} (hf:Lc m f a) (h:∀ x,g x = f x) (hb:b = a):Lc m g b:=by
  obtain ⟨c,hc,h1⟩:=hf; exact ⟨c,fun x => (h x).trans (hc x),h1.trans hb.symm⟩
theorem Lc.zero (m:Nat):Lc m (fun _ => 0) 0:=⟨fun _ => 0,fun x => (su_zero fun i _ => Int.zero_mul _).symm,rfl⟩
theorem Lc.xmul {m:Nat} {f:Int → Int} {a:Int} (hf:Lc m f a):Lc (m + 1) (fun x => x * f x) a:=by
  obtain ⟨c,hc,h1⟩:=hf
  refine ⟨fun i => if i = 0 then 0 else c (i - 1),fun x => ?_,by dsimp only; rw [if_neg (by omega)]; exact h1⟩
  dsimp only
  rw [hc,pv_head (m + 1),if_pos rfl,Int.zero_add]
  rfl
theorem Lc.up {m:Nat} {f:Int → Int} {a:Int} (hf:Lc m f a):Lc (m + 1) f 0:=by
  obtain ⟨c,hc,_⟩:=hf
  refine ⟨fun i => if i < m + 1 then c i else 0,fun x => ?_,if_neg (by omega)⟩
  rw [hc,pv_more (Nat.le_succ (m + 1))]
theorem Lc.upto {m:Nat} {f:Int → Int} {a:Int} (hf:Lc m f a):∀ k,Lc (m + (k + 1)) f 0
  | 0 => hf.up
  | k + 1 => (hf.upto k).up
theorem Lc.mul:∀ {m k:Nat} {f g:Int → Int} {a b:Int},Lc m f a → Lc k g b → Lc (m + k) (fun x => f x * g x) (a * b)
 | 0,k,f,g,a,b,hf,hg => by
  obtain ⟨c,hc,h1⟩:=hf
  rw [Nat.zero_add]
  refine (hg.smul a).of_eq (fun x => ?_) rfl
  rw [hc, ← h1]; show (0 + c 0 * 1) * g x = _; rw [Int.mul_one,Int.zero_add]
 | m + 1,k,f,g,a,b,hf,hg => by
  obtain ⟨c,hc,h1⟩:=hf
  have ih:=Lc.mul (m:=m) (f:=pv (m + 1) fun i => c (i + 1)) (a:=a) ⟨fun i => c (i + 1),fun _ => rfl,h1⟩ hg
  have h2:=ih.xmul
  rw [show m + k + 1 = m + 1 + k by omega] at h2
  have h3:=(hg.smul (c 0)).upto m
  rw [show k + (m + 1) = m + 1 + k by omega] at h3
  refine (h3.add h2).of_eq (fun x => ?_) (by omega)
  rw [hc,pv_head]
  grind
theorem Lc.su {m:Nat} {f:Nat → Int → Int} {a:Nat → Int}:∀ {n:Nat},(∀ i,i < n → Lc m (f i) (a i)) → Lc m (fun x => su n fun i => f i x) (su n a)
  | 0,_ => Lc.zero m
  | n + 1,h => (Lc.su fun i hi => h i (by omega)).add (h n (by omega))
def sN:Nat → (Nat → Nat) → Nat
  | 0,_ => 0
  | n + 1,g => sN n g + g n
theorem sN_skip (g:Nat → Nat):∀ n i,i < n + 1 → sN (n + 1) g = g i + sN n fun r => g (if r < i then r else r + 1)
 | 0,i,hi => by
  obtain rfl:i = 0:=by omega
  show 0 + g 0 = g 0 + 0; omega
 | n + 1,i,hi => by
  by_cases e:i = n + 1
  ·subst e
   have:sN (n + 1) g = sN (n + 1) fun r => g (if r < n + 1 then r else r + 1):=by
    have:∀ k,k ≤ n + 1 → sN k g = sN k fun r => g (if r < n + 1 then r else r + 1):=fun k => by
     induction k with
     | zero => exact fun _ => rfl
     | succ k ih => exact fun hk => by rw [sN,sN,ih (by omega),if_pos (by omega)]
    exact this _ (Nat.le_refl _)
   rw [sN,this]; omega
  rw [sN,sN_skip g n i (by omega),sN,if_neg (by omega)]; omega
theorem dt_lc:∀ {n:Nat} {g:Nat → Nat} {A:Int → Nat → Nat → Int} {P:Nat → Nat → Int},(∀ r c,r < n → c < n → Lc (g r) (fun x => A x r c) (P r c)) → Lc (sN n g) (fun x => dt n (A x)) (dt n P)
 | 0,_,_,_,_ => ⟨fun _ => 1,fun x => by show (1:Int) = 0 + 1 * 1; omega,rfl⟩
 | n + 1,g,A,P,h => by
  refine Lc.su (f:=fun i x => sg i * A x i 0 * dt n (mnr (A x) i)) (a:=fun i => sg i * P i 0 * dt n (mnr P i)) fun i hi => ?_
  have ih:=dt_lc (n:=n) (g:=fun r => g (if r < i then r else r + 1)) (A:=fun x => mnr (A x) i) (P:=mnr P i) fun r c hr hc => h _ _ (by split <;> omega) (by omega)
  have h1:=((h i 0 hi (by omega)).smul (sg i)).mul ih
  rw [← sN_skip g n i hi] at h1
  exact h1
def xN (N:Nat → Nat → Int) (x:Int):Nat → Nat → Int:=fun r c => (if r = c then x else 0) - N r c
def adj (n:Nat) (A:Nat → Nat → Int) (i j:Nat):Int:=dt n (up A j fun c => dl i c)
theorem dt_expand {n j:Nat} {A:Nat → Nat → Int} (hj:j < n) (u:Nat → Int):dt n (up A j u) = su n fun i => u i * adj n A i j:=by
 have h:∀ m,dt n (up A j fun c => su m fun i => u i * dl i c) = su m fun i => u i * adj n A i j:=fun m => by
  induction m with
  | zero =>
   refine dt_zero hj fun c _ => ?_
   rw [up_at]; rfl
  | succ m ih =>
   have:=dt_lin (a:=1) (b:=u m) (A:=A) (u:=fun c => su m fun i => u i * dl i c) (v:=fun c => dl m c) hj
   rw [ih] at this
   rw [su, ← show 1 * su m (fun i => u i * adj n A i j) + u m * adj n A m j = su m (fun i => u i * adj n A i j) + u m * adj n A m j by omega, ← show dt n (up A j fun c => dl m c) = adj n A m j from rfl, ← this]
   exact dt_congr fun r c _ _ => by
    unfold up
    split
    ·show su m (fun i => u i * dl i c) + u m * dl m c = 1 * su m (fun i => u i * dl i c) + u m * dl m c; omega
    rfl
 rw [← h n]
 refine dt_congr fun r c _ hc => ?_
 unfold up
 split
 ·exact (su_dl hc u).symm
 rfl
theorem adj_row {n j k:Nat} {A:Nat → Nat → Int} (hj:j < n) (hk:k < n):su n (fun i => A k i * adj n A i j) = if k = j then dt n A else 0:=by
 rw [← dt_expand hj (A k)]
 by_cases e:k = j
 ·subst e; rw [if_pos rfl,up_self]
 rw [if_neg e]
 exact dt_same hj hk (fun h => e h.symm) (by rw [up_at,up_ne e])
theorem dt_move {n:Nat} {N:Nat → Nat → Int} (x:Int) (h:Nat):∃ R:Int,dt n (xN N (x + h)) = dt n (xN N x) + h * su n (fun i => adj n (xN N x) i i) + h * h * R:=by
 have go:∀ m,m ≤ n → ∃ R:Int,dt n (fun r => if r < m then xN N (x + h) r else xN N x r) = dt n (xN N x) + h * su m (fun i => adj n (xN N x) i i) + h * h * R:=fun m => by
  induction m with
  | zero =>
   intro _
   refine ⟨0,?_⟩
   rw [show (fun r => if r < 0 then xN N (x + h) r else xN N x r) = xN N x from funext fun r => if_neg (by omega)]
   show _ = dt n (xN N x) + h * 0 + h * h * 0; omega
  | succ m ih =>
   intro hm
   obtain ⟨R,hR⟩:=ih (by omega)
   have hl:=dt_lin (a:=1) (b:=(h:Int)) (A:=fun r => if r < m then xN N (x + h) r else xN N x r) (u:=xN N x m) (v:=fun c => dl m c) (show m < n by omega)
   have e1:up (fun r => if r < m then xN N (x + h) r else xN N x r) m (xN N x m) = fun r => if r < m then xN N (x + h) r else xN N x r:=by
    funext r; unfold up
    by_cases e:r = m
    ·subst e; rw [if_pos rfl,if_neg (by omega)]
    rw [if_neg e]
   have e2:up (fun r => if r < m then xN N (x + h) r else xN N x r) m (fun c => 1 * xN N x m c + (h:Int) * dl m c) = fun r => if r < m + 1 then xN N (x + h) r else xN N x r:=by
    funext r; unfold up
    by_cases e:r = m
    ·subst e
     rw [if_pos rfl,if_pos (by omega)]
     funext c
     unfold xN dl
     by_cases e3:r = c
     ·simp only [if_pos e3]; show 1 * (x - N r c) + (h:Int) * 1 = _; omega
     simp only [if_neg e3]; show 1 * (0 - N r c) + (h:Int) * 0 = _; omega
    rw [if_neg e]
    dsimp only
    by_cases e3:r < m
    ·rw [if_pos e3,if_pos (by omega)]
    rw [if_neg e3,if_neg (by omega)]
   have e3:Em h (dt n (up (fun r => if r < m then xN N (x + h) r else xN N x r) m fun c => dl m c)) (adj n (xN N x) m m):=dt_em fun r c _ _ => by
    unfold up
    by_cases e:r = m
    ·rw [if_pos e,if_pos e]; exact Em.rf _
    rw [if_neg e,if_neg e]
    dsimp only
    by_cases e4:r < m
    ·rw [if_pos e4]
     unfold xN
     by_cases e5:r = c
     ·rw [if_pos e5,if_pos e5]; exact ⟨1,by omega⟩
     rw [if_neg e5,if_neg e5]; exact Em.rf _
    rw [if_neg e4]; exact Em.rf _
   obtain ⟨S,hS⟩:=e3
   rw [e1,e2,hR] at hl
   refine ⟨R + S,?_⟩
   rw [hl,su]
   have:dt n (up (fun r => if r < m then xN N (x + h) r else xN N x r) m fun c => dl m c) = adj n (xN N x) m m + h * S:=by omega
   rw [this]
   grind
 obtain ⟨R,hR⟩:=go n (Nat.le_refl _)
 refine ⟨R,?_⟩
 rw [← hR]
 exact dt_congr fun r c hr _ => by rw [if_pos hr]
theorem pw_move (x:Int) (h:Nat):∀ k, ∃ S:Int,pw (x + h) k = pw x k + h * (k * pw x (k - 1)) + h * h * S
 | 0 => ⟨0,by show (1:Int) = 1 + h * (0 * 1) + _; omega⟩
 | 1 => ⟨0,by show (x + h) * 1 = x * 1 + h * (1 * 1) + _; omega⟩
 | k + 2 => by
  obtain ⟨S,hS⟩:=pw_move x h (k + 1)
  refine ⟨x * S + h * S + (k + 1:Nat) * pw x k,?_⟩
  rw [pw,hS]
  show _ = x * pw x (k + 1) + h * (((k + 2:Nat):Int) * pw x (k + 1)) + _
  rw [show pw x (k + 1) = x * pw x k from rfl,show k + 1 - 1 = k by omega]
  have e:((k + 2:Nat):Int) = ((k + 1:Nat):Int) + 1:=by omega
  rw [e]
  generalize ((k + 1:Nat):Int) = q
  generalize pw x k = y
  grind
theorem pv_move (c:Nat → Int) (x:Int) (h:Nat):∀ N, ∃ S:Int,pv (N + 1) c (x + h) = pv (N + 1) c x + h * pv N (fun l => ((l + 1:Nat):Int) * c (l + 1)) x + h * h * S
 | 0 => ⟨0,by show 0 + c 0 * 1 = 0 + c 0 * 1 + h * 0 + h * h * 0; omega⟩
 | N + 1 => by
  obtain ⟨S,hS⟩:=pv_move c x h N
  obtain ⟨T,hT⟩:=pw_move x h (N + 1)
  refine ⟨S + c (N + 1) * T,?_⟩
  rw [pv_S (N + 1),hS,hT,pv_S (N + 1) c x,pv_S N (fun l => ((l + 1:Nat):Int) * c (l + 1)) x]
  rw [show N + 1 - 1 = N by omega]
  generalize pw x N = y
  generalize pw x (N + 1) = z
  generalize ((N + 1:Nat):Int) = q
  grind
structure Lev (n:Nat) (N:Nat → Nat → Int) (d:Nat → Int) (b:Nat → Nat → Nat → Int):Prop where
  val:∀ x,dt n (xN N x) = pv (n + 1) d x
  top:d n = 1
  b0:∀ r c,r < n → c < n → b 0 r c = dl r c
  bs:∀ m r c,m + 1 < n → r < n → c < n → b (m + 1) r c = mm n N (b m) r c + d (n - (m + 1)) * dl r c
  tr:∀ m,m < n → su n (fun i => mm n N (b m) i i) = -(((m + 1:Nat):Int)) * d (n - (m + 1))
theorem xN_lc {N:Nat → Nat → Int} (r c:Nat):Lc 1 (fun x => xN N x r c) (dl r c):=by
  refine ⟨fun i => if i = 0 then -N r c else dl r c,fun x => ?_,rfl⟩
  show _ = 0 + (-N r c) * 1 + dl r c * (x * 1)
  unfold xN dl
  dsimp only
  by_cases e:r = c
  · rw [if_pos e,if_pos e]; show x - N r c = 0 + (-N r c) * 1 + 1 * (x * 1); omega
  rw [if_neg e,if_neg e]; show 0 - N r c = 0 + (-N r c) * 1 + 0 * (x * 1); omega
theorem sN_one:∀ n,sN n (fun _ => 1) = n
  | 0 => rfl
  | n + 1 => by rw [sN,sN_one n]
theorem sN_but {j:Nat}:∀ n,j < n → sN n (fun r => if r = j then 0 else 1) = n - 1
 | n + 1,h => by
  rw [sN]
  by_cases e:n = j
  ·subst e
   rw [if_pos rfl]
   have:∀ k,k ≤ n → sN k (fun r => if r = n then 0 else 1) = k:=fun k => by
    induction k with
    | zero => exact fun _ => rfl
    | succ k ih => exact fun hk => by rw [sN,ih (by omega),if_neg (by omega)]
   rw [this n (Nat.le_refl _)]; omega
  rw [if_neg e,sN_but n (by omega)]; omega
theorem pv_inj {N:Nat} {c d:Nat → Int} (h:∀ x,pv N c x = pv N d x):∀ i,i < N → c i = d i:=fun i hi => by
 have h1:=pv_zero (N:=N) (c:=fun i => c i - d i) (fun x _ => by
  have h2:=h x
  unfold pv at h2 ⊢
  rw [su_congr (g:=fun i => c i * pw x i + (-1) * (d i * pw x i)) fun i _ => by grind,su_add,su_mul]; omega) i hi
 have h3:c i - d i = 0:=h1
 omega
theorem all_dvd {z:Int} (h:∀ k:Nat,0 < k → ((k:Nat):Int) ∣ z):z = 0:=by
 by_cases e:z = 0
 ·exact e
 have h1:=h (z.natAbs + 1) (by omega)
 have h2:=Int.le_of_dvd (b:=((z.natAbs:Nat):Int)) (by omega) (Int.dvd_natAbs.2 h1)
 omega
theorem lev_exA {n:Nat} (h0:n ≠ 0) (N:Nat → Nat → Int):∃ d b,Lev n N d b ∧ ∀ r c,c < n → ∀ x,adj n (xN N x) r c = pv n (fun l => b (n - 1 - l) r c) x:=by
 have hD:=dt_lc (n:=n) (g:=fun _ => 1) (A:=xN N) (P:=dl) fun r c _ _ => xN_lc r c
 rw [sN_one] at hD
 obtain ⟨d,hd,htop⟩:=hD
 replace hd:∀ x,dt n (xN N x) = pv (n + 1) d x:=hd
 have htop':d n = 1:=by
  rw [htop, ← dt_id n]; exact dt_congr fun r c _ _ => rfl
 -- the adjugate's coefficients
 have hA:∀ i j, ∃ a:Nat → Int,j < n → ∀ x,adj n (xN N x) i j = pv n a x:=fun i j => by
  by_cases hj:j < n
  ·have h:=dt_lc (n:=n) (g:=fun r => if r = j then 0 else 1) (A:=fun x => up (xN N x) j fun c => dl i c) (P:=fun r c => if r = j then dl i c else dl r c) fun r c _ _ => by
    by_cases e:r = j
    ·subst e
     rw [if_pos rfl,if_pos rfl]
     exact ⟨fun _ => dl i c,fun x => by show up (xN N x) r (fun c => dl i c) r c = 0 + dl i c * 1; rw [up_at]; omega,rfl⟩
    rw [if_neg e,if_neg e]
    exact (xN_lc r c).of_eq (fun x => by rw [up_ne e]) rfl
   rw [sN_but n hj] at h
   obtain ⟨a,ha,_⟩:=h
   rw [show n - 1 + 1 = n by omega] at ha
   exact ⟨a,fun _ => ha⟩
  exact ⟨fun _ => 0,fun h => absurd h hj⟩
 obtain ⟨a,ha⟩:=Classical.axiomOfChoice (r:=fun (ij:Nat × Nat) (a:Nat → Int) => ij.2 < n → ∀ x,adj n (xN N x) ij.1 ij.2 = pv n a x) (fun ij => hA ij.1 ij.2)
 have ha':∀ i j,j < n → ∀ x,adj n (xN N x) i j = pv n (a (i,j)) x:=fun i j => ha (i,j)
 -- (x I - N) adj = D I,coefficient by coefficient
 have hco:∀ k j l,k < n → j < n → l < n + 1 → (if l = 0 then 0 else a (k,j) (l - 1)) = (if l < n then su n fun i => N k i * a (i,j) l else 0) + d l * dl k j:=fun k j l hk hj hl => by
  refine pv_inj (N:=n + 1) (c:=fun l => if l = 0 then 0 else a (k,j) (l - 1)) (d:=fun l => (if l < n then su n fun i => N k i * a (i,j) l else 0) + d l * dl k j) (fun x => ?_) l hl
  have h1:=adj_row (A:=xN N x) hj hk
  have h2:su n (fun i => xN N x k i * adj n (xN N x) i j) = x * pv n (a (k,j)) x - su n fun i => N k i * pv n (a (i,j)) x:=by
   rw [su_congr (g:=fun i => (if i = k then x * pv n (a (i,j)) x else 0) + (-1) * (N k i * pv n (a (i,j)) x)) fun i _ => by
    rw [ha' i j hj x]; unfold xN
    by_cases e:k = i
    ·subst e; rw [if_pos rfl,if_pos rfl]; grind
    rw [if_neg e,if_neg (fun h => e h.symm)]; grind,su_add,su_mul,su_one (f:=fun i => x * pv n (a (i,j)) x) hk]
   omega
  have h3:su n (fun i => N k i * pv n (a (i,j)) x) = pv n (fun l => su n fun i => N k i * a (i,j) l) x:=by
   unfold pv
   rw [su_congr (g:=fun i => su n fun l => N k i * a (i,j) l * pw x l) fun i _ => by
    rw [← su_mul]; exact su_congr fun l _ => (Int.mul_assoc ..).symm,su_swap]
   exact su_congr fun l _ => su_mulr _ _ _
  have h4:(if k = j then dt n (xN N x) else 0) = pv (n + 1) (fun l => d l * dl k j) x:=by
   unfold dl
   by_cases e:k = j
   ·rw [if_pos e,hd]; exact su_congr fun l _ => by simp only [if_pos e]; show d l * pw x l = d l * 1 * pw x l; rw [Int.mul_one]
   rw [if_neg e]; exact (su_zero fun l _ => by simp only [if_neg e]; show d l * 0 * pw x l = 0; rw [Int.mul_zero,Int.zero_mul]).symm
  rw [h2,h3,h4] at h1
  have h5:pv (n + 1) (fun l => if l = 0 then 0 else a (k,j) (l - 1)) x = x * pv n (a (k,j)) x:=by
   rw [pv_head,if_pos rfl,Int.zero_add]; rfl
  have h6:pv (n + 1) (fun l => (if l < n then su n fun i => N k i * a (i,j) l else 0) + d l * dl k j) x = pv n (fun l => su n fun i => N k i * a (i,j) l) x + pv (n + 1) (fun l => d l * dl k j) x:=by
   rw [pv_more (Nat.le_succ n)]; unfold pv; rw [← su_add]
   exact su_congr fun l _ => by rw [Int.add_mul]
  rw [h5,h6]; omega
 -- the trace is the derivative
 have htr:∀ l,l < n → ((l + 1:Nat):Int) * d (l + 1) = su n fun i => a (i,i) l:=by
  refine pv_inj (N:=n) fun x => ?_
  have hz:pv n (fun l => ((l + 1:Nat):Int) * d (l + 1)) x - su n (fun i => adj n (xN N x) i i) = 0:=all_dvd fun h hh => by
   obtain ⟨R,hR⟩:=dt_move (n:=n) (N:=N) x h
   obtain ⟨S,hS⟩:=pv_move d x h n
   rw [hd,hd,hS] at hR
   refine ⟨R - S,?_⟩
   have h9:(h:Int) * (pv n (fun l => ((l + 1:Nat):Int) * d (l + 1)) x - su n (fun i => adj n (xN N x) i i)) = (h:Int) * (h * (R - S)):=by grind
   exact Int.eq_of_mul_eq_mul_left (by omega) h9
  have h2:su n (fun i => adj n (xN N x) i i) = pv n (fun l => su n fun i => a (i,i) l) x:=by
   rw [su_congr (g:=fun i => pv n (a (i,i)) x) fun i hi => ha' i i hi x]
   unfold pv
   rw [su_swap]
   exact su_congr fun l _ => su_mulr _ _ _
  rw [h2] at hz; omega
 refine ⟨d,fun m r c => a (r,c) (n - 1 - m),⟨hd,htop',fun r c hr hc => ?_,fun m r c hm hr hc => ?_,fun m hm => ?_⟩,fun r c hc x => (ha' r c hc x).trans (su_congr fun l hl => by show a (r,c) l * pw x l = a (r,c) (n - 1 - (n - 1 - l)) * pw x l; rw [show n - 1 - (n - 1 - l) = l by omega])⟩
 ·have h:=hco r c n hr hc (by omega)
  rw [if_neg h0,if_neg (by omega),htop',Int.one_mul,Int.zero_add] at h
  rw [Nat.sub_zero]; exact h
 ·have h:=hco r c (n - (m + 1)) hr hc (by omega)
  rw [if_neg (by omega),if_pos (by omega)] at h
  show a (r,c) (n - 1 - (m + 1)) = su n (fun i => N r i * a (i,c) (n - 1 - m)) + _
  rw [show n - 1 - (m + 1) = n - (m + 1) - 1 by omega,show n - 1 - m = n - (m + 1) by omega]
  exact h
 have h1:su n (fun i => mm n N (fun r c => a (r,c) (n - 1 - m)) i i) = su n fun i => (if n - (m + 1) = 0 then 0 else a (i,i) (n - (m + 1) - 1)) + (-1) * (d (n - (m + 1)) * dl i i):=su_congr fun i hi => by
  have h:=hco i i (n - (m + 1)) hi hi (by omega)
  rw [if_pos (show n - (m + 1) < n by omega)] at h
  show su n (fun j => N i j * a (j,i) (n - 1 - m)) = _
  rw [show n - 1 - m = n - (m + 1) by omega]
  generalize d (n - (m + 1)) * dl i i = q at h ⊢
  generalize su n (fun j => N i j * a (j,i) (n - (m + 1))) = s at h ⊢
  generalize (if n - (m + 1) = 0 then 0 else a (i,i) (n - (m + 1) - 1)) = u at h ⊢
  omega
 rw [h1,su_add,su_mul,su_mul]
 have h2:su n (fun i => dl i i) = (n:Int):=by
  have:∀ k,su k (fun i => dl i i) = (k:Int):=fun k => by
   induction k with
   | zero => rfl
   | succ k ih => rw [su,ih]; unfold dl; rw [if_pos rfl]; omega
  exact this n
 rw [h2]
 by_cases e:n - (m + 1) = 0
 ·rw [su_zero fun i _ => if_pos e,e]
  have:((m + 1:Nat):Int) = n:=by omega
  rw [this]; grind
 rw [su_congr (g:=fun i => a (i,i) (n - (m + 1) - 1)) fun i _ => if_neg e, ← htr _ (by omega)]
 rw [show n - (m + 1) - 1 + 1 = n - (m + 1) by omega]
 have:((n - (m + 1):Nat):Int) = (n:Int) - ((m + 1:Nat):Int):=by omega
 rw [this]
 generalize d (n - (m + 1)) = q
 generalize ((m + 1:Nat):Int) = u
 grind
end Go.Proofs.YtnlnibngpeempaaGreatDoor
