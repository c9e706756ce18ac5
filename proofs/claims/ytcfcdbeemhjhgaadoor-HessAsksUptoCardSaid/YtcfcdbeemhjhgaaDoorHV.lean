/-
  Contracts and lemmas, joined in one text.
-/
import Derived.Test.YtcfcdbeemhjhgaaDoorBA
import Derived.Test.YtcfcdbeemhjhgaaDoorMR
set_option linter.unusedVariables false
set_option linter.unusedSimpArgs false
/-
  Matrices of words modulo a prime,plainly: elimination,row by row.
-/
namespace Go.Proofs.YtcfcdbeemhjhgaaDoor
open Go.RowKit
def modM (p:Nat) (M:List (List Nat)):List (List Nat):=M.map fun r => r.map (· % p)
def colsM (M:List (List Nat)):Nat:=(M.getD 0 []).length
def RectM (M:List (List Nat)):Prop := ∀ r ∈ M,r.length = colsM M
def Shp (p C:Nat) (M:List (List Nat)):Prop := ∀ r ∈ M,r.length = C ∧ ∀ x ∈ r,x < p
theorem modM_len (p:Nat) (M:List (List Nat)):(modM p M).length = M.length:=List.length_map _
theorem RectM.shp {p:Nat} {M:List (List Nat)} (h:RectM M) (hp:0 < p):Shp p (colsM M) (modM p M):=fun r hr => by
  obtain ⟨s,hs,rfl⟩:=List.mem_map.1 hr
  refine ⟨by rw [List.length_map]; exact h s hs,fun x hx => ?_⟩
  obtain ⟨y,_,rfl⟩:=List.mem_map.1 hx
  exact Nat.mod_lt _ hp
theorem Shp.get {p C:Nat} {M:List (List Nat)} (h:Shp p C M) {i:Nat} {r:List Nat} (hi:M[i]? = some r):r.length = C ∧ ∀ x ∈ r,x < p:=h r (List.mem_of_getElem? hi)
theorem getD_get {M:List (List Nat)} {i:Nat} {r:List Nat} (h:M[i]? = some r):M.getD i [] = r:=by simp [List.getD,h]
theorem get_getD {M:List (List Nat)} {i:Nat} (h:i < M.length):M[i]? = some (M.getD i []):=by simp [List.getD,h]
theorem Shp.at {p C:Nat} {M:List (List Nat)} (h:Shp p C M) {i:Nat} (hi:i < M.length):(M.getD i []).length = C ∧ ∀ x ∈ M.getD i [],x < p:=h.get (get_getD hi)
theorem Shp.nd {p C:Nat} {M:List (List Nat)} (h:Shp p C M) (hp:0 < p) (i k:Nat):nd (M.getD i []) k < p:=by
 by_cases hi:i < M.length
 ·by_cases hk:k < (M.getD i []).length
  ·rw [nd_get hk]; exact (h.at hi).2 _ (List.getElem_mem hk)
  rw [nd_lt_len (by omega)]; exact hp
 have:M.getD i [] = []:=by simp [List.getD,List.getElem?_eq_none (by omega:M.length ≤ i)]
 rw [this]; exact hp
theorem Shp.set {p C:Nat} {M:List (List Nat)} (h:Shp p C M) (i:Nat) {r:List Nat} (hr:r.length = C ∧ ∀ x ∈ r,x < p):Shp p C (M.set i r):=fun s hs => by
  rcases List.mem_or_eq_of_mem_set hs with hs | rfl
  · exact h s hs
  exact hr
theorem getD_set_self {M:List (List Nat)} {i:Nat} (h:i < M.length) (r:List Nat):(M.set i r).getD i [] = r:=by simp [List.getD,h]
theorem getD_set_ne {M:List (List Nat)} {i j:Nat} (h:i ≠ j) (r:List Nat):(M.set i r).getD j [] = M.getD j []:=by simp [List.getD,List.getElem?_set_ne h]
def firstNZ (M:List (List Nat)) (c:Nat):Nat → Nat → Option Nat
  | 0,_ => none
  | k + 1,i => if nd (M.getD i []) c ≠ 0 then some i else firstNZ M c k (i + 1)
theorem firstNZ_none {M:List (List Nat)} {c:Nat}:∀ {k i:Nat},(∀ l,i ≤ l → l < i + k → nd (M.getD l []) c = 0) → firstNZ M c k i = none
 | 0,_,_ => rfl
 | k + 1,i,h => by
  rw [firstNZ,if_neg (by have:=h i (Nat.le_refl _) (by omega); omega)]
  exact firstNZ_none fun l h1 h2 => h l (by omega) (by omega)
theorem firstNZ_some {M:List (List Nat)} {c j:Nat}:∀ {k i:Nat},i ≤ j → j < i + k → (∀ l,i ≤ l → l < j → nd (M.getD l []) c = 0) → nd (M.getD j []) c ≠ 0 → firstNZ M c k i = some j
 | 0,_,h1,h2,_,_ => by omega
 | k + 1,i,h1,h2,h,hj => by
  by_cases e:i = j
  ·subst e; rw [firstNZ,if_pos hj]
  rw [firstNZ,if_neg (by have:=h i (Nat.le_refl _) (by omega); omega)]
  exact firstNZ_some (by omega) (by omega) (fun l h1 h2 => h l (by omega) h2) hj
theorem firstNZ_is {M:List (List Nat)} {c j:Nat}:∀ {k i:Nat},firstNZ M c k i = some j → i ≤ j ∧ j < i + k ∧ nd (M.getD j []) c ≠ 0 ∧ ∀ l,i ≤ l → l < j → nd (M.getD l []) c = 0
 | 0,_,h => by cases h
 | k + 1,i,h => by
  rw [firstNZ] at h
  split at h
  ·rename_i h0
   simp only [Option.some.injEq] at h
   subst h
   exact ⟨Nat.le_refl _,by omega,h0,fun l h1 h2 => by omega⟩
  rename_i h0
  obtain ⟨h1,h2,h3,h4⟩:=firstNZ_is h
  refine ⟨by omega,by omega,h3,fun l h5 h6 => ?_⟩
  by_cases e:l = i
  ·subst e; omega
  exact h4 l (by omega) h6
theorem firstNZ_zero {M:List (List Nat)} {c:Nat}:∀ {k i:Nat},firstNZ M c k i = none → ∀ l,i ≤ l → l < i + k → nd (M.getD l []) c = 0
 | 0,_,_,l,h1,h2 => by omega
 | k + 1,i,h,l,h1,h2 => by
  rw [firstNZ] at h
  split at h
  ·cases h
  by_cases e:l = i
  ·subst e; omega
  exact firstNZ_zero h l (by omega) (by omega)
def pinv (p a:Nat):Nat:=a ^ (p - 2) % p
def scalR (p f:Nat) (b:List Nat):List Nat:=b.map fun x => x * f % p
def lessR (p f:Nat) (a b:List Nat):List Nat:=List.zipWith (fun x y => (x + p - f * y % p) % p) a b
def swapM (M:List (List Nat)) (i j:Nat):List (List Nat):=(M.set i (M.getD j [])).set j (M.getD i [])
def elimM (p r c:Nat) (M:List (List Nat)):Nat → List (List Nat)
  | 0 => M
  | i + 1 => if i = r then elimM p r c M i else (elimM p r c M i).set i (lessR p (nd ((elimM p r c M i).getD i []) c) ((elimM p r c M i).getD i []) ((elimM p r c M i).getD r []))
theorem lessR_len {p f:Nat} {a b:List Nat} (h:a.length = b.length):(lessR p f a b).length = a.length:=by simp [lessR,h]
theorem lessR_nd {p f:Nat} {a b:List Nat} {k:Nat} (h:a.length = b.length) (hk:k < a.length):nd (lessR p f a b) k = (nd a k + p - f * nd b k % p) % p:=by
  unfold lessR
  rw [nd_get (by simp [h] at *; omega),nd_get hk,nd_get (by omega),List.getElem_zipWith]
theorem mem_nd {a:List Nat} {x:Nat} (h:x ∈ a):∃ k,k < a.length ∧ nd a k = x:=by
  obtain ⟨k,hk,rfl⟩:=List.getElem_of_mem h
  exact ⟨k,hk,nd_get hk⟩
theorem lessR_lt {p f:Nat} {a b:List Nat} (h:a.length = b.length) (hp:0 < p):∀ x ∈ lessR p f a b,x < p:=fun x hx => by
  obtain ⟨k,hk,rfl⟩:=mem_nd hx
  rw [lessR_nd h (by rw [lessR_len h] at hk; exact hk)]
  exact Nat.mod_lt _ hp
theorem swapM_len (M:List (List Nat)) (i j:Nat):(swapM M i j).length = M.length:=by simp [swapM]
theorem swapM_shp {p C:Nat} {M:List (List Nat)} (h:Shp p C M) {i j:Nat} (hi:i < M.length) (hj:j < M.length):Shp p C (swapM M i j):=(h.set i (h.at hj)).set j (h.at hi)
theorem swapM_at {M:List (List Nat)} {i j:Nat} (hi:i < M.length) (hj:j < M.length) (l:Nat):(swapM M i j).getD l [] = if l = i then M.getD j [] else if l = j then M.getD i [] else M.getD l []:=by
 unfold swapM
 by_cases e1:l = j
 ·subst e1
  rw [getD_set_self (by simpa using hj)]
  by_cases e2:l = i
  ·subst e2; rw [if_pos rfl]
  rw [if_neg e2,if_pos rfl]
 rw [getD_set_ne (fun h => e1 h.symm)]
 by_cases e2:l = i
 ·subst e2; rw [getD_set_self hi,if_pos rfl]
 rw [getD_set_ne (fun h => e2 h.symm),if_neg e2,if_neg e1]
section
variable {p r c C:Nat} {M:List (List Nat)}
end
def normM (p r c:Nat) (M:List (List Nat)):List (List Nat):=M.set r (scalR p (pinv p (nd (M.getD r []) c)) (M.getD r []))
def redStep (p c:Nat) (s:List (List Nat) × List Nat):List (List Nat) × List Nat :=
  match firstNZ s.1 c (s.1.length - s.2.length) s.2.length with
  | none => s
  | some i => (elimM p s.2.length c (normM p s.2.length c (swapM s.1 s.2.length i)) s.1.length,s.2 ++ [c])
def redTo (p:Nat) (M:List (List Nat)):Nat → List (List Nat) × List Nat
  | 0 => (M,[])
  | c + 1 => redStep p c (redTo p M c)
def detTo (p:Nat) (M:List (List Nat)):Nat → Nat
 | 0 => 1 % p
 | c + 1 => match firstNZ (redTo p M c).1 c ((redTo p M c).1.length - (redTo p M c).2.length) (redTo p M c).2.length with
  | none => 0
  | some i => (if i = (redTo p M c).2.length then detTo p M c else (0 + p - detTo p M c) % p) * nd ((redTo p M c).1.getD i []) c % p
open Go.RowKit
def Em (p:Nat) (a b:Int):Prop:=(p:Int) ∣ a - b
section
variable {p:Nat} {a b c d:Int}
theorem Em.rf (a:Int):Em p a a:=⟨0,by omega⟩
theorem Em.of_eq (h:a = b):Em p a b:=h ▸ Em.rf a
theorem Em.symm (h:Em p a b):Em p b a:=by obtain ⟨k,hk⟩:=h; exact ⟨-k,by rw [Int.mul_neg]; omega⟩
theorem Em.trans (h:Em p a b) (h2:Em p b c):Em p a c:=by obtain ⟨k,hk⟩:=h; obtain ⟨l,hl⟩:=h2; exact ⟨k + l,by rw [Int.mul_add]; omega⟩
theorem Em.add (h:Em p a b) (h2:Em p c d):Em p (a + c) (b + d):=by obtain ⟨k,hk⟩:=h; obtain ⟨l,hl⟩:=h2; exact ⟨k + l,by rw [Int.mul_add]; omega⟩
theorem Em.sub (h:Em p a b) (h2:Em p c d):Em p (a - c) (b - d):=by obtain ⟨k,hk⟩:=h; obtain ⟨l,hl⟩:=h2; exact ⟨k - l,by rw [Int.mul_sub]; omega⟩
theorem Em.mul (h:Em p a b) (h2:Em p c d):Em p (a * c) (b * d):=by
  obtain ⟨k,hk⟩:=h; obtain ⟨l,hl⟩:=h2
  refine ⟨k * c + b * l,?_⟩
  have e:a * c - b * d = (a - b) * c + b * (c - d):=by rw [Int.sub_mul,Int.mul_sub]; omega
  rw [e,hk,hl,Int.mul_add,Int.mul_assoc,Int.mul_left_comm b]
theorem Em.md (x:Nat):Em p ((x % p:Nat):Int) x:=by
  refine ⟨-((x / p:Nat):Int),?_⟩
  have h:=Nat.div_add_mod x p
  have h2:((p * (x / p):Nat):Int) = (p:Int) * ((x / p:Nat):Int):=Int.natCast_mul ..
  rw [Int.mul_neg, ← h2]; omega
theorem Em.pz:Em p (p:Int) 0:=⟨1,by omega⟩
theorem Em.eq {x y:Nat} (hx:x < p) (hy:y < p) (h:Em p x y):x = y:=by
 obtain ⟨k,hk⟩:=h
 have h0:k = 0:=by
  rcases Int.lt_trichotomy k 0 with h | h | h
  ·have:(p:Int) * k ≤ (p:Int) * (-1):=Int.mul_le_mul_of_nonneg_left (by omega) (by omega)
   omega
  ·exact h
  have:(p:Int) * 1 ≤ (p:Int) * k:=Int.mul_le_mul_of_nonneg_left (by omega) (by omega)
  omega
 rw [h0] at hk
 omega
theorem Em.less {x y f:Nat} (hp:0 < p):Em p (((x + p - f * y % p) % p:Nat):Int) ((x:Int) - f * y):=by
  have hm:=Nat.mod_lt (f * y) hp
  refine (Em.md _).trans ?_
  have e:((x + p - f * y % p:Nat):Int) = ((x:Int) - ((f * y % p:Nat):Int)) + p:=by omega
  rw [e]
  have h1:Em p ((x:Int) - ((f * y % p:Nat):Int)) ((x:Int) - f * y):=(Em.rf _).sub ((Em.md _).trans (Em.of_eq (Int.natCast_mul ..)))
  exact (h1.add Em.pz).trans (Em.of_eq (by omega))
end
def su:Nat → (Nat → Int) → Int
  | 0,_ => 0
  | n + 1,f => su n f + f n
theorem su_congr {f g:Nat → Int}:∀ {n:Nat},(∀ k,k < n → f k = g k) → su n f = su n g
  | 0,_ => rfl
  | n + 1,h => by rw [su,su,su_congr (fun k hk => h k (by omega)),h n (by omega)]
theorem su_em {p:Nat} {f g:Nat → Int}:∀ {n:Nat},(∀ k,k < n → Em p (f k) (g k)) → Em p (su n f) (su n g)
  | 0,_ => Em.rf _
  | n + 1,h => (su_em (fun k hk => h k (by omega))).add (h n (by omega))
theorem su_add (f g:Nat → Int):∀ n:Nat,su n (fun k => f k + g k) = su n f + su n g
  | 0 => rfl
  | n + 1 => by rw [su,su,su,su_add f g n]; omega
theorem su_mul (c:Int) (f:Nat → Int):∀ n:Nat,su n (fun k => c * f k) = c * su n f
  | 0 => by simp [su]
  | n + 1 => by rw [su,su,su_mul c f n,Int.mul_add]
theorem su_mulr (c:Int) (f:Nat → Int) (n:Nat):su n (fun k => f k * c) = su n f * c:=by
  rw [Int.mul_comm, ← su_mul]; exact su_congr fun k _ => Int.mul_comm _ _
theorem su_zero {f:Nat → Int}:∀ {n:Nat},(∀ k,k < n → f k = 0) → su n f = 0
  | 0,_ => rfl
  | n + 1,h => by rw [su,su_zero (fun k hk => h k (by omega)),h n (by omega)]; rfl
theorem su_one {f:Nat → Int} {i:Nat}:∀ {n:Nat},i < n → su n (fun k => if k = i then f k else 0) = f i
 | n + 1,h => by
  rw [su]
  by_cases e:n = i
  ·rw [if_pos e,su_zero (fun k hk => if_neg (by omega)),e]; omega
  rw [if_neg e,su_one (by omega)]; omega
theorem su_swap (f:Nat → Nat → Int) (m:Nat):∀ n:Nat,su n (fun i => su m (fun j => f i j)) = su m (fun j => su n (fun i => f i j))
 | 0 => (su_zero fun _ _ => rfl).symm
 | n + 1 => by
  rw [su,su_swap f m n, ← su_add]; rfl
theorem su_more {f:Nat → Int} {m:Nat}:∀ {k:Nat},(∀ l,m ≤ l → f l = 0) → su (m + k) f = su m f
 | 0,_ => rfl
 | k + 1,h => by
  show su (m + k) f + f (m + k) = _
  rw [su_more h,h _ (by omega)]; omega
theorem su_le {f:Nat → Int} {m n:Nat} (h:m ≤ n) (h0:∀ l,m ≤ l → f l = 0):su n f = su m f:=by
  obtain ⟨k,rfl⟩:=Nat.exists_eq_add_of_le h
  exact su_more h0
def Cb (p n C:Nat) (E:Nat → Nat → Int) (v:Nat → Int):Prop := ∃ s:Nat → Int, ∀ j,j < C → Em p (v j) (su n fun l => s l * E l j)
section
variable {p n m C:Nat} {E F:Nat → Nat → Int} {u v x:Nat → Int}
theorem Cb.row {i:Nat} (h:i < n):Cb p n C E (E i):=⟨fun l => if l = i then 1 else 0,fun j _ => Em.of_eq (by
  rw [su_congr (g:=fun l => if l = i then E l j else 0),su_one h]
  intro k _
  simp only
  split
  · rw [Int.one_mul]
  rw [Int.zero_mul])⟩
theorem Cb.of (h:Cb p n C E v) (hx:∀ j,j < C → Em p (x j) (v j)):Cb p n C E x:=by
  obtain ⟨s,hs⟩:=h
  exact ⟨s,fun j hj => (hx j hj).trans (hs j hj)⟩
theorem Cb.zero (hx:∀ j,j < C → Em p (x j) 0):Cb p n C E x:=⟨fun _ => 0,fun j hj => (hx j hj).trans (Em.of_eq (su_zero fun k _ => Int.zero_mul _).symm)⟩
theorem Cb.all {k:Nat} {G:Nat → Nat → Int} (h:∀ i,i < k → Cb p n C E (G i)):∃ S:Nat → Nat → Int, ∀ i,i < k → ∀ j,j < C → Em p (G i j) (su n fun l => S i l * E l j):=by
  refine ⟨fun i => if h':i < k then (h i h').choose else fun _ => 0,fun i hi j hj => ?_⟩
  simp only [dif_pos hi]
  exact (h i hi).choose_spec j hj
theorem Cb.trans (h:Cb p m C F v) (hF:∀ i,i < m → Cb p n C E (F i)):Cb p n C E v:=by
  obtain ⟨S,hS⟩:=Cb.all hF
  obtain ⟨s,hs⟩:=h
  refine ⟨fun l => su m fun i => s i * S i l,fun j hj => (hs j hj).trans ?_⟩
  refine (su_em (g:=fun i => s i * su n fun l => S i l * E l j) fun i hi => (Em.rf _).mul (hS i hi j hj)).trans (Em.of_eq ?_)
  rw [su_congr (g:=fun i => su n fun l => s i * S i l * E l j) (fun i _ => by rw [← su_mul]; exact su_congr fun l _ => (Int.mul_assoc ..).symm),su_swap]
  exact su_congr fun l _ => su_mulr ..
end
def en (M:List (List Nat)) (i j:Nat):Int:=((nd (M.getD i []) j:Nat):Int)
def Sp (p C:Nat) (M N:List (List Nat)):Prop := ∀ i,i < N.length → Cb p M.length C (en M) (en N i)
theorem Sp.rf (p C:Nat) (M:List (List Nat)):Sp p C M M:=fun _ hi => Cb.row hi
theorem Sp.trans {p C:Nat} {M N K:List (List Nat)} (h:Sp p C M N) (h2:Sp p C N K):Sp p C M K:=fun i hi => (h2 i hi).trans h
section
variable {p C:Nat} {M:List (List Nat)}
theorem en_swap {i j l:Nat} (hi:i < M.length) (hj:j < M.length):en (swapM M i j) l = if l = i then en M j else if l = j then en M i else en M l:=by
  funext k
  unfold en
  rw [swapM_at hi hj]
  split
  · rfl
  split <;> rfl
theorem pinv_em {a:Nat} (hp:MR.Pr p) (ha:¬ p ∣ a):Em p ((a:Int) * (pinv p a:Nat)) 1:=by
  have h:=inv_pow hp ha
  have h2:=Em.md (p:=p) (a * pinv p a)
  rw [show a * pinv p a % p = 1 from h] at h2
  exact (h2.trans (Em.of_eq (Int.natCast_mul ..))).symm
end
structure Rf (p c:Nat) (s:List (List Nat) × List Nat):Prop where
  unit:∀ i,i < s.2.length → ∀ l,l < s.1.length → nd (s.1.getD l []) (nd s.2 i) = if l = i then 1 else 0
  zero:∀ l,s.2.length ≤ l → l < s.1.length → ∀ j,j < c → nd (s.1.getD l []) j = 0
  left:∀ i,i < s.2.length → ∀ j,j < nd s.2 i → nd (s.1.getD i []) j = 0
  incr:∀ i k,i < k → k < s.2.length → nd s.2 i < nd s.2 k
  low:∀ i,i < s.2.length → nd s.2 i < c
end Go.Proofs.YtcfcdbeemhjhgaaDoor
