/-
  Contracts and lemmas, joined in one text.
-/
import Derived.Laws.BitsAllLaws
import Derived.Test.YtnlnibngpeempaaGreatDoorRows
import Derived.WalkKit
import Derived.WalkSpells
import Derived.WalkLawsBesides
import Derived.Lib.Hide
import Derived.Laws.CopyOwn
import Derived.Lib.Strings
import Derived.Lib.Slices
import Derived.Lib.Small
import Derived.Lib.Walk
import Derived.Lib.BitFns
set_option linter.unusedVariables false
set_option linter.unusedSimpArgs false
/-
  Plain facts on numbers written in limbs of 32 bits: no program in sight.
-/
namespace Go.Proofs.YtnlnibngpeempaaGreatDoor
def nd (xs:List Nat) (i:Nat):Nat:=xs.getD i 0
def sm (f:Nat → Nat):Nat → Nat
  | 0 => 0
  | k + 1 => sm f k + f k * 4294967296 ^ k
def val (xs:List Nat):Nat:=sm (nd xs) xs.length
def tl (xs:List Nat):Nat → Nat
  | 0 => 0
  | k + 1 => if nd xs k = 0 then tl xs k else k + 1
def ll (n:Nat):Nat:=if n = 0 then 0 else n.log2 / 32 + 1
def lim (n:Nat):List Nat:=(List.range (ll n)).map fun i => n / 4294967296 ^ i % 4294967296
theorem nd_lt_len {xs:List Nat} {i:Nat} (h:xs.length ≤ i):nd xs i = 0:=by
  unfold nd; rw [List.getD_eq_getElem?_getD,List.getElem?_eq_none h]; rfl
theorem nd_get {xs:List Nat} {i:Nat} (h:i < xs.length):nd xs i = xs[i]:=by
  unfold nd; rw [List.getD_eq_getElem?_getD,List.getElem?_eq_getElem h]; rfl
theorem nd_set (xs:List Nat) (i v j:Nat) (h:i < xs.length):nd (xs.set i v) j = if j = i then v else nd xs j:=by
  unfold nd
  rw [List.getD_eq_getElem?_getD,List.getD_eq_getElem?_getD,List.getElem?_set]
  by_cases e:i = j
  · subst e; simp [h]
  rw [if_neg e,if_neg (fun h => e h.symm)]
theorem nd_append (xs ys:List Nat) (i:Nat):nd (xs ++ ys) i = if i < xs.length then nd xs i else nd ys (i - xs.length):=by
  unfold nd
  rw [List.getD_eq_getElem?_getD,List.getD_eq_getElem?_getD,List.getD_eq_getElem?_getD,List.getElem?_append]
  split <;> rfl
theorem nd_take (xs:List Nat) (k i:Nat):nd (xs.take k) i = if i < k then nd xs i else 0:=by
  unfold nd
  rw [List.getD_eq_getElem?_getD,List.getD_eq_getElem?_getD,List.getElem?_take]
  split <;> rfl
theorem nd_drop (xs:List Nat) (k i:Nat):nd (xs.drop k) i = nd xs (k + i):=by
  unfold nd
  rw [List.getD_eq_getElem?_getD,List.getD_eq_getElem?_getD,List.getElem?_drop]
theorem nd_replicate (n i:Nat):nd (List.replicate n 0) i = 0:=by
  unfold nd
  rw [List.getD_eq_getElem?_getD,List.getElem?_replicate]
  split <;> rfl
theorem nd_ext {xs ys:List Nat} (hl:xs.length = ys.length) (h:∀ i,i < xs.length → nd xs i = nd ys i):xs = ys:=by
  apply List.ext_getElem hl
  intro i h1 h2
  have:=h i h1
  rwa [nd_get h1,nd_get h2] at this
theorem sm_congr {f g:Nat → Nat}:∀ {k:Nat},(∀ i,i < k → f i = g i) → sm f k = sm g k
 | 0,_ => rfl
 | k + 1,h => by
  unfold sm
  rw [sm_congr (k:=k) (fun i hi => h i (by omega)),h k (by omega)]
theorem sm_lt {f:Nat → Nat}:∀ {k:Nat},(∀ i,i < k → f i < 4294967296) → sm f k < 4294967296 ^ k
 | 0,_ => by simp [sm]
 | k + 1,h => by
  have h1:=sm_lt (f:=f) (k:=k) (fun i hi => h i (by omega))
  have h2:=h k (by omega)
  unfold sm
  rw [Nat.pow_succ]
  have h3:f k * 4294967296 ^ k ≤ 4294967295 * 4294967296 ^ k:=Nat.mul_le_mul_right _ (by omega)
  omega
theorem sm_zero {f:Nat → Nat}:∀ {k:Nat},(∀ i,i < k → f i = 0) → sm f k = 0
  | 0,_ => rfl
  | k + 1,h => by unfold sm; rw [sm_zero (k:=k) (fun i hi => h i (by omega)),h k (by omega)]; simp
theorem sm_more {f:Nat → Nat} {k:Nat}:∀ (m:Nat),(∀ i,k ≤ i → i < k + m → f i = 0) → sm f (k + m) = sm f k
 | 0,_ => rfl
 | m + 1,h => by
  rw [← Nat.add_assoc]
  show sm f (k + m) + f (k + m) * _ = _
  rw [sm_more m (fun i h1 h2 => h i h1 (by omega)),h (k + m) (by omega) (by omega)]; simp
theorem sm_add (f:Nat → Nat) (k:Nat):∀ m,sm f (k + m) = sm f k + 4294967296 ^ k * sm (fun i => f (k + i)) m
 | 0 => by simp [sm]
 | m + 1 => by
  rw [← Nat.add_assoc]
  show sm f (k + m) + f (k + m) * _ = _
  rw [sm_add f k m]
  show _ = sm f k + 4294967296 ^ k * (sm (fun i => f (k + i)) m + f (k + m) * 4294967296 ^ m)
  rw [Nat.pow_add,Nat.mul_add]
  have:f (k + m) * (4294967296 ^ k * 4294967296 ^ m) = 4294967296 ^ k * (f (k + m) * 4294967296 ^ m):=by
   rw [Nat.mul_left_comm]
  omega
theorem val_le {xs:List Nat} {k:Nat} (h:xs.length ≤ k):sm (nd xs) k = val xs:=by
  obtain ⟨m,rfl⟩:=Nat.exists_eq_add_of_le h
  exact sm_more m (fun i h1 _ => nd_lt_len h1)
theorem pos_pow (k:Nat):0 < 4294967296 ^ k:=Nat.pow_pos (by omega)
theorem sm_digit {f:Nat → Nat} {k i:Nat} (h:∀ j,j < k → f j < 4294967296) (hi:i < k):sm f k / 4294967296 ^ i % 4294967296 = f i:=by
  obtain ⟨m,rfl⟩:=Nat.exists_eq_add_of_le (show i + 1 ≤ k from hi)
  rw [sm_add f (i + 1) m]
  show (sm f i + f i * 4294967296 ^ i + 4294967296 ^ (i + 1) * _) / _ % _ = _
  have h1:=sm_lt (f:=f) (k:=i) (fun j hj => h j (by omega))
  have h2:=h i (by omega)
  rw [Nat.pow_succ,Nat.mul_assoc,Nat.mul_comm (f i),Nat.add_assoc, ← Nat.mul_add,Nat.add_mul_div_left _ _ (pos_pow i),Nat.div_eq_of_lt h1,Nat.zero_add,Nat.add_mul_mod_self_left,Nat.mod_eq_of_lt h2]
theorem tl_le (xs:List Nat):∀ k,tl xs k ≤ k
  | 0 => Nat.le_refl _
  | k + 1 => by unfold tl; split; exact Nat.le_succ_of_le (tl_le xs k); exact Nat.le_refl _
theorem tl_zero (xs:List Nat):∀ k i,tl xs k ≤ i → i < k → nd xs i = 0
 | 0,_,_,h => by omega
 | k + 1,i,h1,h2 => by
  unfold tl at h1
  split at h1
  ·by_cases e:i = k
   ·subst e; assumption
   exact tl_zero xs k i h1 (by omega)
  omega
theorem tl_top (xs:List Nat):∀ k,0 < tl xs k → nd xs (tl xs k - 1) ≠ 0
 | 0,h => by simp [tl] at h
 | k + 1,h => by
  unfold tl at h ⊢
  split
  ·rename_i e; rw [if_pos e] at h; exact tl_top xs k h
  simpa using ‹¬ _›
theorem sm_tl (xs:List Nat) (k:Nat):sm (nd xs) (tl xs k) = sm (nd xs) k:=by
  have h1:=tl_le xs k
  obtain ⟨m,hm⟩:=Nat.exists_eq_add_of_le h1
  have h2:sm (nd xs) (tl xs k + m) = sm (nd xs) (tl xs k):=sm_more m (fun i a b => tl_zero xs k i a (by omega))
  rw [← hm] at h2
  exact h2.symm
theorem pow_le {a b:Nat} (h:a ≤ b):4294967296 ^ a ≤ 4294967296 ^ b:=Nat.pow_le_pow_right (by omega) h
theorem pow_two (k:Nat):4294967296 ^ k = 2 ^ (32 * k):=by
  rw [show (4294967296:Nat) = 2 ^ 32 from rfl, ← Nat.pow_mul]
theorem lt_ll (n:Nat):n < 4294967296 ^ ll n:=by
 unfold ll
 split
 ·omega
 rename_i h
 rw [pow_two]
 exact Nat.lt_of_lt_of_le (Nat.lt_log2_self (n:=n)) (Nat.pow_le_pow_right (by omega) (by omega))
theorem ll_le {n k:Nat} (h:n < 4294967296 ^ k):ll n ≤ k:=by
 unfold ll
 split
 ·omega
 rename_i h0
 rw [pow_two] at h
 have:=(Nat.log2_lt h0).2 h
 omega
theorem le_ll {n k:Nat} (h:4294967296 ^ k ≤ n):k < ll n:=by
 have h1:=lt_ll n
 by_cases h2:k < ll n
 ·exact h2
 have:=pow_le (show ll n ≤ k by omega)
 omega
theorem ll_pos {n:Nat} (h:n ≠ 0):0 < ll n:=by unfold ll; rw [if_neg h]; omega
theorem ll_mono {m n:Nat} (h:m ≤ n):ll m ≤ ll n:=ll_le (Nat.lt_of_le_of_lt h (lt_ll n))
theorem ll_eq {n k:Nat} (h1:n < 4294967296 ^ (k + 1)) (h2:4294967296 ^ k ≤ n):ll n = k + 1:=by
  have:=ll_le h1
  have:=le_ll h2
  omega
theorem length_lim (n:Nat):(lim n).length = ll n:=by simp [lim]
theorem nd_lim (n i:Nat):nd (lim n) i = n / 4294967296 ^ i % 4294967296:=by
 by_cases h:i < ll n
 ·unfold nd lim
  simp [h]
 rw [nd_lt_len (by rw [length_lim]; omega)]
 have h1:=lt_ll n
 have h2:=pow_le (show ll n ≤ i by omega)
 rw [Nat.div_eq_of_lt (by omega)]
theorem lim_lt (n i:Nat):nd (lim n) i < 4294967296:=by rw [nd_lim]; exact Nat.mod_lt _ (by omega)
theorem sm_lim (n:Nat):∀ k,sm (nd (lim n)) k = n % 4294967296 ^ k
 | 0 => by simp [sm,Nat.mod_one]
 | k + 1 => by
  show sm _ k + nd (lim n) k * _ = _
  rw [sm_lim n k,nd_lim,Nat.pow_succ,Nat.mod_mul,Nat.mul_comm (n / _ % _)]
theorem vLm (n:Nat):val (lim n) = n:=by
  unfold val
  rw [sm_lim,length_lim,Nat.mod_eq_of_lt (lt_ll n)]
def Lims (xs:List Nat):Prop := ∀ i,i < xs.length → nd xs i < 4294967296
theorem Lims.all {xs:List Nat} (h:Lims xs) (i:Nat):nd xs i < 4294967296:=by
  by_cases hi:i < xs.length
  · exact h i hi
  rw [nd_lt_len (by omega)]; omega
theorem lims_lim (n:Nat):Lims (lim n):=fun i _ => lim_lt n i
theorem val_lt {xs:List Nat} (h:Lims xs):val xs < 4294967296 ^ xs.length:=sm_lt h
theorem tl_ll {xs:List Nat} (h:Lims xs):tl xs xs.length = ll (val xs):=by
 have h1:=tl_le xs xs.length
 have h2:=sm_tl xs xs.length
 have h3:sm (nd xs) (tl xs xs.length) < 4294967296 ^ (tl xs xs.length):=sm_lt (fun i _ => h.all i)
 have h4:=ll_le h3
 rw [h2] at h4
 by_cases h0:tl xs xs.length = 0
 ·have:ll (val xs) ≤ 0:=by rw [← h0]; exact h4
  omega
 have h5:=tl_top xs xs.length (by omega)
 obtain ⟨t,ht⟩:∃ t,tl xs xs.length = t + 1:=⟨tl xs xs.length - 1,by omega⟩
 rw [ht] at h2 h4 h5 ⊢
 have h6:4294967296 ^ t ≤ sm (nd xs) (t + 1):=by
  show _ ≤ sm _ t + nd xs t * _
  have:1 * 4294967296 ^ t ≤ nd xs t * 4294967296 ^ t:=Nat.mul_le_mul_right _ (by simp at h5; omega)
  omega
 rw [h2] at h6
 have h7:=le_ll h6
 show t + 1 = ll (val xs)
 have:ll (val xs) ≤ t + 1:=h4
 have:t < ll (val xs):=h7
 omega
theorem nrm_eq {xs:List Nat} (h:Lims xs):xs.take (tl xs xs.length) = lim (val xs):=by
 have h1:=tl_le xs xs.length
 apply nd_ext
 ·rw [length_lim, ← tl_ll h]; simp; omega
 intro i hi
 have hi':i < tl xs xs.length:=by simp at hi; omega
 rw [nd_take,if_pos hi',nd_lim]
 exact (sm_digit (f:=nd xs) (k:=xs.length) h (by omega)).symm
theorem val_eq_zero {xs:List Nat} (h:val xs = 0) (hl:Lims xs):tl xs xs.length = 0:=by rw [tl_ll hl,h]; rfl
theorem val_nil:val [] = 0:=rfl
theorem val_append (xs ys:List Nat):val (xs ++ ys) = val xs + 4294967296 ^ xs.length * val ys:=by
 unfold val
 rw [List.length_append,sm_add]
 congr 1
 ·exact sm_congr (fun i hi => by rw [nd_append,if_pos hi])
 congr 1
 exact sm_congr (fun i hi => by rw [nd_append,if_neg (by omega),Nat.add_sub_cancel_left])
theorem val_single (x:Nat):val [x] = x:=by simp [val,sm,nd]
theorem val_take (xs:List Nat) (k:Nat) (h:k ≤ xs.length):val (xs.take k) = sm (nd xs) k:=by
  unfold val
  have:(xs.take k).length = k:=by simp; omega
  rw [this]
  exact sm_congr (fun i hi => by rw [nd_take,if_pos hi])
theorem val_drop (xs:List Nat) (k:Nat) (hl:Lims xs) (h:k ≤ xs.length):val (xs.drop k) = val xs / 4294967296 ^ k:=by
 have h1:val xs = sm (nd xs) k + 4294967296 ^ k * val (xs.drop k):=by
  unfold val
  obtain ⟨m,hm⟩:=Nat.exists_eq_add_of_le h
  rw [show xs.length = k + m from hm,sm_add]
  congr 2
  rw [show (xs.drop k).length = m by simp; omega]
  exact sm_congr (fun i _ => by rw [nd_drop])
 rw [h1,Nat.add_mul_div_left _ _ (pos_pow k),Nat.div_eq_of_lt (sm_lt fun i _ => hl.all i),Nat.zero_add]
theorem Lims.take {xs:List Nat} (h:Lims xs) (k:Nat):Lims (xs.take k):=by
  intro i _; rw [nd_take]; split
  · exact h.all i
  omega
theorem Lims.drop {xs:List Nat} (h:Lims xs) (k:Nat):Lims (xs.drop k):=by
  intro i _; rw [nd_drop]; exact h.all _
theorem Lims.append {xs ys:List Nat} (h:Lims xs) (k:Lims ys):Lims (xs ++ ys):=by
  intro i _; rw [nd_append]; split
  · exact h.all i
  exact k.all _
theorem Lims.set {xs:List Nat} (h:Lims xs) (i:Nat) {v:Nat} (hv:v < 4294967296):Lims (xs.set i v):=by
 intro j hj
 have hj':j < xs.length:=by simpa using hj
 by_cases e:i < xs.length
 ·rw [nd_set _ _ _ _ e]; split
  ·exact hv
  exact h.all j
 rw [List.set_eq_of_length_le (by omega)]; exact h.all j
theorem lims_nil:Lims []:=fun i h => by simp at h
theorem lims_single {x:Nat} (h:x < 4294967296):Lims [x]:=by
  intro i hi
  have:i = 0:=by simp at hi; omega
  subst this; exact h
theorem lims_zeros (n:Nat):Lims (List.replicate n 0):=by
  intro i _; rw [nd_replicate]; omega
theorem lim_inj {m n:Nat} (h:lim m = lim n):m = n:=by rw [← vLm m, ← vLm n,h]
def cmpN (a b:Nat):Int:=if a < b then -1 else if a = b then 0 else 1
theorem sm_eq_top {f g:Nat → Nat} {i n:Nat} (h:∀ j,i ≤ j → j < n → f j = g j) (hi:i ≤ n):∃ R,sm f n = sm f i + 4294967296 ^ i * R ∧ sm g n = sm g i + 4294967296 ^ i * R:=by
  obtain ⟨m,rfl⟩:=Nat.exists_eq_add_of_le hi
  refine ⟨sm (fun j => f (i + j)) m,sm_add f i m,?_⟩
  rw [sm_add g i m]
  congr 2
  exact sm_congr fun j hj => (h (i + j) (by omega) (by omega)).symm
theorem sm_lt_of {f g:Nat → Nat} {i n:Nat} (h:∀ j,i < j → j < n → f j = g j) (hi:i < n) (hf:∀ j,f j < 4294967296) (hlt:f i < g i):sm f n < sm g n:=by
 obtain ⟨R,h1,h2⟩:=sm_eq_top (i:=i + 1) (n:=n) (f:=f) (g:=g) (fun j a b => h j (by omega) b) (by omega)
 rw [h1,h2]
 have h3:sm f (i + 1) < sm g (i + 1):=by
  show sm f i + f i * _ < sm g i + g i * _
  have h4:=sm_lt (f:=f) (k:=i) (fun j _ => hf j)
  have h5:(f i + 1) * 4294967296 ^ i ≤ g i * 4294967296 ^ i:=Nat.mul_le_mul_right _ hlt
  rw [Nat.add_mul] at h5
  omega
 omega
theorem lim_lt_of {A C i:Nat} (hl:ll A = ll C) (h:∀ j,i < j → nd (lim A) j = nd (lim C) j) (hi:i < ll A) (hlt:nd (lim A) i < nd (lim C) i):A < C:=by
  have:=sm_lt_of (f:=nd (lim A)) (g:=nd (lim C)) (n:=ll A) (fun j a _ => h j a) hi (fun j => lim_lt A j) hlt
  rw [← vLm A, ← vLm C]
  unfold val
  rw [length_lim,length_lim, ← hl]
  exact this
theorem lim_eq_of {A C:Nat} (hl:ll A = ll C) (h:∀ j,nd (lim A) j = nd (lim C) j):A = C:=by
  apply lim_inj
  apply nd_ext (by rw [length_lim,length_lim,hl])
  intro i _
  exact h i
theorem ll_lt {A C:Nat} (h:ll A < ll C):A < C:=by
 by_cases e:A < C
 ·exact e
 have:=ll_mono (show C ≤ A by omega)
 omega
theorem cmpN_lt {A C:Nat} (h:A < C):cmpN A C = -1:=by unfold cmpN; rw [if_pos h]
theorem cmpN_eq {A C:Nat} (h:A = C):cmpN A C = 0:=by unfold cmpN; rw [if_neg (by omega),if_pos h]
theorem cmpN_gt {A C:Nat} (h:C < A):cmpN A C = 1:=by unfold cmpN; rw [if_neg (by omega),if_neg (by omega)]
theorem lims_pair {a b:Nat} (ha:a < 4294967296) (hb:b < 4294967296):Lims [a,b]:=by
  intro i hi
  match i,hi with
  | 0,_ => exact ha
  | 1,_ => exact hb
  | i + 2,h => simp at h; omega
theorem val_pair (a b:Nat):val [a,b] = a + b * 4294967296:=by simp [val,sm,nd]
theorem mul_step {zs:List Nat} {L i k x y c Z Y:Nat} (hk:i + k < L) (hl:zs.length = L) (h:sm (nd zs) (i + k) + c * 4294967296 ^ (i + k) = Z + x * Y * 4294967296 ^ i) :
  sm (nd (zs.set (i + k) ((x * y + nd zs (i + k) + c) % 4294967296))) (i + k + 1) + (x * y + nd zs (i + k) + c) / 4294967296 * 4294967296 ^ (i + k + 1) =
   (Z + nd zs (i + k) * 4294967296 ^ (i + k)) + x * (Y + y * 4294967296 ^ k) * 4294967296 ^ i:=by
 generalize ht:x * y + nd zs (i + k) + c = t
 have h1:sm (nd (zs.set (i + k) (t % 4294967296))) (i + k) = sm (nd zs) (i + k) :=
  sm_congr fun j hj => by rw [nd_set _ _ _ _ (by omega),if_neg (by omega)]
 show sm _ (i + k) + nd _ (i + k) * _ + _ = _
 rw [h1,nd_set _ _ _ _ (by omega),if_pos rfl,Nat.pow_succ]
 have h2:=Nat.mod_add_div t 4294967296
 generalize hP:(4294967296:Nat) ^ (i + k) = P at *
 have h3:(t % 4294967296 + 4294967296 * (t / 4294967296)) * P = t * P:=by rw [h2]
 have h4:t / 4294967296 * (P * 4294967296) = 4294967296 * (t / 4294967296) * P:=by rw [Nat.mul_comm P, ← Nat.mul_assoc,Nat.mul_comm (t / 4294967296)]
 have h5:x * (Y + y * 4294967296 ^ k) * 4294967296 ^ i = x * Y * 4294967296 ^ i + x * y * P:=by
  rw [Nat.mul_add,Nat.add_mul, ← hP,Nat.add_comm i k,Nat.pow_add]
  congr 1
  rw [← Nat.mul_assoc x y,Nat.mul_assoc (x * y)]
 have h6:t * P = x * y * P + nd zs (i + k) * P + c * P:=by rw [← ht,Nat.add_mul,Nat.add_mul]
 rw [Nat.add_mul] at h3
 rw [h5]
 omega
theorem mul_last {zs:List Nat} {L i m x c X Y:Nat} (hk:i + m < L) (hl:zs.length = L) (h:sm (nd zs) (i + m) + c * 4294967296 ^ (i + m) = X * Y + x * Y * 4294967296 ^ i) :
  sm (nd (zs.set (i + m) c)) (i + m + 1) = (X + x * 4294967296 ^ i) * Y:=by
 have h1:sm (nd (zs.set (i + m) c)) (i + m) = sm (nd zs) (i + m) :=
  sm_congr fun j hj => by rw [nd_set _ _ _ _ (by omega),if_neg (by omega)]
 show sm _ (i + m) + nd _ (i + m) * _ = _
 rw [h1,nd_set _ _ _ _ (by omega),if_pos rfl,Nat.add_mul,h]
 congr 1
 rw [Nat.mul_assoc,Nat.mul_assoc,Nat.mul_comm Y]
theorem mul_bd {x y:Nat} (hx:x < 4294967296) (hy:y < 4294967296):x * y ≤ 18446744065119617025:=by
  have h1:x * y ≤ 4294967295 * 4294967295:=Nat.mul_le_mul (by omega) (by omega)
  omega
theorem add_step {ys:List Nat} {k L x y s A C:Nat} (hk:k < L) (hl:ys.length = L) (h:sm (nd ys) k + s * 4294967296 ^ k = A + C) :
  sm (nd (ys.set k ((x + y + s) % 4294967296))) (k + 1) + (x + y + s) / 4294967296 * 4294967296 ^ (k + 1) = (A + x * 4294967296 ^ k) + (C + y * 4294967296 ^ k):=by
 have h1:sm (nd (ys.set k ((x + y + s) % 4294967296))) k = sm (nd ys) k :=
  sm_congr fun i hi => by rw [nd_set _ _ _ _ (by omega),if_neg (by omega)]
 show sm _ k + nd _ k * _ + _ = _
 rw [h1,nd_set _ _ _ _ (by omega),if_pos rfl,Nat.pow_succ]
 have h2:=Nat.mod_add_div (x + y + s) 4294967296
 generalize hP:(4294967296:Nat) ^ k = P at *
 have h3:((x + y + s) % 4294967296 + 4294967296 * ((x + y + s) / 4294967296)) * P = (x + y + s) * P:=by rw [h2]
 generalize (x + y + s) % 4294967296 = r at *
 generalize (x + y + s) / 4294967296 = q at *
 have h4:q * (P * 4294967296) = 4294967296 * q * P:=by rw [Nat.mul_comm P, ← Nat.mul_assoc,Nat.mul_comm q]
 rw [Nat.add_mul] at h3
 rw [Nat.add_mul,Nat.add_mul] at h3
 omega
theorem sub_step {ys:List Nat} {k L x y s d b A C:Nat} (hk:k < L) (hl:ys.length = L) (h:sm (nd ys) k + C = A + s * 4294967296 ^ k) (hd:d + y + s = x + 4294967296 * b) :
  sm (nd (ys.set k d)) (k + 1) + (C + y * 4294967296 ^ k) = (A + x * 4294967296 ^ k) + b * 4294967296 ^ (k + 1):=by
 have h1:sm (nd (ys.set k d)) k = sm (nd ys) k :=
  sm_congr fun i hi => by rw [nd_set _ _ _ _ (by omega),if_neg (by omega)]
 show sm _ k + nd _ k * _ + _ = _
 rw [h1,nd_set _ _ _ _ (by omega),if_pos rfl,Nat.pow_succ]
 generalize hP:(4294967296:Nat) ^ k = P at *
 have h3:(d + y + s) * P = (x + 4294967296 * b) * P:=by rw [hd]
 have h4:b * (P * 4294967296) = 4294967296 * b * P:=by rw [Nat.mul_comm P, ← Nat.mul_assoc,Nat.mul_comm b]
 rw [Nat.add_mul,Nat.add_mul,Nat.add_mul] at h3
 omega
theorem less_val {zs:List Nat} {A C s:Nat} (hl:Lims zs) (h:val zs + C = A + s * 4294967296 ^ zs.length) (hs:s ≤ 1) (hC:C ≤ A):val zs = A - C:=by
  have h1:=val_lt hl
  obtain rfl | rfl:s = 0 ∨ s = 1:=by omega
  · omega
  omega
theorem val_lt_of {xs ys:List Nat} (hx:Lims xs) {i:Nat} (h:∀ j,i < j → nd xs j = nd ys j) (hlt:nd xs i < nd ys i):val xs < val ys:=by
  have:=sm_lt_of (f:=nd xs) (g:=nd ys) (n:=xs.length + ys.length + i + 1) (fun j a _ => h j a) (by omega) hx.all hlt
  rwa [val_le (by omega),val_le (by omega)] at this
theorem val_eq_of {xs ys:List Nat} (h:∀ j,nd xs j = nd ys j):val xs = val ys:=by
  rw [← val_le (xs:=xs) (k:=xs.length + ys.length) (by omega), ← val_le (xs:=ys) (k:=xs.length + ys.length) (by omega)]
  exact sm_congr fun i _ => h i
theorem sm_mod {ys:List Nat} (h:Lims ys) (n:Nat):sm (nd ys) n = val ys % 4294967296 ^ n:=by
 by_cases hn:n ≤ ys.length
 ·obtain ⟨m,hm⟩:=Nat.exists_eq_add_of_le hn
  unfold val
  rw [hm,sm_add,Nat.add_mul_mod_self_left,Nat.mod_eq_of_lt (sm_lt fun i _ => h.all i)]
 rw [val_le (by omega),Nat.mod_eq_of_lt]
 have:=val_lt h
 have:=pow_le (show ys.length ≤ n by omega)
 omega
theorem val_cons (x:Nat) (xs:List Nat):val (x :: xs) = x + 4294967296 * val xs:=by
  have:=val_append [x] xs
  rw [val_single] at this
  simpa using this
theorem val_drop_succ {xs:List Nat} {k:Nat} (h:k < xs.length):val (xs.drop k) = nd xs k + 4294967296 * val (xs.drop (k + 1)):=by
  rw [List.drop_eq_getElem_cons h,val_cons,nd_get h]
theorem val_drop_len {xs:List Nat} {k:Nat} (h:xs.length ≤ k):val (xs.drop k) = 0:=by
  rw [List.drop_eq_nil_of_le h]; rfl
theorem drop_set_succ (xs:List Nat) (k v:Nat):(xs.set k v).drop (k + 1) = xs.drop (k + 1):=by
  apply List.ext_getElem?
  intro i
  rw [List.getElem?_drop,List.getElem?_drop,List.getElem?_set,if_neg (by omega)]
theorem val_drop_set {xs:List Nat} {k v:Nat} (h:k < xs.length):val ((xs.set k v).drop k) = v + 4294967296 * val (xs.drop (k + 1)):=by
  rw [val_drop_succ (by rw [List.length_set]; exact h),drop_set_succ,nd_set _ _ _ _ h,if_pos rfl]
theorem or64 {a x:Nat} (ha:a < 4294967296) (hx:x < 4294967296):bits BinOp.or IntKind.u64 ((a:Int) * 4294967296) (x:Int) = ((a * 4294967296 + x:Nat):Int):=by
  have e:(a:Int) * 4294967296 = ((a * 4294967296:Nat):Int):=by omega
  rw [e,u64_or_nat _ _ (by omega) (by omega),nat_join 32 _ _ (by rw [show (2:Nat) ^ 32 = 4294967296 from rfl]; omega) hx]
theorem or64' {a x:Nat} (ha:a < 4294967296) (hx:x < 4294967296):bits BinOp.or IntKind.u64 (x:Int) ((a:Int) * 4294967296) = ((a * 4294967296 + x:Nat):Int):=by
  have e:(a:Int) * 4294967296 = ((a * 4294967296:Nat):Int):=by omega
  rw [e,u64_or_nat _ _ (by omega) (by omega),Nat.or_comm,nat_join 32 _ _ (by rw [show (2:Nat) ^ 32 = 4294967296 from rfl]; omega) hx]
theorem or32_shift {X t cy:Nat} (ht:t < 32) (hc:cy < 2 ^ t):bits BinOp.or IntKind.u32 ((X:Int) * 2 ^ t % 4294967296) (cy:Int) = ((X * 2 ^ t % 4294967296 + cy:Nat):Int):=by
 have h32:(4294967296:Nat) = 2 ^ t * 2 ^ (32 - t):=by rw [← Nat.pow_add,show t + (32 - t) = 32 by omega]
 have e:(X:Int) * 2 ^ t % 4294967296 = ((X * 2 ^ t % 4294967296:Nat):Int):=by
  rw [Int.natCast_emod,Int.natCast_mul,Int.natCast_pow]; rfl
 have hm:X * 2 ^ t % 4294967296 < 4294967296:=Nat.mod_lt _ (by omega)
 have hp:2 ^ t < 4294967296:=by rw [show (4294967296:Nat) = 2 ^ 32 from rfl]; exact Nat.pow_lt_pow_right (by omega) ht
 have hz:X * 2 ^ t % 4294967296 % 2 ^ t = 0:=by
  rw [h32,Nat.mod_mul_right_mod,Nat.mul_mod_left]
 rw [e,u32_or_nat _ _ hm (by omega),nat_join t _ _ hz hc]
theorem shift_lt {X t cy:Nat} (ht:t < 32) (hc:cy < 2 ^ t):X * 2 ^ t % 4294967296 + cy < 4294967296:=by
 have h32:(4294967296:Nat) = 2 ^ t * 2 ^ (32 - t):=by rw [← Nat.pow_add,show t + (32 - t) = 32 by omega]
 have hm:X * 2 ^ t % 4294967296 < 4294967296:=Nat.mod_lt _ (by omega)
 have hz:X * 2 ^ t % 4294967296 % 2 ^ t = 0:=by
  rw [h32,Nat.mod_mul_right_mod,Nat.mul_mod_left]
 generalize X * 2 ^ t % 4294967296 = r at *
 obtain ⟨q,hq⟩:∃ q,r = 2 ^ t * q:=⟨r / 2 ^ t,by have:=Nat.mod_add_div r (2 ^ t); omega⟩
 have hq2:q < 2 ^ (32 - t):=by
  rw [h32,hq] at hm
  exact Nat.lt_of_mul_lt_mul_left hm
 have h3:2 ^ t * (q + 1) ≤ 2 ^ t * 2 ^ (32 - t):=Nat.mul_le_mul_left _ hq2
 rw [← h32,Nat.mul_add, ← hq] at h3
 omega
theorem carry_lt {X t:Nat} (hX:X < 4294967296):X * 2 ^ t / 4294967296 < 2 ^ t:=by
  have hp:0 < 2 ^ t:=Nat.two_pow_pos t
  rw [Nat.div_lt_iff_lt_mul (by omega)]
  rw [Nat.mul_comm]
  exact Nat.mul_lt_mul_of_pos_left hX hp
theorem left_step {zs:List Nat} {X t cy q k S:Nat} (hl:zs.length = q + k) (h:val zs + cy * 4294967296 ^ (q + k) = 4294967296 ^ q * 2 ^ t * S) :
  val (zs ++ [X * 2 ^ t % 4294967296 + cy]) + X * 2 ^ t / 4294967296 * 4294967296 ^ (q + (k + 1)) = 4294967296 ^ q * 2 ^ t * (S + X * 4294967296 ^ k):=by
 rw [val_append,val_single,hl, ← Nat.add_assoc,Nat.pow_succ]
 have h2:=Nat.mod_add_div (X * 2 ^ t) 4294967296
 generalize X * 2 ^ t / 4294967296 = Q at *
 generalize X * 2 ^ t % 4294967296 = R at *
 have e1:4294967296 ^ q * 2 ^ t * (S + X * 4294967296 ^ k) = 4294967296 ^ q * 2 ^ t * S + 4294967296 ^ (q + k) * (X * 2 ^ t):=by
  rw [Nat.mul_add,Nat.pow_add]
  congr 1
  rw [Nat.mul_assoc,Nat.mul_assoc]
  congr 1
  rw [Nat.mul_left_comm,Nat.mul_comm,Nat.mul_assoc,Nat.mul_comm (2 ^ t),Nat.mul_comm X,Nat.mul_assoc,Nat.mul_comm (2 ^ t)]
 rw [e1, ← h, ← h2]
 generalize 4294967296 ^ (q + k) = P
 rw [Nat.mul_add,Nat.mul_add,Nat.mul_comm cy]
 have e2:Q * (P * 4294967296) = P * (4294967296 * Q):=by rw [Nat.mul_comm Q,Nat.mul_assoc]
 rw [e2]
 omega
theorem pow_split (s:Nat):4294967296 ^ (s / 32) * 2 ^ (s % 32) = 2 ^ s:=by
  rw [pow_two, ← Nat.pow_add,Nat.div_add_mod]
open Go.RowKit
structure Sl (w:World) (p:Option Addr) (n c:Nat) (xs:List Nat):Prop where
  len:xs.length = n
  le:n ≤ c
  cap:c ≤ maxLen
  lims:Lims xs
  isnil:p = none → c = 0
  cell:∀ i,i < n → ∃ b off,p = some ⟨b,off,none⟩ ∧ w.cell? ⟨b,off + i,none⟩ = some (.int .u32 ((nd xs i:Nat):Int))
theorem Sl.drop {w:World} {b off n c:Nat} {xs:List Nat} (h:Sl w (some ⟨b,off,none⟩) n c xs) {q:Nat} (hq:q ≤ n):Sl w (some ⟨b,off + q,none⟩) (n - q) (c - q) (xs.drop q):=by
  refine ⟨by simp [h.len],by have:=h.le; omega,by have:=h.cap; omega,h.lims.drop q,(fun h => by cases h),fun i hi => ?_⟩
  obtain ⟨b',off',hp,hc⟩:=h.cell (q + i) (by omega)
  simp only [Option.some.injEq,Addr.mk.injEq,and_true] at hp
  obtain ⟨rfl,rfl⟩:=hp
  refine ⟨b,off + q,rfl,?_⟩
  rw [nd_drop,Nat.add_assoc]
  exact hc
structure Fr (B:Nat) (w:World) (p:Option Addr) (n c:Nat) (xs:List Nat):Prop where
  len:xs.length = n
  lims:Lims xs
  own:w.ownsRow B 63 1 (.slice p n c) n (xs.map fun x:Nat => Value.int .u32 (x:Int))
theorem info_u32:(Tryz.prog.info? 63).map (fun i => (i.zero,i.size,i.bytes)) = some (some (.int .u32 0),1,4):=by kernel_rfl
theorem Sl.below {w w':World} {p:Option Addr} {n c:Nat} {xs:List Nat} (h:Sl w p n c xs) {B:Nat} (hb:Below B w w') (hB:w.heap.size ≤ B):Sl w' p n c xs:=by
  refine ⟨h.len,h.le,h.cap,h.lims,h.isnil,fun i hi => ?_⟩
  obtain ⟨b,off,hp,hc⟩:=h.cell i hi
  refine ⟨b,off,hp,?_⟩
  have hlt:=World.block_lt_of_cell? w _ hc
  exact (hb.cell (p:=⟨b,off + i,none⟩) (Nat.lt_of_lt_of_le hlt hB)).trans hc
theorem Sl.back {w w':World} {p:Option Addr} {n c m d:Nat} {xs ys:List Nat} (h:Sl w' p m d ys) (h0:Sl w p n c xs) (hb:Below w.heap.size w w') (hm:m ≤ n):Sl w p m d ys:=by
  refine ⟨h.len,h.le,h.cap,h.lims,h.isnil,fun i hi => ?_⟩
  obtain ⟨b,off,hp,hc⟩:=h.cell i hi
  obtain ⟨b',off',hp',hc'⟩:=h0.cell i (by omega)
  rw [hp] at hp'
  simp only [Option.some.injEq,Addr.mk.injEq,and_true] at hp'
  obtain ⟨rfl,rfl⟩:=hp'
  refine ⟨b,off,hp,?_⟩
  have hlt:=World.block_lt_of_cell? w _ hc'
  rw [← hb.cell (p:=⟨b,off + i,none⟩) hlt]
  exact hc
theorem Sl.lim1 {w:World} {p:Option Addr} {n c:Nat} {xs:List Nat} (h:Sl w p n c xs) (i:Nat):nd xs i < 4294967296:=h.lims.all i
theorem Sl.nil (w:World):Sl w none 0 0 []:=⟨rfl,Nat.le_refl _,by simp [maxLen],lims_nil,fun _ => rfl,fun i hi => by omega⟩
theorem Sl.take {w:World} {p:Option Addr} {n c:Nat} {xs:List Nat} (h:Sl w p n c xs) {k:Nat} (hk:k ≤ n):Sl w p k c (xs.take k):=by
  refine ⟨by simp [h.len]; omega,by have:=h.le; omega,h.cap,h.lims.take k,h.isnil,fun i hi => ?_⟩
  rw [nd_take,if_pos hi]
  exact h.cell i (by omega)
theorem Fr.nil (B:Nat) (w:World):Fr B w none 0 0 []:=⟨rfl,lims_nil,World.ownsRow_nil _ _ _ _⟩
theorem Fr.sl {B:Nat} {w:World} {p:Option Addr} {n c:Nat} {xs:List Nat} (h:Fr B w p n c xs):Sl w p n c xs:=by
 rcases h.own.2 with ⟨h1,h2⟩ | ⟨g,cap,cur,h1,hb,hg,hnc,hcm,hcs,ht⟩
 ·simp only [Value.slice.injEq] at h1
  obtain ⟨rfl,rfl,rfl⟩:=h1
  exact ⟨h.len,Nat.le_refl _,by simp [maxLen],h.lims,fun _ => rfl,fun i hi => by omega⟩
 simp only [Value.slice.injEq,true_and] at h1
 obtain ⟨rfl,rfl⟩:=h1
 refine ⟨h.len,hnc,hcm,h.lims,(fun h => by cases h),fun i hi => ⟨g,0,rfl,?_⟩⟩
 have:=h.own.cellAt i (by omega)
 rw [Nat.zero_add,this,nd_get (by rw [h.len]; exact hi)]
 simp [h.len,hi]
theorem Fr.mono {B B':Nat} {w:World} {p:Option Addr} {n c:Nat} {xs:List Nat} (h:Fr B w p n c xs) (hB:B' ≤ B):Fr B' w p n c xs:=by
  refine ⟨h.len,h.lims,h.own.1,?_⟩
  rcases h.own.2 with h1 | ⟨g,cap,cur,h1,hb,r⟩
  · exact .inl h1
  exact .inr ⟨g,cap,cur,h1,Nat.le_trans hB hb,r⟩
theorem Fr.below {B:Nat} {w w':World} {p:Option Addr} {n c:Nat} {xs:List Nat} (h:Fr B w p n c xs) {B':Nat} (hb:Below B' w w') (hB:w.heap.size ≤ B'):Fr B w' p n c xs:=by
 refine ⟨h.len,h.lims,h.own.1,?_⟩
 rcases h.own.2 with h1 | ⟨g,cap,cur,h1,hbg,hg,r⟩
 ·exact .inl h1
 refine .inr ⟨g,cap,cur,h1,hbg,?_,r⟩
 rw [hb.block g (Nat.lt_of_lt_of_le (Array.getElem?_eq_some_iff.1 hg).1 hB)]
 exact hg
theorem Fr.pos {B:Nat} {w:World} {p:Option Addr} {n c:Nat} {xs:List Nat} (h:Fr B w p n c xs) (h0:0 < n):∃ g,p = some ⟨g,0,none⟩ ∧ B ≤ g ∧ g < w.heap.size:=by
 rcases h.own.2 with ⟨h1,h2⟩ | ⟨g,cap,cur,h1,hbg,hg,r⟩
 ·omega
 simp only [Value.slice.injEq,true_and] at h1
 exact ⟨g,h1.1,hbg,(Array.getElem?_eq_some_iff.1 hg).1⟩
theorem Fr.cellAt {B:Nat} {w:World} {g n c:Nat} {xs:List Nat} (h:Fr B w (some ⟨g,0,none⟩) n c xs) {i:Nat} (hi:i < n):w.cell? ⟨g,i,none⟩ = some (.int .u32 ((nd xs i:Nat):Int)):=by
  obtain ⟨b,off,hp,hc⟩:=h.sl.cell i hi
  simp only [Option.some.injEq,Addr.mk.injEq,and_true] at hp
  obtain ⟨rfl,rfl⟩:=hp
  simpa using hc
theorem Fr.frozenAt {B:Nat} {w:World} {g n c:Nat} {xs:List Nat} (h:Fr B w (some ⟨g,0,none⟩) n c xs) (i:Nat):w.frozen? ⟨g,i,none⟩ = false:=h.own.frozenAt i
theorem Fr.block {B:Nat} {w:World} {g n c:Nat} {xs:List Nat} (h:Fr B w (some ⟨g,0,none⟩) n c xs):B ≤ g ∧ g < w.heap.size:=by
  have:=h.own.lt g rfl
  exact this
theorem Fr.set {B:Nat} {w:World} {g n c:Nat} {xs:List Nat} (h:Fr B w (some ⟨g,0,none⟩) n c xs) (i:Nat) {v:Nat} (hv:v < 4294967296) :
  Fr B (w.setCell ⟨g,i,none⟩ (.int .u32 (v:Int))) (some ⟨g,0,none⟩) n c (xs.set i v):=by
 refine ⟨by rw [List.length_set]; exact h.len,h.lims.set i hv,?_⟩
 have:=(h.own.stored i (.int .u32 (v:Int))).1
 rwa [List.map_set]
theorem Fr.setOther {B:Nat} {w:World} {p:Option Addr} {n c:Nat} {xs:List Nat} (h:Fr B w p n c xs) {a:Addr} (ha:∀ g,p = some ⟨g,0,none⟩ → g ≠ a.block) (v:Value):Fr B (w.setCell a v) p n c xs:=by
 refine ⟨h.len,h.lims,h.own.1,?_⟩
 rcases h.own.2 with h1 | ⟨g,cap,cur,h1,hbg,hg,r⟩
 ·exact .inl h1
 refine .inr ⟨g,cap,cur,h1,hbg,?_,r⟩
 simp only [Value.slice.injEq,true_and] at h1
 rw [Below.heap_setCell _ _ _ _ (ha g h1.1)]
 exact hg
theorem wp_make32 (w:World) {ops:Array Oper} {rest:List Oper} {o:Oper} {a:Act} {Q:Exit → Act → World → Prop}
  (hg:o.guard = none) (l c:Operand) (t:TypeId) (hop:o.op = Op.makeSlice t l c) (h1:Tryz.prog.underlying t = some (.slice 63))
  (kl kc:IntKind) (L C:Int) (n:Nat) (hl:a.eval l = .int kl L) (hc:a.eval c = .int kc C) (hL:L = (n:Int)) (hC:C = (n:Int)) (b2:n ≤ 35184372088832)
  (B:Nat) (w0:World) (hb:Below B w0 w) (hB:B ≤ w.heap.size)
  (hK:∀ w',Fr B w' (some ⟨w.heap.size,0,none⟩) n n (List.replicate n 0) → Below w.heap.size w w' → Below B w0 w' → w'.heap.size = w.heap.size + 1 → wpList Tryz.prog ops Q rest (a.put o.dst (.slice (some ⟨w.heap.size,0,none⟩) n n)) w') :
  wpList Tryz.prog ops Q (o :: rest) a w:=by
 obtain ⟨i,hi,hz0,hz1,hz2⟩:=info_parts info_u32
 refine wpList_plain hg fun K hK' => ?_
 have hr:=run_make (P:=Tryz.prog) w t 63 i (.int .u32 0) h1 hi hz0 kl kc n n (by omega) (Int.le_refl _) (by rw [hz2]; omega) (by omega)
 subst hL
 subst hC
 unfold Oper.wp
 simp [execOp,hop,hl,hc,hr,Result.andThen]
 have hm:maxLen = 9223372036854775807:=rfl
 refine hK' _ _ (hK _ ⟨by simp,lims_zeros n,?_⟩ ((Below.refl _ _).alloc (Nat.le_refl _) _) (hb.alloc hB _) (by simp))
 have:=World.ownsRow_lit (base:=B) (e:=63) (size:=1) w (madeCells #[.int .u32 0] (n * 1)) n hB (by omega) (size_madeCells _ _)
 rw [toList_madeCells_one] at this
 have e:(List.replicate n 0).map (fun x:Nat => Value.int .u32 (x:Int)) = List.replicate (n * 1) (.int .u32 0):=by simp
 rw [e,hz1]
 simpa [Value.cells] using this
theorem wp_make32c (w:World) {ops:Array Oper} {rest:List Oper} {o:Oper} {a:Act} {Q:Exit → Act → World → Prop}
  (hg:o.guard = none) (l c:Operand) (t:TypeId) (hop:o.op = Op.makeSlice t l c) (h1:Tryz.prog.underlying t = some (.slice 63))
  (kl kc:IntKind) (L C:Int) (n m:Nat) (hl:a.eval l = .int kl L) (hc:a.eval c = .int kc C) (hL:L = (n:Int)) (hC:C = (m:Int)) (hnm:n ≤ m) (b2:m ≤ 35184372088832)
  (B:Nat) (w0:World) (hb:Below B w0 w) (hB:B ≤ w.heap.size)
  (hK:∀ w',Fr B w' (some ⟨w.heap.size,0,none⟩) n m (List.replicate n 0) → Below w.heap.size w w' → Below B w0 w' → w'.heap.size = w.heap.size + 1 → wpList Tryz.prog ops Q rest (a.put o.dst (.slice (some ⟨w.heap.size,0,none⟩) n m)) w') :
  wpList Tryz.prog ops Q (o :: rest) a w:=by
 obtain ⟨i,hi,hz0,hz1,hz2⟩:=info_parts info_u32
 refine wpList_plain hg fun K hK' => ?_
 have hr:=run_make (P:=Tryz.prog) w t 63 i (.int .u32 0) h1 hi hz0 kl kc n m (by omega) (by omega) (by rw [hz2]; omega) (by omega)
 subst hL
 subst hC
 unfold Oper.wp
 simp [execOp,hop,hl,hc,hr,Result.andThen]
 have hm:maxLen = 9223372036854775807:=rfl
 refine hK' _ _ (hK _ ⟨by simp,lims_zeros n,?_⟩ ((Below.refl _ _).alloc (Nat.le_refl _) _) (hb.alloc hB _) (by simp))
 refine ⟨by simp,.inr ⟨w.heap.size,m,_,rfl,hB,heap_alloc_new w _,hnm,by omega,?_,?_⟩⟩
 ·rw [size_madeCells,hz1]
 have e:(madeCells (Value.int IntKind.u32 0).cells (m * i.size)).toList = List.replicate m (.int .u32 0):=by
  rw [hz1,Nat.mul_one]; exact toList_madeCells_one _ _
 rw [e,List.take_replicate]
 simp [Nat.min_eq_left hnm]
theorem wp_append32 (w:World) {ops:Array Oper} {rest:List Oper} {o:Oper} {a:Act} {Q:Exit → Act → World → Prop} (hgd:o.guard = none) (s x:Operand) (t:TypeId)
  (ho:o.op = .call { callee:=.builtin .append,args:=#[s,x],argTypes:=#[t,t] }) (ht:Tryz.prog.underlying t = some (.slice 63))
  (B:Nat) (p:Option Addr) (n c:Nat) (xs:List Nat) (hs:a.eval s = .slice p n c) (hown:Fr B w p n c xs)
  (ad:Addr) (m c2:Nat) (ys:List Nat) (hx:a.eval x = .slice (some ad) m c2) (hy:Sl w (some ad) m c2 ys) (hb:n + m ≤ 35184372088832)
  {B0:Nat} {w0:World} (hB0:Below B0 w0 w) (hBB:B0 ≤ B) (hB:B ≤ w.heap.size)
  (h:∀ p' c' w',Fr B w' p' (n + m) c' (xs ++ ys) → w.grownBy w' (Value.slice p n c).ownBlock → Below B0 w0 w' → wpList Tryz.prog ops Q rest (a.put o.dst (.slice p' (n + m) c')) w'):wpList Tryz.prog ops Q (o :: rest) a w:=by
 obtain ⟨i,hi,hz0,hz1,hz2⟩:=info_parts info_u32
 have hm:maxLen = 9223372036854775807:=rfl
 refine wpList_append_own w hgd s x t ho B 63 i (.int .u32 0) 1 4 ht hi hz0 hz1 hz2 rfl (by decide) _ n _ hs hown.own ad m c2 (ys.map fun x:Nat => Value.int .u32 (x:Int)) hx (by simp [hy.len]) ?_ ?_ (by omega) (by omega) hB ?_
 ·intro j u hu
  have hj:j < m:=by
   have:=(List.getElem?_eq_some_iff.1 hu).1
   simp [hy.len] at this; omega
  obtain ⟨b',off',hp,hc⟩:=hy.cell j hj
  simp only [Option.some.injEq] at hp
  subst hp
  rw [Addr.add_lit,hc, ← hu,nd_get (by rw [hy.len]; exact hj)]
  simp [hy.len,hj]
 ·intro u hu
  obtain ⟨_,_,rfl⟩:=List.mem_map.1 hu
  rfl
 intro v' w' ho' hg' _
 have hex:∃ p' c',v' = .slice p' (n + m) c':=by
  rcases ho'.2 with ⟨h1,h2⟩ | ⟨g,cap,cur,h1,_⟩
  ·exact ⟨none,0,by rw [h1,h2]⟩
  exact ⟨_,_,h1⟩
 obtain ⟨p',c',rfl⟩:=hex
 refine h p' c' w' ⟨by simp [hown.len,hy.len],hown.lims.append hy.lims,by rw [List.map_append]; exact ho'⟩ hg' (hB0.grown hg' (Nat.le_trans hBB hB) ?_)
 intro k hk
 exact Nat.le_trans hBB (hown.own.lt k hk).1
theorem wp_appendAny (w:World) {ops:Array Oper} {rest:List Oper} {o:Oper} {a:Act} {Q:Exit → Act → World → Prop} (hgd:o.guard = none) (s x:Operand) (t:TypeId)
  (ho:o.op = .call { callee:=.builtin .append,args:=#[s,x],argTypes:=#[t,t] }) (ht:Tryz.prog.underlying t = some (.slice 63))
  (B:Nat) (p:Option Addr) (n c:Nat) (xs:List Nat) (hs:a.eval s = .slice p n c) (hown:Fr B w p n c xs)
  (q:Option Addr) (m c2:Nat) (ys:List Nat) (hx:a.eval x = .slice q m c2) (hy:Sl w q m c2 ys) (hb:n + m ≤ 35184372088832)
  {B0:Nat} {w0:World} (hB0:Below B0 w0 w) (hBB:B0 ≤ B) (hB:B ≤ w.heap.size)
  (h:∀ p' c' w',Fr B w' p' (n + m) c' (xs ++ ys) → w.grownBy w' (Value.slice p n c).ownBlock → Below B0 w0 w' → wpList Tryz.prog ops Q rest (a.put o.dst (.slice p' (n + m) c')) w'):wpList Tryz.prog ops Q (o :: rest) a w:=by
 cases q with
 | some ad => exact wp_append32 w hgd s x t ho ht B p n c xs hs hown ad m c2 ys hx hy hb hB0 hBB hB h
 | none =>
  obtain rfl:c2 = 0:=hy.isnil rfl
  obtain rfl:m = 0:=by have:=hy.le; omega
  obtain rfl:ys = []:=List.eq_nil_of_length_eq_zero hy.len
  obtain ⟨i,hi,hz0,hz1,hz2⟩:=info_parts info_u32
  refine wpList_plain hgd fun K hK' => ?_
  have hrun:=run_append_owned_none (P:=Tryz.prog) w B t o.type 63 i 1 ht hi _ n _ hown.own
  unfold Oper.wp
  simp [execOp,ho,resolve,invoke,builtin,hs,hx,hrun,Result.andThen]
  exact hK' _ _ (h p c w (by simpa using hown) (World.grownBy.refl _ _) hB0)
theorem Fr.lit {B:Nat} (w:World) (xs:List Nat) (h:Lims xs) (hB:B ≤ w.heap.size) (hl:xs.length ≤ maxLen:=by simp [maxLen]):Fr B (w.alloc (.cells (xs.map fun x:Nat => Value.int .u32 (x:Int)).toArray 63)) (some ⟨w.heap.size,0,none⟩) xs.length xs.length xs:=by
  refine ⟨rfl,h,?_⟩
  have:=World.ownsRow_lit (base:=B) (e:=63) (size:=1) w (xs.map fun x:Nat => Value.int .u32 (x:Int)).toArray xs.length hB hl (by simp)
  simpa using this
theorem run_copy32 {w:World} (dT sT ty:TypeId) (hu:Tryz.prog.underlying dT = some (.slice 63))
  {g n c cs:Nat} {p:Option Addr} {B:Nat} {ys xs:List Nat} (hf:Fr B w (some ⟨g,0,none⟩) n c ys) (hx:Sl w p n cs xs) {w0:World} (hb:Below B w0 w) :
  ∃ w',(Builtin.copy_ #[dT,sT] ty #[.slice (some ⟨g,0,none⟩) n c,.slice p n cs]).run Tryz.prog w = .ok (.int .i64 (n:Int)) w' ∧ Fr B w' (some ⟨g,0,none⟩) n c xs ∧ Below B w0 w' ∧ w'.heap.size = w.heap.size:=by
 have hsz:(Tryz.prog.info? 63).map (·.size) = some 1:=by kernel_rfl
 have hB:=hf.block
 rcases Nat.eq_zero_or_pos n with rfl | h0
 ·have e:xs = ys:=by
   rw [List.eq_nil_of_length_eq_zero hx.len,List.eq_nil_of_length_eq_zero hf.len]
  subst e
  exact ⟨w,run_copy_none (P:=Tryz.prog) w dT sT ty 63 _ _ _ _ _ _ hu hsz (by simp),hf,hb,rfl⟩
 obtain ⟨b,off,rfl,_⟩:=hx.cell 0 h0
 rcases hf.own.2 with ⟨h1,_⟩ | ⟨g',cap,cur,h1,hbg,hg,hnc,hcm,hcz,ht⟩
 ·simp at h1
 simp only [Value.slice.injEq,Option.some.injEq,Addr.mk.injEq,and_true,true_and] at h1
 obtain ⟨rfl,rfl⟩:=h1
 have hl:(xs.map fun x:Nat => Value.int .u32 (x:Int)).length = n:=by simp [hx.len]
 have hr:=run_copy_row (P:=Tryz.prog) w dT sT ty 63 g 0 n c ⟨b,off,none⟩ n cs cur 63 (xs.map fun x:Nat => Value.int .u32 (x:Int)) hu hsz hg (by simp [hx.len])
  (by
   intro j v hv
   have hj:j < n:=by
    have:=(List.getElem?_eq_some_iff.1 hv).1
    omega
   obtain ⟨b',off',hp,hc⟩:=hx.cell j hj
   simp only [Option.some.injEq,Addr.mk.injEq,and_true] at hp
   obtain ⟨rfl,rfl⟩:=hp
   rw [Addr.add_lit,hc]
   rw [← hv,nd_get (by rw [hx.len]; exact hj)]
   simp [hx.len,hj])
  (by rw [hl]; omega)
  (by
   intro u hu
   obtain ⟨_,_,rfl⟩:=List.mem_map.1 hu
   rfl)
 rw [hl] at hr
 refine ⟨_,hr,⟨hx.len,hx.lims,by rw [hl]; omega,.inr ⟨g,c,_,rfl,hbg,setRow_heap w g cur _ _ _ hg,hnc,hcm,?_,?_⟩⟩,(below_setRow hb hbg _),(by simp [World.setRow])⟩
 ·simp [hx.len]; omega
 simp only [List.take_zero,List.nil_append]
 rw [List.take_append_of_le_length (by rw [hl]; omega),List.take_of_length_le (by rw [hl]; omega)]
def nmax (a b:Nat):Nat:=max a b
theorem nmax_le (a b:Nat):a ≤ nmax a b ∧ b ≤ nmax a b:=⟨Nat.le_max_left _ _,Nat.le_max_right _ _⟩
theorem nmax_or (a b:Nat):nmax a b = a ∨ nmax a b = b:=by unfold nmax; omega
theorem nmax_bd {a b c:Nat} (h1:a ≤ c) (h2:b ≤ c):nmax a b ≤ c:=Nat.max_le.2 ⟨h1,h2⟩
theorem run_nmax (n m:Nat) (w:World) (ts:Array TypeId) (t:TypeId):(Builtin.max_ ts t #[.int .i64 (n:Int),.int .i64 (m:Int)]).run Tryz.prog w = .ok (.int .i64 ((nmax n m:Nat):Int)) w:=by
  rw [run_max_int2]
  congr 2
  unfold nmax
  split <;> omega
theorem Sl.single (w:World) (s:Nat) (hs:s < 4294967296):Sl (w.alloc (.cells #[.int .u32 (s:Int)] 63)) (some ⟨w.heap.size,0,none⟩) 1 1 [s]:=by
  refine ⟨rfl,Nat.le_refl _,by simp [maxLen],lims_single hs,(fun h => by cases h),fun i hi => ⟨w.heap.size,0,rfl,?_⟩⟩
  obtain rfl:i = 0:=by omega
  rw [World.cell?_alloc_new]; rfl
theorem Sl.lit (w:World) (xs:List Nat) (h:Lims xs) (hl:xs.length ≤ maxLen:=by simp [maxLen]):Sl (w.alloc (.cells (xs.map fun x:Nat => Value.int .u32 (x:Int)).toArray 63)) (some ⟨w.heap.size,0,none⟩) xs.length xs.length xs:=by
  refine ⟨rfl,Nat.le_refl _,hl,h,(fun h => by cases h),fun i hi => ⟨w.heap.size,0,rfl,?_⟩⟩
  rw [Nat.zero_add,World.cell?_alloc_new,nd_get hi]
  simp [hi]
def RetN (w:World) (xs:List Nat) (e:Ending) (w':World):Prop :=
  ∃ p n c,e = .returned (.slice p n c) ∧ Fr w.heap.size w' p n c xs ∧ Below w.heap.size w w'
def RetInt (w:World) (z:Int) (e:Ending) (w':World):Prop:=e = .returned (.int .i64 z) ∧ Below w.heap.size w w'
def RetNE (w:World) (xs:List Nat) (E:Int) (e:Ending) (w':World):Prop :=
  ∃ p n c,e = .returned (.tuple #[.slice p n c,.int .i64 E]) ∧ Fr w.heap.size w' p n c xs ∧ Below w.heap.size w w'
theorem below_cell {B:Nat} {W w1:World} (hb:Below B W w1):(∀ b o,b < B → w1.cell? ⟨b,o,none⟩ = W.cell? ⟨b,o,none⟩) ∧ (∀ b o,b < B → w1.frozen? ⟨b,o,none⟩ = W.frozen? ⟨b,o,none⟩) :=
  ⟨fun b o h => hb.cell (p:=⟨b,o,none⟩) h,fun b o h => hb.frozen (p:=⟨b,o,none⟩) h⟩
open Go.RowKit
def blen (n:Nat):Nat:=if n = 0 then 0 else n.log2 + 1
theorem blen_half {n:Nat} (h:n ≠ 0):blen n = 1 + blen (n / 2):=by
 unfold blen
 rw [if_neg h]
 by_cases h2:n / 2 = 0
 ·rw [if_pos h2]
  have:n = 1:=by omega
  subst this; rfl
 rw [if_neg h2]
 have:n.log2 = (n / 2).log2 + 1:=by
  rw [Nat.log2_def n,if_pos (by omega)]
 omega
theorem bitLenAux_blen:∀ (f n:Nat),n < 2 ^ f → Lib.bitLenAux f n = blen n
  | 0, n, h => by have : n = 0 := by simpa using h
                  subst this; rfl
  | f + 1,n,h => by
    unfold Lib.bitLenAux
    by_cases e:n = 0
    · subst e; rfl
    rw [if_neg e,bitLenAux_blen f (n / 2) (by rw [Nat.pow_succ] at h; omega),blen_half e]
theorem bitLen_blen {n:Nat} (h:n < 18446744073709551616):Lib.bitLen n = blen n:=bitLenAux_blen 64 n h
theorem blen_le {n k:Nat} (h:n < 2 ^ k):blen n ≤ k:=by
 unfold blen
 split
 ·omega
 rename_i h0
 exact (Nat.log2_lt h0).2 h
theorem lt_blen (n:Nat):n < 2 ^ blen n:=by
  unfold blen
  split
  · rename_i h; subst h; simp
  exact Nat.lt_log2_self
theorem blen_ge {n k:Nat} (h:2 ^ k ≤ n):k < blen n:=by
 have:=lt_blen n
 by_cases e:k < blen n
 ·exact e
 have:=Nat.pow_le_pow_right (show 0 < 2 by omega) (show blen n ≤ k by omega)
 omega
theorem pow_blen {n:Nat} (h:n ≠ 0):2 ^ (blen n - 1) ≤ n:=by
  unfold blen
  rw [if_neg h]
  simpa using Nat.log2_self_le h
set_option maxHeartbeats 4000000 in
set_option maxRecDepth 100000 in
theorem len32_int (x:Int) (w:World) (h0:0 ≤ x) (h1:x ≤ 4294967295) :
  Calls Tryz.prog 106 #[.int .u32 x] w fun e w' => e = .returned (.int .i64 (Lib.bitLen x.toNat)) ∧ w = w':=by
 have hc:(16777216 ≤ x ∧ x ≤ 4294967295) ∨ (65536 ≤ x ∧ x ≤ 16777215) ∨ (256 ≤ x ∧ x ≤ 65535) ∨ (0 ≤ x ∧ x ≤ 255):=by omega
 rcases hc with ⟨hlo,hhi⟩ | ⟨hlo,hhi⟩ | ⟨hlo,hhi⟩ | ⟨hlo,hhi⟩
 ·have i0:0 ≤ x / 65536 / 256:=by omega
  have i1:x / 65536 / 256 ≤ 255:=by omega
  have l8:=Lib.len8_of (x / 65536 / 256) i0 i1
  have lb:=Lib.bitLen_le8' (x / 65536 / 256) i0 i1
  have ee:(x / 65536 / 256).toNat = x.toNat / 16777216:=by omega
  rw [ee] at l8 lb
  have ls:=Lib.bitLen_shift24 x.toNat (by omega) (by omega)
  have LS:=Lib.hid ls
  clear ls ee
  have L8:=Lib.hid l8
  clear l8
  generalize hq:Lib.bitLen (x.toNat / 16777216) = q at *
  clear hq
  generalize hr:Lib.len8 (x / 65536 / 256) = r at *
  have HR:=Lib.hid hr
  have r0:0 ≤ r:=by rw [L8.out]; omega
  have r1:r ≤ 8:=by rw [L8.out]; omega
  clear hr
  go_enter Tryz.func106,Tryz.ntmps106
  go_wp2_with fail
  rw [HR.out]
  go_ret
  refine ⟨congrArg Ending.returned (congrArg (Value.int IntKind.i64) ?_),rfl⟩
  have e1:wrap64 r = r:=IntWalk.wrap64_in r ⟨by omega,by omega⟩
  show wrap64 (24 + wrap64 r) = _
  rw [e1,IntWalk.wrap64_in (24 + r) ⟨by omega,by omega⟩,L8.out,LS.out]; omega
 ·have i0:0 ≤ x / 65536:=by omega
  have i1:x / 65536 ≤ 255:=by omega
  have l8:=Lib.len8_of (x / 65536) i0 i1
  have lb:=Lib.bitLen_le8' (x / 65536) i0 i1
  have ee:(x / 65536).toNat = x.toNat / 65536:=by omega
  rw [ee] at l8 lb
  have ls:=Lib.bitLen_shift16 x.toNat (by omega) (by omega)
  have LS:=Lib.hid ls
  clear ls ee
  have L8:=Lib.hid l8
  clear l8
  generalize hq:Lib.bitLen (x.toNat / 65536) = q at *
  clear hq
  generalize hr:Lib.len8 (x / 65536) = r at *
  have HR:=Lib.hid hr
  have r0:0 ≤ r:=by rw [L8.out]; omega
  have r1:r ≤ 8:=by rw [L8.out]; omega
  clear hr
  go_enter Tryz.func106,Tryz.ntmps106
  go_wp2_with fail
  rw [HR.out]
  go_ret
  refine ⟨congrArg Ending.returned (congrArg (Value.int IntKind.i64) ?_),rfl⟩
  have e1:wrap64 r = r:=IntWalk.wrap64_in r ⟨by omega,by omega⟩
  show wrap64 (16 + wrap64 r) = _
  rw [e1,IntWalk.wrap64_in (16 + r) ⟨by omega,by omega⟩,L8.out,LS.out]; omega
 ·have i0:0 ≤ x / 256:=by omega
  have i1:x / 256 ≤ 255:=by omega
  have l8:=Lib.len8_of (x / 256) i0 i1
  have lb:=Lib.bitLen_le8' (x / 256) i0 i1
  have ee:(x / 256).toNat = x.toNat / 256:=by omega
  rw [ee] at l8 lb
  have ls:=Lib.bitLen_shift8 x.toNat (by omega) (by omega)
  have LS:=Lib.hid ls
  clear ls ee
  have L8:=Lib.hid l8
  clear l8
  generalize hq:Lib.bitLen (x.toNat / 256) = q at *
  clear hq
  generalize hr:Lib.len8 (x / 256) = r at *
  have HR:=Lib.hid hr
  have r0:0 ≤ r:=by rw [L8.out]; omega
  have r1:r ≤ 8:=by rw [L8.out]; omega
  clear hr
  go_enter Tryz.func106,Tryz.ntmps106
  go_wp2_with fail
  rw [HR.out]
  go_ret
  refine ⟨congrArg Ending.returned (congrArg (Value.int IntKind.i64) ?_),rfl⟩
  have e1:wrap64 r = r:=IntWalk.wrap64_in r ⟨by omega,by omega⟩
  show wrap64 (8 + wrap64 r) = _
  rw [e1,IntWalk.wrap64_in (8 + r) ⟨by omega,by omega⟩,L8.out,LS.out]; omega
 have i0:0 ≤ x:=by omega
 have i1:x ≤ 255:=by omega
 have l8:=Lib.len8_of (x) i0 i1
 have lb:=Lib.bitLen_le8' (x) i0 i1
 have L8:=Lib.hid l8
 clear l8
 generalize hq:Lib.bitLen (x.toNat) = q at *
 clear hq
 generalize hr:Lib.len8 (x) = r at *
 have HR:=Lib.hid hr
 have r0:0 ≤ r:=by rw [L8.out]; omega
 have r1:r ≤ 8:=by rw [L8.out]; omega
 clear hr
 go_enter Tryz.func106,Tryz.ntmps106
 go_wp2_with fail
 rw [HR.out]
 go_ret
 refine ⟨congrArg Ending.returned (congrArg (Value.int IntKind.i64) ?_),rfl⟩
 have e1:wrap64 r = r:=IntWalk.wrap64_in r ⟨by omega,by omega⟩
 show wrap64 (wrap64 r) = _
 rw [e1,e1,L8.out]
theorem len32_any {x:Nat} {X:Int} {w:World} (hX:X = (x:Int)) (hx:x < 4294967296) :
  Calls Tryz.prog 106 #[.int .u32 X] w fun e w' => e = .returned (.int .i64 ((blen x:Nat):Int)) ∧ w = w':=by
 subst hX
 refine (len32_int (x:Int) w (by omega) (by omega)).mono ?_
 rintro e w' ⟨rfl,rfl⟩
 exact ⟨by rw [Int.toNat_natCast,bitLen_blen (by omega)],rfl⟩
set_option maxHeartbeats 400000 in
theorem lz32_any {x:Nat} {X:Int} {w:World} (hX:X = (x:Int)) (hx:x < 4294967296) :
  Calls Tryz.prog 135 #[.int .u32 X] w fun e w' => e = .returned (.int .i64 ((32 - blen x:Nat):Int)) ∧ w = w':=by
 have hb:blen x ≤ 32:=blen_le hx
 subst hX
 go_enter Tryz.func135,Tryz.ntmps135
 go_wp2_with fail
 refine (len32_any rfl hx).mono ?_
 rintro e w' ⟨rfl,rfl⟩
 go_wp2_with fail
 go_ret
 exact ⟨congrArg Ending.returned (congrArg (Value.int IntKind.i64) (by omega)),rfl⟩
theorem blen_eq {n k:Nat} (h1:2 ^ k ≤ n) (h2:n < 2 ^ (k + 1)):blen n = k + 1:=by
  have:=blen_le h2
  have:=blen_ge h1
  omega
theorem blen_lim {N:Nat} (h:N ≠ 0):blen N = 32 * (ll N - 1) + blen (nd (lim N) (ll N - 1)):=by
 have hp:=ll_pos h
 have h1:=lt_ll N
 generalize hk:ll N - 1 = k at *
 have hk2:ll N = k + 1:=by omega
 rw [hk2] at h1
 have htop:nd (lim N) k = N / 4294967296 ^ k:=by
  rw [nd_lim]
  apply Nat.mod_eq_of_lt
  rw [Nat.div_lt_iff_lt_mul (pos_pow k)]
  rw [Nat.pow_succ] at h1
  rw [Nat.mul_comm]; exact h1
 have htz:N / 4294967296 ^ k ≠ 0:=by
  intro e
  have hlt:N < 4294967296 ^ k:=by
   rcases Nat.lt_or_ge N (4294967296 ^ k) with h3 | h3
   ·exact h3
   have:=Nat.div_pos h3 (pos_pow k); omega
  have:=ll_le hlt
  omega
 rw [htop]
 generalize hT:N / 4294967296 ^ k = T at *
 have hb1:=lt_blen T
 have hb2:=pow_blen htz
 have hbp:0 < blen T:=by unfold blen; rw [if_neg htz]; omega
 have e:32 * k + blen T = (32 * k + (blen T - 1)) + 1:=by omega
 rw [e]
 apply blen_eq
 ·rw [Nat.pow_add, ← pow_two]
  have:4294967296 ^ k * T ≤ N:=by rw [← hT]; exact Nat.mul_div_le _ _
  exact Nat.le_trans (Nat.mul_le_mul_left _ hb2) this
 rw [show 32 * k + (blen T - 1) + 1 = 32 * k + blen T by omega,Nat.pow_add, ← pow_two]
 have h3:N < 4294967296 ^ k * (T + 1):=by
  rw [← hT]; exact Nat.lt_mul_div_succ N (pos_pow k)
 exact Nat.lt_of_lt_of_le h3 (Nat.mul_le_mul_left _ hb1)
theorem right_digit {V t i x y:Nat} (ht:t < 32) (hx:x = V / 4294967296 ^ i % 4294967296) (hy:y = V / 4294967296 ^ (i + 1) % 4294967296):(y * 4294967296 + x) / 2 ^ t % 4294967296 = V / 2 ^ t / 4294967296 ^ i % 4294967296:=by
 have h32:(4294967296:Nat) = 2 ^ t * 2 ^ (32 - t):=by rw [← Nat.pow_add,show t + (32 - t) = 32 by omega]
 have hp:0 < 2 ^ t:=Nat.two_pow_pos t
 rw [Nat.div_div_eq_div_mul,Nat.mul_comm (2 ^ t), ← Nat.div_div_eq_div_mul]
 rw [Nat.pow_succ, ← Nat.div_div_eq_div_mul] at hy
 generalize V / 4294967296 ^ i = U at *
 have e:U = y * 4294967296 + x + 4294967296 * 4294967296 * (U / 4294967296 / 4294967296):=by omega
 generalize U / 4294967296 / 4294967296 = R at *
 rw [e]
 have e2:4294967296 * 4294967296 * R = 2 ^ t * (4294967296 * (2 ^ (32 - t) * R)):=by
  rw [Nat.mul_left_comm, ← Nat.mul_assoc (2 ^ t), ← h32,Nat.mul_assoc]
 rw [e2,Nat.add_mul_div_left _ _ hp,Nat.add_mul_mod_self_left]
theorem nd_of_val {us:List Nat} {V:Nat} (hl:Lims us) (hv:val us = V) (k:Nat):nd us k = V / 4294967296 ^ k % 4294967296:=by
 by_cases h:k < us.length
 ·rw [← hv]; exact (sm_digit (f:=nd us) (k:=us.length) hl h).symm
 rw [nd_lt_len (by omega), ← hv,Nat.div_eq_of_lt]
 have:=val_lt hl
 have:=pow_le (show us.length ≤ k by omega)
 omega
theorem right_cast (x y t:Nat):((y:Int) * 4294967296 + (x:Int)) / 2 ^ t % 4294967296 = (((y * 4294967296 + x) / 2 ^ t % 4294967296:Nat):Int):=by
  rw [Int.natCast_emod,Int.natCast_ediv,Int.natCast_pow,Int.natCast_add,Int.natCast_mul]; rfl
theorem right_cast0 (x t:Nat):(x:Int) / 2 ^ t % 4294967296 = ((x / 2 ^ t % 4294967296:Nat):Int):=by
  rw [Int.natCast_emod,Int.natCast_ediv,Int.natCast_pow]; rfl
theorem right_div (N s:Nat):N / 2 ^ s = N / 4294967296 ^ (s / 32) / 2 ^ (s % 32):=by
  rw [Nat.div_div_eq_div_mul,pow_split]
theorem right_end {zs:List Nat} {M:Nat} (h:∀ j,j < zs.length → nd zs j = M / 4294967296 ^ j % 4294967296) (hM:M < 4294967296 ^ zs.length):val zs = M:=by
  have e:val zs = sm (nd (lim M)) zs.length:=sm_congr fun i hi => by rw [h i hi,nd_lim]
  rw [e,sm_lim,Nat.mod_eq_of_lt hM]
theorem long_norm {N n s:Nat} (hn:1 ≤ n) (h:ll N = n) (hs:s = 32 - blen (N / 4294967296 ^ (n - 1) % 4294967296)):s ≤ 31 ∧ N * 2 ^ s < 4294967296 ^ n ∧ 2147483648 * 4294967296 ^ (n - 1) ≤ N * 2 ^ s:=by
 obtain ⟨k,rfl⟩:∃ k,n = k + 1:=⟨n - 1,by omega⟩
 rw [Nat.add_sub_cancel] at *
 have h1:=lt_ll N
 rw [h] at h1
 have h2:4294967296 ^ k ≤ N:=by
  rcases Nat.lt_or_ge N (4294967296 ^ k) with h3 | h3
  ·have:=ll_le h3; omega
  exact h3
 have hT1:N / 4294967296 ^ k < 4294967296:=by
  rw [Nat.div_lt_iff_lt_mul (pos_pow k),Nat.mul_comm, ← Nat.pow_succ]; exact h1
 have hT0:N / 4294967296 ^ k ≠ 0:=by
  have:=Nat.div_pos h2 (pos_pow k); omega
 rw [Nat.mod_eq_of_lt hT1] at hs
 have hN:=Nat.div_add_mod N (4294967296 ^ k)
 have hN2:=Nat.mod_lt N (pos_pow k)
 generalize N / 4294967296 ^ k = T at *
 have hb1:=lt_blen T
 have hb2:=pow_blen hT0
 have hb3:=blen_le (show T < 2 ^ 32 from hT1)
 have hb0:0 < blen T:=by unfold blen; rw [if_neg hT0]; omega
 generalize blen T = b at *
 have hbs:b + s = 32:=by omega
 have e32:2 ^ b * 2 ^ s = 4294967296:=by rw [← Nat.pow_add,hbs]
 have e31:2 ^ (b - 1) * 2 ^ s = 2147483648:=by rw [← Nat.pow_add,show b - 1 + s = 31 by omega]
 have hp:=Nat.two_pow_pos s
 refine ⟨by omega,?_,?_⟩
 ·have h4:N < 4294967296 ^ k * 2 ^ b:=by
   have:4294967296 ^ k * (T + 1) ≤ 4294967296 ^ k * 2 ^ b:=Nat.mul_le_mul_left _ hb1
   rw [Nat.mul_add] at this; omega
  have h5:=Nat.mul_lt_mul_of_pos_right h4 hp
  rw [Nat.mul_assoc,e32, ← Nat.pow_succ] at h5
  exact h5
 have h4:4294967296 ^ k * 2 ^ (b - 1) ≤ N:=by
  have:4294967296 ^ k * 2 ^ (b - 1) ≤ 4294967296 ^ k * T:=Nat.mul_le_mul_left _ hb2
  omega
 have h5:=Nat.mul_le_mul_right (2 ^ s) h4
 rw [Nat.mul_assoc,e31,Nat.mul_comm] at h5
 exact h5
theorem guess_down {W V V2 W2 P top next t u2 q r:Nat} (hW:W < (W2 + 1) * P) (hV:V2 * P ≤ V) (hV2:V2 = top * 4294967296 + next) (hW2:W2 = t * 4294967296 + u2)
  (hq:q * top + r = t) (h:r * 4294967296 + u2 < q * next):W < q * V:=by
 have h1:W2 + 1 ≤ q * V2:=by
  have e:q * V2 = q * top * 4294967296 + q * next:=by rw [hV2,Nat.mul_add,Nat.mul_assoc]
  rw [e,hW2, ← hq,Nat.add_mul]
  omega
 have h2:(W2 + 1) * P ≤ q * V2 * P:=Nat.mul_le_mul_right _ h1
 have h3:q * V2 * P ≤ q * V:=by rw [Nat.mul_assoc]; exact Nat.mul_le_mul_left _ hV
 omega
theorem guess_up {W V V2 W2 P top next t u2 q r:Nat} (hW:W2 * P ≤ W) (hV:V < (V2 + 1) * P) (hV2:V2 = top * 4294967296 + next) (hW2:W2 = t * 4294967296 + u2)
  (hq:q * top + r = t) (h:q * next ≤ r * 4294967296 + u2) (hqB:q < 4294967296) (htop:2147483648 ≤ top) (hq0:0 < q):(q - 1) * V ≤ W:=by
 have h1:q * V2 ≤ W2:=by
  have e:q * V2 = q * top * 4294967296 + q * next:=by rw [hV2,Nat.mul_add,Nat.mul_assoc]
  rw [e,hW2, ← hq,Nat.add_mul]
  omega
 obtain ⟨k,rfl⟩:∃ k,q = k + 1:=⟨q - 1,by omega⟩
 rw [Nat.add_sub_cancel]
 have h2:k * (V2 + 1) ≤ W2:=by
  rw [Nat.mul_add]
  rw [Nat.add_mul] at h1
  omega
 have h3:k * V ≤ k * ((V2 + 1) * P):=Nat.mul_le_mul_left _ (Nat.le_of_lt hV)
 have h4:k * (V2 + 1) * P ≤ W2 * P:=Nat.mul_le_mul_right _ h2
 rw [Nat.mul_assoc] at h4
 omega
theorem take_num {u x q c b:Nat} (hu:u < 4294967296) (hx:x < 4294967296) (hq:q < 4294967296) (hc:c < 4294967296) (hb:b ≤ 1) :
  (q * x + c) / 4294967296 < 4294967296 ∧ q * x + c < 18446744073709551616 ∧
  ∃ d b',b' ≤ 1 ∧ d < 4294967296 ∧ d + q * x + (c + b) = u + 4294967296 * ((q * x + c) / 4294967296 + b') ∧
   ((u:Int) - ((q * x + c) % 4294967296:Nat) - (b:Int)) % 18446744073709551616 % 4294967296 = (d:Int) ∧
   ((u:Int) - ((q * x + c) % 4294967296:Nat) - (b:Int)) % 18446744073709551616 / 9223372036854775808 = (b':Int):=by
 have h1:q * x ≤ 4294967295 * 4294967295:=Nat.mul_le_mul (by omega) (by omega)
 generalize q * x = T at *
 have h2:=Nat.mod_add_div (T + c) 4294967296
 have h3:=Nat.mod_lt (T + c) (show 0 < 4294967296 by omega)
 generalize hR:(T + c) % 4294967296 = R at *
 generalize hQ:(T + c) / 4294967296 = Q at *
 refine ⟨by omega,by omega,?_⟩
 by_cases h:R + b ≤ u
 ·exact ⟨u - R - b,0,by omega,by omega,by omega,by omega,by omega⟩
 exact ⟨u + 4294967296 - R - b,1,by omega,by omega,by omega,by omega,by omega⟩
theorem take_step {us vs:List Nat} {j i L q d b b' c c' A C:Nat} (hL:j + i < L) (hl:us.length = L)
  (h:sm (fun k => nd us (j + k)) i + q * C = A + 4294967296 ^ i * (c + b)) (hd:d + q * nd vs i + (c + b) = nd us (j + i) + 4294967296 * (c' + b')) :
  sm (fun k => nd (us.set (j + i) d) (j + k)) (i + 1) + q * (C + nd vs i * 4294967296 ^ i) = (A + nd us (j + i) * 4294967296 ^ i) + 4294967296 ^ (i + 1) * (c' + b'):=by
 have h1:sm (fun k => nd (us.set (j + i) d) (j + k)) i = sm (fun k => nd us (j + k)) i :=
  sm_congr fun k hk => by show nd (us.set (j + i) d) (j + k) = _; rw [nd_set _ _ _ _ (by omega),if_neg (by omega)]
 show sm _ i + nd _ (j + i) * _ + _ = _
 rw [h1,nd_set _ _ _ _ (by omega),if_pos rfl,Nat.pow_succ]
 generalize (4294967296:Nat) ^ i = P at *
 have h3:(d + q * nd vs i + (c + b)) * P = (nd us (j + i) + 4294967296 * (c' + b')) * P:=by rw [hd]
 have h4:q * (C + nd vs i * P) = q * C + q * nd vs i * P:=by rw [Nat.mul_add,Nat.mul_assoc]
 have h5:P * 4294967296 * (c' + b') = 4294967296 * (c' + b') * P:=by rw [Nat.mul_comm P,Nat.mul_assoc,Nat.mul_assoc,Nat.mul_comm P]
 have h6:P * (c + b) = (c + b) * P:=Nat.mul_comm _ _
 rw [Nat.add_mul,Nat.add_mul,Nat.add_mul (nd us (j + i))] at h3
 rw [h4,h5]
 rw [h6] at h
 omega
theorem take_fits {W Wl X V q n c:Nat} {S:Nat} (hW:W = Wl + 4294967296 ^ n * X) (h:S + q * V = Wl + 4294967296 ^ n * c) (hc:c ≤ X) (_hS:S < 4294967296 ^ n) (hV:V < 4294967296 ^ n) (hV0:0 < V)
  (hq1:W / V ≤ q):q = W / V ∧ X = c ∧ S = W % V:=by
 obtain ⟨k,rfl⟩:∃ k,X = c + k:=⟨X - c,by omega⟩
 have h1:W = S + 4294967296 ^ n * k + q * V:=by rw [hW,Nat.mul_add]; omega
 have h2:q ≤ W / V:=by rw [Nat.le_div_iff_mul_le hV0]; omega
 have hq:q = W / V:=by omega
 have h3:=Nat.div_add_mod W V
 have h4:=Nat.mod_lt W hV0
 rw [← hq,Nat.mul_comm] at h3
 have h5:S + 4294967296 ^ n * k = W % V:=by omega
 rcases Nat.eq_zero_or_pos k with rfl | hk
 ·exact ⟨hq,by omega,by omega⟩
 have:4294967296 ^ n * 1 ≤ 4294967296 ^ n * k:=Nat.mul_le_mul_left _ hk
 omega
theorem take_owes {W Wl X V q n c:Nat} {S:Nat} (hW:W = Wl + 4294967296 ^ n * X) (h:S + q * V = Wl + 4294967296 ^ n * c) (hc:X < c) (hS:S < 4294967296 ^ n) (hV:V < 4294967296 ^ n) (hV0:0 < V)
  (hq1:W / V ≤ q) (hq0:0 < q) (hq2:(q - 1) * V ≤ W):q - 1 = W / V ∧ c = X + 1 ∧ S + V = W % V + 4294967296 ^ n:=by
 obtain ⟨k,rfl⟩:∃ k,c = X + 1 + k:=⟨c - (X + 1),by omega⟩
 obtain ⟨p,rfl⟩:∃ p,q = p + 1:=⟨q - 1,by omega⟩
 rw [Nat.add_sub_cancel] at hq2 ⊢
 have e1:4294967296 ^ n * (X + 1 + k) = 4294967296 ^ n * X + 4294967296 ^ n + 4294967296 ^ n * k:=by rw [Nat.mul_add,Nat.mul_add,Nat.mul_one]
 have e2:(p + 1) * V = p * V + V:=by rw [Nat.add_mul,Nat.one_mul]
 rw [e1,e2] at h
 have hlt:W < (p + 1) * V:=by rw [e2]; omega
 have h2:W / V < p + 1:=by rw [Nat.div_lt_iff_lt_mul hV0]; exact hlt
 have h2':p ≤ W / V:=by rw [Nat.le_div_iff_mul_le hV0]; exact hq2
 have hq:p = W / V:=by omega
 have h3:=Nat.div_add_mod W V
 have h4:=Nat.mod_lt W hV0
 rw [← hq,Nat.mul_comm] at h3
 rcases Nat.eq_zero_or_pos k with rfl | hk
 ·exact ⟨hq,by omega,by omega⟩
 have:4294967296 ^ n * 1 ≤ 4294967296 ^ n * k:=Nat.mul_le_mul_left _ hk
 omega
theorem back_step {us vs:List Nat} {j i L c A C:Nat} (hL:j + i < L) (hl:us.length = L)
  (h:sm (fun k => nd us (j + k)) i + 4294967296 ^ i * c = A + C) :
  sm (fun k => nd (us.set (j + i) ((nd us (j + i) + nd vs i + c) % 4294967296)) (j + k)) (i + 1) + 4294967296 ^ (i + 1) * ((nd us (j + i) + nd vs i + c) / 4294967296) = (A + nd us (j + i) * 4294967296 ^ i) + (C + nd vs i * 4294967296 ^ i):=by
 generalize hT:nd us (j + i) + nd vs i + c = T
 have h1:sm (fun k => nd (us.set (j + i) (T % 4294967296)) (j + k)) i = sm (fun k => nd us (j + k)) i :=
  sm_congr fun k hk => by show nd (us.set (j + i) _) (j + k) = _; rw [nd_set _ _ _ _ (by omega),if_neg (by omega)]
 show sm _ i + nd _ (j + i) * _ + _ = _
 rw [h1,nd_set _ _ _ _ (by omega),if_pos rfl,Nat.pow_succ]
 have h2:=Nat.mod_add_div T 4294967296
 generalize (4294967296:Nat) ^ i = P at *
 have h3:(T % 4294967296 + 4294967296 * (T / 4294967296)) * P = T * P:=by rw [h2]
 have h5:P * 4294967296 * (T / 4294967296) = 4294967296 * (T / 4294967296) * P:=by rw [Nat.mul_comm P,Nat.mul_assoc,Nat.mul_assoc,Nat.mul_comm P]
 have h6:P * c = c * P:=Nat.mul_comm _ _
 have h7:T * P = nd us (j + i) * P + nd vs i * P + c * P:=by rw [← hT,Nat.add_mul,Nat.add_mul]
 rw [Nat.add_mul] at h3
 rw [h5]
 omega
theorem top2 {f:Nat → Nat} {n:Nat} (hf:∀ i,f i < 4294967296) (hn:2 ≤ n) :
  (f (n - 1) * 4294967296 + f (n - 2)) * 4294967296 ^ (n - 2) ≤ sm f n ∧ sm f n < (f (n - 1) * 4294967296 + f (n - 2) + 1) * 4294967296 ^ (n - 2):=by
 obtain ⟨k,rfl⟩:∃ k,n = k + 2:=⟨n - 2,by omega⟩
 rw [show k + 2 - 1 = k + 1 by omega,show k + 2 - 2 = k by omega]
 have h1:sm f (k + 2) = sm f k + f k * 4294967296 ^ k + f (k + 1) * 4294967296 ^ (k + 1):=rfl
 have h2:=sm_lt (f:=f) (k:=k) (fun i _ => hf i)
 rw [h1,Nat.pow_succ]
 generalize 4294967296 ^ k = P at *
 have e1:f (k + 1) * (P * 4294967296) = f (k + 1) * 4294967296 * P:=by rw [Nat.mul_comm P,Nat.mul_assoc]
 rw [e1,Nat.add_mul,Nat.add_mul,Nat.add_mul]
 omega
theorem alg3 {a b c S P B:Nat} (h:(b * B + c) * P ≤ S ∧ S < (b * B + c + 1) * P):((a * B + b) * B + c) * P ≤ S + a * (P * B * B) ∧ S + a * (P * B * B) < ((a * B + b) * B + c + 1) * P:=by
  have e3:a * (P * B * B) = a * B * B * P:=by ac_rfl
  have e4:(a * B + b) * B + c = a * B * B + (b * B + c):=by rw [Nat.add_mul,Nat.add_assoc]
  rw [e3,e4]
  generalize a * B * B = X at *
  generalize b * B + c = Y at *
  rw [Nat.add_mul,Nat.add_mul,Nat.add_mul]
  rw [Nat.add_mul] at h
  omega
theorem top3 {g:Nat → Nat} {n:Nat} (hg:∀ i,g i < 4294967296) (hn:2 ≤ n) :
  ((g n * 4294967296 + g (n - 1)) * 4294967296 + g (n - 2)) * 4294967296 ^ (n - 2) ≤ sm g (n + 1) ∧ sm g (n + 1) < ((g n * 4294967296 + g (n - 1)) * 4294967296 + g (n - 2) + 1) * 4294967296 ^ (n - 2):=by
 have h:=top2 hg hn
 obtain ⟨k,rfl⟩:∃ k,n = k + 2:=⟨n - 2,by omega⟩
 rw [show k + 2 - 1 = k + 1 by omega,show k + 2 - 2 = k by omega] at *
 have h1:sm g (k + 2 + 1) = sm g (k + 2) + g (k + 2) * 4294967296 ^ (k + 2):=rfl
 rw [h1]
 have e2:(4294967296:Nat) ^ (k + 2) = 4294967296 ^ k * 4294967296 * 4294967296:=by rw [Nat.pow_succ,Nat.pow_succ]
 rw [e2]
 generalize sm g (k + 2) = S at *
 generalize g (k + 2) = a at *
 generalize g (k + 1) = b at *
 generalize g k = c at *
 generalize 4294967296 ^ k = P at *
 exact alg3 h
theorem window {us vs:List Nat} {j n m V:Nat} (_hu:Lims us) (hv:Lims vs) (hl:us.length = n + m + 1) (hvl:vs.length = n) (hV:val vs = V) (hn:2 ≤ n) (hj:j ≤ m)
  (hlt:val us < V * 4294967296 ^ (j + 1)) :
  sm (fun k => nd us (j + k)) (n + 1) < V * 4294967296 ∧ nd us (j + n) * 4294967296 + nd us (j + (n - 1)) < (nd vs (n - 1) + 1) * 4294967296 ∧
  ∃ R,val us = sm (nd us) j + 4294967296 ^ j * sm (fun k => nd us (j + k)) (n + 1) ∧ R = 0:=by
 have hVn:V < 4294967296 ^ n:=by rw [← hV, ← hvl]; exact val_lt hv
 have h1:val us = sm (nd us) j + 4294967296 ^ j * sm (fun k => nd us (j + k)) (n + m + 1 - j):=by
  unfold val
  rw [← sm_add,hl,show j + (n + m + 1 - j) = n + m + 1 by omega]
 obtain ⟨r,hr⟩:∃ r,n + m + 1 - j = n + 1 + r:=⟨m - j,by omega⟩
 rw [hr,sm_add] at h1
 generalize hW:sm (fun k => nd us (j + k)) (n + 1) = W at *
 generalize hX:sm (fun i => (fun k => nd us (j + k)) (n + 1 + i)) r = X at *
 have hX0:X = 0:=by
  rcases Nat.eq_zero_or_pos X with h | h
  ·exact h
  have h2:4294967296 ^ (n + 1) * 1 ≤ 4294967296 ^ (n + 1) * X:=Nat.mul_le_mul_left _ h
  have h3:4294967296 ^ j * (4294967296 ^ (n + 1) * 1) ≤ 4294967296 ^ j * (W + 4294967296 ^ (n + 1) * X):=Nat.mul_le_mul_left _ (by omega)
  have h4:V * 4294967296 ^ (j + 1) ≤ 4294967296 ^ n * 4294967296 ^ (j + 1):=Nat.mul_le_mul_right _ (Nat.le_of_lt hVn)
  have h5:4294967296 ^ n * 4294967296 ^ (j + 1) = 4294967296 ^ j * (4294967296 ^ (n + 1) * 1):=by
   rw [Nat.mul_one, ← Nat.pow_add, ← Nat.pow_add]; congr 1; omega
  omega
 rw [hX0,Nat.mul_zero,Nat.add_zero] at h1
 have hW1:W < V * 4294967296:=by
  have h2:4294967296 ^ j * W < 4294967296 ^ j * (V * 4294967296):=by
   have:V * 4294967296 ^ (j + 1) = 4294967296 ^ j * (V * 4294967296):=by rw [Nat.pow_succ,Nat.mul_left_comm]
   omega
  exact Nat.lt_of_mul_lt_mul_left h2
 refine ⟨hW1,?_,0,h1,rfl⟩
 obtain ⟨k,rfl⟩:∃ k,n = k + 1:=⟨n - 1,by omega⟩
 rw [Nat.add_sub_cancel]
 have hv1:V < (nd vs k + 1) * 4294967296 ^ k:=by
  rw [← hV]
  unfold val
  rw [hvl]
  show sm (nd vs) k + nd vs k * 4294967296 ^ k < _
  have:=sm_lt (f:=nd vs) (k:=k) (fun i _ => hv.all i)
  rw [Nat.add_mul]; omega
 have hw2:(nd us (j + (k + 1)) * 4294967296 + nd us (j + k)) * 4294967296 ^ k ≤ W:=by
  rw [← hW]
  show _ ≤ sm (fun k => nd us (j + k)) k + nd us (j + k) * 4294967296 ^ k + nd us (j + (k + 1)) * 4294967296 ^ (k + 1)
  rw [Nat.pow_succ,Nat.add_mul]
  have:nd us (j + (k + 1)) * (4294967296 ^ k * 4294967296) = nd us (j + (k + 1)) * 4294967296 * 4294967296 ^ k:=by rw [Nat.mul_comm (4294967296 ^ k),Nat.mul_assoc]
  omega
 generalize 4294967296 ^ k = P at *
 have h6:(nd us (j + (k + 1)) * 4294967296 + nd us (j + k)) * P < (nd vs k + 1) * 4294967296 * P:=by
  have:(nd vs k + 1) * P * 4294967296 = (nd vs k + 1) * 4294967296 * P:=by rw [Nat.mul_assoc,Nat.mul_comm P,Nat.mul_assoc]
  omega
 exact Nat.lt_of_mul_lt_mul_right h6
theorem long_next {us us3 zs vs:List Nat} {j n m V T Q:Nat} (hu:Lims us) (_hu3:Lims us3) (hv:Lims vs) (hl:us.length = n + m + 1) (hl3:us3.length = n + m + 1) (hvl:vs.length = n) (hV:val vs = V) (hn:2 ≤ n) (hj:j ≤ m) (hzl:zs.length = m + 1)
  (hlt:val us < V * 4294967296 ^ (j + 1)) (hT:val us + V * 4294967296 ^ (j + 1) * val (zs.drop (j + 1)) = T)
  (hQ:Q = sm (fun k => nd us (j + k)) (n + 1) / V) (hw:sm (fun k => nd us3 (j + k)) (n + 1) = sm (fun k => nd us (j + k)) (n + 1) % V) (hout:∀ x,(x < j ∨ j + n < x) → nd us3 x = nd us x) :
  val us3 + V * 4294967296 ^ j * val ((zs.set j Q).drop j) = T ∧ val us3 < V * 4294967296 ^ j:=by
 obtain ⟨_,_,_,h1,_⟩:=window hu hv hl hvl hV hn hj hlt
 have hV0:0 < V:=by
  rcases Nat.eq_zero_or_pos V with h | h
  ·rw [h,Nat.zero_mul] at hlt; omega
  exact h
 have hlow:sm (nd us3) j = sm (nd us) j:=sm_congr fun i hi => hout i (Or.inl hi)
 have h3:val us3 = sm (nd us) j + 4294967296 ^ j * (sm (fun k => nd us (j + k)) (n + 1) % V):=by
  have e1:val us3 = sm (nd us3) j + 4294967296 ^ j * sm (fun k => nd us3 (j + k)) (n + m + 1 - j):=by
   unfold val
   rw [← sm_add,hl3,show j + (n + m + 1 - j) = n + m + 1 by omega]
  have e2:val us = sm (nd us) j + 4294967296 ^ j * sm (fun k => nd us (j + k)) (n + m + 1 - j):=by
   unfold val
   rw [← sm_add,hl,show j + (n + m + 1 - j) = n + m + 1 by omega]
  obtain ⟨r,hr⟩:∃ r,n + m + 1 - j = n + 1 + r:=⟨m - j,by omega⟩
  rw [hr,sm_add] at e1 e2
  have e3:sm (fun i => (fun k => nd us3 (j + k)) (n + 1 + i)) r = sm (fun i => (fun k => nd us (j + k)) (n + 1 + i)) r:=sm_congr fun i _ => hout _ (Or.inr (by omega))
  rw [e3,hlow,hw] at e1
  generalize sm (fun i => (fun k => nd us (j + k)) (n + 1 + i)) r = X at e1 e2
  rw [h1] at e2
  have e4:=Nat.add_left_cancel e2
  have e5:=Nat.eq_of_mul_eq_mul_left (pos_pow j) e4
  have e6:4294967296 ^ (n + 1) * X = 0:=by omega
  rw [e6,Nat.add_zero] at e1
  exact e1
 generalize sm (fun k => nd us (j + k)) (n + 1) = W at *
 have hdm:=Nat.div_add_mod W V
 have hml:=Nat.mod_lt W hV0
 rw [← hQ] at hdm
 generalize hR:W % V = R at *
 have hlj:=sm_lt (f:=nd us) (k:=j) (fun i _ => hu.all i)
 constructor
 ·rw [val_drop_set (by omega), ← hT,h1,h3, ← hdm]
  rw [Nat.pow_succ,Nat.mul_add,Nat.mul_add]
  have e7:V * 4294967296 ^ j * Q = 4294967296 ^ j * (V * Q):=by rw [Nat.mul_comm V,Nat.mul_assoc]
  have e8:V * 4294967296 ^ j * (4294967296 * val (List.drop (j + 1) zs)) = V * (4294967296 ^ j * 4294967296) * val (List.drop (j + 1) zs):=by
   rw [← Nat.mul_assoc,Nat.mul_assoc V]
  omega
 rw [h3]
 have:4294967296 ^ j * (R + 1) ≤ 4294967296 ^ j * V:=Nat.mul_le_mul_left _ hml
 rw [Nat.mul_add,Nat.mul_comm _ V] at this
 omega
def rt:Nat → Nat
  | 0 => 0
  | n + 1 => if (rt n + 1) * (rt n + 1) ≤ n + 1 then rt n + 1 else rt n
theorem rt_spec (n:Nat):rt n * rt n ≤ n ∧ n < (rt n + 1) * (rt n + 1):=by
 induction n with
 | zero => simp [rt]
 | succ n ih =>
  unfold rt
  split
  ·rename_i h
   refine ⟨h,?_⟩
   have e:(rt n + 1 + 1) * (rt n + 1 + 1) = (rt n + 1) * (rt n + 1) + 2 * (rt n + 1) + 1:=by
    generalize rt n + 1 = t
    rw [Nat.add_mul,Nat.mul_add]; omega
   omega
  rename_i h
  exact ⟨by omega,by omega⟩
theorem sq_mono {a b:Nat} (h:a ≤ b):a * a ≤ b * b:=Nat.mul_le_mul h h
theorem sq_lt {a b:Nat} (h:a * a < b * b):a < b:=by
  rcases Nat.lt_or_ge a b with h1 | h1
  · exact h1
  have:=sq_mono h1; omega
theorem two_sq {x s:Nat}:2 * s * x ≤ x * x + s * s:=by
 rcases Nat.le_total s x with h | h
 ·obtain ⟨k,rfl⟩:=Nat.exists_eq_add_of_le h
  have e1:2 * s * (s + k) = 2 * (s * s) + 2 * (s * k):=by rw [Nat.mul_add,Nat.mul_assoc,Nat.mul_assoc]
  have e2:(s + k) * (s + k) = s * s + 2 * (s * k) + k * k:=by
   rw [Nat.add_mul,Nat.mul_add,Nat.mul_add,Nat.mul_comm k s]; omega
  omega
 obtain ⟨k,rfl⟩:=Nat.exists_eq_add_of_le h
 have e1:2 * (x + k) * x = 2 * (x * x) + 2 * (x * k):=by rw [Nat.mul_assoc,Nat.add_mul,Nat.mul_add,Nat.mul_comm k x]
 have e2:(x + k) * (x + k) = x * x + 2 * (x * k) + k * k:=by
  rw [Nat.add_mul,Nat.mul_add,Nat.mul_add,Nat.mul_comm k x]; omega
 omega
theorem newton_ge {N x:Nat} (hx:0 < x):rt N ≤ (x + N / x) / 2:=by
 obtain ⟨h1,_⟩:=rt_spec N
 generalize rt N = s at *
 have h2:=@two_sq x s
 have h3:2 * s ≤ (x * x + N) / x:=by
  rw [Nat.le_div_iff_mul_le hx]; omega
 rw [Nat.mul_add_div hx] at h3
 omega
theorem newton_stop {N x:Nat} (hx:0 < x) (h1:rt N ≤ x) (h2:x ≤ (x + N / x) / 2):x = rt N:=by
  have h3:x ≤ N / x:=by omega
  rw [Nat.le_div_iff_mul_le hx] at h3
  obtain ⟨_,h4⟩:=rt_spec N
  have:=sq_lt (Nat.lt_of_le_of_lt h3 h4)
  omega
theorem rt_start {N b:Nat} (h:N < 2 ^ b):rt N ≤ 2 ^ ((b + 1) / 2):=by
 obtain ⟨h1,_⟩:=rt_spec N
 have h2:2 ^ b ≤ 2 ^ ((b + 1) / 2) * 2 ^ ((b + 1) / 2):=by
  rw [← Nat.pow_add]; exact Nat.pow_le_pow_right (by omega) (by omega)
 have:=sq_lt (Nat.lt_of_lt_of_le (Nat.lt_of_le_of_lt h1 h) h2)
 omega
theorem rt_pos {N:Nat} (h:N ≠ 0):0 < rt N:=by
  obtain ⟨_,h2⟩:=rt_spec N
  rcases Nat.eq_zero_or_pos (rt N) with h0 | h0
  · rw [h0] at h2; omega
  exact h0
theorem ll_mul (a b:Nat):ll (a * b) ≤ ll a + ll b:=by
  apply ll_le
  rw [Nat.pow_add]
  have h1:=lt_ll a
  have h2:=lt_ll b
  rcases Nat.eq_zero_or_pos b with rfl | hb
  · rw [Nat.mul_zero]; exact Nat.mul_pos (pos_pow _) (pos_pow _)
  exact Nat.lt_of_lt_of_le (Nat.mul_lt_mul_of_pos_right h1 hb) (Nat.mul_le_mul_left _ (Nat.le_of_lt h2))
theorem ll_add {a b k:Nat} (ha:ll a ≤ k) (hb:ll b ≤ k):ll (a + b) ≤ k + 1:=by
  apply ll_le
  have h1:=lt_ll a
  have h2:=lt_ll b
  have h3:=pow_le ha
  have h4:=pow_le hb
  rw [Nat.pow_succ]
  omega
theorem ll_two (e:Nat):ll (2 ^ e) = e / 32 + 1:=by
 have hp:=Nat.two_pow_pos (e % 32)
 have e1:2 ^ e = 4294967296 ^ (e / 32) * 2 ^ (e % 32):=by
  rw [pow_two, ← Nat.pow_add]
  congr 1
  omega
 have hp2:2 ^ (e % 32) < 4294967296:=by
  rw [show (4294967296:Nat) = 2 ^ 32 from rfl]; exact Nat.pow_lt_pow_right (by omega) (Nat.mod_lt _ (by omega))
 rw [e1]
 apply ll_eq
 ·rw [Nat.pow_succ]; exact Nat.mul_lt_mul_of_pos_left hp2 (pos_pow _)
 exact Nat.le_mul_of_pos_right _ hp
theorem val_ll {xs:List Nat} (h:Lims xs):ll (val xs) ≤ xs.length:=by rw [← tl_ll h]; exact tl_le _ _
theorem blen_len {xs:List Nat} (h:Lims xs):blen (val xs) ≤ 32 * xs.length:=by
  apply blen_le
  have h1:=val_lt h
  rwa [pow_two] at h1
theorem blen_pos {x:Nat} (h:x ≠ 0):0 < blen x:=by unfold blen; rw [if_neg h]; omega
theorem cmpN_below {a b:Nat} (h:a < b):cmpN a b < 0:=by unfold cmpN; rw [if_pos h]; omega
theorem cmpN_not_below {a b:Nat} (h:b ≤ a):0 ≤ cmpN a b:=by
  unfold cmpN; rw [if_neg (by omega)]
  split <;> omega
end Go.Proofs.YtnlnibngpeempaaGreatDoor
