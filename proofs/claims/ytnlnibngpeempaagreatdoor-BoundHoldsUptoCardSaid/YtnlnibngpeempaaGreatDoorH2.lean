/-
  Contracts and lemmas, joined in one text.
-/
import Derived.Test.YtnlnibngpeempaaGreatDoorH1
import Derived.Test.YtnlnibngpeempaaGreatDoorB1
set_option linter.unusedVariables false
set_option linter.unusedSimpArgs false
/-
  A determinant of linear entries: its coefficients are no greater than those of the product of the rows' sums of sizes.
-/
namespace Go.Proofs.YtnlnibngpeempaaGreatDoor
open Go.RowKit
def sh (c:Nat → Int):Nat → Int
  | 0 => 0
  | k + 1 => c k
def shN (c:Nat → Nat):Nat → Nat
  | 0 => 0
  | k + 1 => c k
def cf:Nat → (Nat → Nat → Int) → (Nat → Nat → Int) → Nat → Int
  | 0,_,_ => fun k => if k = 0 then 1 else 0
  | n + 1,a,b => fun k => su (n + 1) fun i => sg i * (a i 0 * cf n (mnr a i) (mnr b i) k + b i 0 * sh (cf n (mnr a i) (mnr b i)) k)
theorem cf_far:∀ {n:Nat} {a b:Nat → Nat → Int} {k:Nat},n < k → cf n a b k = 0
 | 0,_,_,k,h => if_neg (by omega)
 | n + 1,a,b,k + 1,h => su_zero fun i _ => by
  show sg i * (a i 0 * cf n (mnr a i) (mnr b i) (k + 1) + b i 0 * cf n (mnr a i) (mnr b i) k) = 0
  rw [cf_far (by omega),cf_far (by omega),Int.mul_zero,Int.mul_zero,Int.add_zero,Int.mul_zero]
theorem pv_sh (N:Nat) (c:Nat → Int) (x:Int):pv (N + 1) (sh c) x = x * pv N c x:=by
  rw [pv_head]
  show 0 + x * pv N (fun i => c i) x = _
  rw [Int.zero_add]
theorem pv_su (N n:Nat) (g:Nat → Nat → Int) (x:Int):pv N (fun k => su n fun i => g i k) x = su n fun i => pv N (g i) x:=by
  unfold pv
  rw [← su_swap]
  exact su_congr fun k _ => (su_mulr _ _ _).symm
theorem pv_lin2 (N:Nat) (s p q:Int) (c d:Nat → Int) (x:Int):pv N (fun k => s * (p * c k + q * d k)) x = s * (p * pv N c x + q * pv N d x):=by
  unfold pv
  rw [← su_mul p, ← su_mul q, ← su_add, ← su_mul]
  exact su_congr fun k _ => by grind
theorem cf_val:∀ (n:Nat) (a b:Nat → Nat → Int) (x:Int),pv (n + 1) (cf n a b) x = dt n fun r c => a r c + b r c * x
 | 0,a,b,x => by show 0 + 1 * 1 = 1; rfl
 | n + 1,a,b,x => by
  show pv (n + 2) (fun k => su (n + 1) fun i => sg i * (a i 0 * cf n (mnr a i) (mnr b i) k + b i 0 * sh (cf n (mnr a i) (mnr b i)) k)) x = su (n + 1) fun i => sg i * (a i 0 + b i 0 * x) * dt n (mnr (fun r c => a r c + b r c * x) i)
  rw [pv_su]
  refine su_congr fun i hi => ?_
  rw [pv_lin2,pv_sh,pv_S,cf_far (Nat.lt_succ_self _),Int.zero_mul,Int.add_zero,cf_val n]
  show sg i * (a i 0 * dt n (mnr (fun r c => a r c + b r c * x) i) + b i 0 * (x * dt n (mnr (fun r c => a r c + b r c * x) i))) = _
  grind
def er:Nat → (Nat → Nat) → (Nat → Nat) → Nat → Nat
  | 0,_,_ => fun k => if k = 0 then 1 else 0
  | n + 1, α, β => fun k => α n * er n α β k + β n * shN (er n α β) k
def skp (i:Nat) (f:Nat → Nat):Nat → Nat:=fun r => f (if r < i then r else r + 1)
theorem shN_le {f g:Nat → Nat} (h:∀ k,f k ≤ g k):∀ k,shN f k ≤ shN g k
  | 0 => Nat.le_refl _
  | k + 1 => h k
theorem er_le:∀ {n:Nat} {α β γ δ : Nat → Nat},(∀ r,r < n → α r ≤ γ r) → (∀ r,r < n → β r ≤ δ r) → ∀ k,er n α β k ≤ er n γ δ k
  | 0,_,_,_,_,_,_,_ => Nat.le_refl _
  | n + 1, α, β, γ, δ,h1,h2,k => Nat.add_le_add (Nat.mul_le_mul (h1 n (by omega)) (er_le (fun r hr => h1 r (by omega)) (fun r hr => h2 r (by omega)) k)) (Nat.mul_le_mul (h2 n (by omega)) (shN_le (er_le (fun r hr => h1 r (by omega)) (fun r hr => h2 r (by omega))) k))
theorem er_congr {n:Nat} {α β γ δ : Nat → Nat} (h1:∀ r,r < n → α r = γ r) (h2:∀ r,r < n → β r = δ r) (k:Nat):er n α β k = er n γ δ k :=
  Nat.le_antisymm (er_le (fun r hr => Nat.le_of_eq (h1 r hr)) (fun r hr => Nat.le_of_eq (h2 r hr)) k) (er_le (fun r hr => Nat.le_of_eq (h1 r hr).symm) (fun r hr => Nat.le_of_eq (h2 r hr).symm) k)
theorem sN_le {f g:Nat → Nat}:∀ {n:Nat},(∀ i,i < n → f i ≤ g i) → sN n f ≤ sN n g
 | 0,_ => Nat.le_refl _
 | n + 1,h => by
  have:=sN_le (n:=n) fun i hi => h i (by omega)
  have:=h n (by omega)
  show sN n f + f n ≤ sN n g + g n
  omega
theorem sN_congr {f g:Nat → Nat} {n:Nat} (h:∀ i,i < n → f i = g i):sN n f = sN n g:=Nat.le_antisymm (sN_le fun i hi => Nat.le_of_eq (h i hi)) (sN_le fun i hi => Nat.le_of_eq (h i hi).symm)
theorem sN_add (f g:Nat → Nat):∀ n,sN n (fun i => f i + g i) = sN n f + sN n g
  | 0 => rfl
  | n + 1 => by show sN n _ + (f n + g n) = (sN n f + f n) + (sN n g + g n); rw [sN_add f g n]; omega
theorem sN_mul (c:Nat) (f:Nat → Nat):∀ n,sN n (fun i => c * f i) = c * sN n f
  | 0 => rfl
  | n + 1 => by show sN n _ + _ = c * (sN n f + f n); rw [sN_mul c f n,Nat.mul_add]
theorem sN_zero (n:Nat):sN n (fun _ => 0) = 0:=by
  induction n with
  | zero => rfl
  | succ n ih => show sN n _ + 0 = 0; rw [ih]
theorem er_sum:∀ (n:Nat) (u v α β : Nat → Nat) (k:Nat),sN (n + 1) (fun i => u i * er n (skp i α) (skp i β) k + v i * shN (er n (skp i α) (skp i β)) k) ≤ er (n + 1) (fun r => u r + α r) (fun r => v r + β r) k
 | 0,u,v, α, β,k => by
  have key:∀ X Y:Nat,0 + (u 0 * X + v 0 * Y) ≤ (u 0 + α 0) * X + (v 0 + β 0) * Y:=fun X Y => by rw [Nat.add_mul,Nat.add_mul]; omega
  exact key (er 0 (fun r => u r + α r) (fun r => v r + β r) k) (shN (er 0 (fun r => u r + α r) (fun r => v r + β r)) k)
 | n + 1,u,v, α, β,k => by
  obtain ⟨E,hE⟩:∃ E,E = er (n + 1) (fun r => u r + α r) (fun r => v r + β r):=⟨_,rfl⟩
  have last:∀ k,er (n + 1) (skp (n + 1) α) (skp (n + 1) β) k ≤ E k:=fun k => by
   rw [hE]
   refine er_le (fun r hr => ?_) (fun r hr => ?_) k <;> (unfold skp; rw [if_pos hr]; omega)
  have ih:∀ k,sN (n + 1) (fun i => u i * er n (skp i α) (skp i β) k + v i * shN (er n (skp i α) (skp i β)) k) ≤ E k:=fun k => by rw [hE]; exact er_sum n u v α β k
  have ih2:∀ k,sN (n + 1) (fun i => u i * shN (er n (skp i α) (skp i β)) k + v i * shN (shN (er n (skp i α) (skp i β))) k) ≤ shN E k
   | 0 => by
    show sN (n + 1) (fun i => u i * 0 + v i * 0) ≤ 0
    rw [sN_congr (g:=fun _ => 0) fun i _ => by rw [Nat.mul_zero,Nat.mul_zero],sN_zero]; exact Nat.le_refl _
   | k + 1 => ih k
  have hs:∀ k, ∀ i,i < n + 1 → er (n + 1) (skp i α) (skp i β) k = α (n + 1) * er n (skp i α) (skp i β) k + β (n + 1) * shN (er n (skp i α) (skp i β)) k:=fun k i hi => by
   show skp i α n * _ + skp i β n * _ = _
   unfold skp; rw [if_neg (by omega)]
  have hsh:∀ k, ∀ i,i < n + 1 → shN (er (n + 1) (skp i α) (skp i β)) k = α (n + 1) * shN (er n (skp i α) (skp i β)) k + β (n + 1) * shN (shN (er n (skp i α) (skp i β))) k
   | 0,i,hi => by show 0 = α (n + 1) * 0 + β (n + 1) * 0; rw [Nat.mul_zero,Nat.mul_zero]
   | k + 1,i,hi => hs k i hi
  show sN (n + 1) _ + (u (n + 1) * er (n + 1) (skp (n + 1) α) (skp (n + 1) β) k + v (n + 1) * shN (er (n + 1) (skp (n + 1) α) (skp (n + 1) β)) k) ≤ (u (n + 1) + α (n + 1)) * er (n + 1) _ _ k + (v (n + 1) + β (n + 1)) * shN (er (n + 1) _ _) k
  rw [← hE]
  have e1:sN (n + 1) (fun i => u i * er (n + 1) (skp i α) (skp i β) k + v i * shN (er (n + 1) (skp i α) (skp i β)) k) = α (n + 1) * sN (n + 1) (fun i => u i * er n (skp i α) (skp i β) k + v i * shN (er n (skp i α) (skp i β)) k) + β (n + 1) * sN (n + 1) (fun i => u i * shN (er n (skp i α) (skp i β)) k + v i * shN (shN (er n (skp i α) (skp i β))) k):=by
   rw [← sN_mul, ← sN_mul, ← sN_add]
   refine sN_congr fun i hi => ?_
   rw [hs k i hi,hsh k i hi]
   grind
  rw [e1]
  have h1:=Nat.mul_le_mul_left (α (n + 1)) (ih k)
  have h2:=Nat.mul_le_mul_left (β (n + 1)) (ih2 k)
  have h3:=Nat.mul_le_mul_left (u (n + 1)) (last k)
  have h4:=Nat.mul_le_mul_left (v (n + 1)) (shN_le last k)
  rw [Nat.add_mul,Nat.add_mul]
  omega
def ras (n:Nat) (a:Nat → Nat → Int) (r:Nat):Nat:=sN n fun c => (a r c).natAbs
theorem su_abs {f:Nat → Int} {g:Nat → Nat}:∀ {n:Nat},(∀ i,i < n → (f i).natAbs ≤ g i) → (su n f).natAbs ≤ sN n g
 | 0,_ => Nat.le_refl _
 | n + 1,h => by
  have h1:=su_abs (n:=n) fun i hi => h i (by omega)
  have h2:=h n (by omega)
  show (su n f + f n).natAbs ≤ sN n g + g n
  omega
theorem sg_abs:∀ i,(sg i).natAbs = 1
  | 0 => rfl
  | i + 1 => by show (-sg i).natAbs = 1; rw [Int.natAbs_neg,sg_abs i]
theorem sN_head (f:Nat → Nat) (n:Nat):sN (n + 1) f = f 0 + sN n fun i => f (i + 1):=by
  induction n with
  | zero => show 0 + f 0 = f 0 + 0; omega
  | succ n ih => show sN (n + 1) f + f (n + 1) = f 0 + (sN n _ + f (n + 1)); rw [ih]; omega
theorem sh_abs {c:Nat → Int} {g:Nat → Nat} (h:∀ k,(c k).natAbs ≤ g k):∀ k,(sh c k).natAbs ≤ shN g k
  | 0 => Nat.le_refl _
  | k + 1 => h k
theorem cf_le:∀ (n:Nat) (a b:Nat → Nat → Int) (k:Nat),(cf n a b k).natAbs ≤ er n (ras n a) (ras n b) k
 | 0,a,b,k => by
  show (if k = 0 then (1:Int) else 0).natAbs ≤ if k = 0 then 1 else 0
  split <;> simp
 | n + 1,a,b,k => by
  have hr:∀ (a:Nat → Nat → Int) (i:Nat),ras n (mnr a i) = skp i (fun r => sN n fun c => (a r (c + 1)).natAbs):=fun a i => rfl
  refine Nat.le_trans (su_abs (g:=fun i => (a i 0).natAbs * er n (skp i fun r => sN n fun c => (a r (c + 1)).natAbs) (skp i fun r => sN n fun c => (b r (c + 1)).natAbs) k + (b i 0).natAbs * shN (er n (skp i fun r => sN n fun c => (a r (c + 1)).natAbs) (skp i fun r => sN n fun c => (b r (c + 1)).natAbs)) k) fun i hi => ?_) ?_
  ·have h1:=cf_le n (mnr a i) (mnr b i)
   rw [hr,hr] at h1
   have h2:=Nat.mul_le_mul_left (a i 0).natAbs (h1 k)
   have h3:=Nat.mul_le_mul_left (b i 0).natAbs (sh_abs h1 k)
   rw [Int.natAbs_mul,sg_abs,Nat.one_mul]
   refine Nat.le_trans (Int.natAbs_add_le _ _) ?_
   rw [Int.natAbs_mul,Int.natAbs_mul]
   omega
  refine Nat.le_trans (er_sum n (fun i => (a i 0).natAbs) (fun i => (b i 0).natAbs) _ _ k) (Nat.le_of_eq (er_congr (fun r hr => (sN_head (fun c => (a r c).natAbs) n).symm) (fun r hr => (sN_head (fun c => (b r c).natAbs) n).symm) k))
open Go.RowKit
def pB (n:Nat) (f:Nat → Nat):Nat:=match n with
  | 0 => 1
  | n + 1 => pB n f * (f n + 1)
theorem pB_pos (f:Nat → Nat):∀ n,0 < pB n f
  | 0 => Nat.lt_succ_self 0
  | n + 1 => Nat.mul_pos (pB_pos f n) (by omega)
theorem er_pB {α β f:Nat → Nat}:∀ {n:Nat},(∀ r,r < n → α r + β r ≤ f r + 1) → ∀ k,er n α β k ≤ pB n f
 | 0,_,k => by show (if k = 0 then 1 else 0) ≤ 1; split <;> omega
 | n + 1,h,k => by
  have h1:=er_pB (n:=n) (α := α) (β := β) (f:=f) (fun r hr => h r (by omega))
  have h2:shN (er n α β) k ≤ pB n f:=match k with
   | 0 => Nat.zero_le _
   | k + 1 => h1 k
  show α n * er n α β k + β n * shN (er n α β) k ≤ pB n f * (f n + 1)
  have h3:=Nat.mul_le_mul_left (α n) (h1 k)
  have h4:=Nat.mul_le_mul_left (β n) h2
  have h5:=Nat.mul_le_mul_right (pB n f) (h n (by omega))
  rw [Nat.add_mul] at h5
  rw [Nat.mul_comm (pB n f)]
  omega
theorem er_far {α β : Nat → Nat}:∀ {n k:Nat},n < k → er n α β k = 0
 | 0,k,h => if_neg (by omega)
 | n + 1,k + 1,h => by
  show α n * er n α β (k + 1) + β n * er n α β k = 0
  rw [er_far (by omega),er_far (by omega),Nat.mul_zero,Nat.mul_zero]
theorem er_esym {s:Nat → Nat} {l:List Int}:∀ {n k:Nat},(∀ r,r < n → l.getD r 0 = (s r:Int)) → k ≤ n → ((er n s (fun _ => 1) k:Nat):Int) = esym l n (n - k)
  | 0, k, _, hk => by obtain rfl : k = 0 := by omega
                      rfl
  | n + 1,k,h,hk => by
    have ih:=fun k => er_esym (s:=s) (l:=l) (n:=n) (k:=k) (fun r hr => h r (by omega))
    show ((s n * er n s (fun _ => 1) k + 1 * shN (er n s fun _ => 1) k:Nat):Int) = esym l (n + 1) (n + 1 - k)
    match k,hk with
    | 0,_ =>
      show ((s n * er n s (fun _ => 1) 0 + 1 * 0:Nat):Int) = _
      rw [Nat.sub_zero,esym_next,esym_far _ _ (Nat.lt_succ_self n),h n (by omega),Nat.mul_zero,Nat.add_zero,Int.natCast_mul,ih 0 (by omega),Nat.sub_zero,Int.zero_add,Int.mul_comm]
    | k + 1,hk =>
      show ((s n * er n s (fun _ => 1) (k + 1) + 1 * er n s (fun _ => 1) k:Nat):Int) = _
      rw [show n + 1 - (k + 1) = n - k by omega,Nat.one_mul,Int.natCast_add,Int.natCast_mul,ih k (by omega)]
      by_cases e:k = n
      · subst e
        rw [er_far (Nat.lt_succ_self _),Nat.sub_self,esym_zero,esym_zero]; rfl
      obtain ⟨j,hj⟩:∃ j,n - k = j + 1:=⟨n - k - 1,by omega⟩
      rw [hj,esym_next,ih (k + 1) (by omega),show n - (k + 1) = j by omega,h n (by omega),Int.add_comm,Int.mul_comm]
theorem ras_dl {n r:Nat} (h:r < n):ras n dl r = 1:=by
 unfold ras
 have:∀ m,sN m (fun c => (dl r c).natAbs) = if r < m then 1 else 0:=fun m => by
  induction m with
  | zero => rfl
  | succ m ih =>
   show sN m _ + (dl r m).natAbs = _
   rw [ih]
   unfold dl
   by_cases e:r = m
   ·subst e; rw [if_neg (by omega),if_pos rfl,if_pos (by omega)]; rfl
   rw [if_neg e]
   by_cases h2:r < m
   ·rw [if_pos h2,if_pos (by omega)]; rfl
   rw [if_neg h2,if_neg (by omega)]; rfl
 rw [this,if_pos h]
theorem ras_neg (n:Nat) (N:Nat → Nat → Int) (r:Nat):ras n (fun r c => -N r c) r = ras n N r:=sN_congr fun c _ => Int.natAbs_neg _
theorem xN_is (N:Nat → Nat → Int) (x:Int):xN N x = fun r c => -N r c + dl r c * x:=by
  funext r c
  unfold xN dl
  by_cases e:r = c
  · rw [if_pos e,if_pos e]; show x - N r c = -N r c + 1 * x; omega
  rw [if_neg e,if_neg e]; show 0 - N r c = -N r c + 0 * x; omega
theorem lev_d {n:Nat} {N:Nat → Nat → Int} {d:Nat → Int} {b:Nat → Nat → Nat → Int} (h:Lev n N d b) {k:Nat} (hk:k ≤ n):(d k).natAbs ≤ er n (ras n N) (fun _ => 1) k:=by
  have h1:d k = cf n (fun r c => -N r c) dl k:=pv_inj (N:=n + 1) (fun x => by rw [← h.val,xN_is,cf_val]) k (by omega)
  rw [h1]
  exact Nat.le_trans (cf_le n _ _ k) (er_le (fun r _ => Nat.le_of_eq (ras_neg n N r)) (fun r hr => Nat.le_of_eq (ras_dl hr)) k)
theorem lev_coef {n:Nat} {N:Nat → Nat → Int} {d:Nat → Int} {b:Nat → Nat → Nat → Int} (h:Lev n N d b) {l:List Int} (hl:∀ r,r < n → l.getD r 0 = (ras n N r:Int)) {k:Nat} (hk:k ≤ n):((d (n - k)).natAbs:Int) ≤ esym l n k:=by
  have h1:=lev_d h (show n - k ≤ n by omega)
  have h2:=er_esym hl (show n - k ≤ n by omega)
  rw [show n - (n - k) = k by omega] at h2
  omega
theorem lev_dB {n:Nat} {N:Nat → Nat → Int} {d:Nat → Int} {b:Nat → Nat → Nat → Int} (h:Lev n N d b) {k:Nat} (hk:k ≤ n):(d k).natAbs ≤ pB n (ras n N) :=
  Nat.le_trans (lev_d h hk) (er_pB (fun _ _ => Nat.le_refl _) k)
theorem lev_bB {n:Nat} {N:Nat → Nat → Int} {b:Nat → Nat → Nat → Int} (h:∀ r c,c < n → ∀ x,adj n (xN N x) r c = pv n (fun l => b (n - 1 - l) r c) x) {m r c:Nat} (hm:m < n) (hr:r < n) (hc:c < n):(b m r c).natAbs ≤ pB n (ras n N):=by
 have h1:∀ x,adj n (xN N x) r c = dt n fun r' c' => up (fun r c => -N r c) c (dl r) r' c' + up dl c (fun _ => 0) r' c' * x:=fun x => by
  unfold adj
  refine dt_congr fun r' c' _ _ => ?_
  by_cases e:r' = c
  ·subst e; rw [up_at,up_at,up_at]; omega
  rw [up_ne e,up_ne e,up_ne e,xN_is]
 have h2:∀ l,l < n → b (n - 1 - l) r c = cf n (up (fun r c => -N r c) c (dl r)) (up dl c fun _ => 0) l:=fun l hl => by
  have h3:=pv_inj (N:=n + 1) (c:=fun i => if i < n then b (n - 1 - i) r c else 0) (d:=cf n (up (fun r c => -N r c) c (dl r)) (up dl c fun _ => 0)) (fun x => by rw [cf_val, ← h1,h r c hc x,pv_more (Nat.le_succ n)]) l (by omega)
  rw [← h3,if_pos hl]
 have h4:=h2 (n - 1 - m) (by omega)
 rw [show n - 1 - (n - 1 - m) = m by omega] at h4
 rw [h4]
 refine Nat.le_trans (cf_le n _ _ _) (er_pB (fun r' hr' => ?_) _)
 by_cases e:r' = c
 ·subst e
  have e1:ras n (up (fun r c => -N r c) r' (dl r)) r' = 1:=by
   have:=ras_dl hr
   unfold ras at this ⊢
   rw [up_at]; exact this
  have e2:ras n (up dl r' fun _ => 0) r' = 0:=by
   unfold ras; rw [up_at]; exact sN_zero n
  rw [e1,e2]; omega
 have e1:ras n (up (fun r c => -N r c) c (dl r)) r' = ras n N r':=by
  have:=ras_neg n N r'
  unfold ras at this ⊢
  rw [up_ne e]; exact this
 have e2:ras n (up dl c fun _ => 0) r' = 1:=by
  have:=ras_dl hr'
  unfold ras at this ⊢
  rw [up_ne e]; exact this
 rw [e1,e2]; exact Nat.le_refl _
open Go.RowKit
theorem tr_tr (i k x:Nat):tr i k (tr i k x) = x:=by unfold tr; grind
theorem dt_swR {n i k:Nat} (hi:i < n) (hk:k < n) (hne:i ≠ k) (B:Nat → Nat → Int):dt n (fun r c => B (tr i k r) c) = -dt n B:=by
 rw [← dt_swap hi hk hne]
 refine dt_congr fun r c _ _ => ?_
 unfold tr
 by_cases e:r = k
 ·subst e; rw [if_neg (fun h => hne h.symm),if_pos rfl,up_at]
 rw [up_ne e]
 by_cases e2:r = i
 ·subst e2; rw [if_pos rfl,up_at]
 rw [if_neg e2,if_neg e,up_ne e2]
theorem dt_swC {n i k:Nat} (hi:i < n) (hk:k < n) (hne:i ≠ k) (A:Nat → Nat → Int):dt n (fun r c => A r (tr i k c)) = -dt n A:=by
  rw [← dt_tp n A, ← dt_swR hi hk hne (tp A), ← dt_tp]; rfl
theorem dt_rows {n:Nat}:∀ (d m:Nat) (f:Nat → Nat) (B:Nat → Nat → Int),m + d = n → (∀ r,r < n → f r < n) → (∀ r,r < m → f r = r) → dt n (fun r c => B (f r) c) = dt n (fun r c => dl (f r) c) * dt n B
 | 0,m,f,B,hm,hf,hfix => by
  rw [dt_congr (B:=B) fun r c hr _ => by rw [hfix r (by omega)],dt_congr (A:=fun r c => dl (f r) c) (B:=dl) fun r c hr _ => by rw [hfix r (by omega)],show dt n dl = 1 from dt_id n,Int.one_mul]
 | d + 1,m,f,B,hm,hf,hfix => by
  have hmn:m < n:=by omega
  have ha:=hf m hmn
  rcases Nat.lt_trichotomy (f m) m with h | h | h
  ·have e:=hfix (f m) h
   rw [dt_same ha hmn (by omega) (A:=fun r c => B (f r) c) (by funext c; show B (f (f m)) c = B (f m) c; rw [e]),dt_same ha hmn (by omega) (A:=fun r c => dl (f r) c) (by funext c; show dl (f (f m)) c = dl (f m) c; rw [e]),Int.zero_mul]
  ·exact dt_rows d (m + 1) f B (by omega) hf fun r hr => by
    rcases Nat.lt_or_ge r m with h2 | h2
    ·exact hfix r h2
    obtain rfl:r = m:=by omega
    exact h
  have hne:m ≠ f m:=by omega
  have ih:=dt_rows d (m + 1) (fun r => tr m (f m) (f r)) (fun r => B (tr m (f m) r)) (by omega) (fun r hr => tr_lt hmn ha (hf r hr)) fun r hr => by
   show tr m (f m) (f r) = r
   unfold tr
   rcases Nat.lt_or_ge r m with h2 | h2
   ·rw [hfix r h2,if_neg (by omega),if_neg (by omega)]
   obtain rfl:r = m:=by omega
   rw [if_neg (by omega),if_pos rfl]
  have e1:dt n (fun r c => B (f r) c) = dt n (fun r c => (fun r => B (tr m (f m) r)) ((fun r => tr m (f m) (f r)) r) c):=dt_congr fun r c _ _ => by
   show B (f r) c = B (tr m (f m) (tr m (f m) (f r))) c
   rw [tr_tr]
  have e2:dt n (fun r c => dl ((fun r => tr m (f m) (f r)) r) c) = -dt n (fun r c => dl (f r) c):=by
   rw [← dt_swC hmn ha hne]
   refine dt_congr fun r c _ _ => ?_
   show dl (tr m (f m) (f r)) c = dl (f r) (tr m (f m) c)
   unfold dl
   by_cases e:tr m (f m) (f r) = c
   ·rw [if_pos e,if_pos (by rw [← e,tr_tr])]
   rw [if_neg e,if_neg (fun h => e (by rw [h,tr_tr]))]
  rw [e1,ih,e2,show dt n (fun r => B (tr m (f m) r)) = -dt n B from dt_swR hmn ha hne B]
  grind
theorem dt_rowsum {n j m:Nat} (hj:j < n) (M:Nat → Nat → Int) (u:Nat → Int) (B:Nat → Nat → Int):dt n (up M j fun c => su m fun i => u i * B i c) = su m fun i => u i * dt n (up M j (B i)):=by
  rw [dt_expand hj,su_congr (g:=fun i => su m fun l => u l * B l i * adj n M i j) fun i _ => (su_mulr _ _ _).symm,su_swap]
  refine su_congr fun l _ => ?_
  rw [dt_expand hj, ← su_mul]
  exact su_congr fun i _ => Int.mul_assoc ..
theorem dt_mm0 {n:Nat} {B:Nat → Nat → Int}:∀ (j:Nat) (A:Nat → Nat → Int) (f:Nat → Nat),(∀ r,j ≤ r → r < n → f r < n ∧ ∀ c,A r c = dl (f r) c) → j ≤ n → dt n (mm n A B) = dt n A * dt n B
 | 0,A,f,h,_ => by
  have e1:dt n (mm n A B) = dt n (fun r c => B (f r) c):=dt_congr fun r c hr _ => by
   show su n (fun k => A r k * B k c) = _
   rw [su_congr (g:=fun k => dl (f r) k * B k c) fun k _ => by rw [(h r (Nat.zero_le _) hr).2],su_dl2 (h r (Nat.zero_le _) hr).1]
  rw [e1,dt_rows n 0 f B (by omega) (fun r hr => (h r (Nat.zero_le _) hr).1) (fun r hr => by omega)]
  congr 1
  exact dt_congr fun r c hr _ => ((h r (Nat.zero_le _) hr).2 c).symm
 | j + 1,A,f,h,hj => by
  have e1:mm n A B = up (mm n A B) j fun c => su n fun i => A j i * B i c:=by
   funext r c
   by_cases e:r = j
   ·subst e; rw [up_at]; rfl
   rw [up_ne e]
  have e2:∀ i,i < n → dt n (up (mm n A B) j (B i)) = dt n (up A j (dl i)) * dt n B:=fun i hi => by
   have ih:=dt_mm0 (B:=B) j (up A j (dl i)) (fun r => if r = j then i else f r) (fun r hr hrn => by
    by_cases e:r = j
    ·subst e; rw [if_pos rfl,up_at]; exact ⟨hi,fun _ => rfl⟩
    rw [if_neg e,up_ne e]; exact h r (by omega) hrn) (by omega)
   rw [← ih]
   refine dt_congr fun r c _ _ => ?_
   show up (mm n A B) j (B i) r c = su n fun k => up A j (dl i) r k * B k c
   by_cases e:r = j
   ·subst e; rw [up_at,up_at,su_dl2 hi]
   rw [up_ne e,up_ne e]; rfl
  rw [e1,dt_rowsum (by omega),su_congr (g:=fun i => A j i * adj n A i j * dt n B) fun i hi => by rw [e2 i hi,Int.mul_assoc]; rfl,su_mulr, ← dt_expand (by omega) (A j),up_self]
theorem dt_mm {n:Nat} (A B:Nat → Nat → Int):dt n (mm n A B) = dt n A * dt n B:=dt_mm0 n A (fun r => r) (fun r h1 h2 => by omega) (Nat.le_refl _)
def dot (n:Nat) (u v:Nat → Int):Int:=su n fun c => u c * v c
theorem dot_comm (n:Nat) (u v:Nat → Int):dot n u v = dot n v u:=su_congr fun c _ => Int.mul_comm ..
theorem dot_lin (n:Nat) (a b:Int) (u v w:Nat → Int):dot n (fun c => a * u c + b * v c) w = a * dot n u w + b * dot n v w:=by
  unfold dot
  rw [← su_mul, ← su_mul, ← su_add]
  exact su_congr fun c _ => by grind
theorem su_nn {f:Nat → Int}:∀ {n:Nat},(∀ i,i < n → 0 ≤ f i) → 0 ≤ su n f
 | 0,_ => Int.le_refl _
 | n + 1,h => by
  have:=su_nn (n:=n) fun i hi => h i (by omega)
  have:=h n (by omega)
  show 0 ≤ su n f + f n
  omega
theorem sq_nn (x:Int):0 ≤ x * x:=by
 rcases Int.le_total 0 x with h | h
 ·exact Int.mul_nonneg h h
 have:=Int.mul_nonneg (a := -x) (b := -x) (by omega) (by omega)
 rwa [Int.neg_mul_neg] at this
theorem dot_nn (n:Nat) (u:Nat → Int):0 ≤ dot n u u:=su_nn fun c _ => sq_nn _
theorem dot_zero {n:Nat} {u:Nat → Int} (h:dot n u u = 0):∀ c,c < n → u c = 0:=by
 induction n with
 | zero => intro c hc; omega
 | succ n ih =>
  have h1:dot n u u + u n * u n = 0:=h
  have h2:=dot_nn n u
  have h3:=sq_nn (u n)
  intro c hc
  by_cases e:c = n
  ·subst e
   have:u c * u c = 0:=by omega
   rcases Int.mul_eq_zero.1 this with h | h <;> exact h
  exact ih (by omega) c (by omega)
theorem orth1 {n m:Nat} {M V:Nat → Nat → Int} (hm:m < n) (hV:∀ r,r < m → M r = V r) (hne:∀ k,k < m → dot n (V k) (V k) ≠ 0) (ho:∀ k l,k < m → l < m → k ≠ l → dot n (V k) (V l) = 0):∀ j,j ≤ m → ∃ (w:Nat → Int) (q:Int),q ≠ 0 ∧ (∀ i,i < j → dot n w (V i) = 0) ∧ dot n w w ≤ q * q * dot n (M m) (M m) ∧ dt n (up M m w) = q * dt n M
 | 0,_ => ⟨M m,1,by decide,(fun i hi => by omega),by omega,by rw [up_self,Int.one_mul]⟩
 | j + 1,hj => by
  obtain ⟨w,q,hq,h1,h2,h3⟩:=orth1 hm hV hne ho j (by omega)
  have hn0:=hne j (by omega)
  have hnn:=dot_nn n (V j)
  obtain ⟨N,hN⟩:∃ N,dot n (V j) (V j) = N:=⟨_,rfl⟩
  obtain ⟨s,hs⟩:∃ s,dot n w (V j) = s:=⟨_,rfl⟩
  obtain ⟨W,hW⟩:∃ W,dot n w w = W:=⟨_,rfl⟩
  obtain ⟨R,hR⟩:∃ R,dot n (M m) (M m) = R:=⟨_,rfl⟩
  rw [hN] at hn0 hnn
  refine ⟨fun c => N * w c + (-s) * V j c,N * q,fun h => (Int.mul_eq_zero.1 h).elim hn0 hq,fun i hi => ?_,?_,?_⟩
  ·rw [dot_lin]
   rcases Nat.lt_or_ge i j with h | h
   ·rw [h1 i h,ho j i (by omega) (by omega) (by omega)]; omega
   obtain rfl:i = j:=by omega
   rw [hs,hN]; grind
  ·rw [dot_lin,dot_comm n w,dot_comm n (V j),dot_lin,dot_lin,hW,dot_comm n (V j) w,hs,hN,hR]
   rw [hW,hR] at h2
   have e1:N * (N * W + -s * s) + -s * (N * s + -s * N) = N * N * W - N * (s * s):=by grind
   have e2:N * q * (N * q) * R = N * N * (q * q * R):=by grind
   rw [e1,e2]
   have h4:=Int.mul_le_mul_of_nonneg_left h2 (sq_nn N)
   have h5:=Int.mul_nonneg hnn (sq_nn s)
   omega
  rw [dt_lin hm,h3,dt_same (i:=m) (j:=j) hm (by omega) (by omega) (A:=up M m (V j)) (by rw [up_at,up_ne (by omega),hV j (by omega)]),Int.mul_zero,Int.add_zero,Int.mul_assoc]
def prI:Nat → (Nat → Int) → Int
  | 0,_ => 1
  | n + 1,g => prI n g * g n
theorem prI_congr {f g:Nat → Int}:∀ {n:Nat},(∀ i,i < n → f i = g i) → prI n f = prI n g
  | 0,_ => rfl
  | n + 1,h => by show prI n f * f n = prI n g * g n; rw [prI_congr fun i hi => h i (by omega),h n (by omega)]
theorem orthN {n:Nat} (M:Nat → Nat → Int) (hD:dt n M ≠ 0):∀ m,m ≤ n → ∃ (V:Nat → Nat → Int) (q:Nat → Int),(∀ k,k < m → q k ≠ 0 ∧ dot n (V k) (V k) ≠ 0 ∧ dot n (V k) (V k) ≤ q k * q k * dot n (M k) (M k)) ∧ (∀ k l,k < m → l < m → k ≠ l → dot n (V k) (V l) = 0) ∧ (∀ r,m ≤ r → V r = M r) ∧ dt n V = prI m q * dt n M
 | 0,_ => ⟨M,fun _ => 1,(fun k hk => by omega),(fun k l hk => by omega),(fun _ _ => rfl),by show _ = 1 * _; rw [Int.one_mul]⟩
 | m + 1,hm => by
  obtain ⟨V,q,h1,h2,h3,h4⟩:=orthN M hD m (by omega)
  obtain ⟨w,s,g1,g2,g3,g4⟩:=orth1 (n:=n) (m:=m) (M:=V) (V:=V) (by omega) (fun _ _ => rfl) (fun k hk => (h1 k hk).2.1) h2 m (Nat.le_refl _)
  have hq:∀ k,k ≤ m → prI k q ≠ 0:=fun k => by
   induction k with
   | zero => intro _; exact (by decide:(1:Int) ≠ 0)
   | succ k ih => intro hk h; exact (Int.mul_eq_zero.1 h).elim (ih (by omega)) (h1 k (by omega)).1
  have hw:dot n w w ≠ 0:=fun h => by
   have h5:dt n (up V m w) = 0:=dt_zero (k:=m) (by omega) fun c hc => by rw [up_at]; exact dot_zero h c hc
   rw [g4,h4] at h5
   rcases Int.mul_eq_zero.1 h5 with h | h
   ·exact g1 h
   exact (Int.mul_eq_zero.1 h).elim (hq m (Nat.le_refl _)) hD
  refine ⟨up V m w,fun k => if k = m then s else q k,fun k hk => ?_,fun k l hk hl hne => ?_,fun r hr => ?_,?_⟩
  ·dsimp only
   by_cases e:k = m
   ·subst e; rw [if_pos rfl,up_at]; rw [h3 k (Nat.le_refl _)] at g3; exact ⟨g1,hw,g3⟩
   rw [if_neg e,up_ne e]; exact h1 k (by omega)
  ·by_cases e:k = m
   ·subst e; rw [up_at,up_ne (fun h => hne h.symm)]; exact g2 l (by omega)
   by_cases e2:l = m
   ·subst e2; rw [up_at,up_ne e,dot_comm]; exact g2 k (by omega)
   rw [up_ne e,up_ne e2]; exact h2 k l (by omega) (by omega) hne
  ·rw [up_ne (by omega)]; exact h3 r (by omega)
  rw [g4,h4]
  show _ = prI m (fun k => if k = m then s else q k) * (if m = m then s else q m) * _
  rw [if_pos rfl,prI_congr (g:=q) fun i hi => if_neg (by omega)]
  grind
theorem dt_diag:∀ {n:Nat} {g:Nat → Int} {A:Nat → Nat → Int},(∀ r c,r < n → c < n → A r c = if r = c then g r else 0) → dt n A = prI n g:=by
 intro n g A h
 -- row by row
 have go:∀ m,m ≤ n → dt n (fun r c => if r < m then A r c else dl r c) = prI m g:=fun m => by
  induction m with
  | zero => intro _; refine Eq.trans ?_ (dt_id n); exact dt_congr fun r c _ _ => by rw [if_neg (by omega)]; rfl
  | succ m ih =>
   intro hm
   have h1:=dt_scale (n:=n) (k:=m) (A:=fun r c => if r < m then A r c else dl r c) (u:=dl m) (g m) (by omega)
   have e1:dt n (up (fun r c => if r < m then A r c else dl r c) m (dl m)) = dt n (fun r c => if r < m then A r c else dl r c):=dt_congr fun r c _ _ => by
    by_cases e:r = m
    ·subst e; rw [up_at,if_neg (by omega)]
    rw [up_ne e]
   rw [e1,ih (by omega)] at h1
   show _ = prI m g * g m
   rw [Int.mul_comm, ← h1]
   refine dt_congr fun r c hr hc => ?_
   by_cases e:r = m
   ·subst e; rw [up_at,if_pos (by omega),h r c hr hc]
    unfold dl
    by_cases e2:r = c
    ·rw [if_pos e2,if_pos e2]; show g r = g r * 1; omega
    rw [if_neg e2,if_neg e2]; show (0:Int) = g r * 0; omega
   rw [up_ne e]
   by_cases e2:r < m
   ·rw [if_pos e2,if_pos (by omega)]
   rw [if_neg e2,if_neg (by omega)]
 rw [← go n (Nat.le_refl _)]
 exact dt_congr fun r c hr _ => by rw [if_pos hr]
theorem prI_mul (f g:Nat → Int):∀ n,prI n (fun i => f i * g i) = prI n f * prI n g
  | 0 => rfl
  | n + 1 => by show prI n _ * _ = prI n f * f n * (prI n g * g n); rw [prI_mul f g n]; grind
theorem prI_nn {f:Nat → Int}:∀ {n:Nat},(∀ i,i < n → 0 ≤ f i) → 0 ≤ prI n f
  | 0,_ => (by decide:(0:Int) ≤ 1)
  | n + 1,h => Int.mul_nonneg (prI_nn fun i hi => h i (by omega)) (h n (by omega))
theorem prI_le {f g:Nat → Int}:∀ {n:Nat},(∀ i,i < n → 0 ≤ f i ∧ f i ≤ g i) → prI n f ≤ prI n g
  | 0,_ => Int.le_refl _
  | n + 1,h => Int.mul_le_mul (prI_le fun i hi => h i (by omega)) (h n (by omega)).2 (h n (by omega)).1 (prI_nn fun i hi => Int.le_trans (h i (by omega)).1 (h i (by omega)).2)
theorem hadamard {n:Nat} (M:Nat → Nat → Int):dt n M * dt n M ≤ prI n fun k => dot n (M k) (M k):=by
 by_cases hD:dt n M = 0
 ·rw [hD]; exact prI_nn fun i _ => dot_nn n _
 obtain ⟨V,q,h1,h2,_,h4⟩:=orthN M hD n (Nat.le_refl _)
 have e1:dt n V * dt n V = prI n fun k => dot n (V k) (V k):=by
  have h5:=dt_mm (n:=n) V (tp V)
  rw [dt_tp] at h5
  rw [← h5]
  refine dt_diag fun r c hr hc => ?_
  show dot n (V r) (V c) = _
  by_cases e:r = c
  ·subst e; rw [if_pos rfl]
  rw [if_neg e]; exact h2 r c hr hc e
 have h6:(prI n fun k => dot n (V k) (V k)) ≤ prI n fun k => q k * q k * dot n (M k) (M k):=prI_le fun i hi => ⟨dot_nn n _,(h1 i hi).2.2⟩
 rw [← e1,h4,prI_mul,prI_mul] at h6
 obtain ⟨Q,hQ⟩:∃ Q,prI n q = Q:=⟨_,rfl⟩
 have hq0:Q ≠ 0:=fun h => by
  rw [← hQ] at h
  have:∀ k,k ≤ n → prI k q ≠ 0:=fun k => by
   induction k with
   | zero => intro _; exact (by decide:(1:Int) ≠ 0)
   | succ k ih => intro hk h; exact (Int.mul_eq_zero.1 h).elim (ih (by omega)) (h1 k (by omega)).1
  exact this n (Nat.le_refl _) h
 rw [hQ] at h6
 have hQQ:0 < Q * Q:=by
  have:=sq_nn Q
  have:Q * Q ≠ 0:=fun h => (Int.mul_eq_zero.1 h).elim hq0 hq0
  omega
 refine Int.le_of_mul_le_mul_left (a:=Q * Q) ?_ hQQ
 rw [show Q * Q * (dt n M * dt n M) = Q * dt n M * (Q * dt n M) by grind]
 exact h6
open Go.RowKit
theorem dt_last:∀ {c:Nat} {A:Nat → Nat → Int},(∀ s,s < c → A c s = 0) → dt (c + 1) A = dt c A * A c c
 | 0,A,_ => by show 0 + 1 * A 0 0 * 1 = 1 * A 0 0; omega
 | c + 1,A,h => by
  have hm:∀ i,i < c + 1 → dt (c + 1) (mnr A i) = dt c (mnr A i) * A (c + 1) (c + 1):=fun i hi => by
   have h1:=dt_last (c:=c) (A:=mnr A i) fun s hs => by
    show A (if c < i then c else c + 1) (s + 1) = 0
    rw [if_neg (by omega)]; exact h (s + 1) (by omega)
   rw [h1]
   congr 1
   show A (if c < i then c else c + 1) (c + 1) = _
   rw [if_neg (by omega)]
  show su (c + 1) (fun i => sg i * A i 0 * dt (c + 1) (mnr A i)) + sg (c + 1) * A (c + 1) 0 * dt (c + 1) (mnr A (c + 1)) = su (c + 1) (fun i => sg i * A i 0 * dt c (mnr A i)) * A (c + 1) (c + 1)
  rw [h 0 (by omega),Int.mul_zero,Int.zero_mul,Int.add_zero, ← su_mulr]
  exact su_congr fun i hi => by
   rw [hm i hi]
   generalize dt c (mnr A i) = X
   grind
theorem dt_comb {n k:Nat} {A:Nat → Nat → Int} (hk:k < n) (D:Int) (u:Nat → Int) (κ : Nat → Int) (R:Nat → Nat):∀ m,(∀ r,r < m → R r < n ∧ R r ≠ k) → dt n (up A k fun c => D * u c + su m fun r => κ r * A (R r) c) = D * dt n (up A k u)
 | 0,_ => by
  rw [← dt_scale D hk]
  exact dt_congr fun r c _ _ => by
   by_cases e:r = k
   ·subst e; rw [up_at,up_at]; show _ + 0 = _; omega
   rw [up_ne e,up_ne e]
 | m + 1,h => by
  have ih:=dt_comb (A:=A) hk D u κ R m fun r hr => h r (by omega)
  obtain ⟨h1,h2⟩:=h m (by omega)
  have h3:=dt_lin (a:=1) (b := κ m) (A:=A) (u:=fun c => D * u c + su m fun r => κ r * A (R r) c) (v:=A (R m)) hk
  rw [dt_same hk h1 (fun h => h2 h.symm) (A:=up A k (A (R m))) (by rw [up_at,up_ne h2]),Int.mul_zero,Int.add_zero,Int.one_mul,ih] at h3
  rw [← h3]
  exact dt_congr fun r c _ _ => by
   by_cases e:r = k
   ·subst e; rw [up_at,up_at]; show D * u c + (su m (fun r => κ r * A (R r) c) + κ m * A (R m) c) = 1 * (D * u c + su m fun r => κ r * A (R r) c) + κ m * A (R m) c; omega
   rw [up_ne e,up_ne e]
def bd (M:Nat → Nat → Int) (c i j:Nat):Nat → Nat → Int:=fun r s => M (if r < c then r else i) (if s < c then s else j)
def mn (M:Nat → Nat → Int) (c i j:Nat):Int:=dt (c + 1) (bd M c i j)
def wrw (M:Nat → Nat → Int) (c i j:Nat):Int:=dt c M * M i j + su c fun r => -(su c fun s => M i s * adj c (tp M) r s) * M r j
theorem wr_zero {M:Nat → Nat → Int} {c i k:Nat} (hk:k < c):wrw M c i k = 0:=by
 unfold wrw
 have h1:(su c fun r => -(su c fun s => M i s * adj c (tp M) r s) * M r k) = -(su c fun s => M i s * su c fun r => tp M k r * adj c (tp M) r s):=by
  rw [su_congr (g:=fun r => (-1) * su c fun s => M i s * (tp M k r * adj c (tp M) r s)) fun r _ => ?_,su_mul,su_swap]
  ·rw [su_congr (g:=fun s => M i s * su c fun r => tp M k r * adj c (tp M) r s) fun s _ => su_mul _ _ _]; omega
  rw [Int.neg_mul, ← su_mulr,su_congr (g:=fun s => M i s * (tp M k r * adj c (tp M) r s)) fun s _ => ?_]
  ·omega
  show M i s * adj c (tp M) r s * M r k = M i s * (M r k * adj c (tp M) r s); grind
 rw [h1,su_congr (g:=fun s => if s = k then M i s * dt c M else 0) fun s hs => ?_,su_one (f:=fun s => M i s * dt c M) hk]
 ·grind
 rw [adj_row hs hk,dt_tp]
 by_cases e:k = s
 ·rw [if_pos e,if_pos e.symm]
 rw [if_neg e,if_neg (fun h => e h.symm),Int.mul_zero]
theorem wr_dt {M:Nat → Nat → Int} {c n i k:Nat} (A:Nat → Nat → Int) (f:Nat → Nat) (hk:k < n) (hc:c ≤ k) (hA:∀ r,r < c → A r = fun s => M r (f s)):dt n (up A k fun s => wrw M c i (f s)) = dt c M * dt n (up A k fun s => M i (f s)):=by
 rw [← dt_comb (A:=A) hk (dt c M) (fun s => M i (f s)) (fun r => -(su c fun s => M i s * adj c (tp M) r s)) (fun r => r) c fun r hr => ⟨by omega,by omega⟩]
 refine dt_congr fun r s _ _ => ?_
 by_cases e:r = k
 ·subst e; rw [up_at,up_at]
  show dt c M * _ + _ = dt c M * _ + _
  congr 1
  exact su_congr fun r hr => by rw [hA r hr]
 rw [up_ne e,up_ne e]
theorem mn_wr {M:Nat → Nat → Int} {c i j:Nat} (h0:dt c M ≠ 0):mn M c i j = wrw M c i j:=by
 have h1:=wr_dt (M:=M) (c:=c) (n:=c + 1) (i:=i) (k:=c) (bd M c i j) (fun s => if s < c then s else j) (by omega) (Nat.le_refl _) fun r hr => by
  funext s; show M (if r < c then r else i) _ = _; rw [if_pos hr]
 have e1:up (bd M c i j) c (fun s => M i (if s < c then s else j)) = bd M c i j:=by
  funext r s
  by_cases e:r = c
  ·subst e; rw [up_at]; show _ = M (if r < r then r else i) _; rw [if_neg (Nat.lt_irrefl r)]
  rw [up_ne e]
 rw [e1] at h1
 have h2:=dt_last (c:=c) (A:=up (bd M c i j) c fun s => wrw M c i (if s < c then s else j)) fun s hs => by rw [up_at,if_pos hs]; exact wr_zero hs
 have e2:dt c (up (bd M c i j) c fun s => wrw M c i (if s < c then s else j)) = dt c M:=dt_congr fun r s hr hs => by
  rw [up_ne (by omega)]; show M (if r < c then r else i) (if s < c then s else j) = _; rw [if_pos hr,if_pos hs]
 rw [h1,e2,up_at,if_neg (by omega)] at h2
 exact Int.eq_of_mul_eq_mul_left h0 h2
theorem mn_lead (M:Nat → Nat → Int) (c:Nat):mn M c c c = dt (c + 1) M:=dt_congr fun r s hr hs => by
  show M (if r < c then r else c) (if s < c then s else c) = _
  rw [show (if r < c then r else c) = r by split <;> omega,show (if s < c then s else c) = s by split <;> omega]
theorem mn_step {M:Nat → Nat → Int} {c i j:Nat} (h0:dt c M ≠ 0) (h1:mn M c c c ≠ 0):dt c M * mn M (c + 1) i j = mn M c c c * mn M c i j - mn M c i c * mn M c c j:=by
 rw [mn_wr (c:=c) (i:=c) (j:=c) h0] at h1 ⊢
 rw [mn_wr (c:=c) (i:=i) (j:=j) h0,mn_wr (c:=c) (i:=i) (j:=c) h0,mn_wr (c:=c) (i:=c) (j:=j) h0]
 obtain ⟨f,hf⟩:∃ f:Nat → Nat,f = fun s => if s < c + 1 then s else j:=⟨_,rfl⟩
 obtain ⟨D,hD⟩:∃ D,dt c M = D:=⟨_,rfl⟩
 have hfl:∀ s,s < c → f s = s:=fun s hs => by rw [hf]; exact if_pos (by omega)
 have hfc:f c = c:=by rw [hf]; exact if_pos (by omega)
 have hfj:f (c + 1) = j:=by rw [hf]; exact if_neg (by omega)
 have hG:∀ r,r < c → bd M (c + 1) i j r = fun s => M r (f s):=fun r hr => by
  funext s; rw [hf]; show M (if r < c + 1 then r else i) _ = _; rw [if_pos (by omega)]
 -- rows c and c + 1 made noughts in the first c columns
 have a1:=wr_dt (M:=M) (c:=c) (n:=c + 2) (i:=c) (k:=c) (bd M (c + 1) i j) f (by omega) (Nat.le_refl _) hG
 have e1:up (bd M (c + 1) i j) c (fun s => M c (f s)) = bd M (c + 1) i j:=by
  funext r s
  by_cases e:r = c
  ·subst e; rw [up_at,hf]; show _ = M (if r < r + 1 then r else i) _; rw [if_pos (Nat.lt_succ_self r)]
  rw [up_ne e]
 rw [e1] at a1
 obtain ⟨G,hG1⟩:∃ G,G = up (bd M (c + 1) i j) c fun s => wrw M c c (f s):=⟨_,rfl⟩
 rw [← hG1] at a1
 have hGr:∀ r,r < c → G r = fun s => M r (f s):=fun r hr => by rw [hG1,up_ne (by omega)]; exact hG r hr
 have a2:=wr_dt (M:=M) (c:=c) (n:=c + 2) (i:=i) (k:=c + 1) G f (by omega) (by omega) hGr
 have e2:up G (c + 1) (fun s => M i (f s)) = G:=by
  funext r s
  by_cases e:r = c + 1
  ·subst e; rw [up_at,hG1,up_ne (by omega),hf]; show _ = M (if c + 1 < c + 1 then c + 1 else i) _; rw [if_neg (Nat.lt_irrefl (c + 1))]
  rw [up_ne e]
 rw [e2] at a2
 obtain ⟨H,hH1⟩:∃ H,H = up G (c + 1) fun s => wrw M c i (f s):=⟨_,rfl⟩
 rw [← hH1] at a2
 have hHc:H c = fun s => wrw M c c (f s):=by rw [hH1,up_ne (by omega),hG1,up_at]
 -- the last row less as much of the one before
 have a3:=dt_comb (n:=c + 2) (k:=c + 1) (A:=H) (by omega) (wrw M c c c) (fun s => wrw M c i (f s)) (fun _ => -(wrw M c i c)) (fun _ => c) 1 fun r _ => ⟨by omega,by omega⟩
 have e3:up H (c + 1) (fun s => wrw M c i (f s)) = H:=by
  funext r s
  by_cases e:r = c + 1
  ·subst e; rw [up_at,hH1,up_at]
  rw [up_ne e]
 rw [e3] at a3
 have hrow:∀ s,wrw M c c c * wrw M c i (f s) + (su 1 fun r => (fun _ => -(wrw M c i c)) r * H ((fun _ => c) r) s) = wrw M c c c * wrw M c i (f s) - wrw M c i c * wrw M c c (f s):=fun s => by
  show _ + (0 + -(wrw M c i c) * H c s) = _
  rw [hHc]; show _ + (0 + -(wrw M c i c) * wrw M c c (f s)) = _; grind
 have a4:=dt_last (c:=c + 1) (A:=up H (c + 1) fun s => wrw M c c c * wrw M c i (f s) + su 1 fun r => (fun _ => -(wrw M c i c)) r * H ((fun _ => c) r) s) fun s hs => by
  rw [up_at,hrow]
  by_cases e:s = c
  ·subst e; rw [hfc]; grind
  rw [hfl s (by omega),wr_zero (M:=M) (c:=c) (i:=i) (k:=s) (by omega),wr_zero (M:=M) (c:=c) (i:=c) (k:=s) (by omega),Int.mul_zero,Int.mul_zero]; rfl
 rw [a3,up_at,hrow,hfj] at a4
 have a5:=dt_last (c:=c) (A:=up H (c + 1) fun s => wrw M c c c * wrw M c i (f s) + su 1 fun r => (fun _ => -(wrw M c i c)) r * H ((fun _ => c) r) s) fun s hs => by
  rw [up_ne (by omega),hHc]; show wrw M c c (f s) = 0; rw [hfl s hs]; exact wr_zero hs
 have e5:dt c (up H (c + 1) fun s => wrw M c c c * wrw M c i (f s) + su 1 fun r => (fun _ => -(wrw M c i c)) r * H ((fun _ => c) r) s) = D:=by
  rw [← hD]
  exact dt_congr fun r s hr hs => by rw [up_ne (by omega),hH1,up_ne (by omega),hGr r hr]; show M r (f s) = _; rw [hfl s hs]
 rw [e5,up_ne (by omega),hHc] at a5
 replace a5:_ = D * wrw M c c (f c):=a5
 rw [hfc] at a5
 rw [a5] at a4
 rw [hD] at a1 a2 h0 ⊢
 have a6:mn M (c + 1) i j = dt (c + 2) (bd M (c + 1) i j):=rfl
 rw [a6]
 refine Int.eq_of_mul_eq_mul_left h0 ?_
 refine Int.eq_of_mul_eq_mul_left h1 ?_
 rw [← a1, ← a2,a4]
 grind
end Go.Proofs.YtnlnibngpeempaaGreatDoor
