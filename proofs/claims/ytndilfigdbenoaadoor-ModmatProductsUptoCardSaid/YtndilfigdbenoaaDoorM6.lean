/-
  Contracts and lemmas, joined in one text.
-/
import Derived.Test.YtndilfigdbenoaaDoorM5
set_option linter.unusedVariables false
set_option linter.unusedSimpArgs false
/-
  A matrix times its inverse; when the determinant is 0; plainly.
-/
namespace Go.Proofs.YtndilfigdbenoaaDoor
open Go.RowKit
theorem mulE_em {p C i k : Nat} {A B : List (List Nat)} : Em p (mulE p A B C i k : Nat) (su C fun j => en A i j * en B j k) := by
  refine (dotp_em C).trans (Em.of_eq (su_congr fun j _ => ?_))
  rw [Int.natCast_mul]; rfl
theorem su_delta {n k : Nat} {f : Nat → Int} (hk : k < n) : su n (fun l => f l * ((if l = k then 1 else 0 : Nat) : Int)) = f k := by
  rw [su_congr (g := fun l => if l = k then f l else 0), su_one hk]
  intro l _
  split <;> simp
theorem detTo_ne {p C : Nat} {M : List (List Nat)} (hp : MR.Pr p) (h : Shp p C M) : ∀ c, c ≤ C → (detTo p M c ≠ 0 ↔ (redTo p M c).2.length = c)
 | 0, _ => ⟨fun _ => rfl, fun _ => by have := hp.1; show 1 % p ≠ 0; rw [Nat.mod_eq_of_lt (by omega)]; omega⟩
 | c + 1, hc => by
  have hp0 : 0 < p := by have := hp.1; omega
  obtain ⟨i1, i2, i3, i4, i5⟩ := redTo_inv h hp0 c
  have ih := detTo_ne hp h c (by omega)
  have hd := detTo_lt (M := M) hp0 c
  rw [detTo, redTo]
  generalize redTo p M c = s at *
  generalize detTo p M c = d at *
  cases hf : firstNZ s.1 c (s.1.length - s.2.length) s.2.length with
  | none =>
   rw [redStep_none hf]
   exact ⟨fun h => absurd rfl h, fun h => by omega⟩
  | some i =>
   obtain ⟨f1, f2, f3, f4⟩ := firstNZ_is hf
   rw [redStep_some hf]
   have hlt := i2.nd hp0 i c
   simp only [List.length_append, List.length_cons, List.length_nil]
   have key : ((if i = s.2.length then d else (0 + p - d) % p) * nd (s.1.getD i []) c % p = 0) ↔ d = 0 := by
    constructor
    ·intro h0
     rcases MR.Pr.dvd_mul hp (Nat.dvd_of_mod_eq_zero h0) with h1 | h1
     ·split at h1
      ·exact Nat.eq_zero_of_dvd_of_lt h1 hd
      ·have h2 := Nat.eq_zero_of_dvd_of_lt h1 (Nat.mod_lt _ hp0)
       rw [Nat.zero_add] at h2
       by_cases e : d = 0
       ·exact e
       ·rw [Nat.mod_eq_of_lt (by omega)] at h2; omega
     ·have := Nat.le_of_dvd (by omega) h1; omega
    ·intro h0
     subst h0
     split
     ·rw [Nat.zero_mul, Nat.zero_mod]
     ·rw [Nat.zero_add, Nat.sub_zero, Nat.mod_self, Nat.zero_mul, Nat.zero_mod]
   constructor
   ·intro h0
    have := ih.1 (fun e => h0 (key.2 e))
    omega
   ·intro h0 h1
    exact ih.2 (by omega) (key.1 h1)
section
variable {p C : Nat} {M : List (List Nat)}
end
end Go.Proofs.YtndilfigdbenoaaDoor
/-
  Determinants, plainly: by the first column; that of a product is the product.
-/
namespace Go.Proofs.YtndilfigdbenoaaDoor
open Go.RowKit
def sg : Nat → Int
  | 0 => 1
  | n + 1 => -sg n
def mnr (A : Nat → Nat → Int) (i : Nat) : Nat → Nat → Int := fun r c => A (if r < i then r else r + 1) (c + 1)
def dt : Nat → (Nat → Nat → Int) → Int
  | 0, _ => 1
  | n + 1, A => su (n + 1) fun i => sg i * A i 0 * dt n (mnr A i)
theorem dt_em {p : Nat} : ∀ {n : Nat} {A B : Nat → Nat → Int}, (∀ r c, r < n → c < n → Em p (A r c) (B r c)) → Em p (dt n A) (dt n B)
  | 0, _, _, _ => Em.rf _
  | n + 1, A, B, h => su_em fun i hi => ((Em.rf _).mul (h i 0 hi (by omega))).mul (dt_em fun r c hr hc => h _ _ (by split <;> omega) (by omega))
theorem dt_congr : ∀ {n : Nat} {A B : Nat → Nat → Int}, (∀ r c, r < n → c < n → A r c = B r c) → dt n A = dt n B
  | 0, _, _, _ => rfl
  | n + 1, A, B, h => su_congr fun i hi => by rw [h i 0 hi (by omega), dt_congr (A := mnr A i) (B := mnr B i) fun r c hr hc => h _ _ (by split <;> omega) (by omega)]
def up (A : Nat → Nat → Int) (k : Nat) (u : Nat → Int) : Nat → Nat → Int := fun r => if r = k then u else A r
theorem up_at (A : Nat → Nat → Int) (k : Nat) (u : Nat → Int) : up A k u k = u := if_pos rfl
theorem up_ne {A : Nat → Nat → Int} {k r : Nat} {u : Nat → Int} (h : r ≠ k) : up A k u r = A r := if_neg h
theorem up_self (A : Nat → Nat → Int) (k : Nat) : up A k (A k) = A := by
  funext r; unfold up; split
  · subst_vars; rfl
  · rfl
theorem mnr_up_self (A : Nat → Nat → Int) (k : Nat) (u : Nat → Int) : mnr (up A k u) k = mnr A k := by
  funext r c; unfold mnr; rw [up_ne (by split <;> omega)]
theorem mnr_up {A : Nat → Nat → Int} {k i : Nat} {u : Nat → Int} (h : i ≠ k) : mnr (up A k u) i = up (mnr A i) (if k < i then k else k - 1) (fun c => u (c + 1)) := by
 funext r c
 unfold mnr up
 by_cases h1 : r = if k < i then k else k - 1
 ·have e : (if r < i then r else r + 1) = k := by
   split at h1
   ·rw [if_pos (by omega)]; exact h1
   ·rw [if_neg (by omega)]; omega
  rw [if_pos e, if_pos h1]
 ·have e : (if r < i then r else r + 1) ≠ k := by
   split at h1 <;> split <;> omega
  rw [if_neg e, if_neg h1]
theorem dt_lin {a b : Int} : ∀ {n k : Nat} {A : Nat → Nat → Int} {u v : Nat → Int}, k < n → dt n (up A k fun c => a * u c + b * v c) = a * dt n (up A k u) + b * dt n (up A k v)
 | n + 1, k, A, u, v, hk => by
  show su (n + 1) _ = a * su (n + 1) _ + b * su (n + 1) _
  rw [← su_mul, ← su_mul, ← su_add]
  refine su_congr fun i hi => ?_
  by_cases e : i = k
  ·subst e
   rw [up_at, up_at, up_at, mnr_up_self, mnr_up_self, mnr_up_self]
   generalize dt n (mnr A i) = D
   generalize sg i = s
   simp only [Int.mul_add, Int.add_mul]
   rw [show s * (a * u 0) * D = a * (s * u 0 * D) by simp only [Int.mul_left_comm, Int.mul_assoc], show s * (b * v 0) * D = b * (s * v 0 * D) by simp only [Int.mul_left_comm, Int.mul_assoc]]
  ·rw [up_ne e, up_ne e, up_ne e, mnr_up e, mnr_up e, mnr_up e]
   have ih := dt_lin (a := a) (b := b) (n := n) (k := if k < i then k else k - 1) (A := mnr A i) (u := fun c => u (c + 1)) (v := fun c => v (c + 1)) (by split <;> omega)
   rw [ih, Int.mul_add]
   simp only [Int.mul_left_comm, Int.mul_assoc]
theorem su_two {f : Nat → Int} {k n : Nat} (hk : k + 1 < n) (h : ∀ i, i < n → i ≠ k → i ≠ k + 1 → f i = 0) : su n f = f k + f (k + 1) := by
 rw [su_congr (g := fun i => (if i = k then f i else 0) + (if i = k + 1 then f i else 0)), su_add, su_one (by omega), su_one hk]
 intro i hi
 by_cases e1 : i = k
 ·rw [if_pos e1, if_neg (by omega)]; omega
 ·by_cases e2 : i = k + 1
  ·rw [if_neg e1, if_pos e2]; omega
  ·rw [if_neg e1, if_neg e2, h i hi e1 e2]; rfl
theorem dt_adj : ∀ {n k : Nat} {A : Nat → Nat → Int}, k + 1 < n → A k = A (k + 1) → dt n A = 0
 | n + 1, k, A, hk, he => by
  show su (n + 1) _ = 0
  rw [su_two hk]
  ·have e : mnr A k = mnr A (k + 1) := by
    funext r c
    unfold mnr
    by_cases h1 : r = k
    ·subst h1; rw [if_neg (by omega), if_pos (by omega), he]
    ·by_cases h2 : r < k
     ·rw [if_pos h2, if_pos (by omega)]
     ·rw [if_neg h2, if_neg (by omega)]
   rw [e, ← he]
   show sg k * A k 0 * dt n (mnr A (k + 1)) + -sg k * A k 0 * dt n (mnr A (k + 1)) = 0
   rw [Int.neg_mul, Int.neg_mul]; omega
  ·intro i hi h1 h2
   have hm : dt n (mnr A i) = 0 := by
    by_cases h3 : i < k
    ·refine dt_adj (k := k - 1) (by omega) ?_
     funext c
     unfold mnr
     rw [if_neg (by omega), if_neg (by omega), show k - 1 + 1 = k by omega, he]
    ·refine dt_adj (k := k) (by omega) ?_
     funext c
     unfold mnr
     rw [if_pos (by omega), if_pos (by omega), he]
   rw [hm, Int.mul_zero]
theorem dt_swap0 {n i j : Nat} {A : Nat → Nat → Int} (hi : i < n) (hj : j < n) (hne : i ≠ j) (hz : ∀ A : Nat → Nat → Int, A i = A j → dt n A = 0) : dt n (up (up A i (A j)) j (A i)) = -dt n A := by
 have sw : ∀ u v : Nat → Int, up (up A i u) j v = up (up A j v) i u := fun u v => by
  funext r
  unfold up
  by_cases h1 : r = i
  ·have h2 : ¬ r = j := by omega
   simp only [if_pos h1, if_neg h2]
  ·by_cases h2 : r = j
   ·simp only [if_pos h2, if_neg h1]
   ·simp only [if_neg h1, if_neg h2]
 have z : ∀ u : Nat → Int, dt n (up (up A i u) j u) = 0 := fun u => hz _ (by rw [up_at, up_ne hne, up_at])
 have l1 : ∀ u v x : Nat → Int, dt n (up (up A i x) j fun c => 1 * u c + 1 * v c) = 1 * dt n (up (up A i x) j u) + 1 * dt n (up (up A i x) j v) := fun u v x => dt_lin (u := u) (v := v) hj
 have l2 : ∀ u v x : Nat → Int, dt n (up (up A i fun c => 1 * u c + 1 * v c) j x) = 1 * dt n (up (up A i u) j x) + 1 * dt n (up (up A i v) j x) := fun u v x => by
  rw [sw, sw, sw]; exact dt_lin (u := u) (v := v) hi
 have h := z (fun c => 1 * A i c + 1 * A j c)
 rw [l1, l2, l2, z, z] at h
 have e : up (up A i (A i)) j (A j) = A := by
  rw [up_self, up_self]
 rw [e] at h
 omega
theorem dt_eq {n : Nat} : ∀ (d i : Nat) {A : Nat → Nat → Int}, i + d + 1 < n → A i = A (i + d + 1) → dt n A = 0
 | 0, i, A, h, he => dt_adj h he
 | d + 1, i, A, h, he => by
  have h1 := dt_swap0 (n := n) (A := A) (i := i + d + 1) (j := i + (d + 1) + 1) (by omega) h (by omega) (fun B hB => dt_adj (n := n) (k := i + d + 1) (by omega) hB)
  have h2 := dt_eq (n := n) d i (A := up (up A (i + d + 1) (A (i + (d + 1) + 1))) (i + (d + 1) + 1) (A (i + d + 1))) (by omega) (by
   rw [up_ne (show i ≠ i + (d + 1) + 1 by omega), up_ne (show i ≠ i + d + 1 by omega), up_ne (show i + d + 1 ≠ i + (d + 1) + 1 by omega), up_at, he])
  omega
theorem dt_same {n i j : Nat} {A : Nat → Nat → Int} (hi : i < n) (hj : j < n) (hne : i ≠ j) (he : A i = A j) : dt n A = 0 := by
 by_cases h : i < j
 ·obtain ⟨d, rfl⟩ := Nat.exists_eq_add_of_lt h
  exact dt_eq d i hj he
 ·obtain ⟨d, rfl⟩ := Nat.exists_eq_add_of_lt (show j < i by omega)
  exact dt_eq d j hi he.symm
theorem dt_swap {n i j : Nat} {A : Nat → Nat → Int} (hi : i < n) (hj : j < n) (hne : i ≠ j) : dt n (up (up A i (A j)) j (A i)) = -dt n A := dt_swap0 hi hj hne fun _ h => dt_same hi hj hne h
theorem dt_scale {n k : Nat} {A : Nat → Nat → Int} {u : Nat → Int} (a : Int) (hk : k < n) : dt n (up A k fun c => a * u c) = a * dt n (up A k u) := by
 have h := dt_lin (a := a) (b := 0) (A := A) (u := u) (v := u) hk
 rw [Int.zero_mul, Int.add_zero] at h
 rw [← h]
 congr 1
 funext r c
 unfold up
 split
 ·show a * u c = a * u c + 0 * u c
  rw [Int.zero_mul, Int.add_zero]
 ·rfl
theorem dt_addrow {n k l : Nat} {A : Nat → Nat → Int} (a : Int) (hk : k < n) (hl : l < n) (hne : l ≠ k) : dt n (up A k fun c => 1 * A k c + a * A l c) = dt n A := by
  rw [dt_lin (u := A k) (v := A l) hk, up_self, dt_same (A := up A k (A l)) (i := k) (j := l) hk hl (fun e => hne e.symm) (by rw [up_at, up_ne hne])]
  omega
theorem dt_zero {n k : Nat} {A : Nat → Nat → Int} (hk : k < n) (h : ∀ c, c < n → A k c = 0) : dt n A = 0 := by
  have h1 := dt_scale (A := A) (u := A k) 0 hk
  rw [Int.zero_mul] at h1
  rw [← h1]
  refine dt_congr fun r c hr hc => ?_
  unfold up
  split
  · subst_vars; rw [h c hc]; exact (Int.zero_mul _).symm
  · rfl
theorem dt_id : ∀ n, dt n (fun r c => ((if r = c then 1 else 0 : Nat) : Int)) = 1
 | 0 => rfl
 | n + 1 => by
  show su (n + 1) _ = 1
  rw [su_congr (g := fun i => if i = 0 then 1 else 0), su_one (f := fun _ => 1) (by omega)]
  intro i hi
  by_cases e : i = 0
  ·subst e
   rw [dt_congr (B := fun r c => ((if r = c then 1 else 0 : Nat) : Int)), dt_id n]
   ·rfl
   ·intro r c _ _
    show ((if (if r < 0 then r else r + 1) = c + 1 then 1 else 0 : Nat) : Int) = _
    rw [if_neg (by omega : ¬ r < 0)]
    by_cases e : r = c
    ·rw [if_pos e, if_pos (by omega)]
    ·rw [if_neg e, if_neg (by omega)]
  ·rw [if_neg e]
   show sg i * ((if i = 0 then 1 else 0 : Nat) : Int) * _ = 0
   rw [if_neg e, show ((0 : Nat) : Int) = 0 from rfl, Int.mul_zero, Int.zero_mul]
def tB (n : Nat) (B : Nat → Nat → Int) (u : Nat → Int) : Nat → Int := fun k => su n fun j => u j * B j k
def gB (n : Nat) (B : Nat → Nat → Int) (M : List (List Nat)) : Nat → Nat → Int := fun i => tB n B (en M i)
theorem tB_em {p n : Nat} {B : Nat → Nat → Int} {u v : Nat → Int} (h : ∀ j, j < n → Em p (u j) (v j)) (k : Nat) : Em p (tB n B u k) (tB n B v k) := su_em fun j hj => (h j hj).mul (Em.rf _)
theorem tB_lin {n : Nat} {B : Nat → Nat → Int} (u v : Nat → Int) (a b : Int) (k : Nat) : tB n B (fun j => a * u j + b * v j) k = a * tB n B u k + b * tB n B v k := by
  unfold tB
  rw [← su_mul, ← su_mul, ← su_add]
  exact su_congr fun j _ => by rw [Int.add_mul, Int.mul_assoc, Int.mul_assoc]
section
variable {p n : Nat} {B : Nat → Nat → Int} {M : List (List Nat)}
theorem dt_gswap {i j : Nat} (hi : i < n) (hj : j < n) (hl : M.length = n) (hne : i ≠ j) : dt n (gB n B (swapM M i j)) = -dt n (gB n B M) := by
 rw [← dt_swap hi hj hne]
 congr 1
 funext r
 unfold gB
 rw [en_swap (by omega) (by omega)]
 unfold up
 by_cases e1 : r = j
 ·have e2 : ¬ r = i := by omega
  simp only [if_pos e1, if_neg e2]
 ·by_cases e2 : r = i
  ·simp only [if_neg e1, if_pos e2]
  ·simp only [if_neg e1, if_neg e2]
theorem dt_gnorm {r c : Nat} (hr : r < n) (hl : M.length = n) : Em p (dt n (gB n B (normM p r c M))) ((pinv p (nd (M.getD r []) c) : Nat) * dt n (gB n B M)) := by
 have h1 := dt_scale (A := gB n B M) (u := gB n B M r) (pinv p (nd (M.getD r []) c) : Nat) hr
 rw [up_self] at h1
 rw [← h1]
 refine dt_em fun l k hl' hk => ?_
 by_cases e : l = r
 ·subst e
  rw [up_at]
  have h2 := tB_lin (B := B) (n := n) (en M l) (en M l) (pinv p (nd (M.getD l []) c) : Nat) 0 k
  rw [Int.zero_mul, Int.add_zero] at h2
  show Em p (tB n B (en (normM p l c M) l) k) ((pinv p (nd (M.getD l []) c) : Nat) * tB n B (en M l) k)
  rw [← h2]
  refine tB_em (fun j _ => ?_) k
  rw [en_norm (by omega)]
  refine (Em.md _).trans (Em.of_eq ?_)
  rw [Int.natCast_mul, Int.mul_comm]
  show _ = _ * en M l j + 0 * en M l j
  unfold en
  omega
 ·rw [up_ne e]
  show Em p (tB n B (en (normM p r c M) l) k) (tB n B (en M l) k)
  rw [en_norm_ne e]; exact Em.rf _
theorem dt_gelim {r c : Nat} (hp : 0 < p) (hsh : Shp p n M) (hr : r < n) (hl : M.length = n) : ∀ i, i ≤ n → Em p (dt n (gB n B (elimM p r c M i))) (dt n (gB n B M))
 | 0, _ => Em.rf _
 | i + 1, hi => by
  have ih := dt_gelim (c := c) hp hsh hr hl i (by omega)
  by_cases e : i = r
  ·rw [elimM, if_pos e]; exact ih
  ·refine Em.trans ?_ ih
   rw [elimM_next e]
   have hs := elimM_shp (c := c) hsh hp (show r < M.length by omega) i (by omega)
   have hlen := elimM_len (p := p) (r := r) (c := c) (M := M) i
   generalize elimM p r c M i = E at *
   rw [← dt_addrow (A := gB n B E) (k := i) (l := r) (-(nd (E.getD i []) c : Nat)) (by omega) hr (fun h => e h.symm)]
   refine dt_em fun l k hl' hk => ?_
   by_cases e2 : l = i
   ·subst e2
    rw [up_at]
    show Em p (tB n B _ k) (1 * tB n B (en E l) k + _ * tB n B (en E r) k)
    rw [← tB_lin]
    refine tB_em (fun j hj => ?_) k
    unfold en
    rw [getD_set_self (by omega), lessR_nd (by rw [(hs.at (show l < E.length by omega)).1, (hs.at (show r < E.length by omega)).1]) (by rw [(hs.at (show l < E.length by omega)).1]; exact hj)]
    exact (Em.less hp).trans (Em.of_eq (by rw [Int.one_mul, Int.neg_mul]; omega))
   ·rw [up_ne e2]
    show Em p (tB n B (en (E.set i _) l) k) (tB n B (en E l) k)
    refine tB_em (fun j _ => Em.of_eq ?_) k
    unfold en
    rw [getD_set_ne (fun h => e2 h.symm)]
end
theorem det_go {p n : Nat} {M : List (List Nat)} (hp : MR.Pr p) (h : Shp p n M) (hl : M.length = n) : ∀ c, c ≤ n → ∃ e : Int, (∀ B, Em p (dt n (gB n B M)) (e * dt n (gB n B (redTo p M c).1))) ∧ ((redTo p M c).2.length = c → Em p e (detTo p M c : Nat))
 | 0, _ => ⟨1, fun B => Em.of_eq (Int.one_mul _).symm, fun _ => (Em.md 1).symm⟩
 | c + 1, hc => by
  have hp0 : 0 < p := by have := hp.1; omega
  obtain ⟨i1, i2, i3, i4, i5⟩ := redTo_inv h hp0 c
  obtain ⟨e, h1, h2⟩ := det_go hp h hl c (by omega)
  have hd := detTo_lt (M := M) hp0 c
  rw [detTo, redTo]
  generalize redTo p M c = s at *
  generalize detTo p M c = d at *
  obtain ⟨R, P⟩ := s
  simp only at *
  cases hf : firstNZ R c (R.length - P.length) P.length with
  | none =>
   rw [redStep_none hf]
   exact ⟨e, h1, fun he => by simp only at he; omega⟩
  | some i =>
   obtain ⟨f1, f2, f3, f4⟩ := firstNZ_is hf
   rw [redStep_some hf]
   simp only
   have hr : P.length < R.length := by omega
   have hi : i < R.length := by omega
   have hs := swapM_shp i2 hr hi
   have hr2 : P.length < (swapM R P.length i).length := by rw [swapM_len]; exact hr
   have hn := normM_shp (c := c) hs hp0 hr2
   have hx : nd ((swapM R P.length i).getD P.length []) c = nd (R.getD i []) c := by rw [swapM_at hr hi, if_pos rfl]
   have hlt := i2.nd hp0 i c
   have hnd : ¬ p ∣ nd (R.getD i []) c := fun hd => by have := Nat.le_of_dvd (by omega) hd; omega
   -- the sign
   obtain ⟨sgn, g1, g2⟩ : ∃ sgn : Int, (∀ B, dt n (gB n B R) = sgn * dt n (gB n B (swapM R P.length i))) ∧ Em p (sgn * d) ((if i = P.length then d else (0 + p - d) % p : Nat) : Int) := by
    by_cases e1 : i = P.length
    ·refine ⟨1, fun B => by rw [e1, swapM_self hr, Int.one_mul], ?_⟩
     rw [if_pos e1, Int.one_mul]; exact Em.rf _
    ·refine ⟨-1, fun B => by rw [dt_gswap (by omega) (by omega) (by omega) (fun h => e1 h.symm)]; omega, ?_⟩
     rw [if_neg e1]
     refine Em.symm ((Em.md _).trans ?_)
     rw [show ((0 + p - d : Nat) : Int) = -1 * (d : Int) + p by omega]
     exact ((Em.rf _).add Em.pz).trans (Em.of_eq (by omega))
   refine ⟨e * sgn * (nd (R.getD i []) c : Nat), fun B => ?_, fun he => ?_⟩
   ·have k1 := dt_gnorm (p := p) (B := B) (r := P.length) (c := c) (M := swapM R P.length i) (n := n) (by omega) (by rw [swapM_len]; omega)
    have k2 := dt_gelim (B := B) (c := c) (r := P.length) hp0 hn (by omega) (by rw [normM_len, swapM_len]; omega) n (Nat.le_refl _)
    rw [hx] at k1
    refine (h1 B).trans ?_
    rw [g1, show R.length = n by omega]
    refine Em.symm (((Em.rf _).mul (k2.trans k1)).trans ?_)
    generalize dt n (gB n B (swapM R P.length i)) = D
    refine (Em.of_eq (b := ((nd (R.getD i []) c : Nat) * (pinv p (nd (R.getD i []) c) : Nat) : Int) * (e * (sgn * D))) ?_).trans (((pinv_em hp hnd).mul (Em.rf _)).trans (Em.of_eq (Int.one_mul _)))
    simp only [Int.mul_assoc, Int.mul_left_comm, Int.mul_comm]
   ·simp only [List.length_append, List.length_cons, List.length_nil] at he
    have h3 := h2 (by omega)
    refine Em.symm ((Em.md _).trans ?_)
    rw [Int.natCast_mul]
    refine Em.mul ?_ (Em.rf _)
    exact g2.symm.trans ((Em.of_eq (Int.mul_comm _ _)).trans (h3.symm.mul (Em.rf _)))
theorem gB_one {n : Nat} {M : List (List Nat)} {i k : Nat} (hk : k < n) : gB n (fun r c => ((if r = c then 1 else 0 : Nat) : Int)) M i k = en M i k := su_delta hk
theorem det_gB {p n : Nat} {M : List (List Nat)} (hp : MR.Pr p) (h : Shp p n M) (hl : M.length = n) (h0 : 0 < n) (B : Nat → Nat → Int) : Em p (dt n (gB n B M)) ((detTo p M n : Nat) * dt n B) := by
 obtain ⟨e, h1, h2⟩ := det_go hp h hl n (Nat.le_refl _)
 have hrf := redTo_rf hp h n (Nat.le_refl _)
 obtain ⟨i1, i2, i3, i4, i5⟩ := redTo_inv h (show 0 < p by have := hp.1; omega) n
 have hz := detTo_ne hp h n (Nat.le_refl _)
 refine (h1 B).trans ?_
 by_cases hP : (redTo p M n).2.length = n
 ·refine (h2 hP).mul (Em.of_eq (dt_congr fun r c hr hc => ?_))
  have hge : ∀ i, i < n → nd (redTo p M n).2 i = i := by
   have a1 : ∀ i, i < n → i ≤ nd (redTo p M n).2 i := by
    intro i
    induction i with
    | zero => intro _; omega
    | succ i ih => intro hi; have := ih (by omega); have := hrf.incr i (i + 1) (by omega) (by omega); omega
   have a2 : ∀ k i, i + k + 1 = n → nd (redTo p M n).2 i ≤ i := by
    intro k
    induction k with
    | zero => intro i hi; have := hrf.low i (by omega); omega
    | succ k ih => intro i hi; have := ih (i + 1) (by omega); have := hrf.incr i (i + 1) (by omega) (by omega); omega
   intro i hi
   have := a1 i hi
   have := a2 (n - 1 - i) i (by omega)
   omega
  show su n (fun j => en (redTo p M n).1 r j * B j c) = B r c
  rw [su_congr (g := fun j => if j = r then B j c else 0), su_one hr]
  intro j hj
  have h3 := hrf.unit j (by omega) r (by omega)
  rw [hge j hj] at h3
  unfold en
  rw [h3]
  by_cases e2 : r = j
  ·rw [if_pos e2, if_pos e2.symm, show ((1 : Nat) : Int) = 1 from rfl, Int.one_mul]
  ·rw [if_neg e2, if_neg (fun h => e2 h.symm), show ((0 : Nat) : Int) = 0 from rfl, Int.zero_mul]
 ·have h3 : detTo p M n = 0 := Classical.byContradiction fun h => hP (hz.1 h)
  rw [h3, dt_zero (k := n - 1) (by omega)]
  ·rw [Int.mul_zero, show ((0 : Nat) : Int) = 0 from rfl, Int.zero_mul]; exact Em.rf _
  ·intro c hc
   refine su_zero fun j hj => ?_
   have := hrf.zero (n - 1) (by omega) (by omega) j hj
   unfold en; rw [this]; exact Int.zero_mul _
theorem det_dt {p n : Nat} {M : List (List Nat)} (hp : MR.Pr p) (h : Shp p n M) (hl : M.length = n) (h0 : 0 < n) : Em p (dt n (en M)) (detTo p M n : Nat) := by
  have h1 := det_gB hp h hl h0 (fun r c => ((if r = c then 1 else 0 : Nat) : Int))
  rw [dt_id, Int.mul_one] at h1
  exact (Em.of_eq (dt_congr fun r c _ hc => (gB_one hc).symm)).trans h1
theorem mulM_shp {p C D : Nat} {A B : List (List Nat)} (hp : 0 < p) : Shp p D (mulM p A B C D) := mkM_shp fun _ _ _ _ => dotp_lt hp _
theorem mulM_get {p C D i k : Nat} {A B : List (List Nat)} (hi : i < A.length) (hk : k < D) : en (mulM p A B C D) i k = (mulE p A B C i k : Nat) := by
  unfold en mulM
  rw [mkM, show ((List.range A.length).map fun i => rowF D (mulE p A B C i)).getD i [] = rowF D (mulE p A B C i) by simp [List.getD, hi], rowF_nd hk]
theorem det_mul {p n : Nat} {A B : List (List Nat)} (hp : MR.Pr p) (hA : Shp p n A) (hB : Shp p n B) (hl : A.length = n) (hl2 : B.length = n) (h0 : 0 < n) : detTo p (mulM p A B n n) n = detTo p A n * detTo p B n % p := by
 have hp0 : 0 < p := by have := hp.1; omega
 have h1 := det_dt hp (mulM_shp hp0 : Shp p n (mulM p A B n n)) (by rw [mulM, mkM_len, hl]) h0
 have h2 := det_gB hp hA hl h0 (en B)
 have h3 := det_dt hp hB hl2 h0
 have h4 : Em p (dt n (en (mulM p A B n n))) (dt n (gB n (en B) A)) := dt_em fun r c hr hc => by
  rw [mulM_get (by omega) hc]; exact mulE_em
 refine Em.eq (detTo_lt hp0 _) (Nat.mod_lt _ hp0) (h1.symm.trans (h4.trans (h2.trans (((Em.rf _).mul h3).trans ?_))))
 refine (Em.of_eq (Int.natCast_mul ..).symm).trans (Em.md _).symm
end Go.Proofs.YtndilfigdbenoaaDoor
/-
  Ranks, plainly.
-/
namespace Go.Proofs.YtndilfigdbenoaaDoor
open Go.RowKit
def Fac (p C k : Nat) (M : List (List Nat)) : Prop := ∃ B : Nat → Nat → Int, ∀ i, i < M.length → Cb p k C B (en M i)
theorem su_cut {f : Nat → Int} {m : Nat} : ∀ {n : Nat}, m ≤ n → (∀ l, m ≤ l → l < n → f l = 0) → su n f = su m f
 | 0, h, _ => by rw [Nat.le_zero.1 h]
 | n + 1, h, h0 => by
  by_cases e : m = n + 1
  ·rw [e]
  ·rw [su, su_cut (by omega) (fun l h1 h2 => h0 l h1 (by omega)), h0 n (by omega) (by omega)]; omega
theorem redTo_fac {p C : Nat} {M : List (List Nat)} (hp : MR.Pr p) (h : Shp p C M) : Fac p C (redTo p M C).2.length M := by
  obtain ⟨s1, s2⟩ := redTo_sp hp h C
  have hrf := redTo_rf hp h C (Nat.le_refl _)
  obtain ⟨i1, i2, i3, _⟩ := redTo_inv h (show 0 < p by have := hp.1; omega) C
  refine ⟨en (redTo p M C).1, fun i hi => ?_⟩
  obtain ⟨s, hs⟩ := s2 i hi
  refine ⟨s, fun j hj => (hs j hj).trans (Em.of_eq (su_cut (by omega) fun l h1 h2 => ?_))⟩
  have := hrf.zero l h1 h2 j hj
  unfold en; rw [this]; exact Int.mul_zero _
theorem least_nat {Q : Nat → Prop} (n : Nat) (h : Q n) : ∃ c, Q c ∧ ∀ d, d < c → ¬ Q d := by
 induction n using Nat.strongRecOn with
 | _ n ih =>
  by_cases h' : ∃ d, d < n ∧ Q d
  ·obtain ⟨d, h1, h2⟩ := h'; exact ih d h1 h2
  ·exact ⟨n, h, fun d hd hq => h' ⟨d, hd, hq⟩⟩
theorem no_pivot {P : List Nat} {r : Nat} (hi : ∀ i k, i < k → k < P.length → nd P i < nd P k) (hl : P.length < r) : ∃ c, c < r ∧ ∀ i, i < P.length → nd P i ≠ c := by
 have hge : ∀ i, i < P.length → i ≤ nd P i := by
  intro i
  induction i with
  | zero => intro _; omega
  | succ i ih => intro h; have := ih (by omega); have := hi i (i + 1) (by omega) h; omega
 obtain ⟨c, h1, h2⟩ := least_nat (Q := fun c => ¬ (c < P.length ∧ nd P c = c)) P.length (fun h => by have := h.1; omega)
 have hc : c ≤ P.length := Classical.byContradiction fun e => h2 P.length (by omega) (fun h => by have := h.1; omega)
 refine ⟨c, by omega, fun i hil e => ?_⟩
 by_cases h3 : i < c
 ·have h4 := Classical.not_not.1 (h2 i h3)
  have := h4.2; omega
 ·have h5 : nd P c ≠ c := fun h => h1 ⟨by omega, h⟩
  have h6 := hge c (by omega)
  by_cases h7 : i = c
  ·subst h7; omega
  ·have := hi c i (by omega) hil; omega
theorem ker_red {p C c : Nat} {s : List (List Nat) × List Nat} {v : Nat → Int} (hrf : Rf p C s) (hc : c < C) (hl : s.2.length ≤ s.1.length)
  (hv : ∀ j, j < C → Em p (v j) ((if j = c then 1 else 0) - su s.2.length fun i => if nd s.2 i = j then en s.1 i c else 0)) (l : Nat) (hll : l < s.1.length) : Em p (su C fun j => en s.1 l j * v j) 0 := by
 by_cases h : s.2.length ≤ l
 ·refine Em.of_eq (su_zero fun j hj => ?_)
  have := hrf.zero l h hll j hj
  unfold en; rw [this]; exact Int.zero_mul _
 ·refine (su_em fun j hj => (Em.rf (en s.1 l j)).mul (hv j hj)).trans (Em.of_eq ?_)
  rw [su_congr (g := fun j => (if j = c then en s.1 l j else 0) + -1 * su s.2.length fun i => if j = nd s.2 i then en s.1 l j * en s.1 i c else 0)
   (fun j _ => by
    rw [Int.mul_sub, ← su_mul]
    rw [su_congr (n := s.2.length) (g := fun i => if j = nd s.2 i then en s.1 l j * en s.1 i c else 0) (fun i _ => by
     by_cases e : nd s.2 i = j
     ·rw [if_pos e, if_pos e.symm]
     ·rw [if_neg e, if_neg (fun h => e h.symm), Int.mul_zero])]
    split
    ·rw [Int.mul_one]; omega
    ·rw [Int.mul_zero]; omega),
   su_add, su_one hc, su_mul, su_swap,
   su_congr (n := s.2.length) (g := fun i => if i = l then en s.1 i c else 0) (fun i hi => by
    rw [su_one (f := fun j => en s.1 l j * en s.1 i c) (hrf.low i hi)]
    have h1 := hrf.unit i hi l hll
    show en s.1 l (nd s.2 i) * en s.1 i c = _
    unfold en at *
    rw [h1]
    by_cases e : l = i
    ·rw [if_pos e, if_pos e.symm, show ((1 : Nat) : Int) = 1 from rfl, Int.one_mul]
    ·rw [if_neg e, if_neg (fun h => e h.symm), show ((0 : Nat) : Int) = 0 from rfl, Int.zero_mul]),
   su_one (by omega)]
  omega
theorem ker_all {p C c : Nat} {M : List (List Nat)} {v : Nat → Int} (hp : MR.Pr p) (h : Shp p C M) (hc : c < C)
  (hv : ∀ j, j < C → Em p (v j) ((if j = c then 1 else 0) - su (redTo p M C).2.length fun i => if nd (redTo p M C).2 i = j then en (redTo p M C).1 i c else 0)) (l : Nat) (hll : l < M.length) : Em p (su C fun j => en M l j * v j) 0 := by
 obtain ⟨s1, s2⟩ := redTo_sp hp h C
 have hrf := redTo_rf hp h C (Nat.le_refl _)
 obtain ⟨i1, i2, i3, _⟩ := redTo_inv h (show 0 < p by have := hp.1; omega) C
 obtain ⟨s, hs⟩ := s2 l hll
 refine (su_em fun j hj => (hs j hj).mul (Em.rf (v j))).trans ?_
 refine (Em.of_eq (b := su (redTo p M C).1.length fun i => s i * su C fun j => en (redTo p M C).1 i j * v j) ?_).trans ?_
 ·rw [su_congr (g := fun j => su (redTo p M C).1.length fun i => s i * (en (redTo p M C).1 i j * v j)) (fun j _ => by
   rw [← su_mulr]; exact su_congr fun i _ => Int.mul_assoc ..), su_swap]
  exact su_congr fun i _ => su_mul ..
 ·refine (su_em (g := fun i => s i * 0) fun i hi => (Em.rf _).mul (ker_red hrf hc (by omega) hv i hi)).trans (Em.of_eq (su_zero fun i _ => Int.mul_zero _))
theorem ker_wide {p k r : Nat} {S : Nat → Nat → Int} (hp : MR.Pr p) (hk : k < r) : ∃ v : Nat → Int, (∀ l, l < k → Em p (su r fun i => S i l * v i) 0) ∧ ∃ c, c < r ∧ Em p (v c) 1 := by
 have hp1 := hp.1
 have hp0 : 0 < p := by omega
 obtain ⟨W, hW⟩ : ∃ W, mkM k r (fun l i => (S i l % (p : Int)).toNat) = W := ⟨_, rfl⟩
 have hWe : ∀ l, l < k → ∀ i, i < r → Em p (S i l) (en W l i) := fun l hl i hi => by
  have e : en W l i = ((S i l % (p : Int)).toNat : Int) := by
   unfold en
   rw [← hW, mkM, show ((List.range k).map fun i_1 => rowF r ((fun l i => (S i l % (p : Int)).toNat) i_1)).getD l [] = rowF r (fun i => (S i l % (p : Int)).toNat) by simp [List.getD, hl], rowF_nd hi]
  have h0 := Int.emod_nonneg (S i l) (show (p : Int) ≠ 0 by omega)
  rw [e, Int.toNat_of_nonneg h0]
  exact ⟨S i l / p, by have := Int.emod_add_mul_ediv (S i l) p; omega⟩
 have hsh : Shp p r W := by
  rw [← hW]
  refine mkM_shp fun l i _ _ => ?_
  have h0 := Int.emod_nonneg (S i l) (show (p : Int) ≠ 0 by omega)
  have h1 := Int.emod_lt_of_pos (S i l) (show (0 : Int) < p by omega)
  omega
 have hWl : W.length = k := by rw [← hW, mkM_len]
 have hrf := redTo_rf hp hsh r (Nat.le_refl _)
 obtain ⟨i1, i2, i3, _⟩ := redTo_inv hsh hp0 r
 obtain ⟨c, hc, hcP⟩ := no_pivot (r := r) hrf.incr (by omega)
 refine ⟨fun j => (if j = c then 1 else 0) - su (redTo p W r).2.length fun i => if nd (redTo p W r).2 i = j then en (redTo p W r).1 i c else 0, fun l hl => ?_, c, hc, Em.of_eq ?_⟩
 ·refine (su_em fun i hi => (hWe l hl i hi).mul (Em.rf _)).trans (ker_all hp hsh hc (fun j _ => Em.rf _) l (by omega))
 ·simp only [if_pos trivial]
  rw [su_zero fun i hi => if_neg (hcP i hi)]; rfl
theorem fac_rank {p C k : Nat} {M : List (List Nat)} (hp : MR.Pr p) (h : Shp p C M) (hF : Fac p C k M) : (redTo p M C).2.length ≤ k := by
 refine Classical.byContradiction fun hn => ?_
 have hp1 := hp.1
 obtain ⟨s1, s2⟩ := redTo_sp hp h C
 have hrf := redTo_rf hp h C (Nat.le_refl _)
 obtain ⟨i1, i2, i3, _⟩ := redTo_inv h (show 0 < p by omega) C
 obtain ⟨B, hB⟩ := hF
 generalize redTo p M C = s at *
 obtain ⟨S, hS⟩ := Cb.all (k := s.2.length) (G := en s.1) (fun i hi => (s1 i (by omega)).trans hB)
 obtain ⟨v, hv, c, hc, hc1⟩ := ker_wide (S := S) hp (show k < s.2.length by omega)
 have hcl := hrf.low c hc
 have h1 : Em p (v c) (su s.2.length fun i => v i * su k fun l => S i l * B l (nd s.2 c)) := by
  refine (Em.of_eq (b := su s.2.length fun i => v i * en s.1 i (nd s.2 c)) ?_).trans (su_em fun i hi => (Em.rf _).mul (hS i hi _ hcl))
  refine (su_delta (f := v) hc).symm.trans (su_congr fun i hi => ?_)
  have := hrf.unit c hc i (by omega)
  unfold en; rw [this]
 have h2 : Em p (su s.2.length fun i => v i * su k fun l => S i l * B l (nd s.2 c)) 0 := by
  refine (Em.of_eq (b := su k fun l => (su s.2.length fun i => S i l * v i) * B l (nd s.2 c)) ?_).trans ((su_em (g := fun l => 0 * B l (nd s.2 c)) fun l hl => (hv l hl).mul (Em.rf _)).trans (Em.of_eq (su_zero fun l _ => Int.zero_mul _)))
  rw [su_congr (g := fun i => su k fun l => S i l * v i * B l (nd s.2 c)) (fun i _ => by
   rw [← su_mul]; exact su_congr fun l _ => by rw [← Int.mul_assoc, Int.mul_comm (v i)]), su_swap]
  exact su_congr fun l _ => su_mulr ..
 have h3 : Em p 1 0 := hc1.symm.trans (h1.trans h2)
 have := Em.eq (p := p) (x := 1) (y := 0) (by omega) (by omega) h3
 omega
def rkM (p C : Nat) (M : List (List Nat)) : Nat := (redTo p M C).2.length
theorem rk_le {p C D : Nat} {M N : List (List Nat)} (hp : MR.Pr p) (hM : Shp p C M) (hN : Shp p D N) (h : ∀ k, Fac p C k M → Fac p D k N) : rkM p D N ≤ rkM p C M := fac_rank hp hN (h _ (redTo_fac hp hM))
theorem rk_sp {p C : Nat} {M N : List (List Nat)} (hp : MR.Pr p) (hM : Shp p C M) (hN : Shp p C N) (h : Sp p C M N) : rkM p C N ≤ rkM p C M := rk_le hp hM hN fun _ ⟨B, hB⟩ => ⟨B, fun i hi => (h i hi).trans hB⟩
end Go.Proofs.YtndilfigdbenoaaDoor
