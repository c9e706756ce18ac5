/-
  Contracts and lemmas, joined in one text.
-/
import Derived.Test.YtndilfigdbenoaaDoorMmA
set_option linter.unusedVariables false
set_option linter.unusedSimpArgs false
/-
  Rows modulo a prime that are combinations of rows; the reduced form, plainly.
-/
namespace Go.Proofs.YtndilfigdbenoaaDoor
open Go.RowKit
def Em (p : Nat) (a b : Int) : Prop := (p : Int) ∣ a - b
section
variable {p : Nat} {a b c d : Int}
theorem Em.rf (a : Int) : Em p a a := ⟨0, by omega⟩
theorem Em.of_eq (h : a = b) : Em p a b := h ▸ Em.rf a
theorem Em.symm (h : Em p a b) : Em p b a := by obtain ⟨k, hk⟩ := h; exact ⟨-k, by rw [Int.mul_neg]; omega⟩
theorem Em.trans (h : Em p a b) (h2 : Em p b c) : Em p a c := by obtain ⟨k, hk⟩ := h; obtain ⟨l, hl⟩ := h2; exact ⟨k + l, by rw [Int.mul_add]; omega⟩
theorem Em.add (h : Em p a b) (h2 : Em p c d) : Em p (a + c) (b + d) := by obtain ⟨k, hk⟩ := h; obtain ⟨l, hl⟩ := h2; exact ⟨k + l, by rw [Int.mul_add]; omega⟩
theorem Em.sub (h : Em p a b) (h2 : Em p c d) : Em p (a - c) (b - d) := by obtain ⟨k, hk⟩ := h; obtain ⟨l, hl⟩ := h2; exact ⟨k - l, by rw [Int.mul_sub]; omega⟩
theorem Em.mul (h : Em p a b) (h2 : Em p c d) : Em p (a * c) (b * d) := by
  obtain ⟨k, hk⟩ := h; obtain ⟨l, hl⟩ := h2
  refine ⟨k * c + b * l, ?_⟩
  have e : a * c - b * d = (a - b) * c + b * (c - d) := by rw [Int.sub_mul, Int.mul_sub]; omega
  rw [e, hk, hl, Int.mul_add, Int.mul_assoc, Int.mul_left_comm b]
theorem Em.md (x : Nat) : Em p ((x % p : Nat) : Int) x := by
  refine ⟨-((x / p : Nat) : Int), ?_⟩
  have h := Nat.div_add_mod x p
  have h2 : ((p * (x / p) : Nat) : Int) = (p : Int) * ((x / p : Nat) : Int) := Int.natCast_mul ..
  rw [Int.mul_neg, ← h2]; omega
theorem Em.pz : Em p (p : Int) 0 := ⟨1, by omega⟩
theorem Em.less {x y f : Nat} (hp : 0 < p) : Em p (((x + p - f * y % p) % p : Nat) : Int) ((x : Int) - f * y) := by
  have hm := Nat.mod_lt (f * y) hp
  refine (Em.md _).trans ?_
  have e : ((x + p - f * y % p : Nat) : Int) = ((x : Int) - ((f * y % p : Nat) : Int)) + p := by omega
  rw [e]
  have h1 : Em p ((x : Int) - ((f * y % p : Nat) : Int)) ((x : Int) - f * y) := (Em.rf _).sub ((Em.md _).trans (Em.of_eq (Int.natCast_mul ..)))
  exact (h1.add Em.pz).trans (Em.of_eq (by omega))
end
def su : Nat → (Nat → Int) → Int
  | 0, _ => 0
  | n + 1, f => su n f + f n
theorem su_congr {f g : Nat → Int} : ∀ {n : Nat}, (∀ k, k < n → f k = g k) → su n f = su n g
  | 0, _ => rfl
  | n + 1, h => by rw [su, su, su_congr (fun k hk => h k (by omega)), h n (by omega)]
theorem su_em {p : Nat} {f g : Nat → Int} : ∀ {n : Nat}, (∀ k, k < n → Em p (f k) (g k)) → Em p (su n f) (su n g)
  | 0, _ => Em.rf _
  | n + 1, h => (su_em (fun k hk => h k (by omega))).add (h n (by omega))
theorem su_add (f g : Nat → Int) : ∀ n : Nat, su n (fun k => f k + g k) = su n f + su n g
  | 0 => rfl
  | n + 1 => by rw [su, su, su, su_add f g n]; omega
theorem su_mul (c : Int) (f : Nat → Int) : ∀ n : Nat, su n (fun k => c * f k) = c * su n f
  | 0 => by simp [su]
  | n + 1 => by rw [su, su, su_mul c f n, Int.mul_add]
theorem su_mulr (c : Int) (f : Nat → Int) (n : Nat) : su n (fun k => f k * c) = su n f * c := by
  rw [Int.mul_comm, ← su_mul]; exact su_congr fun k _ => Int.mul_comm _ _
theorem su_zero {f : Nat → Int} : ∀ {n : Nat}, (∀ k, k < n → f k = 0) → su n f = 0
  | 0, _ => rfl
  | n + 1, h => by rw [su, su_zero (fun k hk => h k (by omega)), h n (by omega)]; rfl
theorem su_one {f : Nat → Int} {i : Nat} : ∀ {n : Nat}, i < n → su n (fun k => if k = i then f k else 0) = f i
 | n + 1, h => by
  rw [su]
  by_cases e : n = i
  ·rw [if_pos e, su_zero (fun k hk => if_neg (by omega)), e]; omega
  ·rw [if_neg e, su_one (by omega)]; omega
theorem su_swap (f : Nat → Nat → Int) (m : Nat) : ∀ n : Nat, su n (fun i => su m (fun j => f i j)) = su m (fun j => su n (fun i => f i j))
 | 0 => (su_zero fun _ _ => rfl).symm
 | n + 1 => by
  rw [su, su_swap f m n, ← su_add]; rfl
def Cb (p n C : Nat) (E : Nat → Nat → Int) (v : Nat → Int) : Prop := ∃ s : Nat → Int, ∀ j, j < C → Em p (v j) (su n fun l => s l * E l j)
section
variable {p n m C : Nat} {E F : Nat → Nat → Int} {u v x : Nat → Int}
theorem Cb.row {i : Nat} (h : i < n) : Cb p n C E (E i) := ⟨fun l => if l = i then 1 else 0, fun j _ => Em.of_eq (by
  rw [su_congr (g := fun l => if l = i then E l j else 0), su_one h]
  intro k _
  simp only
  split
  · rw [Int.one_mul]
  · rw [Int.zero_mul])⟩
theorem Cb.of (h : Cb p n C E v) (hx : ∀ j, j < C → Em p (x j) (v j)) : Cb p n C E x := by
  obtain ⟨s, hs⟩ := h
  exact ⟨s, fun j hj => (hx j hj).trans (hs j hj)⟩
theorem Cb.zero (hx : ∀ j, j < C → Em p (x j) 0) : Cb p n C E x := ⟨fun _ => 0, fun j hj => (hx j hj).trans (Em.of_eq (su_zero fun k _ => Int.zero_mul _).symm)⟩
theorem Cb.all {k : Nat} {G : Nat → Nat → Int} (h : ∀ i, i < k → Cb p n C E (G i)) : ∃ S : Nat → Nat → Int, ∀ i, i < k → ∀ j, j < C → Em p (G i j) (su n fun l => S i l * E l j) := by
  refine ⟨fun i => if h' : i < k then (h i h').choose else fun _ => 0, fun i hi j hj => ?_⟩
  simp only [dif_pos hi]
  exact (h i hi).choose_spec j hj
theorem Cb.trans (h : Cb p m C F v) (hF : ∀ i, i < m → Cb p n C E (F i)) : Cb p n C E v := by
  obtain ⟨S, hS⟩ := Cb.all hF
  obtain ⟨s, hs⟩ := h
  refine ⟨fun l => su m fun i => s i * S i l, fun j hj => (hs j hj).trans ?_⟩
  refine (su_em (g := fun i => s i * su n fun l => S i l * E l j) fun i hi => (Em.rf _).mul (hS i hi j hj)).trans (Em.of_eq ?_)
  rw [su_congr (g := fun i => su n fun l => s i * S i l * E l j) (fun i _ => by rw [← su_mul]; exact su_congr fun l _ => (Int.mul_assoc ..).symm), su_swap]
  exact su_congr fun l _ => su_mulr ..
end
def en (M : List (List Nat)) (i j : Nat) : Int := ((nd (M.getD i []) j : Nat) : Int)
def Sp (p C : Nat) (M N : List (List Nat)) : Prop := ∀ i, i < N.length → Cb p M.length C (en M) (en N i)
theorem Sp.rf (p C : Nat) (M : List (List Nat)) : Sp p C M M := fun _ hi => Cb.row hi
theorem Sp.trans {p C : Nat} {M N K : List (List Nat)} (h : Sp p C M N) (h2 : Sp p C N K) : Sp p C M K := fun i hi => (h2 i hi).trans h
section
variable {p C : Nat} {M : List (List Nat)}
end
structure Rf (p c : Nat) (s : List (List Nat) × List Nat) : Prop where
  unit : ∀ i, i < s.2.length → ∀ l, l < s.1.length → nd (s.1.getD l []) (nd s.2 i) = if l = i then 1 else 0
  zero : ∀ l, s.2.length ≤ l → l < s.1.length → ∀ j, j < c → nd (s.1.getD l []) j = 0
  left : ∀ i, i < s.2.length → ∀ j, j < nd s.2 i → nd (s.1.getD i []) j = 0
  incr : ∀ i k, i < k → k < s.2.length → nd s.2 i < nd s.2 k
  low : ∀ i, i < s.2.length → nd s.2 i < c
end Go.Proofs.YtndilfigdbenoaaDoor
