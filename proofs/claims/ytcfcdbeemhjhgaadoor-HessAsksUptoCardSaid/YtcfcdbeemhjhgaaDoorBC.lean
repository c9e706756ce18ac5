/-
  Contracts and lemmas, joined in one text.
-/
import Derived.Test.YtcfcdbeemhjhgaaDoorNatH
import Derived.Test.YtcfcdbeemhjhgaaDoorBB
import Derived.Deep.LoopGhost
import Derived.Test.YtcfcdbeemhjhgaaDoorBA
import Derived.Laws.BitsAllLaws
set_option linter.unusedVariables false
set_option linter.unusedSimpArgs false
/-
  The walk of nat.Div.
-/
namespace Go.Proofs.YtcfcdbeemhjhgaaDoor
open Go.RowKit
open Go.RowKit
def GcdAt (w:World) (L G k:Nat) (a b:Value) (wr:World):Prop :=
  ∃ p n c q m d A C,a = .slice p n c ∧ b = .slice q m d ∧ Fr w.heap.size wr p n c (lim A) ∧ Fr w.heap.size wr q m d (lim C) ∧ Below w.heap.size w wr ∧ n ≤ L ∧ m ≤ L ∧ Hid (Nat.gcd A C = G) ∧ Hid (C = k)
open Go.RowKit
def RootAt (w:World) (L N k:Nat) (x:Value) (wr:World):Prop :=
  ∃ p n c X,x = .slice p n c ∧ Fr w.heap.size wr p n c (lim X) ∧ Below w.heap.size w wr ∧ n ≤ L ∧ 0 < X ∧ rt N ≤ X ∧ Hid (X = k)
open Go.RowKit
open Go.RowKit
def RetNB (w:World) (xs:List Nat) (b:Bool) (e:Ending) (w':World):Prop :=
  ∃ p n c,e = .returned (.tuple #[.slice p n c,.bool b]) ∧ Fr w.heap.size w' p n c xs ∧ Below w.heap.size w w'
def zv (b:Bool) (n:Nat):Int:=if b then -(n:Int) else (n:Int)
def ng (z:Int):Bool:=decide (z < 0)
theorem zv_ng (z:Int):zv (ng z) z.natAbs = z:=by
  unfold zv ng
  by_cases h:z < 0
  · rw [decide_eq_true h]; simp; omega
  rw [decide_eq_false h]; simp; omega
theorem natAbs_zv (b:Bool) (n:Nat):(zv b n).natAbs = n:=by
  unfold zv; cases b <;> simp
theorem ng_zv (b:Bool) (n:Nat):ng (zv b n) = (b && decide (0 < n)):=by
  unfold zv ng
  cases b
  · simp
  simp
theorem zv_zero (b:Bool):zv b 0 = 0:=by unfold zv; cases b <;> rfl
theorem zv_false (n:Nat):zv false n = n:=rfl
theorem zv_true (n:Nat):zv true n = -(n:Int):=rfl
theorem ng_true {z:Int} (h:z < 0):ng z = true:=decide_eq_true h
theorem ng_false {z:Int} (h:0 ≤ z):ng z = false:=decide_eq_false (by omega)
theorem zv_add_same (b:Bool) (m n:Nat):zv b (m + n) = zv b m + zv b n:=by
  unfold zv; cases b <;> simp <;> omega
theorem zv_add_le {b c:Bool} (h:b ≠ c) {m n:Nat} (hmn:n ≤ m):zv b (m - n) = zv b m + zv c n:=by
  unfold zv; cases b <;> cases c <;> simp at h ⊢ <;> omega
theorem zv_add_lt {b c:Bool} (h:b ≠ c) {m n:Nat} (hmn:m ≤ n):zv c (n - m) = zv b m + zv c n:=by
  unfold zv; cases b <;> cases c <;> simp at h ⊢ <;> omega
theorem zv_neg (b:Bool) (n:Nat):zv (!b) n = - zv b n:=by unfold zv; cases b <;> simp
theorem zv_mul (b c:Bool) (m n:Nat):zv (b != c) (m * n) = zv b m * zv c n:=by
  unfold zv; cases b <;> cases c <;> simp [Int.neg_mul,Int.mul_neg]
theorem zv_tdiv (b c:Bool) (m n:Nat):zv (b != c) (m / n) = (zv b m).tdiv (zv c n):=by
  unfold zv; cases b <;> cases c <;> simp [Int.neg_tdiv,Int.tdiv_neg]
theorem euclid_unique {a b q r:Int} (h:a = b * q + r) (h0:0 ≤ r) (h1:r < b.natAbs):q = a / b ∧ r = a % b:=by
 have hb:b ≠ 0:=by intro e; subst e; simp at h1; omega
 have h2:=Int.emod_add_mul_ediv a b
 have h3:=Int.emod_nonneg a hb
 have h4:=Int.emod_lt a hb
 have h5:b * (q - a / b) = a % b - r:=by rw [Int.mul_sub]; omega
 have h6:q - a / b = 0:=by
  rcases Int.lt_trichotomy (q - a / b) 0 with h7 | h7 | h7
  ·exfalso
   have h8:(b.natAbs:Int) * 1 ≤ (b * (q - a / b)).natAbs:=by
    rw [Int.natAbs_mul,Int.natCast_mul]
    exact Int.mul_le_mul_of_nonneg_left (by omega) (by omega)
   omega
  ·exact h7
  exfalso
  have h8:(b.natAbs:Int) * 1 ≤ (b * (q - a / b)).natAbs:=by
   rw [Int.natAbs_mul,Int.natCast_mul]
   exact Int.mul_le_mul_of_nonneg_left (by omega) (by omega)
  omega
 rw [h6,Int.mul_zero] at h5
 omega
def cmpZ (a b:Int):Int:=if a < b then -1 else if a = b then 0 else 1
theorem sign_cases (z:Int):z.sign = -1 ∧ z < 0 ∨ z.sign = 0 ∧ z = 0 ∨ z.sign = 1 ∧ 0 < z:=by
  rcases Int.lt_trichotomy z 0 with h | h | h
  · exact Or.inl ⟨Int.sign_eq_neg_one_of_neg h,h⟩
  · exact Or.inr (Or.inl ⟨by rw [h]; rfl,h⟩)
  exact Or.inr (Or.inr ⟨Int.sign_eq_one_of_pos h,h⟩)
def nearP (a b:Int):Int:=if b < a % b + a % b ∨ b = a % b + a % b ∧ (a / b).natAbs % 2 = 1 then a / b + 1 else a / b
def nearZ (a b:Int):Int:=if b < 0 then nearP (-a) (-b) else nearP a b
end Go.Proofs.YtcfcdbeemhjhgaaDoor
