/-
  Contracts and lemmas, joined in one text.
-/
import Derived.Test.YtnlnibngpeempaaGreatDoorMr1
import Derived.Test.YtnlnibngpeempaaGreatDoorMr2
import Derived.Test.YtnlnibngpeempaaGreatDoorMr3
set_option linter.unusedVariables false
set_option linter.unusedSimpArgs false
/-
  Below 2^32: what no prime up to 13,nor 61,divides and what passes the strong test by 2,7 and 61 is a prime; and primes pass.
-/
namespace Go.Proofs.YtnlnibngpeempaaGreatDoor.MR
theorem small_div:∀ q,q < 17 → 2 ≤ q → 2 ∣ q ∨ 3 ∣ q ∨ 5 ∣ q ∨ 7 ∣ q ∨ 11 ∣ q ∨ 13 ∣ q:=by decide
theorem prime_of {n:Nat} (h1:1 < n) (hlt:n < 4294967296) (h2:¬ 2 ∣ n) (h3:¬ 3 ∣ n) (h5:¬ 5 ∣ n) (h7:¬ 7 ∣ n) (h11:¬ 11 ∣ n) (h13:¬ 13 ∣ n) (h61:¬ 61 ∣ n) (s2:Strong 2 n) (s7:Strong 7 n) (s61:Strong 61 n):Pr n:=by
 refine strong_prime mr1 mr2 mr3 ⟨hlt,h1,s2,s7,s61,fun q hq hqn => ⟨?_,fun e => h61 (by rw [← e]; exact hqn)⟩⟩
 rcases Nat.lt_or_ge q 17 with hl | hl
 ·exfalso
  rcases small_div q hl hq.1 with h | h | h | h | h | h
  ·exact h2 (Nat.dvd_trans h hqn)
  ·exact h3 (Nat.dvd_trans h hqn)
  ·exact h5 (Nat.dvd_trans h hqn)
  ·exact h7 (Nat.dvd_trans h hqn)
  ·exact h11 (Nat.dvd_trans h hqn)
  exact h13 (Nat.dvd_trans h hqn)
 exact hl
end Go.Proofs.YtnlnibngpeempaaGreatDoor.MR
