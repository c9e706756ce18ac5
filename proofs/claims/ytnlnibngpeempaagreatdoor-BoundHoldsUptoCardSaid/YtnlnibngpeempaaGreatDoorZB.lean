/-
  Contracts and lemmas, joined in one text.
-/
import Derived.Test.YtnlnibngpeempaaGreatDoorRO
set_option linter.unusedVariables false
set_option linter.unusedSimpArgs false
/-
  The walk of zint.Bezout.
-/
namespace Go.Proofs.YtnlnibngpeempaaGreatDoor
open Go.RowKit
open Go.RowKit
def Inv (r q z:Int):Prop:=0 ≤ z ∧ z < q ∧ ∃ k,r * z + q * k = 1 % q
theorem bezout_nat (a b:Nat):∃ u v:Int,(a:Int) * u + (b:Int) * v = (Nat.gcd a b:Int):=by
 induction a,b using Nat.gcd.induction with
 | H0 n => exact ⟨0,1,by simp⟩
 | H1 m n hm ih =>
  obtain ⟨u,v,h⟩:=ih
  refine ⟨v - (n / m:Nat) * u,u,?_⟩
  rw [Nat.gcd_rec, ← h]
  have e:(n:Int) = (m:Int) * ((n / m:Nat):Int) + ((n % m:Nat):Int):=by
   rw [← Int.natCast_mul, ← Int.natCast_add,Nat.div_add_mod]
  have e2:(n:Int) * u = (m:Int) * (((n / m:Nat):Int) * u) + ((n % m:Nat):Int) * u:=by
   rw [← Int.mul_assoc, ← Int.add_mul, ← e]
  rw [Int.mul_sub,e2]; omega
theorem Inv.some {r q:Int} (h0:0 ≤ r) (h1:r < q) (hg:Int.gcd r q = 1):∃ z,Hid (Inv r q z):=by
  obtain ⟨u,v,huv⟩:=bezout_nat r.natAbs q.natAbs
  have hg':Nat.gcd r.natAbs q.natAbs = 1:=hg
  rw [hg',show (r.natAbs:Int) = r by omega,show (q.natAbs:Int) = q by omega] at huv
  have e1:=Int.emod_add_mul_ediv u q
  refine ⟨u % q,Int.emod_nonneg _ (by omega),Int.emod_lt_of_pos _ (by omega),r * (u / q) + v - 1 / q,?_⟩
  have e2:r * (u % q) = r * u - r * (q * (u / q)):=by rw [← Int.mul_sub]; congr 1; omega
  have e3:r * (q * (u / q)) = q * (r * (u / q)):=by rw [← Int.mul_assoc,Int.mul_comm r q,Int.mul_assoc]
  have e4:=Int.emod_add_mul_ediv 1 q
  rw [Int.mul_sub,Int.mul_add]
  have huv':r * u + q * v = 1:=huv
  omega
end Go.Proofs.YtnlnibngpeempaaGreatDoor
