
/-
  Slices just built, of structs; zint's Gcd and Lcm of two.
-/
import Derived.Test.YtlnilkghbbbhbaaZFold2
import Derived.Test.YtlnilkghbbbhbaaLst
set_option linter.unusedVariables false
set_option linter.unusedSimpArgs false
namespace Go.Proofs.Ytlnilkghbbbhbaa
open Go.RowKit

section
variable {P : Program} {o : Oper} {n : Nat} {f : Nat → Value} {w w0 : World} {R : List Res} {K : Act → World → Prop} {Q : Exit → Act → World → Prop} {d : Nat}
def Slb (cs : List Value) (t : TypeId) (len : Nat) : Tell := fun v r => ∃ g, v = .slice (some ⟨g, 0, none⟩) len len ∧ r = [.blk g cs t]
end

theorem Wd.lcm {x y z : Int} {k l m : Nat} (hx : Wd x k) (hy : Wd y l) (hz : Hid ((Int.lcm x y : Int) = z)) (h : k + l ≤ m) : Wd z m := by
  have hz' := hz.out; subst hz'
  unfold Wd at *
  rw [Int.natAbs_natCast]
  have h1 : Int.lcm x y ≤ x.natAbs * y.natAbs := by
    unfold Int.lcm Nat.lcm
    exact Nat.div_le_self _ _
  exact llv_le h1 (llv_mul hx hy h)
theorem infoInt : (Try.prog.info? 25).map (fun i => (i.zero, i.size, i.bytes)) = some (some (.agg #[.bool false, .slice none 0 0]), 2, 32) := by kernel_rfl
/-- What a call tells of its own. -/
theorem Sep.newR {R : List Res} {w w' : World} (h : Sep w R w') (k : Nat) {r : Res} (hk : R[k]? = some r) (ha : r.arg = false) : New w [r] w' :=
  New.one h.below (h.get k hk) (fun g hg => h.low r (List.mem_of_getElem? hk) ha g hg)
theorem Ret.mono {T T' : Tell} {w : World} (h : ∀ v r, T v r → T' v r) (e : Ending) (w' : World) (hr : Ret T w e w') : Ret T' w e w' := by
  obtain ⟨v, r, h1, h2, h3⟩ := hr; exact ⟨v, r, h1, h v r h2, h3⟩

end Go.Proofs.Ytlnilkghbbbhbaa
