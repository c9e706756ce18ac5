
/-
  An integer, as it came in.
-/
import Derived.Test.YtnlnibngpeempaaGreatDoorLaw
import Derived.Lib.SmallJoins
set_option linter.unusedVariables false
set_option linter.unusedSimpArgs false
namespace Go.Proofs.YtnlnibngpeempaaGreatDoor
open Go.ChangeShapes Go.WideShapes Go.ChangeAt Go.RowKit Go.Joins
theorem open_nat_cell {H:Type} {enc:TypeId × Value → H} {W:World} {v:Value} {y:DataW H × List MemPlace} {fuel:Nat} (h:DataW.trod enc Tryz.prog W 0 (fun _ => true) true fuel 26 [v] = some y) :
  ∃ p n c xs,v = .slice p n c ∧ Sl W p n c xs ∧ n + 1 ≤ Rows.uptoBulk y.1:=by
 rcases open_ints Tryz.underlying26 Tryz.underlying63 (by kernel_rfl) h with ⟨h1,h2⟩ | ⟨a,len,cap,zs,h1,hb,hlc,hcm,hzl,h2,hc,hw⟩
 ·simp at h1
  subst h1
  exact ⟨none,0,0,[],rfl,Sl.nil W,by have:=bulk_one y.1; omega⟩
 simp at h1
 subst h1
 rw [if_pos rfl] at hzl
 have hwn:∀ z ∈ zs,0 ≤ z ∧ z < 4294967296:=fun z hz => by have:=bounds_u32 (hw z hz); omega
 have hnd:∀ i,i < len → ((nd ((zs.take len).map Int.toNat) i:Nat):Int) = zs.getD i 0 ∧ nd ((zs.take len).map Int.toNat) i < 4294967296:=by
  intro i hi
  have hi2:i < zs.length:=by omega
  have hm:=hwn zs[i] (List.getElem_mem hi2)
  have e:nd ((zs.take len).map Int.toNat) i = zs[i].toNat:=by
   rw [nd_get (by simp; omega)]
   simp
  have e2:zs.getD i 0 = zs[i]:=by simp [List.getD,hi2]
  rw [e,e2]
  omega
 refine ⟨some a,len,cap,(zs.take len).map Int.toNat,rfl,⟨by simp; omega,hlc,hcm,fun i hi => (hnd i (by simp at hi; omega)).2,(fun h => by cases h),fun i hi => ?_⟩,?_⟩
 ·obtain ⟨b,off,rfl,hcc⟩:=ints_at hc (by omega)
  refine ⟨b,off,rfl,?_⟩
  rw [hcc i (by omega),(hnd i hi).1]
 rw [h2]
 simp only [Rows.uptoBulk]
 have h3:=bulk_length (lits (H:=H) .u32 (zs.take len))
 have h4:(lits (H:=H) .u32 (zs.take len)).length = len:=by simp [lits]; omega
 omega
end Go.Proofs.YtnlnibngpeempaaGreatDoor
