/-
  Contracts and lemmas, joined in one text.
-/
import Derived.Test.YtnlnibngpeempaaGreatDoorCA
import Derived.Test.YtnlnibngpeempaaGreatDoorCB
import Derived.Test.YtnlnibngpeempaaGreatDoorB2
set_option linter.unusedVariables false
set_option linter.unusedSimpArgs false
/-
  A map from words to integers whose values matter only as to whether they are positive; the first part of a slice.
-/
namespace Go.Proofs.YtnlnibngpeempaaGreatDoor
open Go.RowKit
def Res.mv (P:Program) (k e:TypeId) (g:Nat) (L:List Nat):Res where
 own:=true
 arg:=false
 foot j:=j = g
 holds w := ∃ D:DataW Unit,w.ownsMap P k (plainElem P e) g L.length D ∧ ∀ p:Nat,p < 4294967296 → ∃ c:Int,D.atKey (.int .u32 (p:Int)) (.lit (.int .i64 0)) = .lit (.int .i64 c) ∧ decide (c > 0) = decide (p ∈ L)
 lt w h j hj:=by
  obtain ⟨D,h,_⟩:=h
  subst hj
  exact h.lt
 stays w w' he h:=by
  obtain ⟨D,⟨es,clock,hb,r⟩,h2⟩:=h
  exact ⟨D,⟨es,clock,(he g rfl).trans hb,r⟩,h2⟩
section
variable {P:Program} {n d:Nat} {f:Nat → Value} {w0 w:World} {R:List Res} {o:Oper} {K:Act → World → Prop} {Q:Exit → Act → World → Prop} {t k e:TypeId} {g:Nat} {L:List Nat}
end
open Go.RowKit
theorem cmpZ_gtD {a b s:Int} (h:Hid (cmpZ a b = s)):decide (s > 0) = decide (b < a):=by
  have h1:=h.out
  rw [cmpZ_sign] at h1
  by_cases h2:b < a
  · rw [Int.sign_eq_one_of_pos (by omega)] at h1; rw [decide_eq_true h2,decide_eq_true (by omega)]
  have:=sign_cases (a - b); rw [decide_eq_false h2,decide_eq_false (by omega)]
open Go.RowKit
end Go.Proofs.YtnlnibngpeempaaGreatDoor
