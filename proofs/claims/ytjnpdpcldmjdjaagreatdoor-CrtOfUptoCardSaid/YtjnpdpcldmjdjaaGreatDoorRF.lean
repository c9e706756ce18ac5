/-
  Contracts and lemmas, joined in one text.
-/
import Derived.Test.YtjnpdpcldmjdjaaGreatDoorRO
set_option linter.unusedVariables false
set_option linter.unusedSimpArgs false
/-
  rat's functions and the document's,as contracts.
-/
namespace Go.Proofs.YtjnpdpcldmjdjaaGreatDoor
open Go.RowKit
def cmpQ (x y u v:Int):Int:=((x * v - u * y) * (y * v)).sign
theorem cmpZ_sign (a b:Int):cmpZ a b = (a - b).sign:=by
  unfold cmpZ
  rcases Int.lt_trichotomy a b with h | h | h
  · rw [if_pos h,Int.sign_eq_neg_one_of_neg (by omega)]
  · rw [if_neg (by omega),if_pos h,h,Int.sub_self]; rfl
  rw [if_neg (by omega),if_neg (by omega),Int.sign_eq_one_of_pos (by omega)]
end Go.Proofs.YtjnpdpcldmjdjaaGreatDoor
