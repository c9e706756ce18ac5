
/-
  Small lemmas that several walks want.
-/
import Derived.Test.YtlnilkghbbbhbaaNatI
import Derived.Test.YtlnilkghbbbhbaaRefA
namespace Go.Proofs.Ytlnilkghbbbhbaa
open Go.RowKit

theorem hid_le {a b c : Nat} (h : Hid (a ≤ b)) (h2 : b ≤ c) : Hid (a ≤ c) := Nat.le_trans h h2

theorem norm_len {w w' : World} {B : Nat} {p q : Option Addr} {n c m d : Nat} {xs : List Nat} (hx : Sl w p n c xs) (h : Fr B w' q m d (lim (val xs))) : m ≤ n := by
  rw [h.sl.lln, ← tl_ll hx.lims, hx.len]; exact tl_le _ _

theorem lims_three {a b c : Nat} (ha : a < 4294967296) (hb : b < 4294967296) (hc : c < 4294967296) : Lims [a, b, c] := by
  intro i hi
  simp only [List.length_cons, List.length_nil] at hi
  rcases i with _ | _ | _ | i
  · exact ha
  · exact hb
  · exact hc
  · omega

theorem val_three (a b c : Nat) : val [a, b, c] = a + b * 4294967296 + c * 18446744073709551616 := by simp [val, sm, nd]

/-- Limbs without a 0 on top are the limbs of their number. -/
theorem lim_of_val {xs : List Nat} (h : Lims xs) (ht : tl xs xs.length = xs.length) : lim (val xs) = xs := by
  rw [← nrm_eq h, ht, List.take_length]

end Go.Proofs.Ytlnilkghbbbhbaa
