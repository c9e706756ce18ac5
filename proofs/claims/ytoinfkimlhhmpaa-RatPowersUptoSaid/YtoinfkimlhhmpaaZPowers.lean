
/-
  The walk of similelaw03.ZintPowers.
-/
import Derived.Test.YtoinfkimlhhmpaaBG
import Derived.Test.YtoinfkimlhhmpaaPowFacts
set_option linter.unusedVariables false
set_option linter.unusedSimpArgs false
namespace Go.Proofs.Ytoinfkimlhhmpaa
open Go.RowKit

theorem zpow_ok_any {p : Option Addr} {n c : Nat} {b : Bool} {xs : List Nat} {w : World} {k : Nat} (hx : Sl w p n c xs) (hn : n ≤ 1048576000) (hk : k ≤ 9223372036854775807) (hk0 : 0 < k) (h1 : 1 < blen (val xs)) (h2 : blen (val xs) * k ≤ 67108864) :
    Calls Try.prog 86 #[.agg #[.bool b, .slice p n c], .int .i64 (k : Int)] w (RetZE w (zv b (val xs) ^ k) 0) := by
  cases b
  · exact zpow_ok_p hx hn hk hk0 h1 h2
  · rcases Nat.mod_two_eq_zero_or_one k with he | he
    · exact zpow_ok_e hx hn hk hk0 h1 h2 he
    · exact zpow_ok_o hx hn hk hk0 h1 h2 he

theorem zpow_one_any {p : Option Addr} {n c : Nat} {b : Bool} {xs : List Nat} {w : World} {k : Nat} (hx : Sl w p n c xs) (hn : n ≤ 1048576000) (hk : k ≤ 9223372036854775807) (h1 : k = 0 ∨ blen (val xs) = 1) :
    Calls Try.prog 86 #[.agg #[.bool b, .slice p n c], .int .i64 (k : Int)] w (RetZE w (zv b (val xs) ^ k) 0) := by
  cases b
  · exact zpow_one_p hx hn hk h1
  · rcases Nat.mod_two_eq_zero_or_one k with he | he
    · exact zpow_one_e hx hn hk h1 he
    · exact zpow_one_o hx hn hk h1 he

theorem zpow_nil_any {p : Option Addr} {n c : Nat} {b : Bool} {xs : List Nat} {w : World} {k : Nat} (hx : Sl w p n c xs) (hn : n ≤ 1048576000) (hk : k ≤ 9223372036854775807) (hk0 : 0 < k) (h1 : val xs = 0) :
    Calls Try.prog 86 #[.agg #[.bool b, .slice p n c], .int .i64 (k : Int)] w (RetZE w (zv b (val xs) ^ k) 0) := by
  cases b
  · exact zpow_nil_p hx hn hk hk0 h1
  · rcases Nat.mod_two_eq_zero_or_one k with he | he
    · exact zpow_nil_e hx hn hk hk0 h1 he
    · exact zpow_nil_o hx hn hk hk0 h1 he

theorem qpow_ok_any {p : Option Addr} {n c : Nat} {b : Bool} {xs : List Nat} {w : World} {k : Nat} (hx : Sl w p n c xs) (hn : n ≤ 1048576000) (hk : k ≤ 9223372036854775807) (hL : ll (val xs ^ k) ≤ 17592186044416) (h1 : 1 < blen (val xs)) (h2 : blen (val xs) * k ≤ 67108863) :
    Calls Try.prog 88 #[.agg #[.bool b, .slice p n c], .int .i64 (k : Int)] w (RetZB w (zv b (val xs) ^ k) true) := by
  cases b
  · exact qpow_ok_p hx hn hk hL h1 h2
  · rcases Nat.mod_two_eq_zero_or_one k with he | he
    · exact qpow_ok_e hx hn hk hL h1 h2 he
    · exact qpow_ok_o hx hn hk hL h1 h2 he

theorem qpow_small_any {p : Option Addr} {n c : Nat} {b : Bool} {xs : List Nat} {w : World} {k : Nat} (hx : Sl w p n c xs) (hn : n ≤ 1048576000) (hk : k ≤ 9223372036854775807) (hL : ll (val xs ^ k) ≤ 17592186044416) (h1 : blen (val xs) ≤ 1) :
    Calls Try.prog 88 #[.agg #[.bool b, .slice p n c], .int .i64 (k : Int)] w (RetZB w (zv b (val xs) ^ k) true) := by
  cases b
  · exact qpow_small_p hx hn hk hL h1
  · rcases Nat.mod_two_eq_zero_or_one k with he | he
    · exact qpow_small_e hx hn hk hL h1 he
    · exact qpow_small_o hx hn hk hL h1 he

end Go.Proofs.Ytoinfkimlhhmpaa
