
/-
  The walks of math/bits: Len32, Len64, Len, LeadingZeros32.
-/
import Derived.Test.YtlnilkghbbbhbaaRows
import Derived.WalkKit
import Derived.Lib.Hide
import Derived.Lib.Strings
import Derived.Lib.Slices
import Derived.Lib.Small
import Derived.Lib.Walk
import Derived.Lib.BitFns
namespace Go.Proofs.Ytlnilkghbbbhbaa
open Go.RowKit

/-- How many bits a number has. -/
def blen (n : Nat) : Nat := if n = 0 then 0 else n.log2 + 1

theorem blen_half {n : Nat} (h : n ≠ 0) : blen n = 1 + blen (n / 2) := by
  unfold blen
  rw [if_neg h]
  by_cases h2 : n / 2 = 0
  · rw [if_pos h2]
    have : n = 1 := by omega
    subst this; rfl
  · rw [if_neg h2]
    have : n.log2 = (n / 2).log2 + 1 := by
      rw [Nat.log2_def n, if_pos (by omega)]
    omega

theorem bitLenAux_blen : ∀ (f n : Nat), n < 2 ^ f → Lib.bitLenAux f n = blen n
  | 0, n, h => by have : n = 0 := by simpa using h
                  subst this; rfl
  | f + 1, n, h => by
    unfold Lib.bitLenAux
    by_cases e : n = 0
    · subst e; rfl
    · rw [if_neg e, bitLenAux_blen f (n / 2) (by rw [Nat.pow_succ] at h; omega), blen_half e]

theorem bitLen_blen {n : Nat} (h : n < 18446744073709551616) : Lib.bitLen n = blen n := bitLenAux_blen 64 n h

theorem blen_le {n k : Nat} (h : n < 2 ^ k) : blen n ≤ k := by
  unfold blen
  split
  · omega
  · rename_i h0
    exact (Nat.log2_lt h0).2 h

theorem lt_blen (n : Nat) : n < 2 ^ blen n := by
  unfold blen
  split
  · rename_i h; subst h; simp
  · exact Nat.lt_log2_self

theorem blen_ge {n k : Nat} (h : 2 ^ k ≤ n) : k < blen n := by
  have := lt_blen n
  by_cases e : k < blen n
  · exact e
  · have := Nat.pow_le_pow_right (show 0 < 2 by omega) (show blen n ≤ k by omega)
    omega

theorem pow_blen {n : Nat} (h : n ≠ 0) : 2 ^ (blen n - 1) ≤ n := by
  unfold blen
  rw [if_neg h]
  simpa using Nat.log2_self_le h

set_option maxHeartbeats 4000000 in
set_option maxRecDepth 100000 in
theorem len32_int (x : Int) (w : World) (h0 : 0 ≤ x) (h1 : x ≤ 4294967295) :
    Calls Try.prog 97 #[.int .u32 x] w fun e w' => e = .returned (.int .i64 (Lib.bitLen x.toNat)) ∧ w = w' := by
  have hc : (16777216 ≤ x ∧ x ≤ 4294967295) ∨ (65536 ≤ x ∧ x ≤ 16777215) ∨ (256 ≤ x ∧ x ≤ 65535) ∨ (0 ≤ x ∧ x ≤ 255) := by omega
  rcases hc with ⟨hlo, hhi⟩ | ⟨hlo, hhi⟩ | ⟨hlo, hhi⟩ | ⟨hlo, hhi⟩
  · have i0 : 0 ≤ x / 65536 / 256 := by omega
    have i1 : x / 65536 / 256 ≤ 255 := by omega
    have l8 := Lib.len8_of (x / 65536 / 256) i0 i1
    have lb := Lib.bitLen_le8' (x / 65536 / 256) i0 i1
    have ee : (x / 65536 / 256).toNat = x.toNat / 16777216 := by omega
    rw [ee] at l8 lb
    have ls := Lib.bitLen_shift24 x.toNat (by omega) (by omega)
    have LS := Lib.hid ls
    clear ls ee
    have L8 := Lib.hid l8
    clear l8
    generalize hq : Lib.bitLen (x.toNat / 16777216) = q at *
    clear hq
    generalize hr : Lib.len8 (x / 65536 / 256) = r at *
    have HR := Lib.hid hr
    have r0 : 0 ≤ r := by rw [L8.out]; omega
    have r1 : r ≤ 8 := by rw [L8.out]; omega
    clear hr
    go_enter Try.func97, Try.ntmps97
    go_wp2_with fail
    rw [HR.out]
    go_ret
    refine ⟨congrArg Ending.returned (congrArg (Value.int IntKind.i64) ?_), rfl⟩
    have e1 : wrap64 r = r := IntWalk.wrap64_in r ⟨by omega, by omega⟩
    show wrap64 (24 + wrap64 r) = _
    rw [e1, IntWalk.wrap64_in (24 + r) ⟨by omega, by omega⟩, L8.out, LS.out]; omega
  · have i0 : 0 ≤ x / 65536 := by omega
    have i1 : x / 65536 ≤ 255 := by omega
    have l8 := Lib.len8_of (x / 65536) i0 i1
    have lb := Lib.bitLen_le8' (x / 65536) i0 i1
    have ee : (x / 65536).toNat = x.toNat / 65536 := by omega
    rw [ee] at l8 lb
    have ls := Lib.bitLen_shift16 x.toNat (by omega) (by omega)
    have LS := Lib.hid ls
    clear ls ee
    have L8 := Lib.hid l8
    clear l8
    generalize hq : Lib.bitLen (x.toNat / 65536) = q at *
    clear hq
    generalize hr : Lib.len8 (x / 65536) = r at *
    have HR := Lib.hid hr
    have r0 : 0 ≤ r := by rw [L8.out]; omega
    have r1 : r ≤ 8 := by rw [L8.out]; omega
    clear hr
    go_enter Try.func97, Try.ntmps97
    go_wp2_with fail
    rw [HR.out]
    go_ret
    refine ⟨congrArg Ending.returned (congrArg (Value.int IntKind.i64) ?_), rfl⟩
    have e1 : wrap64 r = r := IntWalk.wrap64_in r ⟨by omega, by omega⟩
    show wrap64 (16 + wrap64 r) = _
    rw [e1, IntWalk.wrap64_in (16 + r) ⟨by omega, by omega⟩, L8.out, LS.out]; omega
  · have i0 : 0 ≤ x / 256 := by omega
    have i1 : x / 256 ≤ 255 := by omega
    have l8 := Lib.len8_of (x / 256) i0 i1
    have lb := Lib.bitLen_le8' (x / 256) i0 i1
    have ee : (x / 256).toNat = x.toNat / 256 := by omega
    rw [ee] at l8 lb
    have ls := Lib.bitLen_shift8 x.toNat (by omega) (by omega)
    have LS := Lib.hid ls
    clear ls ee
    have L8 := Lib.hid l8
    clear l8
    generalize hq : Lib.bitLen (x.toNat / 256) = q at *
    clear hq
    generalize hr : Lib.len8 (x / 256) = r at *
    have HR := Lib.hid hr
    have r0 : 0 ≤ r := by rw [L8.out]; omega
    have r1 : r ≤ 8 := by rw [L8.out]; omega
    clear hr
    go_enter Try.func97, Try.ntmps97
    go_wp2_with fail
    rw [HR.out]
    go_ret
    refine ⟨congrArg Ending.returned (congrArg (Value.int IntKind.i64) ?_), rfl⟩
    have e1 : wrap64 r = r := IntWalk.wrap64_in r ⟨by omega, by omega⟩
    show wrap64 (8 + wrap64 r) = _
    rw [e1, IntWalk.wrap64_in (8 + r) ⟨by omega, by omega⟩, L8.out, LS.out]; omega
  · have i0 : 0 ≤ x := by omega
    have i1 : x ≤ 255 := by omega
    have l8 := Lib.len8_of (x) i0 i1
    have lb := Lib.bitLen_le8' (x) i0 i1
    have L8 := Lib.hid l8
    clear l8
    generalize hq : Lib.bitLen (x.toNat) = q at *
    clear hq
    generalize hr : Lib.len8 (x) = r at *
    have HR := Lib.hid hr
    have r0 : 0 ≤ r := by rw [L8.out]; omega
    have r1 : r ≤ 8 := by rw [L8.out]; omega
    clear hr
    go_enter Try.func97, Try.ntmps97
    go_wp2_with fail
    rw [HR.out]
    go_ret
    refine ⟨congrArg Ending.returned (congrArg (Value.int IntKind.i64) ?_), rfl⟩
    have e1 : wrap64 r = r := IntWalk.wrap64_in r ⟨by omega, by omega⟩
    show wrap64 (wrap64 r) = _
    rw [e1, e1, L8.out]

theorem len32_any {x : Nat} {X : Int} {w : World} (hX : X = (x : Int)) (hx : x < 4294967296) :
    Calls Try.prog 97 #[.int .u32 X] w fun e w' => e = .returned (.int .i64 ((blen x : Nat) : Int)) ∧ w = w' := by
  subst hX
  refine (len32_int (x : Int) w (by omega) (by omega)).mono ?_
  rintro e w' ⟨rfl, rfl⟩
  exact ⟨by rw [Int.toNat_natCast, bitLen_blen (by omega)], rfl⟩

set_option maxHeartbeats 400000 in
theorem lz32_any {x : Nat} {X : Int} {w : World} (hX : X = (x : Int)) (hx : x < 4294967296) :
    Calls Try.prog 106 #[.int .u32 X] w fun e w' => e = .returned (.int .i64 ((32 - blen x : Nat) : Int)) ∧ w = w' := by
  have hb : blen x ≤ 32 := blen_le hx
  subst hX
  go_enter Try.func106, Try.ntmps106
  go_wp2_with fail
  refine (len32_any rfl hx).mono ?_
  rintro e w' ⟨rfl, rfl⟩
  go_wp2_with fail
  go_ret
  exact ⟨congrArg Ending.returned (congrArg (Value.int IntKind.i64) (by omega)), rfl⟩

set_option maxHeartbeats 4000000 in
set_option maxRecDepth 100000 in
theorem len64_int (x : Int) (w : World) (h0 : 0 ≤ x) (h1 : x ≤ 18446744073709551615) :
    Calls Try.prog 111 #[.int .u64 x] w fun e w' => e = .returned (.int .i64 (Lib.bitLen x.toNat)) ∧ w = w' := by
  have hc : (72057594037927936 ≤ x ∧ x ≤ 18446744073709551615) ∨ (281474976710656 ≤ x ∧ x ≤ 72057594037927935) ∨ (1099511627776 ≤ x ∧ x ≤ 281474976710655) ∨ (4294967296 ≤ x ∧ x ≤ 1099511627775) ∨ (16777216 ≤ x ∧ x ≤ 4294967295) ∨ (65536 ≤ x ∧ x ≤ 16777215) ∨ (256 ≤ x ∧ x ≤ 65535) ∨ (0 ≤ x ∧ x ≤ 255) := by omega
  rcases hc with ⟨hlo, hhi⟩ | ⟨hlo, hhi⟩ | ⟨hlo, hhi⟩ | ⟨hlo, hhi⟩ | ⟨hlo, hhi⟩ | ⟨hlo, hhi⟩ | ⟨hlo, hhi⟩ | ⟨hlo, hhi⟩
  · have i0 : 0 ≤ x / 4294967296 / 65536 / 256 := by omega
    have i1 : x / 4294967296 / 65536 / 256 ≤ 255 := by omega
    have l8 := Lib.len8_of (x / 4294967296 / 65536 / 256) i0 i1
    have lb := Lib.bitLen_le8' (x / 4294967296 / 65536 / 256) i0 i1
    have ee : (x / 4294967296 / 65536 / 256).toNat = x.toNat / 72057594037927936 := by omega
    rw [ee] at l8 lb
    have ls := Lib.bitLen_shift56 x.toNat (by omega) (by omega)
    have LS := Lib.hid ls
    clear ls ee
    have L8 := Lib.hid l8
    clear l8
    generalize hq : Lib.bitLen (x.toNat / 72057594037927936) = q at *
    clear hq
    generalize hr : Lib.len8 (x / 4294967296 / 65536 / 256) = r at *
    have HR := Lib.hid hr
    have r0 : 0 ≤ r := by rw [L8.out]; omega
    have r1 : r ≤ 8 := by rw [L8.out]; omega
    clear hr
    go_enter Try.func111, Try.ntmps111
    go_wp2_with fail
    rw [HR.out]
    go_ret
    refine ⟨congrArg Ending.returned (congrArg (Value.int IntKind.i64) ?_), rfl⟩
    have e1 : wrap64 r = r := IntWalk.wrap64_in r ⟨by omega, by omega⟩
    show wrap64 (56 + wrap64 r) = _
    rw [e1, IntWalk.wrap64_in (56 + r) ⟨by omega, by omega⟩, L8.out, LS.out]; omega
  · have i0 : 0 ≤ x / 4294967296 / 65536 := by omega
    have i1 : x / 4294967296 / 65536 ≤ 255 := by omega
    have l8 := Lib.len8_of (x / 4294967296 / 65536) i0 i1
    have lb := Lib.bitLen_le8' (x / 4294967296 / 65536) i0 i1
    have ee : (x / 4294967296 / 65536).toNat = x.toNat / 281474976710656 := by omega
    rw [ee] at l8 lb
    have ls := Lib.bitLen_shift48 x.toNat (by omega) (by omega)
    have LS := Lib.hid ls
    clear ls ee
    have L8 := Lib.hid l8
    clear l8
    generalize hq : Lib.bitLen (x.toNat / 281474976710656) = q at *
    clear hq
    generalize hr : Lib.len8 (x / 4294967296 / 65536) = r at *
    have HR := Lib.hid hr
    have r0 : 0 ≤ r := by rw [L8.out]; omega
    have r1 : r ≤ 8 := by rw [L8.out]; omega
    clear hr
    go_enter Try.func111, Try.ntmps111
    go_wp2_with fail
    rw [HR.out]
    go_ret
    refine ⟨congrArg Ending.returned (congrArg (Value.int IntKind.i64) ?_), rfl⟩
    have e1 : wrap64 r = r := IntWalk.wrap64_in r ⟨by omega, by omega⟩
    show wrap64 (48 + wrap64 r) = _
    rw [e1, IntWalk.wrap64_in (48 + r) ⟨by omega, by omega⟩, L8.out, LS.out]; omega
  · have i0 : 0 ≤ x / 4294967296 / 256 := by omega
    have i1 : x / 4294967296 / 256 ≤ 255 := by omega
    have l8 := Lib.len8_of (x / 4294967296 / 256) i0 i1
    have lb := Lib.bitLen_le8' (x / 4294967296 / 256) i0 i1
    have ee : (x / 4294967296 / 256).toNat = x.toNat / 1099511627776 := by omega
    rw [ee] at l8 lb
    have ls := Lib.bitLen_shift40 x.toNat (by omega) (by omega)
    have LS := Lib.hid ls
    clear ls ee
    have L8 := Lib.hid l8
    clear l8
    generalize hq : Lib.bitLen (x.toNat / 1099511627776) = q at *
    clear hq
    generalize hr : Lib.len8 (x / 4294967296 / 256) = r at *
    have HR := Lib.hid hr
    have r0 : 0 ≤ r := by rw [L8.out]; omega
    have r1 : r ≤ 8 := by rw [L8.out]; omega
    clear hr
    go_enter Try.func111, Try.ntmps111
    go_wp2_with fail
    rw [HR.out]
    go_ret
    refine ⟨congrArg Ending.returned (congrArg (Value.int IntKind.i64) ?_), rfl⟩
    have e1 : wrap64 r = r := IntWalk.wrap64_in r ⟨by omega, by omega⟩
    show wrap64 (40 + wrap64 r) = _
    rw [e1, IntWalk.wrap64_in (40 + r) ⟨by omega, by omega⟩, L8.out, LS.out]; omega
  · have i0 : 0 ≤ x / 4294967296 := by omega
    have i1 : x / 4294967296 ≤ 255 := by omega
    have l8 := Lib.len8_of (x / 4294967296) i0 i1
    have lb := Lib.bitLen_le8' (x / 4294967296) i0 i1
    have ee : (x / 4294967296).toNat = x.toNat / 4294967296 := by omega
    rw [ee] at l8 lb
    have ls := Lib.bitLen_shift32 x.toNat (by omega) (by omega)
    have LS := Lib.hid ls
    clear ls ee
    have L8 := Lib.hid l8
    clear l8
    generalize hq : Lib.bitLen (x.toNat / 4294967296) = q at *
    clear hq
    generalize hr : Lib.len8 (x / 4294967296) = r at *
    have HR := Lib.hid hr
    have r0 : 0 ≤ r := by rw [L8.out]; omega
    have r1 : r ≤ 8 := by rw [L8.out]; omega
    clear hr
    go_enter Try.func111, Try.ntmps111
    go_wp2_with fail
    rw [HR.out]
    go_ret
    refine ⟨congrArg Ending.returned (congrArg (Value.int IntKind.i64) ?_), rfl⟩
    have e1 : wrap64 r = r := IntWalk.wrap64_in r ⟨by omega, by omega⟩
    show wrap64 (32 + wrap64 r) = _
    rw [e1, IntWalk.wrap64_in (32 + r) ⟨by omega, by omega⟩, L8.out, LS.out]; omega
  · have i0 : 0 ≤ x / 65536 / 256 := by omega
    have i1 : x / 65536 / 256 ≤ 255 := by omega
    have l8 := Lib.len8_of (x / 65536 / 256) i0 i1
    have lb := Lib.bitLen_le8' (x / 65536 / 256) i0 i1
    have ee : (x / 65536 / 256).toNat = x.toNat / 16777216 := by omega
    rw [ee] at l8 lb
    have ls := Lib.bitLen_shift24 x.toNat (by omega) (by omega)
    have LS := Lib.hid ls
    clear ls ee
    have L8 := Lib.hid l8
    clear l8
    generalize hq : Lib.bitLen (x.toNat / 16777216) = q at *
    clear hq
    generalize hr : Lib.len8 (x / 65536 / 256) = r at *
    have HR := Lib.hid hr
    have r0 : 0 ≤ r := by rw [L8.out]; omega
    have r1 : r ≤ 8 := by rw [L8.out]; omega
    clear hr
    go_enter Try.func111, Try.ntmps111
    go_wp2_with fail
    rw [HR.out]
    go_ret
    refine ⟨congrArg Ending.returned (congrArg (Value.int IntKind.i64) ?_), rfl⟩
    have e1 : wrap64 r = r := IntWalk.wrap64_in r ⟨by omega, by omega⟩
    show wrap64 (24 + wrap64 r) = _
    rw [e1, IntWalk.wrap64_in (24 + r) ⟨by omega, by omega⟩, L8.out, LS.out]; omega
  · have i0 : 0 ≤ x / 65536 := by omega
    have i1 : x / 65536 ≤ 255 := by omega
    have l8 := Lib.len8_of (x / 65536) i0 i1
    have lb := Lib.bitLen_le8' (x / 65536) i0 i1
    have ee : (x / 65536).toNat = x.toNat / 65536 := by omega
    rw [ee] at l8 lb
    have ls := Lib.bitLen_shift16 x.toNat (by omega) (by omega)
    have LS := Lib.hid ls
    clear ls ee
    have L8 := Lib.hid l8
    clear l8
    generalize hq : Lib.bitLen (x.toNat / 65536) = q at *
    clear hq
    generalize hr : Lib.len8 (x / 65536) = r at *
    have HR := Lib.hid hr
    have r0 : 0 ≤ r := by rw [L8.out]; omega
    have r1 : r ≤ 8 := by rw [L8.out]; omega
    clear hr
    go_enter Try.func111, Try.ntmps111
    go_wp2_with fail
    rw [HR.out]
    go_ret
    refine ⟨congrArg Ending.returned (congrArg (Value.int IntKind.i64) ?_), rfl⟩
    have e1 : wrap64 r = r := IntWalk.wrap64_in r ⟨by omega, by omega⟩
    show wrap64 (16 + wrap64 r) = _
    rw [e1, IntWalk.wrap64_in (16 + r) ⟨by omega, by omega⟩, L8.out, LS.out]; omega
  · have i0 : 0 ≤ x / 256 := by omega
    have i1 : x / 256 ≤ 255 := by omega
    have l8 := Lib.len8_of (x / 256) i0 i1
    have lb := Lib.bitLen_le8' (x / 256) i0 i1
    have ee : (x / 256).toNat = x.toNat / 256 := by omega
    rw [ee] at l8 lb
    have ls := Lib.bitLen_shift8 x.toNat (by omega) (by omega)
    have LS := Lib.hid ls
    clear ls ee
    have L8 := Lib.hid l8
    clear l8
    generalize hq : Lib.bitLen (x.toNat / 256) = q at *
    clear hq
    generalize hr : Lib.len8 (x / 256) = r at *
    have HR := Lib.hid hr
    have r0 : 0 ≤ r := by rw [L8.out]; omega
    have r1 : r ≤ 8 := by rw [L8.out]; omega
    clear hr
    go_enter Try.func111, Try.ntmps111
    go_wp2_with fail
    rw [HR.out]
    go_ret
    refine ⟨congrArg Ending.returned (congrArg (Value.int IntKind.i64) ?_), rfl⟩
    have e1 : wrap64 r = r := IntWalk.wrap64_in r ⟨by omega, by omega⟩
    show wrap64 (8 + wrap64 r) = _
    rw [e1, IntWalk.wrap64_in (8 + r) ⟨by omega, by omega⟩, L8.out, LS.out]; omega
  · have i0 : 0 ≤ x := by omega
    have i1 : x ≤ 255 := by omega
    have l8 := Lib.len8_of (x) i0 i1
    have lb := Lib.bitLen_le8' (x) i0 i1
    have L8 := Lib.hid l8
    clear l8
    generalize hq : Lib.bitLen (x.toNat) = q at *
    clear hq
    generalize hr : Lib.len8 (x) = r at *
    have HR := Lib.hid hr
    have r0 : 0 ≤ r := by rw [L8.out]; omega
    have r1 : r ≤ 8 := by rw [L8.out]; omega
    clear hr
    go_enter Try.func111, Try.ntmps111
    go_wp2_with fail
    rw [HR.out]
    go_ret
    refine ⟨congrArg Ending.returned (congrArg (Value.int IntKind.i64) ?_), rfl⟩
    have e1 : wrap64 r = r := IntWalk.wrap64_in r ⟨by omega, by omega⟩
    show wrap64 (wrap64 r) = _
    rw [e1, e1, L8.out]

set_option maxHeartbeats 400000 in
theorem bitsLen_any {x : Nat} {X : Int} {w : World} (hX : X = (x : Int)) (hx : x < 18446744073709551616) :
    Calls Try.prog 104 #[.int .u64 X] w fun e w' => e = .returned (.int .i64 ((blen x : Nat) : Int)) ∧ w = w' := by
  subst hX
  have HB : Hid (Lib.bitLen x = blen x) := bitLen_blen hx
  go_enter Try.func104, Try.ntmps104
  go_wp2_with fail
  refine (len64_int (x : Int) w (by omega) (by omega)).mono ?_
  rintro e w' ⟨rfl, rfl⟩
  go_wp2_with fail
  go_ret
  exact ⟨congrArg Ending.returned (congrArg (Value.int IntKind.i64) (by rw [HB.out])), rfl⟩

end Go.Proofs.Ytlnilkghbbbhbaa
