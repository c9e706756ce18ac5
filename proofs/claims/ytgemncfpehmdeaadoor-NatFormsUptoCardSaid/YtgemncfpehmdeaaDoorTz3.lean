
/-
  Bits of a number: the document's Bit.
-/
import Derived.Test.YtgemncfpehmdeaaDoorTz2
import Derived.Test.YtgemncfpehmdeaaDoorBB
set_option linter.unusedVariables false
set_option linter.unusedSimpArgs false
namespace Go.Proofs.YtgemncfpehmdeaaDoor
open Go.RowKit

/-- A bit. -/
def bt (xs : List Nat) (k : Nat) : Nat := nd xs (k / 32) / 2 ^ (k % 32) % 2
theorem shr_u64 (a k : Nat) (hk : k < 32) : ((a : Nat) : Int).fdiv (2 ^ (min ((k : Nat) : Int).toNat IntKind.u64.bits)) = ((a / 2 ^ k : Nat) : Int) := by
  rw [show min ((k : Nat) : Int).toNat IntKind.u64.bits = k by show min ((k : Nat) : Int).toNat 64 = k; omega, Int.fdiv_eq_ediv_of_nonneg _ (Int.le_of_lt (Int.pow_pos (by omega)))]
  rw [Int.natCast_ediv, Int.natCast_pow]; rfl
theorem quo32 {k : Nat} (hk : k ≤ 9223372036854775807) : IntKind.i64.wrap (((k : Nat) : Int).tdiv 32) = ((k / 32 : Nat) : Int) := by
  rw [show ((k : Nat) : Int).tdiv 32 = ((k / 32 : Nat) : Int) from rfl]
  exact wrap_i64 (by omega) (by omega)
theorem rem32 {k : Nat} : ((k : Nat) : Int).tmod 32 = ((k % 32 : Nat) : Int) := rfl

set_option maxRecDepth 100000 in
set_option maxHeartbeats 16000000 in
theorem wqbit {p : Option Addr} {n c k : Nat} {xs : List Nat} {w : World} (hx : Sl w p n c xs) (hk : k ≤ 9223372036854775807) :
    Calls Tryd.prog 14 #[.slice p n c, .int .i64 (k : Int)] w (Ret (Is (.int .u64 ((bt xs k : Nat) : Int))) w) := by
  have hS := Sep.init w
  refine went Tryd.func14 rfl (n := 16) rfl rfl ?_
  refine wseq ?_
  refine wreg ?_
  refine wl rfl (oassign (v := .int .u64 0) rfl rfl (evc (v := .int .u64 0)) ?_)
  refine wnil ?_
  refine thenN ?_
  refine wseq ?_
  refine wseq ?_
  refine wreg ?_
  refine wl rfl (omove (v := .int .i64 (((k : Nat) : Int))) rfl rfl (ev (v := .int .i64 (((k : Nat) : Int))) rfl rfl) ?_)
  refine wl rfl (obin (u := .int .i64 (((k : Nat) : Int))) (v := .int .i64 0) (z := .bool false) rfl rfl (ev (v := .int .i64 (((k : Nat) : Int))) rfl rfl) (evc (v := .int .i64 0)) (bin_lss (decide_eq_false (by omega))) ?_)
  refine wnil ?_
  refine thenN ?_
  refine wF (ev (v := .bool false) rfl rfl) ?_
  refine wskip ?_
  refine thenN ?_
  refine wseq ?_
  refine wreg ?_
  refine wl rfl (omove (v := .slice p n c) rfl rfl (ev (v := .slice p n c) rfl rfl) ?_)
  refine wl rfl (omove (v := .int .i64 (((k : Nat) : Int))) rfl rfl (ev (v := .int .i64 (((k : Nat) : Int))) rfl rfl) ?_)
  refine wl rfl (obin (u := .int .i64 (((k : Nat) : Int))) (v := .int .i64 32) (z := .int .i64 (((k / 32 : Nat) : Int))) rfl rfl (ev (v := .int .i64 (((k : Nat) : Int))) rfl rfl) (evc (v := .int .i64 32)) (bin_quo (by decide) (quo32 hk)) ?_)
  refine wl rfl (ocall rfl rfl Tryd.call23 rfl ((limb_any rfl (hx.below hS.below (Nat.le_refl _)) (by omega)).mono same_u) (args2 (ev rfl rfl) (ev rfl rfl)) ?_)
  rintro _ w1 ⟨_, _, rfl, ⟨rfl, rfl⟩, hN⟩
  refine ⟨_, rfl, ?_⟩
  replace hS := hS.news hN; clear hN
  refine wl rfl (omove (v := .int .i64 (((k : Nat) : Int))) rfl rfl (ev (v := .int .i64 (((k : Nat) : Int))) rfl rfl) ?_)
  refine wl rfl (obin (u := .int .i64 (((k : Nat) : Int))) (v := .int .i64 32) (z := .int .i64 (((k % 32 : Nat) : Int))) rfl rfl (ev (v := .int .i64 (((k : Nat) : Int))) rfl rfl) (evc (v := .int .i64 32)) (bin_rem (by decide) rem32) ?_)
  refine wl rfl (oconvert (u := .int .i64 (((k % 32 : Nat) : Int))) (v := .int .u64 (((k % 32 : Nat) : Int))) rfl rfl (ev (v := .int .i64 (((k % 32 : Nat) : Int))) rfl rfl) (convert_int Tryd.runUnderlying3 Tryd.runUnderlying30 (wrap_u64 (by omega) (by omega))) ?_)
  refine wl rfl (obin (u := .int .u64 (((nd xs (k / 32) : Nat) : Int))) (v := .int .u64 (((k % 32 : Nat) : Int))) (z := .int .u64 (((nd xs (k / 32) / 2 ^ (k % 32) : Nat) : Int))) rfl rfl (ev (v := .int .u64 (((nd xs (k / 32) : Nat) : Int))) rfl rfl) (ev (v := .int .u64 (((k % 32 : Nat) : Int))) rfl rfl) (bin_shr (by omega) (shr_u64 _ _ (by omega))) ?_)
  refine wl rfl (obin (u := .int .u64 (((nd xs (k / 32) / 2 ^ (k % 32) : Nat) : Int))) (v := .int .u64 2) (z := .int .u64 (((bt xs k : Nat) : Int))) rfl rfl (ev (v := .int .u64 (((nd xs (k / 32) / 2 ^ (k % 32) : Nat) : Int))) rfl rfl) (evc (v := .int .u64 2)) (bin_rem (by decide) rfl) ?_)
  refine wl rfl (oassign (v := .int .u64 (((bt xs k : Nat) : Int))) rfl rfl (ev (v := .int .u64 (((bt xs k : Nat) : Int))) rfl rfl) ?_)
  refine wnil ?_
  refine thenN ?_
  refine wleave ?_
  refine wret1 Tryd.results14 (tellT (v := .int .u64 (((bt xs k : Nat) : Int))) rfl rfl) ?_
  exact ⟨_, _, rfl, isI, hS.new0⟩

set_option maxRecDepth 100000 in
set_option maxHeartbeats 16000000 in
theorem wqtrail {p : Option Addr} {n c t : Nat} {xs : List Nat} {w : World} (hx : Sl w p n c xs) (hn : n ≤ 2097152) (ht : bt xs t = 1) (htn : t < 32 * n) (h0 : ∀ j, j < t → bt xs j = 0) :
    Calls Tryd.prog 16 #[.slice p n c] w (Ret (Is (.int .i64 ((t : Nat) : Int))) w) := by
  have hS := Sep.init w
  refine went Tryd.func16 rfl (n := 16) rfl rfl ?_
  refine wseq ?_
  refine wreg ?_
  refine wl rfl (oassign (v := .int .i64 0) rfl rfl (evc (v := .int .i64 0)) ?_)
  refine wnil ?_
  refine thenN ?_
  refine wseq ?_
  refine wseq ?_
  refine wreg ?_
  refine wl rfl (oassign (v := .int .i64 0) rfl rfl (evc (v := .int .i64 0)) ?_)
  refine wnil ?_
  refine thenN ?_
  refine wblock ?_
  refine wloop (σ := Nat) (fun i a w' => ∃ (fb : Nat → Value), a = act 16 (sets fb [(0, .slice p n c), (3, .int .i64 (((i : Nat) : Int)))]) ∧ Sep w [] w' ∧ (i ≤ t)) (fun i => t - i) (0) ⟨_, act_sets (l := [(0, .slice p n c), (3, .int .i64 0)]) ⟨rfl, rfl, trivial⟩, hS, Nat.zero_le _⟩ ?_
  clear hS; rintro i _ w1 ⟨fb, rfl, hS, hi⟩
  refine wseq ?_
  refine wseq ?_
  refine wreg ?_
  refine wl rfl (omove (v := .int .i64 (((i : Nat) : Int))) rfl rfl (ev (v := .int .i64 (((i : Nat) : Int))) rfl rfl) ?_)
  refine wl rfl (omove (v := .slice p n c) rfl rfl (ev (v := .slice p n c) rfl rfl) ?_)
  refine wl rfl (olen rfl rfl rfl Tryd.runUnderlying23 (p := p) (k := n) (m := c) (ev (v := .slice p n c) rfl rfl) ?_)
  refine wl rfl (obin (u := .int .i64 32) (v := .int .i64 (((n : Nat) : Int))) (z := .int .i64 (((32 * n : Nat) : Int))) rfl rfl (evc (v := .int .i64 32)) (ev (v := .int .i64 (((n : Nat) : Int))) rfl rfl) (bin_mul ((by rw [wrap_i64 (by omega) (by omega)]; omega))) ?_)
  refine wl rfl (obin (u := .int .i64 (((i : Nat) : Int))) (v := .int .i64 (((32 * n : Nat) : Int))) (z := .bool true) rfl rfl (ev (v := .int .i64 (((i : Nat) : Int))) rfl rfl) (ev (v := .int .i64 (((32 * n : Nat) : Int))) rfl rfl) (bin_lss (decide_eq_true (by omega))) ?_)
  refine wnil ?_
  refine thenN ?_
  refine wT (ev (v := .bool true) rfl rfl) ?_
  refine wskip ?_
  refine thenN ?_
  refine wseq ?_
  refine wblock ?_
  refine wseq ?_
  refine wreg ?_
  refine wl rfl (omove (v := .slice p n c) rfl rfl (ev (v := .slice p n c) rfl rfl) ?_)
  refine wl rfl (omove (v := .int .i64 (((i : Nat) : Int))) rfl rfl (ev (v := .int .i64 (((i : Nat) : Int))) rfl rfl) ?_)
  refine wl rfl (ocall rfl rfl Tryd.call14 rfl (wqbit (hx.below hS.below (Nat.le_refl _)) (k := i) (by omega)) (args2 (ev rfl rfl) (ev rfl rfl)) ?_)
  rintro _ w2 ⟨_, _, rfl, ⟨rfl, rfl⟩, hN⟩
  refine ⟨_, rfl, ?_⟩
  replace hS := hS.news hN; clear hN
  by_cases hit : i = t
  ·
    subst hit
    refine wl rfl (obin (u := .int .u64 (((bt xs i : Nat) : Int))) (v := .int .u64 1) (z := .bool true) rfl rfl (ev (v := .int .u64 (((bt xs i : Nat) : Int))) rfl rfl) (evc (v := .int .u64 1)) (bin_eql (eqT (by rw [ht]; rfl))) ?_)
    refine wnil ?_
    refine thenN ?_
    refine wT (ev (v := .bool true) rfl rfl) ?_
    refine wseq ?_
    refine wreg ?_
    refine wl rfl (omove (v := .int .i64 (((i : Nat) : Int))) rfl rfl (ev (v := .int .i64 (((i : Nat) : Int))) rfl rfl) ?_)
    refine wl rfl (oassign (v := .int .i64 (((i : Nat) : Int))) rfl rfl (ev (v := .int .i64 (((i : Nat) : Int))) rfl rfl) ?_)
    refine wnil ?_
    refine thenN ?_
    refine wleave ?_
    refine blkR ?_
    refine thenR ?_
    refine thenR ?_
    refine blkR ?_
    refine thenR ?_
    refine wret1 Tryd.results16 (tellT (v := .int .i64 (((i : Nat) : Int))) rfl rfl) ?_
    exact ⟨_, _, rfl, isI, hS.new0⟩
  ·
    refine wl rfl (obin (u := .int .u64 (((bt xs i : Nat) : Int))) (v := .int .u64 1) (z := .bool false) rfl rfl (ev (v := .int .u64 (((bt xs i : Nat) : Int))) rfl rfl) (evc (v := .int .u64 1)) (bin_eql (eqF (by rw [h0 i (by omega)]; decide))) ?_)
    refine wnil ?_
    refine thenN ?_
    refine wF (ev (v := .bool false) rfl rfl) ?_
    refine wskip ?_
    refine blkN ?_
    refine thenN ?_
    refine wreg ?_
    refine wl rfl (omove (v := .int .i64 (((i : Nat) : Int))) rfl rfl (ev (v := .int .i64 (((i : Nat) : Int))) rfl rfl) ?_)
    refine wl rfl (obin (u := .int .i64 (((i : Nat) : Int))) (v := .int .i64 1) (z := .int .i64 (((i + 1 : Nat) : Int))) rfl rfl (ev (v := .int .i64 (((i : Nat) : Int))) rfl rfl) (evc (v := .int .i64 1)) (bin_add (wrap_i64 (by omega) (by omega))) ?_)
    refine wl rfl (oassign (v := .int .i64 (((i + 1 : Nat) : Int))) rfl rfl (ev (v := .int .i64 (((i + 1 : Nat) : Int))) rfl rfl) ?_)
    refine wnil ?_
    refine thenN ?_
    exact ⟨(i + 1), ⟨_, act_sets (l := [(0, .slice p n c), (3, .int .i64 (((i + 1 : Nat) : Int)))]) ⟨rfl, rfl, trivial⟩, hS.pick [] (by decide) rfl, by omega⟩, by omega⟩

set_option maxRecDepth 100000 in
set_option maxHeartbeats 16000000 in
theorem wqtrail0 {p : Option Addr} {n c : Nat} {xs : List Nat} {w : World} (hx : Sl w p n c xs) (hn : n ≤ 2097152) (h0 : ∀ j, j < 32 * n → bt xs j = 0) :
    Calls Tryd.prog 16 #[.slice p n c] w (Ret (Is (.int .i64 0)) w) := by
  have hS := Sep.init w
  refine went Tryd.func16 rfl (n := 16) rfl rfl ?_
  refine wseq ?_
  refine wreg ?_
  refine wl rfl (oassign (v := .int .i64 0) rfl rfl (evc (v := .int .i64 0)) ?_)
  refine wnil ?_
  refine thenN ?_
  refine wseq ?_
  refine wseq ?_
  refine wreg ?_
  refine wl rfl (oassign (v := .int .i64 0) rfl rfl (evc (v := .int .i64 0)) ?_)
  refine wnil ?_
  refine thenN ?_
  refine wblock ?_
  refine wloop (σ := Nat) (fun i a w' => ∃ (fb : Nat → Value), a = act 16 (sets fb [(0, .slice p n c), (3, .int .i64 (((i : Nat) : Int)))]) ∧ Sep w [] w' ∧ (i ≤ 32 * n)) (fun i => 32 * n - i) (0) ⟨_, act_sets (l := [(0, .slice p n c), (3, .int .i64 0)]) ⟨rfl, rfl, trivial⟩, hS, Nat.zero_le _⟩ ?_
  clear hS; rintro i _ w1 ⟨fb, rfl, hS, hi⟩
  refine wseq ?_
  refine wseq ?_
  refine wreg ?_
  refine wl rfl (omove (v := .int .i64 (((i : Nat) : Int))) rfl rfl (ev (v := .int .i64 (((i : Nat) : Int))) rfl rfl) ?_)
  refine wl rfl (omove (v := .slice p n c) rfl rfl (ev (v := .slice p n c) rfl rfl) ?_)
  refine wl rfl (olen rfl rfl rfl Tryd.runUnderlying23 (p := p) (k := n) (m := c) (ev (v := .slice p n c) rfl rfl) ?_)
  refine wl rfl (obin (u := .int .i64 32) (v := .int .i64 (((n : Nat) : Int))) (z := .int .i64 (((32 * n : Nat) : Int))) rfl rfl (evc (v := .int .i64 32)) (ev (v := .int .i64 (((n : Nat) : Int))) rfl rfl) (bin_mul ((by rw [wrap_i64 (by omega) (by omega)]; omega))) ?_)
  by_cases hit : i < 32 * n
  ·
    refine wl rfl (obin (u := .int .i64 (((i : Nat) : Int))) (v := .int .i64 (((32 * n : Nat) : Int))) (z := .bool true) rfl rfl (ev (v := .int .i64 (((i : Nat) : Int))) rfl rfl) (ev (v := .int .i64 (((32 * n : Nat) : Int))) rfl rfl) (bin_lss (decide_eq_true (by omega))) ?_)
    refine wnil ?_
    refine thenN ?_
    refine wT (ev (v := .bool true) rfl rfl) ?_
    refine wskip ?_
    refine thenN ?_
    refine wseq ?_
    refine wblock ?_
    refine wseq ?_
    refine wreg ?_
    refine wl rfl (omove (v := .slice p n c) rfl rfl (ev (v := .slice p n c) rfl rfl) ?_)
    refine wl rfl (omove (v := .int .i64 (((i : Nat) : Int))) rfl rfl (ev (v := .int .i64 (((i : Nat) : Int))) rfl rfl) ?_)
    refine wl rfl (ocall rfl rfl Tryd.call14 rfl (wqbit (hx.below hS.below (Nat.le_refl _)) (k := i) (by omega)) (args2 (ev rfl rfl) (ev rfl rfl)) ?_)
    rintro _ w2 ⟨_, _, rfl, ⟨rfl, rfl⟩, hN⟩
    refine ⟨_, rfl, ?_⟩
    replace hS := hS.news hN; clear hN
    refine wl rfl (obin (u := .int .u64 (((bt xs i : Nat) : Int))) (v := .int .u64 1) (z := .bool false) rfl rfl (ev (v := .int .u64 (((bt xs i : Nat) : Int))) rfl rfl) (evc (v := .int .u64 1)) (bin_eql (eqF (by rw [h0 i hit]; decide))) ?_)
    refine wnil ?_
    refine thenN ?_
    refine wF (ev (v := .bool false) rfl rfl) ?_
    refine wskip ?_
    refine blkN ?_
    refine thenN ?_
    refine wreg ?_
    refine wl rfl (omove (v := .int .i64 (((i : Nat) : Int))) rfl rfl (ev (v := .int .i64 (((i : Nat) : Int))) rfl rfl) ?_)
    refine wl rfl (obin (u := .int .i64 (((i : Nat) : Int))) (v := .int .i64 1) (z := .int .i64 (((i + 1 : Nat) : Int))) rfl rfl (ev (v := .int .i64 (((i : Nat) : Int))) rfl rfl) (evc (v := .int .i64 1)) (bin_add (wrap_i64 (by omega) (by omega))) ?_)
    refine wl rfl (oassign (v := .int .i64 (((i + 1 : Nat) : Int))) rfl rfl (ev (v := .int .i64 (((i + 1 : Nat) : Int))) rfl rfl) ?_)
    refine wnil ?_
    refine thenN ?_
    exact ⟨(i + 1), ⟨_, act_sets (l := [(0, .slice p n c), (3, .int .i64 (((i + 1 : Nat) : Int)))]) ⟨rfl, rfl, trivial⟩, hS.pick [] (by decide) rfl, by omega⟩, by omega⟩
  ·
    refine wl rfl (obin (u := .int .i64 (((i : Nat) : Int))) (v := .int .i64 (((32 * n : Nat) : Int))) (z := .bool false) rfl rfl (ev (v := .int .i64 (((i : Nat) : Int))) rfl rfl) (ev (v := .int .i64 (((32 * n : Nat) : Int))) rfl rfl) (bin_lss (decide_eq_false (by omega))) ?_)
    refine wnil ?_
    refine thenN ?_
    refine wF (ev (v := .bool false) rfl rfl) ?_
    refine wexit ?_
    refine thenE ?_
    refine thenE ?_
    refine blkE ?_
    refine thenN ?_
    refine wseq ?_
    refine wreg ?_
    refine wl rfl (oassign (v := .int .i64 0) rfl rfl (evc (v := .int .i64 0)) ?_)
    refine wnil ?_
    refine thenN ?_
    refine wleave ?_
    refine wret1 Tryd.results16 (tellT (v := .int .i64 0) rfl rfl) ?_
    exact ⟨_, _, rfl, isI, hS.new0⟩

set_option maxRecDepth 100000 in
set_option maxHeartbeats 16000000 in
theorem wntrail {p : Option Addr} {n c i0 k m : Nat} {xs : List Nat} {w : World} (hx : Sl w p n c xs) (hn : n ≤ 2097152) (ht : Tab w) (h0 : ∀ j, j < i0 → nd xs j = 0) (hi0 : i0 < n) (h1 : nd xs i0 = 2 ^ k * (2 * m + 1)) :
    Calls Tryd.prog 15 #[.slice p n c] w (Ret (Is (.int .i64 ((32 * i0 + k : Nat) : Int))) w) := by
  obtain ⟨hk32, hne, _⟩ := tz_facts h1 (hx.lim1 i0)
  have hS := Sep.init w
  refine went Tryd.func15 rfl (n := 20) rfl rfl ?_
  refine wseq ?_
  refine wreg ?_
  refine wl rfl (oassign (v := .int .i64 0) rfl rfl (evc (v := .int .i64 0)) ?_)
  refine wnil ?_
  refine thenN ?_
  refine wseq ?_
  refine wseq ?_
  refine wreg ?_
  refine wl rfl (omove (v := .slice p n c) rfl rfl (ev (v := .slice p n c) rfl rfl) ?_)
  refine wl rfl (olen rfl rfl rfl Tryd.runUnderlying23 (p := p) (k := n) (m := c) (ev (v := .slice p n c) rfl rfl) ?_)
  refine wl rfl (omove (v := .int .i64 0) rfl rfl (evc (v := .int .i64 0)) ?_)
  refine wnil ?_
  refine thenN ?_
  refine wblock ?_
  refine wloop (σ := Nat) (fun i a w' => ∃ (fb : Nat → Value), a = act 20 (sets fb [(5, .slice p n c), (6, .int .i64 (((n : Nat) : Int))), (7, .int .i64 (((i : Nat) : Int)))]) ∧ Sep w [] w' ∧ (i ≤ i0)) (fun i => i0 - i) (0) ⟨_, act_sets (l := [(5, .slice p n c), (6, .int .i64 (((n : Nat) : Int))), (7, .int .i64 0)]) ⟨rfl, rfl, rfl, trivial⟩, hS, Nat.zero_le _⟩ ?_
  clear hS; rintro i _ w1 ⟨fb, rfl, hS, hi⟩
  refine wseq ?_
  refine wreg ?_
  refine wl rfl (obin (u := .int .i64 (((i : Nat) : Int))) (v := .int .i64 (((n : Nat) : Int))) (z := .bool true) rfl rfl (ev (v := .int .i64 (((i : Nat) : Int))) rfl rfl) (ev (v := .int .i64 (((n : Nat) : Int))) rfl rfl) (bin_lss (decide_eq_true (by omega))) ?_)
  refine wnil ?_
  refine thenN ?_
  refine wseq ?_
  refine wT (ev (v := .bool true) rfl rfl) ?_
  refine wskip ?_
  refine thenN ?_
  refine wseq ?_
  refine wblock ?_
  refine wseq ?_
  refine wreg ?_
  refine wl rfl (omove (v := .int .i64 (((i : Nat) : Int))) rfl rfl (ev (v := .int .i64 (((i : Nat) : Int))) rfl rfl) ?_)
  obtain ⟨gx, ox, hpx, hcx⟩ := hx.cell i (by omega)
  refine wl rfl (oindex (p := p) (g := gx) (off := ox) (m := n) (k := i) (j := (ox + i)) rfl rfl Tryd.runUnderlying23 Tryd.sizeOf31 (ev (v := .slice p n c) rfl rfl) (hpx) (ev (v := .int .i64 (((i : Nat) : Int))) rfl rfl) ((by omega)) (by omega) ?_)
  refine wl rfl (oloadc (v := .int .u32 (((nd xs i : Nat) : Int))) one32 rfl rfl (ev (v := .pointer (some ⟨gx, (ox + i), none⟩)) rfl rfl) (tab_keep (w0 := w) hS hcx) ?_)
  refine wl rfl (oassign (v := .int .i64 (((i : Nat) : Int))) rfl rfl (ev (v := .int .i64 (((i : Nat) : Int))) rfl rfl) ?_)
  refine wl rfl (oassign (v := .int .u32 (((nd xs i : Nat) : Int))) rfl rfl (ev (v := .int .u32 (((nd xs i : Nat) : Int))) rfl rfl) ?_)
  refine wnil ?_
  refine thenN ?_
  refine wseq ?_
  refine wreg ?_
  refine wl rfl (omove (v := .int .u32 (((nd xs i : Nat) : Int))) rfl rfl (ev (v := .int .u32 (((nd xs i : Nat) : Int))) rfl rfl) ?_)
  by_cases hit : i = i0
  ·
    subst hit
    refine wl rfl (obin (u := .int .u32 (((nd xs i : Nat) : Int))) (v := .int .u32 0) (z := .bool true) rfl rfl (ev (v := .int .u32 (((nd xs i : Nat) : Int))) rfl rfl) (evc (v := .int .u32 0)) (bin_neq ((by simpa [bne] using hne))) ?_)
    refine wnil ?_
    refine thenN ?_
    refine wT (ev (v := .bool true) rfl rfl) ?_
    refine wseq ?_
    refine wreg ?_
    refine wl rfl (omove (v := .int .i64 (((i : Nat) : Int))) rfl rfl (ev (v := .int .i64 (((i : Nat) : Int))) rfl rfl) ?_)
    refine wl rfl (obin (u := .int .i64 32) (v := .int .i64 (((i : Nat) : Int))) (z := .int .i64 (((32 * i : Nat) : Int))) rfl rfl (evc (v := .int .i64 32)) (ev (v := .int .i64 (((i : Nat) : Int))) rfl rfl) (bin_mul ((by rw [wrap_i64 (by omega) (by omega)]; omega))) ?_)
    refine wl rfl (omove (v := .int .u32 (((nd xs i : Nat) : Int))) rfl rfl (ev (v := .int .u32 (((nd xs i : Nat) : Int))) rfl rfl) ?_)
    refine wl rfl (ocall rfl rfl Tryd.call24 rfl (wtz (ht.at hS) h1 (hx.lim1 i)) (args1 (ev rfl rfl)) ?_)
    rintro _ w2 ⟨_, _, rfl, ⟨rfl, rfl⟩, hN⟩
    refine ⟨_, rfl, ?_⟩
    replace hS := hS.news hN; clear hN
    refine wl rfl (obin (u := .int .i64 (((32 * i : Nat) : Int))) (v := .int .i64 (((k : Nat) : Int))) (z := .int .i64 (((32 * i + k : Nat) : Int))) rfl rfl (ev (v := .int .i64 (((32 * i : Nat) : Int))) rfl rfl) (ev (v := .int .i64 (((k : Nat) : Int))) rfl rfl) (bin_add ((by rw [wrap_i64 (by omega) (by omega)]; omega))) ?_)
    refine wl rfl (oassign (v := .int .i64 (((32 * i + k : Nat) : Int))) rfl rfl (ev (v := .int .i64 (((32 * i + k : Nat) : Int))) rfl rfl) ?_)
    refine wnil ?_
    refine thenN ?_
    refine wleave ?_
    refine blkR ?_
    refine thenR ?_
    refine thenR ?_
    refine blkR ?_
    refine thenR ?_
    refine wret1 Tryd.results15 (tellT (v := .int .i64 (((32 * i + k : Nat) : Int))) rfl rfl) ?_
    exact ⟨_, _, rfl, isI, hS.new0⟩
  ·
    refine wl rfl (obin (u := .int .u32 (((nd xs i : Nat) : Int))) (v := .int .u32 0) (z := .bool false) rfl rfl (ev (v := .int .u32 (((nd xs i : Nat) : Int))) rfl rfl) (evc (v := .int .u32 0)) (bin_neq ((by rw [h0 i (by omega)]; decide))) ?_)
    refine wnil ?_
    refine thenN ?_
    refine wF (ev (v := .bool false) rfl rfl) ?_
    refine wskip ?_
    refine blkN ?_
    refine thenN ?_
    refine wreg ?_
    refine wl rfl (obin (u := .int .i64 (((i : Nat) : Int))) (v := .int .i64 1) (z := .int .i64 (((i + 1 : Nat) : Int))) rfl rfl (ev (v := .int .i64 (((i : Nat) : Int))) rfl rfl) (evc (v := .int .i64 1)) (bin_add (wrap_i64 (by omega) (by omega))) ?_)
    refine wl rfl (omove (v := .int .i64 (((i + 1 : Nat) : Int))) rfl rfl (ev (v := .int .i64 (((i + 1 : Nat) : Int))) rfl rfl) ?_)
    refine wnil ?_
    refine thenN ?_
    exact ⟨(i + 1), ⟨_, act_sets (l := [(5, .slice p n c), (6, .int .i64 (((n : Nat) : Int))), (7, .int .i64 (((i + 1 : Nat) : Int)))]) ⟨rfl, rfl, rfl, trivial⟩, hS.pick [] (by decide) rfl, by omega⟩, by omega⟩

set_option maxRecDepth 100000 in
set_option maxHeartbeats 16000000 in
theorem wntrail0 {p : Option Addr} {n c : Nat} {xs : List Nat} {w : World} (hx : Sl w p n c xs) (hn : n ≤ 2097152) (h0 : ∀ j, j < n → nd xs j = 0) :
    Calls Tryd.prog 15 #[.slice p n c] w (Ret (Is (.int .i64 0)) w) := by
  have hS := Sep.init w
  refine went Tryd.func15 rfl (n := 20) rfl rfl ?_
  refine wseq ?_
  refine wreg ?_
  refine wl rfl (oassign (v := .int .i64 0) rfl rfl (evc (v := .int .i64 0)) ?_)
  refine wnil ?_
  refine thenN ?_
  refine wseq ?_
  refine wseq ?_
  refine wreg ?_
  refine wl rfl (omove (v := .slice p n c) rfl rfl (ev (v := .slice p n c) rfl rfl) ?_)
  refine wl rfl (olen rfl rfl rfl Tryd.runUnderlying23 (p := p) (k := n) (m := c) (ev (v := .slice p n c) rfl rfl) ?_)
  refine wl rfl (omove (v := .int .i64 0) rfl rfl (evc (v := .int .i64 0)) ?_)
  refine wnil ?_
  refine thenN ?_
  refine wblock ?_
  refine wloop (σ := Nat) (fun i a w' => ∃ (fb : Nat → Value), a = act 20 (sets fb [(5, .slice p n c), (6, .int .i64 (((n : Nat) : Int))), (7, .int .i64 (((i : Nat) : Int)))]) ∧ Sep w [] w' ∧ (i ≤ n)) (fun i => n - i) (0) ⟨_, act_sets (l := [(5, .slice p n c), (6, .int .i64 (((n : Nat) : Int))), (7, .int .i64 0)]) ⟨rfl, rfl, rfl, trivial⟩, hS, Nat.zero_le _⟩ ?_
  clear hS; rintro i _ w1 ⟨fb, rfl, hS, hi⟩
  refine wseq ?_
  refine wreg ?_
  by_cases hit : i < n
  ·
    refine wl rfl (obin (u := .int .i64 (((i : Nat) : Int))) (v := .int .i64 (((n : Nat) : Int))) (z := .bool true) rfl rfl (ev (v := .int .i64 (((i : Nat) : Int))) rfl rfl) (ev (v := .int .i64 (((n : Nat) : Int))) rfl rfl) (bin_lss (decide_eq_true (by omega))) ?_)
    refine wnil ?_
    refine thenN ?_
    refine wseq ?_
    refine wT (ev (v := .bool true) rfl rfl) ?_
    refine wskip ?_
    refine thenN ?_
    refine wseq ?_
    refine wblock ?_
    refine wseq ?_
    refine wreg ?_
    refine wl rfl (omove (v := .int .i64 (((i : Nat) : Int))) rfl rfl (ev (v := .int .i64 (((i : Nat) : Int))) rfl rfl) ?_)
    obtain ⟨gx, ox, hpx, hcx⟩ := hx.cell i hit
    refine wl rfl (oindex (p := p) (g := gx) (off := ox) (m := n) (k := i) (j := (ox + i)) rfl rfl Tryd.runUnderlying23 Tryd.sizeOf31 (ev (v := .slice p n c) rfl rfl) (hpx) (ev (v := .int .i64 (((i : Nat) : Int))) rfl rfl) (hit) (by omega) ?_)
    refine wl rfl (oloadc (v := .int .u32 (((nd xs i : Nat) : Int))) one32 rfl rfl (ev (v := .pointer (some ⟨gx, (ox + i), none⟩)) rfl rfl) (tab_keep (w0 := w) hS hcx) ?_)
    refine wl rfl (oassign (v := .int .i64 (((i : Nat) : Int))) rfl rfl (ev (v := .int .i64 (((i : Nat) : Int))) rfl rfl) ?_)
    refine wl rfl (oassign (v := .int .u32 (((nd xs i : Nat) : Int))) rfl rfl (ev (v := .int .u32 (((nd xs i : Nat) : Int))) rfl rfl) ?_)
    refine wnil ?_
    refine thenN ?_
    refine wseq ?_
    refine wreg ?_
    refine wl rfl (omove (v := .int .u32 (((nd xs i : Nat) : Int))) rfl rfl (ev (v := .int .u32 (((nd xs i : Nat) : Int))) rfl rfl) ?_)
    refine wl rfl (obin (u := .int .u32 (((nd xs i : Nat) : Int))) (v := .int .u32 0) (z := .bool false) rfl rfl (ev (v := .int .u32 (((nd xs i : Nat) : Int))) rfl rfl) (evc (v := .int .u32 0)) (bin_neq ((by rw [h0 i hit]; decide))) ?_)
    refine wnil ?_
    refine thenN ?_
    refine wF (ev (v := .bool false) rfl rfl) ?_
    refine wskip ?_
    refine blkN ?_
    refine thenN ?_
    refine wreg ?_
    refine wl rfl (obin (u := .int .i64 (((i : Nat) : Int))) (v := .int .i64 1) (z := .int .i64 (((i + 1 : Nat) : Int))) rfl rfl (ev (v := .int .i64 (((i : Nat) : Int))) rfl rfl) (evc (v := .int .i64 1)) (bin_add (wrap_i64 (by omega) (by omega))) ?_)
    refine wl rfl (omove (v := .int .i64 (((i + 1 : Nat) : Int))) rfl rfl (ev (v := .int .i64 (((i + 1 : Nat) : Int))) rfl rfl) ?_)
    refine wnil ?_
    refine thenN ?_
    exact ⟨(i + 1), ⟨_, act_sets (l := [(5, .slice p n c), (6, .int .i64 (((n : Nat) : Int))), (7, .int .i64 (((i + 1 : Nat) : Int)))]) ⟨rfl, rfl, rfl, trivial⟩, hS.pick [] (by decide) rfl, by omega⟩, by omega⟩
  ·
    refine wl rfl (obin (u := .int .i64 (((i : Nat) : Int))) (v := .int .i64 (((n : Nat) : Int))) (z := .bool false) rfl rfl (ev (v := .int .i64 (((i : Nat) : Int))) rfl rfl) (ev (v := .int .i64 (((n : Nat) : Int))) rfl rfl) (bin_lss (decide_eq_false (by omega))) ?_)
    refine wnil ?_
    refine thenN ?_
    refine wseq ?_
    refine wF (ev (v := .bool false) rfl rfl) ?_
    refine wexit ?_
    refine thenE ?_
    refine thenE ?_
    refine blkE ?_
    refine thenN ?_
    refine wseq ?_
    refine wreg ?_
    refine wl rfl (oassign (v := .int .i64 0) rfl rfl (evc (v := .int .i64 0)) ?_)
    refine wnil ?_
    refine thenN ?_
    refine wleave ?_
    refine wret1 Tryd.results15 (tellT (v := .int .i64 0) rfl rfl) ?_
    exact ⟨_, _, rfl, isI, hS.new0⟩

theorem bin_and64 {P : Program} {w : World} {t : TypeId} {x y : Operand} {a b c : Nat} (ha : a < 18446744073709551616) (hb : b < 18446744073709551616) (h : a &&& b = c) : (do eqGuard .and t x y (.int .u64 (a : Int)) (.int .u64 (b : Int)); binOp .and t (.int .u64 (a : Int)) (.int .u64 (b : Int)) : Sem Value).run P w = .ok (.int .u64 (c : Int)) w := by
  have e3 : (BitVec.ofNat 64 a &&& BitVec.ofNat 64 b).toNat = c := by rw [BitVec.toNat_and, BitVec.toNat_ofNat, BitVec.toNat_ofNat, Nat.mod_eq_of_lt (by omega), Nat.mod_eq_of_lt (by omega), h]
  have hc : c < 18446744073709551616 := by rw [← h]; exact Nat.lt_of_le_of_lt Nat.and_le_left ha
  have e4 : IntKind.u64.wrap (c : Int) = c := wrap_u64 (by omega) (by omega)
  simp [eqGuard, binOp, Op.intBits, IntKind.bits]
  exact (congrArg (fun z : Nat => IntKind.u64.wrap (z : Int)) e3).trans e4
theorem shr_u32 (a k : Nat) (hk : k < 32) : ((a : Nat) : Int).fdiv (2 ^ (min ((k : Nat) : Int).toNat IntKind.u32.bits)) = ((a / 2 ^ k : Nat) : Int) := by
  rw [show min ((k : Nat) : Int).toNat IntKind.u32.bits = k by show min ((k : Nat) : Int).toNat 32 = k; omega, Int.fdiv_eq_ediv_of_nonneg _ (Int.le_of_lt (Int.pow_pos (by omega)))]
  rw [Int.natCast_ediv, Int.natCast_pow]; rfl
theorem bt_out {xs : List Nat} {k : Nat} (h : xs.length ≤ k / 32) : bt xs k = 0 := by
  unfold bt nd
  rw [show xs.getD (k / 32) 0 = 0 by rw [List.getD_eq_getElem?_getD, List.getElem?_eq_none h]; rfl]; simp

set_option maxRecDepth 100000 in
set_option maxHeartbeats 16000000 in
theorem wnbit {p : Option Addr} {n c k : Nat} {xs : List Nat} {w : World} (hx : Sl w p n c xs) (hk : k ≤ 9223372036854775807) :
    Calls Tryd.prog 13 #[.slice p n c, .int .i64 (k : Int)] w (Ret (Is (.int .u64 ((bt xs k : Nat) : Int))) w) := by
  have hS := Sep.init w
  refine went Tryd.func13 rfl (n := 24) rfl rfl ?_
  refine wseq ?_
  refine wreg ?_
  refine wl rfl (oassign (v := .int .u64 0) rfl rfl (evc (v := .int .u64 0)) ?_)
  refine wnil ?_
  refine thenN ?_
  refine wseq ?_
  refine wseq ?_
  refine wreg ?_
  refine wl rfl (omove (v := .int .i64 (((k : Nat) : Int))) rfl rfl (ev (v := .int .i64 (((k : Nat) : Int))) rfl rfl) ?_)
  refine wl rfl (obin (u := .int .i64 (((k : Nat) : Int))) (v := .int .i64 0) (z := .bool false) rfl rfl (ev (v := .int .i64 (((k : Nat) : Int))) rfl rfl) (evc (v := .int .i64 0)) (bin_lss (decide_eq_false (by omega))) ?_)
  refine wl rfl (omove (v := .bool false) rfl rfl (ev (v := .bool false) rfl rfl) ?_)
  refine wlOn (e := 7) rfl rfl rfl rfl (omove (v := .int .i64 (((k : Nat) : Int))) rfl rfl (ev (v := .int .i64 (((k : Nat) : Int))) rfl rfl) ?_)
  refine wlOn (e := 7) rfl rfl rfl rfl (obin (u := .int .i64 (((k : Nat) : Int))) (v := .int .i64 32) (z := .int .i64 (((k / 32 : Nat) : Int))) rfl rfl (ev (v := .int .i64 (((k : Nat) : Int))) rfl rfl) (evc (v := .int .i64 32)) (bin_quo (by decide) (quo32 hk)) ?_)
  refine wlOn (e := 7) rfl rfl rfl rfl (omove (v := .slice p n c) rfl rfl (ev (v := .slice p n c) rfl rfl) ?_)
  refine wlOn (e := 7) rfl rfl rfl rfl (olen rfl rfl rfl Tryd.runUnderlying23 (p := p) (k := n) (m := c) (ev (v := .slice p n c) rfl rfl) ?_)
  by_cases hlt : k / 32 < n
  ·
    refine wlOn (e := 7) rfl rfl rfl rfl (obin (u := .int .i64 (((k / 32 : Nat) : Int))) (v := .int .i64 (((n : Nat) : Int))) (z := .bool false) rfl rfl (ev (v := .int .i64 (((k / 32 : Nat) : Int))) rfl rfl) (ev (v := .int .i64 (((n : Nat) : Int))) rfl rfl) (bin_geq (decide_eq_false (by omega))) ?_)
    refine wl rfl (opick (b := false) (v := .bool false) rfl rfl (ev (v := .bool false) rfl rfl) (ev (v := .bool false) rfl rfl) ?_)
    refine wnil ?_
    refine thenN ?_
    refine wF (ev (v := .bool false) rfl rfl) ?_
    refine wskip ?_
    refine thenN ?_
    refine wseq ?_
    refine wreg ?_
    refine wl rfl (omove (v := .slice p n c) rfl rfl (ev (v := .slice p n c) rfl rfl) ?_)
    refine wl rfl (omove (v := .int .i64 (((k : Nat) : Int))) rfl rfl (ev (v := .int .i64 (((k : Nat) : Int))) rfl rfl) ?_)
    refine wl rfl (obin (u := .int .i64 (((k : Nat) : Int))) (v := .int .i64 32) (z := .int .i64 (((k / 32 : Nat) : Int))) rfl rfl (ev (v := .int .i64 (((k : Nat) : Int))) rfl rfl) (evc (v := .int .i64 32)) (bin_quo (by decide) (quo32 hk)) ?_)
    obtain ⟨gx, ox, hpx, hcx⟩ := hx.cell (k / 32) hlt
    refine wl rfl (oindex (p := p) (g := gx) (off := ox) (m := n) (k := (k / 32)) (j := (ox + (k / 32))) rfl rfl Tryd.runUnderlying23 Tryd.sizeOf31 (ev (v := .slice p n c) rfl rfl) (hpx) (ev (v := .int .i64 (((k / 32 : Nat) : Int))) rfl rfl) (hlt) (by omega) ?_)
    refine wl rfl (oloadc (v := .int .u32 (((nd xs (k / 32) : Nat) : Int))) one32 rfl rfl (ev (v := .pointer (some ⟨gx, (ox + (k / 32)), none⟩)) rfl rfl) (tab_keep (w0 := w) hS hcx) ?_)
    refine wl rfl (omove (v := .int .i64 (((k : Nat) : Int))) rfl rfl (ev (v := .int .i64 (((k : Nat) : Int))) rfl rfl) ?_)
    refine wl rfl (obin (u := .int .i64 (((k : Nat) : Int))) (v := .int .i64 32) (z := .int .i64 (((k % 32 : Nat) : Int))) rfl rfl (ev (v := .int .i64 (((k : Nat) : Int))) rfl rfl) (evc (v := .int .i64 32)) (bin_rem (by decide) rem32) ?_)
    refine wl rfl (obin (u := .int .u32 (((nd xs (k / 32) : Nat) : Int))) (v := .int .i64 (((k % 32 : Nat) : Int))) (z := .int .u32 (((nd xs (k / 32) / 2 ^ (k % 32) : Nat) : Int))) rfl rfl (ev (v := .int .u32 (((nd xs (k / 32) : Nat) : Int))) rfl rfl) (ev (v := .int .i64 (((k % 32 : Nat) : Int))) rfl rfl) (bin_shr (by omega) (shr_u32 _ _ (by omega))) ?_)
    refine wl rfl (oconvert (u := .int .u32 (((nd xs (k / 32) / 2 ^ (k % 32) : Nat) : Int))) (v := .int .u64 (((nd xs (k / 32) / 2 ^ (k % 32) : Nat) : Int))) rfl rfl (ev (v := .int .u32 (((nd xs (k / 32) / 2 ^ (k % 32) : Nat) : Int))) rfl rfl) (convert_int Tryd.runUnderlying31 Tryd.runUnderlying30 (wrap_u64 (Int.natCast_nonneg _) (by have h1 := hx.lim1 (k / 32); have h2 := Nat.div_le_self (nd xs (k / 32)) (2 ^ (k % 32)); omega))) ?_)
    refine wl rfl (obin (u := .int .u64 (((nd xs (k / 32) / 2 ^ (k % 32) : Nat) : Int))) (v := .int .u64 1) (z := .int .u64 (((bt xs k : Nat) : Int))) rfl rfl (ev (v := .int .u64 (((nd xs (k / 32) / 2 ^ (k % 32) : Nat) : Int))) rfl rfl) (evc (v := .int .u64 1)) (bin_and64 (b := 1) (by have h1 := hx.lim1 (k / 32); have h2 := Nat.div_le_self (nd xs (k / 32)) (2 ^ (k % 32)); omega) (by omega) (Nat.and_one_is_mod _)) ?_)
    refine wl rfl (oassign (v := .int .u64 (((bt xs k : Nat) : Int))) rfl rfl (ev (v := .int .u64 (((bt xs k : Nat) : Int))) rfl rfl) ?_)
    refine wnil ?_
    refine thenN ?_
    refine wleave ?_
    refine wret1 Tryd.results13 (tellT (v := .int .u64 (((bt xs k : Nat) : Int))) rfl rfl) ?_
    exact ⟨_, _, rfl, isI, hS.new0⟩
  ·
    refine wlOn (e := 7) rfl rfl rfl rfl (obin (u := .int .i64 (((k / 32 : Nat) : Int))) (v := .int .i64 (((n : Nat) : Int))) (z := .bool true) rfl rfl (ev (v := .int .i64 (((k / 32 : Nat) : Int))) rfl rfl) (ev (v := .int .i64 (((n : Nat) : Int))) rfl rfl) (bin_geq (decide_eq_true (by omega))) ?_)
    refine wl rfl (opick (b := false) (v := .bool true) rfl rfl (ev (v := .bool false) rfl rfl) (ev (v := .bool true) rfl rfl) ?_)
    refine wnil ?_
    refine thenN ?_
    refine wT (ev (v := .bool true) rfl rfl) ?_
    refine wseq ?_
    refine wreg ?_
    refine wl rfl (oassign (v := .int .u64 0) rfl rfl (evc (v := .int .u64 0)) ?_)
    refine wnil ?_
    refine thenN ?_
    refine wleave ?_
    refine thenR ?_
    have hb := bt_out (k := k) (xs := xs) (by rw [hx.len]; omega)
    refine wret1 Tryd.results13 (tellT (v := .int .u64 0) rfl rfl) ?_
    rw [hb]
    exact ⟨_, _, rfl, isI, hS.new0⟩

end Go.Proofs.YtgemncfpehmdeaaDoor
