
/-
  Powers of integers as contracts; the law's 'long'.
-/
import Derived.Test.YtoinfkimlhhmpaaRatNeg
import Derived.Test.YtoinfkimlhhmpaaZPowers
import Derived.Test.YtoinfkimlhhmpaaPowFacts
set_option linter.unusedVariables false
set_option linter.unusedSimpArgs false
namespace Go.Proofs.Ytoinfkimlhhmpaa
open Go.RowKit

/-- A power that is told; one that is too long; what the law leaves out. -/
def PowOk (x : Int) (k : Nat) : Prop := blen x.natAbs ≤ 1 ∨ k = 0 ∨ blen x.natAbs * k ≤ 40000
def PowBig (x : Int) (k : Nat) : Prop := 1 < blen x.natAbs ∧ 0 < k ∧ (67108864 < k ∨ 67108864 ≤ (blen x.natAbs - 1) * k)
def Lg (B K : Nat) : Prop := 1 < B ∧ K < 67108864 ∧ 40000 < B * K ∧ (B - 1) * K < 67108864
theorem lg_split {x : Int} {K : Nat} (h : ¬ Lg (blen x.natAbs) K) : PowOk x K ∨ PowBig x K := by
  unfold PowOk PowBig
  by_cases h1 : blen x.natAbs ≤ 1
  · exact .inl (.inl h1)
  by_cases h2 : K = 0
  · exact .inl (.inr (.inl h2))
  by_cases h3 : blen x.natAbs * K ≤ 40000
  · exact .inl (.inr (.inr h3))
  refine .inr ⟨by omega, by omega, .inr ?_⟩
  rcases Nat.lt_or_ge K 67108864 with h4 | h4
  · rcases Nat.lt_or_ge ((blen x.natAbs - 1) * K) 67108864 with h5 | h5
    · exact absurd ⟨by omega, h4, by omega, h5⟩ h
    · exact h5
  · have : 1 * K ≤ (blen x.natAbs - 1) * K := Nat.mul_le_mul_right _ (by omega)
    omega
theorem zv_abs (b : Bool) (n : Nat) : (zv b n).natAbs = n := by unfold zv; cases b <;> simp
theorem blen_wd {z : Int} {k : Nat} (h : Wd z k) : blen z.natAbs ≤ 32 * k := by
  refine blen_le ?_
  have h1 := lt_ll z.natAbs
  have h2 : (4294967296 : Nat) ^ ll z.natAbs = 2 ^ (32 * ll z.natAbs) := by rw [show (4294967296 : Nat) = 2 ^ 32 by decide, ← Nat.pow_mul]
  have h3 : 2 ^ (32 * ll z.natAbs) ≤ 2 ^ (32 * k) := Nat.pow_le_pow_right (by omega) (Nat.mul_le_mul_left _ h)
  omega
theorem wd_pow {x z : Int} {k n : Nat} (hx : Wd x n) (h : PowOk x k) (hz : Hid (x ^ k = z)) : Wd z (n + 1252) := by
  rw [← hz.out]
  unfold Wd at hx ⊢
  rw [Int.natAbs_pow]
  rcases h with h | h | h
  · rcases Nat.eq_zero_or_pos k with h0 | h0
    · rw [h0, Nat.pow_zero]; exact Nat.le_trans (ll_le (n := 1) (k := 1) (by omega)) (by omega)
    · rw [pow_tiny h h0]; omega
  · rw [h, Nat.pow_zero]; exact Nat.le_trans (ll_le (n := 1) (k := 1) (by omega)) (by omega)
  · have := pow_len (e := k) (k := k) (L := 1250) (lt_blen x.natAbs) (by omega) (Nat.le_refl k)
    omega

theorem wzpow {x z : Int} {k : Nat} {b : Bool} {p : Option Addr} {n c : Nat} {w : World} (hx : Zr w b p n c x 67108864) (hk : k ≤ 9223372036854775807) (h : PowOk x k) (hz : Hid (x ^ k = z)) :
    Calls Try.prog 86 #[.agg #[.bool b, .slice p n c], .int .i64 (k : Int)] w (Ret (ZEm z 0) w) := by
  obtain ⟨xs, h1, rfl, h2⟩ := hx
  unfold PowOk at h
  rw [zv_abs] at h
  rw [← hz.out]
  have h3 : Calls Try.prog 86 #[.agg #[.bool b, .slice p n c], .int .i64 (k : Int)] w (RetZE w (zv b (val xs) ^ k) 0) := by
    rcases Nat.eq_zero_or_pos k with h0 | h0
    · exact zpow_one_any h1 (by omega) hk (.inl h0)
    · rcases Nat.lt_or_ge 1 (blen (val xs)) with h4 | h4
      · refine zpow_ok_any h1 (by omega) hk h0 h4 ?_
        rcases h with h | h | h
        · omega
        · omega
        · exact Nat.le_trans h (by omega)
      · by_cases h5 : val xs = 0
        · exact zpow_nil_any h1 (by omega) hk h0 h5
        · exact zpow_one_any h1 (by omega) hk (.inr (by have := blen_pos h5; omega))
  exact (h3.mono RetZE.u).mono ZEt.m
theorem wqpow {x z : Int} {k : Nat} {b : Bool} {p : Option Addr} {n c : Nat} {w : World} (hx : Zr w b p n c x 67108864) (hk : k ≤ 9223372036854775807) (h : PowOk x k) (hz : Hid (x ^ k = z)) :
    Calls Try.prog 88 #[.agg #[.bool b, .slice p n c], .int .i64 (k : Int)] w (Ret (ZBm z true) w) := by
  obtain ⟨xs, h1, rfl, h2⟩ := hx
  have hL : ll (val xs ^ k) ≤ 17592186044416 := by
    have hw : Wd (zv b (val xs)) n := by unfold Wd; rw [zv_abs]; have := val_ll h1.lims; rw [h1.len] at this; exact this
    have := wd_pow hw h (z := _) rfl
    unfold Wd at this
    rw [Int.natAbs_pow, zv_abs] at this
    omega
  unfold PowOk at h
  rw [zv_abs] at h
  rw [← hz.out]
  have h3 : Calls Try.prog 88 #[.agg #[.bool b, .slice p n c], .int .i64 (k : Int)] w (RetZB w (zv b (val xs) ^ k) true) := by
    rcases Nat.lt_or_ge 1 (blen (val xs)) with h4 | h4
    · refine qpow_ok_any h1 (by omega) hk hL h4 ?_
      rcases h with h | h | h
      · omega
      · rw [h, Nat.mul_zero]; omega
      · exact Nat.le_trans h (by omega)
    · exact qpow_small_any h1 (by omega) hk hL h4
  exact (h3.mono RetZB.u).mono ZBt.m
theorem wzpowB {x : Int} {k : Nat} {b : Bool} {p : Option Addr} {n c : Nat} {w : World} (hx : Zr w b p n c x 67108864) (hk : k ≤ 9223372036854775807) (h : PowBig x k) :
    Calls Try.prog 86 #[.agg #[.bool b, .slice p n c], .int .i64 (k : Int)] w (Ret (ZEt 0 4) w) := by
  obtain ⟨xs, h1, rfl, h2⟩ := hx
  unfold PowBig at h
  rw [zv_abs] at h
  exact (zpow_big h1 (by omega) hk h.1 h.2.2).mono RetZE.u
theorem wqpowB {x : Int} {k : Nat} {b : Bool} {p : Option Addr} {n c : Nat} {w : World} (hx : Zr w b p n c x 67108864) (hk : k ≤ 9223372036854775807) (h : PowBig x k) :
    Calls Try.prog 88 #[.agg #[.bool b, .slice p n c], .int .i64 (k : Int)] w (Ret (ZBt 0 false) w) := by
  obtain ⟨xs, h1, rfl, h2⟩ := hx
  unfold PowBig at h
  rw [zv_abs] at h
  exact (qpow_big h1 (by omega) hk h.1 h.2.2).mono RetZB.u

theorem wrlen {p : Option Addr} {n c : Nat} {z : Int} {w : World} (h : Sl w p n c (lim z.natAbs)) (hk : Wd z 67108864) :
    Calls Try.prog 39 #[.slice p n c] w (Ret (Is (.int .i64 ((blen z.natAbs : Nat) : Int))) w) := by
  have hn : n ≤ 67108864 := by rw [h.lln]; exact hk
  have := rlen_any h (by omega)
  rw [val_lim] at this
  exact this.mono RetInt.u
theorem wnlen {p : Option Addr} {n c : Nat} {z : Int} {w : World} (h : Sl w p n c (lim z.natAbs)) (hk : Wd z 67108864) :
    Calls Try.prog 69 #[.slice p n c] w (Ret (Is (.int .i64 ((blen z.natAbs : Nat) : Int))) w) := by
  have hn : n ≤ 67108864 := by rw [h.lln]; exact hk
  have := len_any h (by omega)
  rw [val_lim] at this
  exact this.mono RetLen.u

set_option maxRecDepth 100000 in
set_option maxHeartbeats 16000000 in
theorem wlong_p1 {B K : Nat} {w : World} (hB : B ≤ 33554432) (hK : K ≤ 9223372036854775807) (h : Lg B K) :
    Calls Try.prog 38 #[.int .i64 ((B : Nat) : Int), .int .i64 (((K : Nat) : Int))] w (Ret (Is (.bool true)) w) := by
  obtain ⟨h1, h2, h3, h4⟩ := h
  have hS := Sep.init w
  refine went Try.func38 rfl (n := 30) rfl rfl ?_
  refine wseq ?_
  refine wreg ?_
  refine wl rfl (oassign (v := .bool false) rfl rfl (evc (v := .bool false)) ?_)
  refine wnil ?_
  refine thenN ?_
  refine wseq ?_
  refine wseq ?_
  refine wreg ?_
  refine wl rfl (omove (v := .int .i64 (((K : Nat) : Int))) rfl rfl (ev (v := .int .i64 (((K : Nat) : Int))) rfl rfl) ?_)
  refine wl rfl (obin (u := .int .i64 (((K : Nat) : Int))) (v := .int .i64 0) (z := .bool false) rfl rfl (ev (v := .int .i64 (((K : Nat) : Int))) rfl rfl) (evc (v := .int .i64 0)) (bin_lss (decide_eq_false (by omega))) ?_)
  refine wnil ?_
  refine thenN ?_
  refine wF (ev (v := .bool false) rfl rfl) ?_
  refine wskip ?_
  refine thenN ?_
  refine wseq ?_
  refine wseq ?_
  refine wreg ?_
  refine wl rfl (omove (v := .int .i64 (((K : Nat) : Int))) rfl rfl (ev (v := .int .i64 (((K : Nat) : Int))) rfl rfl) ?_)
  refine wl rfl (obin (u := .int .i64 (((K : Nat) : Int))) (v := .int .i64 0) (z := .bool false) rfl rfl (ev (v := .int .i64 (((K : Nat) : Int))) rfl rfl) (evc (v := .int .i64 0)) (bin_lss (decide_eq_false (by omega))) ?_)
  refine wl rfl (omove (v := .bool false) rfl rfl (ev (v := .bool false) rfl rfl) ?_)
  refine wlOn (e := 11) rfl rfl rfl rfl (omove (v := .int .i64 (((B : Nat) : Int))) rfl rfl (ev (v := .int .i64 (((B : Nat) : Int))) rfl rfl) ?_)
  refine wlOn (e := 11) rfl rfl rfl rfl (obin (u := .int .i64 (((B : Nat) : Int))) (v := .int .i64 1) (z := .bool false) rfl rfl (ev (v := .int .i64 (((B : Nat) : Int))) rfl rfl) (evc (v := .int .i64 1)) (bin_leq (leF (by omega))) ?_)
  refine wl rfl (opick (b := false) (v := .bool false) rfl rfl (ev (v := .bool false) rfl rfl) (ev (v := .bool false) rfl rfl) ?_)
  refine wl rfl (omove (v := .bool false) rfl rfl (ev (v := .bool false) rfl rfl) ?_)
  refine wlOn (e := 15) rfl rfl rfl rfl (omove (v := .int .i64 (((K : Nat) : Int))) rfl rfl (ev (v := .int .i64 (((K : Nat) : Int))) rfl rfl) ?_)
  refine wlOn (e := 15) rfl rfl rfl rfl (obin (u := .int .i64 (((K : Nat) : Int))) (v := .int .i64 67108864) (z := .bool false) rfl rfl (ev (v := .int .i64 (((K : Nat) : Int))) rfl rfl) (evc (v := .int .i64 67108864)) (bin_geq (decide_eq_false (by omega))) ?_)
  refine wl rfl (opick (b := false) (v := .bool false) rfl rfl (ev (v := .bool false) rfl rfl) (ev (v := .bool false) rfl rfl) ?_)
  refine wnil ?_
  refine thenN ?_
  refine wF (ev (v := .bool false) rfl rfl) ?_
  refine wskip ?_
  refine thenN ?_
  refine wseq ?_
  refine wreg ?_
  refine wl rfl (omove (v := .int .i64 (((B : Nat) : Int))) rfl rfl (ev (v := .int .i64 (((B : Nat) : Int))) rfl rfl) ?_)
  refine wl rfl (omove (v := .int .i64 (((K : Nat) : Int))) rfl rfl (ev (v := .int .i64 (((K : Nat) : Int))) rfl rfl) ?_)
  refine wl rfl (obin (u := .int .i64 (((B : Nat) : Int))) (v := .int .i64 (((K : Nat) : Int))) (z := .int .i64 (((B : Nat) : Int) * ((K : Nat) : Int))) rfl rfl (ev (v := .int .i64 (((B : Nat) : Int))) rfl rfl) (ev (v := .int .i64 (((K : Nat) : Int))) rfl rfl) (bin_mul (wrap_mul hB (by omega))) ?_)
  refine wl rfl (obin (u := .int .i64 (((B : Nat) : Int) * ((K : Nat) : Int))) (v := .int .i64 40000) (z := .bool true) rfl rfl (ev (v := .int .i64 (((B : Nat) : Int) * ((K : Nat) : Int))) rfl rfl) (evc (v := .int .i64 40000)) (bin_gtr (dec_mul1 h3)) ?_)
  refine wl rfl (omove (v := .bool true) rfl rfl (ev (v := .bool true) rfl rfl) ?_)
  refine wlOn (e := 23) rfl rfl rfl rfl (omove (v := .int .i64 (((B : Nat) : Int))) rfl rfl (ev (v := .int .i64 (((B : Nat) : Int))) rfl rfl) ?_)
  refine wlOn (e := 23) rfl rfl rfl rfl (obin (u := .int .i64 (((B : Nat) : Int))) (v := .int .i64 1) (z := .int .i64 (((B : Nat) : Int) - 1)) rfl rfl (ev (v := .int .i64 (((B : Nat) : Int))) rfl rfl) (evc (v := .int .i64 1)) (bin_sub (wrap_i64 (by omega) (by omega))) ?_)
  refine wlOn (e := 23) rfl rfl rfl rfl (omove (v := .int .i64 (((K : Nat) : Int))) rfl rfl (ev (v := .int .i64 (((K : Nat) : Int))) rfl rfl) ?_)
  refine wlOn (e := 23) rfl rfl rfl rfl (obin (u := .int .i64 (((B : Nat) : Int) - 1)) (v := .int .i64 (((K : Nat) : Int))) (z := .int .i64 ((((B : Nat) : Int) - 1) * ((K : Nat) : Int))) rfl rfl (ev (v := .int .i64 (((B : Nat) : Int) - 1)) rfl rfl) (ev (v := .int .i64 (((K : Nat) : Int))) rfl rfl) (bin_mul (wrap_mul1 (by omega) hB (by omega))) ?_)
  refine wlOn (e := 23) rfl rfl rfl rfl (obin (u := .int .i64 ((((B : Nat) : Int) - 1) * ((K : Nat) : Int))) (v := .int .i64 67108864) (z := .bool true) rfl rfl (ev (v := .int .i64 ((((B : Nat) : Int) - 1) * ((K : Nat) : Int))) rfl rfl) (evc (v := .int .i64 67108864)) (bin_lss (dec_mulM1 h1 h4)) ?_)
  refine wl rfl (opick (b := true) (v := .bool true) rfl rfl (ev (v := .bool true) rfl rfl) (ev (v := .bool true) rfl rfl) ?_)
  refine wl rfl (oassign (v := .bool true) rfl rfl (ev (v := .bool true) rfl rfl) ?_)
  refine wnil ?_
  refine thenN ?_
  refine wleave ?_
  refine wret1 Try.results38 (tellT (v := .bool true) rfl rfl) ?_
  exact ⟨_, _, rfl, isI, hS.new0⟩

set_option maxRecDepth 100000 in
set_option maxHeartbeats 16000000 in
theorem wlong_p0 {B K : Nat} {w : World} (hB : B ≤ 33554432) (hK : K ≤ 9223372036854775807) (h : ¬ Lg B K) :
    Calls Try.prog 38 #[.int .i64 ((B : Nat) : Int), .int .i64 (((K : Nat) : Int))] w (Ret (Is (.bool false)) w) := by
  have hS := Sep.init w
  refine went Try.func38 rfl (n := 30) rfl rfl ?_
  refine wseq ?_
  refine wreg ?_
  refine wl rfl (oassign (v := .bool false) rfl rfl (evc (v := .bool false)) ?_)
  refine wnil ?_
  refine thenN ?_
  refine wseq ?_
  refine wseq ?_
  refine wreg ?_
  refine wl rfl (omove (v := .int .i64 (((K : Nat) : Int))) rfl rfl (ev (v := .int .i64 (((K : Nat) : Int))) rfl rfl) ?_)
  refine wl rfl (obin (u := .int .i64 (((K : Nat) : Int))) (v := .int .i64 0) (z := .bool false) rfl rfl (ev (v := .int .i64 (((K : Nat) : Int))) rfl rfl) (evc (v := .int .i64 0)) (bin_lss (decide_eq_false (by omega))) ?_)
  refine wnil ?_
  refine thenN ?_
  refine wF (ev (v := .bool false) rfl rfl) ?_
  refine wskip ?_
  refine thenN ?_
  refine wseq ?_
  refine wseq ?_
  refine wreg ?_
  refine wl rfl (omove (v := .int .i64 (((K : Nat) : Int))) rfl rfl (ev (v := .int .i64 (((K : Nat) : Int))) rfl rfl) ?_)
  refine wl rfl (obin (u := .int .i64 (((K : Nat) : Int))) (v := .int .i64 0) (z := .bool false) rfl rfl (ev (v := .int .i64 (((K : Nat) : Int))) rfl rfl) (evc (v := .int .i64 0)) (bin_lss (decide_eq_false (by omega))) ?_)
  refine wl rfl (omove (v := .bool false) rfl rfl (ev (v := .bool false) rfl rfl) ?_)
  refine wlOn (e := 11) rfl rfl rfl rfl (omove (v := .int .i64 (((B : Nat) : Int))) rfl rfl (ev (v := .int .i64 (((B : Nat) : Int))) rfl rfl) ?_)
  by_cases g1 : B ≤ 1
  ·
    refine wlOn (e := 11) rfl rfl rfl rfl (obin (u := .int .i64 (((B : Nat) : Int))) (v := .int .i64 1) (z := .bool true) rfl rfl (ev (v := .int .i64 (((B : Nat) : Int))) rfl rfl) (evc (v := .int .i64 1)) (bin_leq (leT (by omega))) ?_)
    refine wl rfl (opick (b := false) (v := .bool true) rfl rfl (ev (v := .bool false) rfl rfl) (ev (v := .bool true) rfl rfl) ?_)
    refine wl rfl (omove (v := .bool true) rfl rfl (ev (v := .bool true) rfl rfl) ?_)
    refine wlOff (e := 15) (d := 16) (b' := true) rfl rfl rfl rfl rfl rfl ?_
    refine wlOff (e := 15) (d := 17) (b' := true) rfl rfl rfl rfl rfl rfl ?_
    refine wl rfl (opick (b := true) (v := .bool true) rfl rfl (ev (v := .bool true) rfl rfl) (evc (v := .bool true)) ?_)
    refine wnil ?_
    refine thenN ?_
    refine wT (ev (v := .bool true) rfl rfl) ?_
    refine wseq ?_
    refine wreg ?_
    refine wl rfl (oassign (v := .bool false) rfl rfl (evc (v := .bool false)) ?_)
    refine wnil ?_
    refine thenN ?_
    refine wleave ?_
    refine thenR ?_
    refine wret1 Try.results38 (tellT (v := .bool false) rfl rfl) ?_
    exact ⟨_, _, rfl, isI, hS.new0⟩
  ·
    refine wlOn (e := 11) rfl rfl rfl rfl (obin (u := .int .i64 (((B : Nat) : Int))) (v := .int .i64 1) (z := .bool false) rfl rfl (ev (v := .int .i64 (((B : Nat) : Int))) rfl rfl) (evc (v := .int .i64 1)) (bin_leq (leF (by omega))) ?_)
    refine wl rfl (opick (b := false) (v := .bool false) rfl rfl (ev (v := .bool false) rfl rfl) (ev (v := .bool false) rfl rfl) ?_)
    refine wl rfl (omove (v := .bool false) rfl rfl (ev (v := .bool false) rfl rfl) ?_)
    refine wlOn (e := 15) rfl rfl rfl rfl (omove (v := .int .i64 (((K : Nat) : Int))) rfl rfl (ev (v := .int .i64 (((K : Nat) : Int))) rfl rfl) ?_)
    by_cases g2 : 67108864 ≤ K
    ·
      refine wlOn (e := 15) rfl rfl rfl rfl (obin (u := .int .i64 (((K : Nat) : Int))) (v := .int .i64 67108864) (z := .bool true) rfl rfl (ev (v := .int .i64 (((K : Nat) : Int))) rfl rfl) (evc (v := .int .i64 67108864)) (bin_geq (decide_eq_true (by omega))) ?_)
      refine wl rfl (opick (b := false) (v := .bool true) rfl rfl (ev (v := .bool false) rfl rfl) (ev (v := .bool true) rfl rfl) ?_)
      refine wnil ?_
      refine thenN ?_
      refine wT (ev (v := .bool true) rfl rfl) ?_
      refine wseq ?_
      refine wreg ?_
      refine wl rfl (oassign (v := .bool false) rfl rfl (evc (v := .bool false)) ?_)
      refine wnil ?_
      refine thenN ?_
      refine wleave ?_
      refine thenR ?_
      refine wret1 Try.results38 (tellT (v := .bool false) rfl rfl) ?_
      exact ⟨_, _, rfl, isI, hS.new0⟩
    ·
      refine wlOn (e := 15) rfl rfl rfl rfl (obin (u := .int .i64 (((K : Nat) : Int))) (v := .int .i64 67108864) (z := .bool false) rfl rfl (ev (v := .int .i64 (((K : Nat) : Int))) rfl rfl) (evc (v := .int .i64 67108864)) (bin_geq (decide_eq_false (by omega))) ?_)
      refine wl rfl (opick (b := false) (v := .bool false) rfl rfl (ev (v := .bool false) rfl rfl) (ev (v := .bool false) rfl rfl) ?_)
      refine wnil ?_
      refine thenN ?_
      refine wF (ev (v := .bool false) rfl rfl) ?_
      refine wskip ?_
      refine thenN ?_
      refine wseq ?_
      refine wreg ?_
      refine wl rfl (omove (v := .int .i64 (((B : Nat) : Int))) rfl rfl (ev (v := .int .i64 (((B : Nat) : Int))) rfl rfl) ?_)
      refine wl rfl (omove (v := .int .i64 (((K : Nat) : Int))) rfl rfl (ev (v := .int .i64 (((K : Nat) : Int))) rfl rfl) ?_)
      refine wl rfl (obin (u := .int .i64 (((B : Nat) : Int))) (v := .int .i64 (((K : Nat) : Int))) (z := .int .i64 (((B : Nat) : Int) * ((K : Nat) : Int))) rfl rfl (ev (v := .int .i64 (((B : Nat) : Int))) rfl rfl) (ev (v := .int .i64 (((K : Nat) : Int))) rfl rfl) (bin_mul (wrap_mul hB (by omega))) ?_)
      by_cases g3 : 40000 < B * K
      ·
        refine wl rfl (obin (u := .int .i64 (((B : Nat) : Int) * ((K : Nat) : Int))) (v := .int .i64 40000) (z := .bool true) rfl rfl (ev (v := .int .i64 (((B : Nat) : Int) * ((K : Nat) : Int))) rfl rfl) (evc (v := .int .i64 40000)) (bin_gtr (dec_mul1 g3)) ?_)
        refine wl rfl (omove (v := .bool true) rfl rfl (ev (v := .bool true) rfl rfl) ?_)
        refine wlOn (e := 23) rfl rfl rfl rfl (omove (v := .int .i64 (((B : Nat) : Int))) rfl rfl (ev (v := .int .i64 (((B : Nat) : Int))) rfl rfl) ?_)
        refine wlOn (e := 23) rfl rfl rfl rfl (obin (u := .int .i64 (((B : Nat) : Int))) (v := .int .i64 1) (z := .int .i64 (((B : Nat) : Int) - 1)) rfl rfl (ev (v := .int .i64 (((B : Nat) : Int))) rfl rfl) (evc (v := .int .i64 1)) (bin_sub (wrap_i64 (by omega) (by omega))) ?_)
        refine wlOn (e := 23) rfl rfl rfl rfl (omove (v := .int .i64 (((K : Nat) : Int))) rfl rfl (ev (v := .int .i64 (((K : Nat) : Int))) rfl rfl) ?_)
        refine wlOn (e := 23) rfl rfl rfl rfl (obin (u := .int .i64 (((B : Nat) : Int) - 1)) (v := .int .i64 (((K : Nat) : Int))) (z := .int .i64 ((((B : Nat) : Int) - 1) * ((K : Nat) : Int))) rfl rfl (ev (v := .int .i64 (((B : Nat) : Int) - 1)) rfl rfl) (ev (v := .int .i64 (((K : Nat) : Int))) rfl rfl) (bin_mul (wrap_mul1 (by omega) hB (by omega))) ?_)
        refine wlOn (e := 23) rfl rfl rfl rfl (obin (u := .int .i64 ((((B : Nat) : Int) - 1) * ((K : Nat) : Int))) (v := .int .i64 67108864) (z := .bool false) rfl rfl (ev (v := .int .i64 ((((B : Nat) : Int) - 1) * ((K : Nat) : Int))) rfl rfl) (evc (v := .int .i64 67108864)) (bin_lss (dec_mulM0 (by omega) (Nat.ge_of_not_lt fun e => h ⟨by omega, by omega, g3, e⟩))) ?_)
        refine wl rfl (opick (b := true) (v := .bool false) rfl rfl (ev (v := .bool true) rfl rfl) (ev (v := .bool false) rfl rfl) ?_)
        refine wl rfl (oassign (v := .bool false) rfl rfl (ev (v := .bool false) rfl rfl) ?_)
        refine wnil ?_
        refine thenN ?_
        refine wleave ?_
        refine wret1 Try.results38 (tellT (v := .bool false) rfl rfl) ?_
        exact ⟨_, _, rfl, isI, hS.new0⟩
      ·
        refine wl rfl (obin (u := .int .i64 (((B : Nat) : Int) * ((K : Nat) : Int))) (v := .int .i64 40000) (z := .bool false) rfl rfl (ev (v := .int .i64 (((B : Nat) : Int) * ((K : Nat) : Int))) rfl rfl) (evc (v := .int .i64 40000)) (bin_gtr (dec_mul0 (by omega))) ?_)
        refine wl rfl (omove (v := .bool false) rfl rfl (ev (v := .bool false) rfl rfl) ?_)
        refine wlOff (e := 23) (d := 24) (b' := false) rfl rfl rfl rfl rfl rfl ?_
        refine wlOff (e := 23) (d := 25) (b' := false) rfl rfl rfl rfl rfl rfl ?_
        refine wlOff (e := 23) (d := 26) (b' := false) rfl rfl rfl rfl rfl rfl ?_
        refine wlOff (e := 23) (d := 27) (b' := false) rfl rfl rfl rfl rfl rfl ?_
        refine wlOff (e := 23) (d := 28) (b' := false) rfl rfl rfl rfl rfl rfl ?_
        refine wl rfl (opick (b := false) (v := .bool false) rfl rfl (ev (v := .bool false) rfl rfl) (evc (v := .bool false)) ?_)
        refine wl rfl (oassign (v := .bool false) rfl rfl (ev (v := .bool false) rfl rfl) ?_)
        refine wnil ?_
        refine thenN ?_
        refine wleave ?_
        refine wret1 Try.results38 (tellT (v := .bool false) rfl rfl) ?_
        exact ⟨_, _, rfl, isI, hS.new0⟩

set_option maxRecDepth 100000 in
set_option maxHeartbeats 16000000 in
theorem wlong_n1 {B K : Nat} {w : World} (hB : B ≤ 33554432) (hK : K ≤ 9223372036854775807) (hK0 : 0 < K) (h : Lg B K) :
    Calls Try.prog 38 #[.int .i64 ((B : Nat) : Int), .int .i64 ((-((K : Nat) : Int)))] w (Ret (Is (.bool true)) w) := by
  obtain ⟨h1, h2, h3, h4⟩ := h
  have hS := Sep.init w
  refine went Try.func38 rfl (n := 30) rfl rfl ?_
  refine wseq ?_
  refine wreg ?_
  refine wl rfl (oassign (v := .bool false) rfl rfl (evc (v := .bool false)) ?_)
  refine wnil ?_
  refine thenN ?_
  refine wseq ?_
  refine wseq ?_
  refine wreg ?_
  refine wl rfl (omove (v := .int .i64 ((-((K : Nat) : Int)))) rfl rfl (ev (v := .int .i64 ((-((K : Nat) : Int)))) rfl rfl) ?_)
  refine wl rfl (obin (u := .int .i64 ((-((K : Nat) : Int)))) (v := .int .i64 0) (z := .bool true) rfl rfl (ev (v := .int .i64 ((-((K : Nat) : Int)))) rfl rfl) (evc (v := .int .i64 0)) (bin_lss (decide_eq_true (by omega))) ?_)
  refine wnil ?_
  refine thenN ?_
  refine wT (ev (v := .bool true) rfl rfl) ?_
  refine wreg ?_
  refine wl rfl (omove (v := .int .i64 ((-((K : Nat) : Int)))) rfl rfl (ev (v := .int .i64 ((-((K : Nat) : Int)))) rfl rfl) ?_)
  refine wl rfl (oneg (k := .i64) (c := ((K : Nat) : Int)) rfl rfl (ev (v := .int .i64 ((-((K : Nat) : Int)))) rfl rfl) (by rw [Int.neg_neg]; exact wrap_i64 (by omega) (by omega)) ?_)
  refine wl rfl (oassign (v := .int .i64 (((K : Nat) : Int))) rfl rfl (ev (v := .int .i64 (((K : Nat) : Int))) rfl rfl) ?_)
  refine wnil ?_
  refine thenN ?_
  refine wseq ?_
  refine wseq ?_
  refine wreg ?_
  refine wl rfl (omove (v := .int .i64 (((K : Nat) : Int))) rfl rfl (ev (v := .int .i64 (((K : Nat) : Int))) rfl rfl) ?_)
  refine wl rfl (obin (u := .int .i64 (((K : Nat) : Int))) (v := .int .i64 0) (z := .bool false) rfl rfl (ev (v := .int .i64 (((K : Nat) : Int))) rfl rfl) (evc (v := .int .i64 0)) (bin_lss (decide_eq_false (by omega))) ?_)
  refine wl rfl (omove (v := .bool false) rfl rfl (ev (v := .bool false) rfl rfl) ?_)
  refine wlOn (e := 11) rfl rfl rfl rfl (omove (v := .int .i64 (((B : Nat) : Int))) rfl rfl (ev (v := .int .i64 (((B : Nat) : Int))) rfl rfl) ?_)
  refine wlOn (e := 11) rfl rfl rfl rfl (obin (u := .int .i64 (((B : Nat) : Int))) (v := .int .i64 1) (z := .bool false) rfl rfl (ev (v := .int .i64 (((B : Nat) : Int))) rfl rfl) (evc (v := .int .i64 1)) (bin_leq (leF (by omega))) ?_)
  refine wl rfl (opick (b := false) (v := .bool false) rfl rfl (ev (v := .bool false) rfl rfl) (ev (v := .bool false) rfl rfl) ?_)
  refine wl rfl (omove (v := .bool false) rfl rfl (ev (v := .bool false) rfl rfl) ?_)
  refine wlOn (e := 15) rfl rfl rfl rfl (omove (v := .int .i64 (((K : Nat) : Int))) rfl rfl (ev (v := .int .i64 (((K : Nat) : Int))) rfl rfl) ?_)
  refine wlOn (e := 15) rfl rfl rfl rfl (obin (u := .int .i64 (((K : Nat) : Int))) (v := .int .i64 67108864) (z := .bool false) rfl rfl (ev (v := .int .i64 (((K : Nat) : Int))) rfl rfl) (evc (v := .int .i64 67108864)) (bin_geq (decide_eq_false (by omega))) ?_)
  refine wl rfl (opick (b := false) (v := .bool false) rfl rfl (ev (v := .bool false) rfl rfl) (ev (v := .bool false) rfl rfl) ?_)
  refine wnil ?_
  refine thenN ?_
  refine wF (ev (v := .bool false) rfl rfl) ?_
  refine wskip ?_
  refine thenN ?_
  refine wseq ?_
  refine wreg ?_
  refine wl rfl (omove (v := .int .i64 (((B : Nat) : Int))) rfl rfl (ev (v := .int .i64 (((B : Nat) : Int))) rfl rfl) ?_)
  refine wl rfl (omove (v := .int .i64 (((K : Nat) : Int))) rfl rfl (ev (v := .int .i64 (((K : Nat) : Int))) rfl rfl) ?_)
  refine wl rfl (obin (u := .int .i64 (((B : Nat) : Int))) (v := .int .i64 (((K : Nat) : Int))) (z := .int .i64 (((B : Nat) : Int) * ((K : Nat) : Int))) rfl rfl (ev (v := .int .i64 (((B : Nat) : Int))) rfl rfl) (ev (v := .int .i64 (((K : Nat) : Int))) rfl rfl) (bin_mul (wrap_mul hB (by omega))) ?_)
  refine wl rfl (obin (u := .int .i64 (((B : Nat) : Int) * ((K : Nat) : Int))) (v := .int .i64 40000) (z := .bool true) rfl rfl (ev (v := .int .i64 (((B : Nat) : Int) * ((K : Nat) : Int))) rfl rfl) (evc (v := .int .i64 40000)) (bin_gtr (dec_mul1 h3)) ?_)
  refine wl rfl (omove (v := .bool true) rfl rfl (ev (v := .bool true) rfl rfl) ?_)
  refine wlOn (e := 23) rfl rfl rfl rfl (omove (v := .int .i64 (((B : Nat) : Int))) rfl rfl (ev (v := .int .i64 (((B : Nat) : Int))) rfl rfl) ?_)
  refine wlOn (e := 23) rfl rfl rfl rfl (obin (u := .int .i64 (((B : Nat) : Int))) (v := .int .i64 1) (z := .int .i64 (((B : Nat) : Int) - 1)) rfl rfl (ev (v := .int .i64 (((B : Nat) : Int))) rfl rfl) (evc (v := .int .i64 1)) (bin_sub (wrap_i64 (by omega) (by omega))) ?_)
  refine wlOn (e := 23) rfl rfl rfl rfl (omove (v := .int .i64 (((K : Nat) : Int))) rfl rfl (ev (v := .int .i64 (((K : Nat) : Int))) rfl rfl) ?_)
  refine wlOn (e := 23) rfl rfl rfl rfl (obin (u := .int .i64 (((B : Nat) : Int) - 1)) (v := .int .i64 (((K : Nat) : Int))) (z := .int .i64 ((((B : Nat) : Int) - 1) * ((K : Nat) : Int))) rfl rfl (ev (v := .int .i64 (((B : Nat) : Int) - 1)) rfl rfl) (ev (v := .int .i64 (((K : Nat) : Int))) rfl rfl) (bin_mul (wrap_mul1 (by omega) hB (by omega))) ?_)
  refine wlOn (e := 23) rfl rfl rfl rfl (obin (u := .int .i64 ((((B : Nat) : Int) - 1) * ((K : Nat) : Int))) (v := .int .i64 67108864) (z := .bool true) rfl rfl (ev (v := .int .i64 ((((B : Nat) : Int) - 1) * ((K : Nat) : Int))) rfl rfl) (evc (v := .int .i64 67108864)) (bin_lss (dec_mulM1 h1 h4)) ?_)
  refine wl rfl (opick (b := true) (v := .bool true) rfl rfl (ev (v := .bool true) rfl rfl) (ev (v := .bool true) rfl rfl) ?_)
  refine wl rfl (oassign (v := .bool true) rfl rfl (ev (v := .bool true) rfl rfl) ?_)
  refine wnil ?_
  refine thenN ?_
  refine wleave ?_
  refine wret1 Try.results38 (tellT (v := .bool true) rfl rfl) ?_
  exact ⟨_, _, rfl, isI, hS.new0⟩

set_option maxRecDepth 100000 in
set_option maxHeartbeats 16000000 in
theorem wlong_n0 {B K : Nat} {w : World} (hB : B ≤ 33554432) (hK : K ≤ 9223372036854775807) (hK0 : 0 < K) (h : ¬ Lg B K) :
    Calls Try.prog 38 #[.int .i64 ((B : Nat) : Int), .int .i64 ((-((K : Nat) : Int)))] w (Ret (Is (.bool false)) w) := by
  have hS := Sep.init w
  refine went Try.func38 rfl (n := 30) rfl rfl ?_
  refine wseq ?_
  refine wreg ?_
  refine wl rfl (oassign (v := .bool false) rfl rfl (evc (v := .bool false)) ?_)
  refine wnil ?_
  refine thenN ?_
  refine wseq ?_
  refine wseq ?_
  refine wreg ?_
  refine wl rfl (omove (v := .int .i64 ((-((K : Nat) : Int)))) rfl rfl (ev (v := .int .i64 ((-((K : Nat) : Int)))) rfl rfl) ?_)
  refine wl rfl (obin (u := .int .i64 ((-((K : Nat) : Int)))) (v := .int .i64 0) (z := .bool true) rfl rfl (ev (v := .int .i64 ((-((K : Nat) : Int)))) rfl rfl) (evc (v := .int .i64 0)) (bin_lss (decide_eq_true (by omega))) ?_)
  refine wnil ?_
  refine thenN ?_
  refine wT (ev (v := .bool true) rfl rfl) ?_
  refine wreg ?_
  refine wl rfl (omove (v := .int .i64 ((-((K : Nat) : Int)))) rfl rfl (ev (v := .int .i64 ((-((K : Nat) : Int)))) rfl rfl) ?_)
  refine wl rfl (oneg (k := .i64) (c := ((K : Nat) : Int)) rfl rfl (ev (v := .int .i64 ((-((K : Nat) : Int)))) rfl rfl) (by rw [Int.neg_neg]; exact wrap_i64 (by omega) (by omega)) ?_)
  refine wl rfl (oassign (v := .int .i64 (((K : Nat) : Int))) rfl rfl (ev (v := .int .i64 (((K : Nat) : Int))) rfl rfl) ?_)
  refine wnil ?_
  refine thenN ?_
  refine wseq ?_
  refine wseq ?_
  refine wreg ?_
  refine wl rfl (omove (v := .int .i64 (((K : Nat) : Int))) rfl rfl (ev (v := .int .i64 (((K : Nat) : Int))) rfl rfl) ?_)
  refine wl rfl (obin (u := .int .i64 (((K : Nat) : Int))) (v := .int .i64 0) (z := .bool false) rfl rfl (ev (v := .int .i64 (((K : Nat) : Int))) rfl rfl) (evc (v := .int .i64 0)) (bin_lss (decide_eq_false (by omega))) ?_)
  refine wl rfl (omove (v := .bool false) rfl rfl (ev (v := .bool false) rfl rfl) ?_)
  refine wlOn (e := 11) rfl rfl rfl rfl (omove (v := .int .i64 (((B : Nat) : Int))) rfl rfl (ev (v := .int .i64 (((B : Nat) : Int))) rfl rfl) ?_)
  by_cases g1 : B ≤ 1
  ·
    refine wlOn (e := 11) rfl rfl rfl rfl (obin (u := .int .i64 (((B : Nat) : Int))) (v := .int .i64 1) (z := .bool true) rfl rfl (ev (v := .int .i64 (((B : Nat) : Int))) rfl rfl) (evc (v := .int .i64 1)) (bin_leq (leT (by omega))) ?_)
    refine wl rfl (opick (b := false) (v := .bool true) rfl rfl (ev (v := .bool false) rfl rfl) (ev (v := .bool true) rfl rfl) ?_)
    refine wl rfl (omove (v := .bool true) rfl rfl (ev (v := .bool true) rfl rfl) ?_)
    refine wlOff (e := 15) (d := 16) (b' := true) rfl rfl rfl rfl rfl rfl ?_
    refine wlOff (e := 15) (d := 17) (b' := true) rfl rfl rfl rfl rfl rfl ?_
    refine wl rfl (opick (b := true) (v := .bool true) rfl rfl (ev (v := .bool true) rfl rfl) (evc (v := .bool true)) ?_)
    refine wnil ?_
    refine thenN ?_
    refine wT (ev (v := .bool true) rfl rfl) ?_
    refine wseq ?_
    refine wreg ?_
    refine wl rfl (oassign (v := .bool false) rfl rfl (evc (v := .bool false)) ?_)
    refine wnil ?_
    refine thenN ?_
    refine wleave ?_
    refine thenR ?_
    refine wret1 Try.results38 (tellT (v := .bool false) rfl rfl) ?_
    exact ⟨_, _, rfl, isI, hS.new0⟩
  ·
    refine wlOn (e := 11) rfl rfl rfl rfl (obin (u := .int .i64 (((B : Nat) : Int))) (v := .int .i64 1) (z := .bool false) rfl rfl (ev (v := .int .i64 (((B : Nat) : Int))) rfl rfl) (evc (v := .int .i64 1)) (bin_leq (leF (by omega))) ?_)
    refine wl rfl (opick (b := false) (v := .bool false) rfl rfl (ev (v := .bool false) rfl rfl) (ev (v := .bool false) rfl rfl) ?_)
    refine wl rfl (omove (v := .bool false) rfl rfl (ev (v := .bool false) rfl rfl) ?_)
    refine wlOn (e := 15) rfl rfl rfl rfl (omove (v := .int .i64 (((K : Nat) : Int))) rfl rfl (ev (v := .int .i64 (((K : Nat) : Int))) rfl rfl) ?_)
    by_cases g2 : 67108864 ≤ K
    ·
      refine wlOn (e := 15) rfl rfl rfl rfl (obin (u := .int .i64 (((K : Nat) : Int))) (v := .int .i64 67108864) (z := .bool true) rfl rfl (ev (v := .int .i64 (((K : Nat) : Int))) rfl rfl) (evc (v := .int .i64 67108864)) (bin_geq (decide_eq_true (by omega))) ?_)
      refine wl rfl (opick (b := false) (v := .bool true) rfl rfl (ev (v := .bool false) rfl rfl) (ev (v := .bool true) rfl rfl) ?_)
      refine wnil ?_
      refine thenN ?_
      refine wT (ev (v := .bool true) rfl rfl) ?_
      refine wseq ?_
      refine wreg ?_
      refine wl rfl (oassign (v := .bool false) rfl rfl (evc (v := .bool false)) ?_)
      refine wnil ?_
      refine thenN ?_
      refine wleave ?_
      refine thenR ?_
      refine wret1 Try.results38 (tellT (v := .bool false) rfl rfl) ?_
      exact ⟨_, _, rfl, isI, hS.new0⟩
    ·
      refine wlOn (e := 15) rfl rfl rfl rfl (obin (u := .int .i64 (((K : Nat) : Int))) (v := .int .i64 67108864) (z := .bool false) rfl rfl (ev (v := .int .i64 (((K : Nat) : Int))) rfl rfl) (evc (v := .int .i64 67108864)) (bin_geq (decide_eq_false (by omega))) ?_)
      refine wl rfl (opick (b := false) (v := .bool false) rfl rfl (ev (v := .bool false) rfl rfl) (ev (v := .bool false) rfl rfl) ?_)
      refine wnil ?_
      refine thenN ?_
      refine wF (ev (v := .bool false) rfl rfl) ?_
      refine wskip ?_
      refine thenN ?_
      refine wseq ?_
      refine wreg ?_
      refine wl rfl (omove (v := .int .i64 (((B : Nat) : Int))) rfl rfl (ev (v := .int .i64 (((B : Nat) : Int))) rfl rfl) ?_)
      refine wl rfl (omove (v := .int .i64 (((K : Nat) : Int))) rfl rfl (ev (v := .int .i64 (((K : Nat) : Int))) rfl rfl) ?_)
      refine wl rfl (obin (u := .int .i64 (((B : Nat) : Int))) (v := .int .i64 (((K : Nat) : Int))) (z := .int .i64 (((B : Nat) : Int) * ((K : Nat) : Int))) rfl rfl (ev (v := .int .i64 (((B : Nat) : Int))) rfl rfl) (ev (v := .int .i64 (((K : Nat) : Int))) rfl rfl) (bin_mul (wrap_mul hB (by omega))) ?_)
      by_cases g3 : 40000 < B * K
      ·
        refine wl rfl (obin (u := .int .i64 (((B : Nat) : Int) * ((K : Nat) : Int))) (v := .int .i64 40000) (z := .bool true) rfl rfl (ev (v := .int .i64 (((B : Nat) : Int) * ((K : Nat) : Int))) rfl rfl) (evc (v := .int .i64 40000)) (bin_gtr (dec_mul1 g3)) ?_)
        refine wl rfl (omove (v := .bool true) rfl rfl (ev (v := .bool true) rfl rfl) ?_)
        refine wlOn (e := 23) rfl rfl rfl rfl (omove (v := .int .i64 (((B : Nat) : Int))) rfl rfl (ev (v := .int .i64 (((B : Nat) : Int))) rfl rfl) ?_)
        refine wlOn (e := 23) rfl rfl rfl rfl (obin (u := .int .i64 (((B : Nat) : Int))) (v := .int .i64 1) (z := .int .i64 (((B : Nat) : Int) - 1)) rfl rfl (ev (v := .int .i64 (((B : Nat) : Int))) rfl rfl) (evc (v := .int .i64 1)) (bin_sub (wrap_i64 (by omega) (by omega))) ?_)
        refine wlOn (e := 23) rfl rfl rfl rfl (omove (v := .int .i64 (((K : Nat) : Int))) rfl rfl (ev (v := .int .i64 (((K : Nat) : Int))) rfl rfl) ?_)
        refine wlOn (e := 23) rfl rfl rfl rfl (obin (u := .int .i64 (((B : Nat) : Int) - 1)) (v := .int .i64 (((K : Nat) : Int))) (z := .int .i64 ((((B : Nat) : Int) - 1) * ((K : Nat) : Int))) rfl rfl (ev (v := .int .i64 (((B : Nat) : Int) - 1)) rfl rfl) (ev (v := .int .i64 (((K : Nat) : Int))) rfl rfl) (bin_mul (wrap_mul1 (by omega) hB (by omega))) ?_)
        refine wlOn (e := 23) rfl rfl rfl rfl (obin (u := .int .i64 ((((B : Nat) : Int) - 1) * ((K : Nat) : Int))) (v := .int .i64 67108864) (z := .bool false) rfl rfl (ev (v := .int .i64 ((((B : Nat) : Int) - 1) * ((K : Nat) : Int))) rfl rfl) (evc (v := .int .i64 67108864)) (bin_lss (dec_mulM0 (by omega) (Nat.ge_of_not_lt fun e => h ⟨by omega, by omega, g3, e⟩))) ?_)
        refine wl rfl (opick (b := true) (v := .bool false) rfl rfl (ev (v := .bool true) rfl rfl) (ev (v := .bool false) rfl rfl) ?_)
        refine wl rfl (oassign (v := .bool false) rfl rfl (ev (v := .bool false) rfl rfl) ?_)
        refine wnil ?_
        refine thenN ?_
        refine wleave ?_
        refine wret1 Try.results38 (tellT (v := .bool false) rfl rfl) ?_
        exact ⟨_, _, rfl, isI, hS.new0⟩
      ·
        refine wl rfl (obin (u := .int .i64 (((B : Nat) : Int) * ((K : Nat) : Int))) (v := .int .i64 40000) (z := .bool false) rfl rfl (ev (v := .int .i64 (((B : Nat) : Int) * ((K : Nat) : Int))) rfl rfl) (evc (v := .int .i64 40000)) (bin_gtr (dec_mul0 (by omega))) ?_)
        refine wl rfl (omove (v := .bool false) rfl rfl (ev (v := .bool false) rfl rfl) ?_)
        refine wlOff (e := 23) (d := 24) (b' := false) rfl rfl rfl rfl rfl rfl ?_
        refine wlOff (e := 23) (d := 25) (b' := false) rfl rfl rfl rfl rfl rfl ?_
        refine wlOff (e := 23) (d := 26) (b' := false) rfl rfl rfl rfl rfl rfl ?_
        refine wlOff (e := 23) (d := 27) (b' := false) rfl rfl rfl rfl rfl rfl ?_
        refine wlOff (e := 23) (d := 28) (b' := false) rfl rfl rfl rfl rfl rfl ?_
        refine wl rfl (opick (b := false) (v := .bool false) rfl rfl (ev (v := .bool false) rfl rfl) (evc (v := .bool false)) ?_)
        refine wl rfl (oassign (v := .bool false) rfl rfl (ev (v := .bool false) rfl rfl) ?_)
        refine wnil ?_
        refine thenN ?_
        refine wleave ?_
        refine wret1 Try.results38 (tellT (v := .bool false) rfl rfl) ?_
        exact ⟨_, _, rfl, isI, hS.new0⟩

set_option maxRecDepth 100000 in
set_option maxHeartbeats 16000000 in
theorem wlong_m {B : Nat} {w : World} :
    Calls Try.prog 38 #[.int .i64 ((B : Nat) : Int), .int .i64 (-9223372036854775808)] w (Ret (Is (.bool false)) w) := by
  have hS := Sep.init w
  refine went Try.func38 rfl (n := 30) rfl rfl ?_
  refine wseq ?_
  refine wreg ?_
  refine wl rfl (oassign (v := .bool false) rfl rfl (evc (v := .bool false)) ?_)
  refine wnil ?_
  refine thenN ?_
  refine wseq ?_
  refine wseq ?_
  refine wreg ?_
  refine wl rfl (omove (v := .int .i64 (-9223372036854775808)) rfl rfl (ev (v := .int .i64 (-9223372036854775808)) rfl rfl) ?_)
  refine wl rfl (obin (u := .int .i64 (-9223372036854775808)) (v := .int .i64 0) (z := .bool true) rfl rfl (ev (v := .int .i64 (-9223372036854775808)) rfl rfl) (evc (v := .int .i64 0)) (bin_lss (by decide)) ?_)
  refine wnil ?_
  refine thenN ?_
  refine wT (ev (v := .bool true) rfl rfl) ?_
  refine wreg ?_
  refine wl rfl (omove (v := .int .i64 (-9223372036854775808)) rfl rfl (ev (v := .int .i64 (-9223372036854775808)) rfl rfl) ?_)
  refine wl rfl (oneg (k := .i64) (c := -9223372036854775808) rfl rfl (ev (v := .int .i64 (-9223372036854775808)) rfl rfl) (by decide) ?_)
  refine wl rfl (oassign (v := .int .i64 (-9223372036854775808)) rfl rfl (ev (v := .int .i64 (-9223372036854775808)) rfl rfl) ?_)
  refine wnil ?_
  refine thenN ?_
  refine wseq ?_
  refine wseq ?_
  refine wreg ?_
  refine wl rfl (omove (v := .int .i64 (-9223372036854775808)) rfl rfl (ev (v := .int .i64 (-9223372036854775808)) rfl rfl) ?_)
  refine wl rfl (obin (u := .int .i64 (-9223372036854775808)) (v := .int .i64 0) (z := .bool true) rfl rfl (ev (v := .int .i64 (-9223372036854775808)) rfl rfl) (evc (v := .int .i64 0)) (bin_lss (by decide)) ?_)
  refine wl rfl (omove (v := .bool true) rfl rfl (ev (v := .bool true) rfl rfl) ?_)
  refine wlOff (e := 11) (d := 12) (b' := true) rfl rfl rfl rfl rfl rfl ?_
  refine wlOff (e := 11) (d := 13) (b' := true) rfl rfl rfl rfl rfl rfl ?_
  refine wl rfl (opick (b := true) (v := .bool true) rfl rfl (ev (v := .bool true) rfl rfl) (evc (v := .bool true)) ?_)
  refine wl rfl (omove (v := .bool true) rfl rfl (ev (v := .bool true) rfl rfl) ?_)
  refine wlOff (e := 15) (d := 16) (b' := true) rfl rfl rfl rfl rfl rfl ?_
  refine wlOff (e := 15) (d := 17) (b' := true) rfl rfl rfl rfl rfl rfl ?_
  refine wl rfl (opick (b := true) (v := .bool true) rfl rfl (ev (v := .bool true) rfl rfl) (evc (v := .bool true)) ?_)
  refine wnil ?_
  refine thenN ?_
  refine wT (ev (v := .bool true) rfl rfl) ?_
  refine wseq ?_
  refine wreg ?_
  refine wl rfl (oassign (v := .bool false) rfl rfl (evc (v := .bool false)) ?_)
  refine wnil ?_
  refine thenN ?_
  refine wleave ?_
  refine thenR ?_
  refine wret1 Try.results38 (tellT (v := .bool false) rfl rfl) ?_
  exact ⟨_, _, rfl, isI, hS.new0⟩

end Go.Proofs.Ytoinfkimlhhmpaa
