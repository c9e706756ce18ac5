
/-
  rat's functions of one fraction and of two.
-/
import Derived.Test.YtoinfkimlhhmpaaRatMade
set_option linter.unusedVariables false
set_option linter.unusedSimpArgs false
namespace Go.Proofs.Ytoinfkimlhhmpaa
open Go.RowKit

theorem Rs.mono {w : World} {p : Option Addr} {m K K' : Nat} {L : List (Int × Int)} (h : Rs w p m L K) (hK : K ≤ K') : Rs w p m L K' := by
  refine ⟨h.1, h.2.1, fun i z hi => ?_⟩
  obtain ⟨g, off, b, q, n, k, b2, q2, n2, k2, hp, h1, h2, h3⟩ := h.2.2 i z hi
  exact ⟨g, off, b, q, n, k, b2, q2, n2, k2, hp, h1, h2.mono hK, h3.mono hK⟩
theorem Rs.e1 {w : World} {p : Option Addr} {m K : Nat} {e e2 : Int × Int} {L : List (Int × Int)} (h : Rs w p m (e2 :: e :: L) K) : ∃ g off b q n k b2 q2 n2 k2, p = some ⟨g, off, none⟩ ∧ (∀ j v, [Value.bool b, .slice q n k, .bool b2, .slice q2 n2 k2][j]? = some v → w.cell? ⟨g, off + 1 * 4 + j, none⟩ = some v) ∧ Zr w b q n k e.1 K ∧ Zr w b2 q2 n2 k2 e.2 K := h.2.2 1 e rfl
theorem wd_low {L : List (Int × Int)} {K : Nat} (h : ∀ e ∈ L, Wd e.1 K ∧ Wd e.2 K) : ∀ e ∈ lows L, Wd e.1 K ∧ Wd e.2 K := by
  intro e he
  obtain ⟨e', h1, rfl⟩ := List.mem_map.1 he
  exact ⟨(h e' h1).1.rn rfl, (h e' h1).2.rd rfl⟩
theorem wmI {F : FuncId} (hF : ∀ args w, (callFunc F args).run Try.prog w = .ok (.enter F args) w) {K : Nat} {z E : Int} {L : List (Int × Int)} {w : World} {pl : Option Addr} {m cl : Nat} (hl : Rs w pl m L K) (hK : K ≤ 67108864) (hall : ∀ e ∈ L, e.2 ≠ 0) (hf : ∀ (w1 : World) (p : Option Addr) (c : Nat), Rs w1 p m (lows L) K → Calls Try.prog F #[.slice p m c] w1 (Ret (Is (.tuple #[.int .i64 z, .int .i64 E])) w1)) :
    Calls Try.prog 67 #[.func (.func F) #[] #[], .slice pl m cl] w (Ret (Is (.tuple #[.int .i64 z, .int .i64 E])) w) :=
  wmadeI hF (hl.mono hK) hall (fun R w0 w1 p c es hes hS => by
    rw [Array.append_empty]
    exact (hf w1 p c (hS.rs 0 rfl hes hl.1 hl.2.1 hl.wd)).mono fun e w' h => giveL hS h)
/-! ### Plain: with lowest terms for the given ones -/
theorem ne_mul {a b : Int} (ha : a ≠ 0) (hb : b ≠ 0) : a * b ≠ 0 := by
  intro h; rcases Int.mul_eq_zero.1 h with h | h
  · exact ha h
  · exact hb h
end Go.Proofs.Ytoinfkimlhhmpaa
