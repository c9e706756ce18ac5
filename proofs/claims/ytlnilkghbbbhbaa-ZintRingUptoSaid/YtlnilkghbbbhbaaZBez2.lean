
/-
  The walks of simileref03.inverse and Bezout and of similelaw03.ZintBezout.
-/
import Derived.Test.YtlnilkghbbbhbaaZBez
set_option linter.unusedVariables false
set_option linter.unusedSimpArgs false
namespace Go.Proofs.Ytlnilkghbbbhbaa
open Go.RowKit

/-- The inverse of r modulo q, from 0 on. -/
def Inv (r q z : Int) : Prop := 0 ≤ z ∧ z < q ∧ ∃ k, r * z + q * k = 1 % q
theorem Inv.wd {r q z : Int} {k : Nat} (h : Hid (Inv r q z)) (hk : Wd q k) : Wd z k := hk.abs (by have := h.out.1; have := h.out.2.1; omega)
theorem bezout_nat (a b : Nat) : ∃ u v : Int, (a : Int) * u + (b : Int) * v = (Nat.gcd a b : Int) := by
  induction a, b using Nat.gcd.induction with
  | H0 n => exact ⟨0, 1, by simp⟩
  | H1 m n hm ih =>
    obtain ⟨u, v, h⟩ := ih
    refine ⟨v - (n / m : Nat) * u, u, ?_⟩
    rw [Nat.gcd_rec, ← h]
    have e : (n : Int) = (m : Int) * ((n / m : Nat) : Int) + ((n % m : Nat) : Int) := by
      rw [← Int.natCast_mul, ← Int.natCast_add, Nat.div_add_mod]
    have e2 : (n : Int) * u = (m : Int) * (((n / m : Nat) : Int) * u) + ((n % m : Nat) : Int) * u := by
      rw [← Int.mul_assoc, ← Int.add_mul, ← e]
    rw [Int.mul_sub, e2]; omega
theorem Inv.some {r q : Int} (h0 : 0 ≤ r) (h1 : r < q) (hg : Int.gcd r q = 1) : ∃ z, Hid (Inv r q z) := by
  obtain ⟨u, v, huv⟩ := bezout_nat r.natAbs q.natAbs
  have hg' : Nat.gcd r.natAbs q.natAbs = 1 := hg
  rw [hg', show (r.natAbs : Int) = r by omega, show (q.natAbs : Int) = q by omega] at huv
  have e1 := Int.emod_add_mul_ediv u q
  refine ⟨u % q, Int.emod_nonneg _ (by omega), Int.emod_lt_of_pos _ (by omega), r * (u / q) + v - 1 / q, ?_⟩
  have e2 : r * (u % q) = r * u - r * (q * (u / q)) := by rw [← Int.mul_sub]; congr 1; omega
  have e3 : r * (q * (u / q)) = q * (r * (u / q)) := by rw [← Int.mul_assoc, Int.mul_comm r q, Int.mul_assoc]
  have e4 := Int.emod_add_mul_ediv 1 q
  rw [Int.mul_sub, Int.mul_add]
  have huv' : r * u + q * v = 1 := huv
  omega

set_option maxRecDepth 100000 in
set_option maxHeartbeats 16000000 in
theorem wzbez0 {b b2 : Bool} {p q : Option Addr} {n m c d : Nat} {x y : Int} {w : World} (hx : Zr w b p n c x 100000000000) (hy : Zr w b2 q m d y 100000000000) (h0 : y = 0) :
    Calls Try.prog 42 #[.agg #[.bool b, .slice p n c], .agg #[.bool b2, .slice q m d]] w (Ret (ZZZt (x.natAbs : Int) x.sign 0) w) := by
  have hS := Sep.init w
  refine went Try.func42 rfl (n := 88) rfl rfl ?_
  refine wseq ?_
  refine wreg ?_
  refine wl rfl (obox [.bool b, .slice p n c] hS rfl rfl (ev (v := .agg #[.bool b, .slice p n c]) rfl rfl) rfl ?_)
  clear hS; intro g1 w2 hS
  refine wl rfl (obox [.bool b2, .slice q m d] hS rfl rfl (ev (v := .agg #[.bool b2, .slice q m d]) rfl rfl) rfl ?_)
  clear hS; intro g3 w4 hS
  refine wl rfl (oalloc [.bool false, .slice none 0 0] hS rfl rfl Try.zeroValue25 rfl ?_)
  clear hS; intro g5 w6 hS
  refine wl rfl (oalloc [.bool false, .slice none 0 0] hS rfl rfl Try.zeroValue25 rfl ?_)
  clear hS; intro g7 w8 hS
  refine wl rfl (oalloc [.bool false, .slice none 0 0] hS rfl rfl Try.zeroValue25 rfl ?_)
  clear hS; intro g9 w10 hS
  refine wnil ?_
  refine thenN ?_
  refine wseq ?_
  refine wseq ?_
  refine wreg ?_
  refine wl rfl (oload (vs := [.bool b2, .slice q m d]) aggZ hS 3 rfl rfl (ev rfl rfl) rfl rfl rfl ?_)
  obtain ⟨s1, hs1⟩ : ∃ z : Int, Hid ((y : Int).sign = z) := ⟨_, rfl⟩
  refine wl rfl (ocall rfl rfl Try.call25 rfl (wzsign ((hy.at hS).mono (by omega)) hs1) (args1 (ev rfl rfl)) ?_)
  rintro _ w11 ⟨_, _, rfl, ⟨rfl, rfl⟩, hN⟩
  refine ⟨_, rfl, ?_⟩
  replace hS := hS.news hN; clear hN
  refine wl rfl (obin (u := .int .i64 s1) (v := .int .i64 0) (z := .bool true) rfl rfl (ev (v := .int .i64 s1) rfl rfl) (evc (v := .int .i64 0)) (bin_eql (sign_eq hs1 h0)) ?_)
  refine wnil ?_
  refine thenN ?_
  refine wT (ev (v := .bool true) rfl rfl) ?_
  refine wseq ?_
  obtain ⟨z2, hz2⟩ : ∃ z : Int, Hid ((Int.natAbs x : Int) = z) := ⟨_, rfl⟩
  have hk2 : Wd z2 100000000000 := Wd.nabs hx.wd hz2
  obtain ⟨s3, hs3⟩ : ∃ z : Int, Hid ((x : Int).sign = z) := ⟨_, rfl⟩
  have hk4 : Wd s3 2 := Wd.i64 (by have := sign_cases x; have := hs3.out; omega) (by have := sign_cases x; have := hs3.out; omega)
  refine wstage 6 [25, 26, 27, 28, 29, 30] [[], [0], [], [2, 0, 1], [3, 0, 1, 2], []] [[], [], [], [], [], []] [5] [] (fun i => ([fun _ => Is (.agg #[.bool b, .slice p n c]), fun _ => Zt z2, fun _ => Is (.agg #[.bool b, .slice p n c]), fun _ => Is (.int .i64 s3), fun _ => Zt s3, fun _ => Is (.agg #[.bool false, .slice none 0 0])] : List (List Value → Tell)).getD i (fun _ _ _ => False)) (heldNil) (fun d _ _ _ _ h => (by cases d <;> exact h)) (by kernel_rfl) (by kernel_rfl) (by kernel_rfl) hS ?_ ?_
  ·
    refine stepsCons rfl ?_ ?_
    · intro Q f' w' ρ S ho hT hS hB
      exact .inl ⟨want_none rfl, oload (vs := [.bool b, .slice p n c]) aggZ hS 4 rfl rfl (ev rfl (ho 2 rfl)) rfl rfl rfl ⟨_, _, rfl, isI, New.same _⟩⟩
    refine stepsCons rfl ?_ ?_
    · intro Q f' w' ρ S ho hT hS hB
      obtain ⟨hv0, hr0⟩ := (hT 0 25 rfl rfl : (Is (.agg #[.bool b, .slice p n c])) (f' 25) (ρ 0))
      obtain hS := hS.flat1 hr0
      refine .inl ⟨want_none rfl, ocall rfl rfl Try.call30 rfl (wzabs ((hx.at hS).mono (by omega)) hz2) (args1 (ev rfl hv0)) ?_⟩
      rintro _ w9 ⟨_, _, rfl, hTT, hN⟩
      exact ⟨_, rfl, _, _, rfl, hTT, hN⟩
    refine stepsCons rfl ?_ ?_
    · intro Q f' w' ρ S ho hT hS hB
      exact .inl ⟨want_none rfl, oload (vs := [.bool b, .slice p n c]) aggZ hS 4 rfl rfl (ev rfl (ho 2 rfl)) rfl rfl rfl ⟨_, _, rfl, isI, New.same _⟩⟩
    refine stepsCons rfl ?_ ?_
    · intro Q f' w' ρ S ho hT hS hB
      obtain ⟨hv2, hr2⟩ := (hT 2 27 rfl rfl : (Is (.agg #[.bool b, .slice p n c])) (f' 27) (ρ 2))
      obtain hS := hS.flat1 hr2
      refine .inl ⟨want_none rfl, ocall rfl rfl Try.call25 rfl (wzsign ((hx.at hS).mono (by omega)) hs3) (args1 (ev rfl hv2)) ?_⟩
      rintro _ w9 ⟨_, _, rfl, hTT, hN⟩
      exact ⟨_, rfl, _, _, rfl, hTT, hN⟩
    refine stepsCons rfl ?_ ?_
    · intro Q f' w' ρ S ho hT hS hB
      obtain ⟨hv3, hr3⟩ := (hT 3 28 rfl rfl : (Is (.int .i64 s3)) (f' 28) (ρ 3))
      obtain hS := hS.flat1 hr3
      refine .inl ⟨want_none rfl, ocall rfl rfl Try.call24 rfl (wzof (z := s3) (by have := sign_cases x; have := hs3.out; omega) (by have := sign_cases x; have := hs3.out; omega)) (args1 (ev rfl hv3)) ?_⟩
      rintro _ w9 ⟨_, _, rfl, hTT, hN⟩
      exact ⟨_, rfl, _, _, rfl, hTT, hN⟩
    refine stepsPure rfl ?_ ?_
    · intro f' ρ ho hT
      exact ⟨_, .inl ⟨want_none rfl, fun w hw => ybuild (ps := #[]) (v := .agg #[.bool false, .slice none 0 0]) rfl (parts0) (fun w => by simp [go_sem, Instr.build, Instr.fill]) w⟩, isI⟩
    exact stepsNil
  ·
    intro vs ρ w12 f' hf hT hS
    obtain ⟨hv0, hr0⟩ := (hT 0 (by decide) : (Is (.agg #[.bool b, .slice p n c])) (vs 0) (ρ 0))
    obtain ⟨p2, n2, c2, hv1, hr1⟩ := (hT 1 (by decide) : (Zt z2) (vs 1) (ρ 1))
    obtain ⟨hv2, hr2⟩ := (hT 2 (by decide) : (Is (.agg #[.bool b, .slice p n c])) (vs 2) (ρ 2))
    obtain ⟨hv3, hr3⟩ := (hT 3 (by decide) : (Is (.int .i64 s3)) (vs 3) (ρ 3))
    obtain ⟨p4, n4, c4, hv4, hr4⟩ := (hT 4 (by decide) : (Zt s3) (vs 4) (ρ 4))
    obtain ⟨hv5, hr5⟩ := (hT 5 (by decide) : (Is (.agg #[.bool false, .slice none 0 0])) (vs 5) (ρ 5))
    simp only [pool, if_true, hr0, hr1, hr2, hr3, hr4, hr5, List.nil_append, List.cons_append, List.append_nil] at hS
    simp only [layf, hv0, hv1, hv2, hv3, hv4, hv5] at hf
    subst hf; clear hT hv0 hv1 hv2 hv3 hv4 hv5 hr0 hr1 hr2 hr3 hr4 hr5
    refine wlate 6 rfl (by kernel_rfl) (ostore [.bool (ng z2), .slice p2 n2 c2] [.bool (ng z2), .slice p2 n2 c2] Try.sizeOf25 hS 4 rfl rfl (ev rfl rfl) (ev (v := .agg #[.bool (ng z2), .slice p2 n2 c2]) rfl rfl) rfl rfl rfl rfl rfl rfl ?_)
    clear hS; intro w13 hS
    refine ⟨heldNil, ?_⟩
    refine wlate 7 rfl (by kernel_rfl) (ostore [.bool (ng s3), .slice p4 n4 c4] [.bool (ng s3), .slice p4 n4 c4] Try.sizeOf25 hS 3 rfl rfl (ev rfl rfl) (ev (v := .agg #[.bool (ng s3), .slice p4 n4 c4]) rfl rfl) rfl rfl rfl rfl rfl rfl ?_)
    clear hS; intro w14 hS
    refine ⟨heldNil, ?_⟩
    refine wlate 8 rfl (by kernel_rfl) (ostore [.bool false, .slice none 0 0] [.bool false, .slice none 0 0] Try.sizeOf25 hS 2 rfl rfl (ev rfl rfl) (ev (v := .agg #[.bool false, .slice none 0 0]) rfl rfl) rfl rfl rfl rfl rfl rfl ?_)
    clear hS; intro w15 hS
    refine ⟨heldNil, ?_⟩
    refine wdone rfl ?_
    refine thenN ?_
    refine wleave ?_
    refine thenR ?_
    refine wret3 Try.results42 (tellC (cs := [.bool (ng z2), .slice p2 n2 c2]) aggZ hS 4 rfl rfl rfl rfl) (tellC (cs := [.bool (ng s3), .slice p4 n4 c4]) aggZ hS 3 rfl rfl rfl rfl) (tellC (cs := [.bool false, .slice none 0 0]) aggZ hS 2 rfl rfl rfl rfl) ?_
    replace hS := hS.nilRow
    have t1 : z2 = (x.natAbs : Int) := by have := hz2.out; omega
    have t2 : s3 = x.sign := hs3.out.symm
    rw [t1, t2] at hS
    rw [t1, t2]
    exact ⟨_, _, rfl, ⟨_, _, _, _, _, _, none, 0, 0, rfl, rfl⟩, hS.new3 2 1 0 rfl rfl rfl⟩

end Go.Proofs.Ytlnilkghbbbhbaa
