
/-
  The walks of simileref01: Left, Right.
-/
import Derived.Test.YtlnilkghbbbhbaaRefE
namespace Go.Proofs.Ytlnilkghbbbhbaa
open Go.RowKit

/-- 'append(s, x...)' as one step of a region. -/
theorem step_appendAny {ops : Array Oper} {o : Oper} {a : Act} {w : World} {K : Act → World → Prop} {Q : Exit → Act → World → Prop} {E : Prop} (hgd : o.guard = none) (s x : Operand) (t : TypeId)
    (ho : o.op = .call { callee := .builtin .append, args := #[s, x], argTypes := #[t, t] }) (ht : Try.prog.underlying t = some (.slice 29))
    (B : Nat) (p : Option Addr) (n c : Nat) (xs : List Nat) (hs : a.eval s = .slice p n c) (hown : Fr B w p n c xs)
    (q : Option Addr) (m c2 : Nat) (ys : List Nat) (hx : a.eval x = .slice q m c2) (hy : Sl w q m c2 ys) (hb : n + m ≤ 35184372088832)
    {B0 : Nat} {w0 : World} (hB0 : Below B0 w0 w) (hBB : B0 ≤ B) (hB : B ≤ w.heap.size)
    (h : ∀ p' c' w', Fr B w' p' (n + m) c' (xs ++ ys) → w.grownBy w' (Value.slice p n c).ownBlock → Below B0 w0 w' → K (a.put o.dst (.slice p' (n + m) c')) w') :
    if Region.wanted o (yielded ops a.tmps) = true then Oper.wp Try.prog o a w K Q else E := by
  have hw : Region.wanted o (yielded ops a.tmps) = true := by simp [Region.wanted, hgd]
  rw [if_pos hw]
  obtain ⟨i, hi, hz0, hz1, hz2⟩ := info_parts info_u32
  have hm : maxLen = 9223372036854775807 := rfl
  cases q with
  | none =>
    obtain rfl : c2 = 0 := hy.isnil rfl
    obtain rfl : m = 0 := by have := hy.le; omega
    obtain rfl : ys = [] := List.eq_nil_of_length_eq_zero hy.len
    have hrun := run_append_owned_none (P := Try.prog) w B t o.type 29 i 1 ht hi _ n _ hown.own
    unfold Oper.wp
    simp [execOp, ho, resolve, invoke, builtin, hs, hx, hrun, Result.andThen]
    exact h p c w (by simpa using hown) (World.grownBy.refl _ _) hB0
  | some ad =>
    refine wp_append_own w s x t ho B 29 i (.int .u32 0) 1 4 ht hi hz0 hz1 hz2 rfl (by decide) _ n _ hs hown.own ad m c2 (ys.map fun x : Nat => Value.int .u32 (x : Int)) hx (by simp [hy.len]) ?_ ?_ (by omega) (by omega) hB ?_
    · intro j u hu
      have hj : j < m := by
        have := (List.getElem?_eq_some_iff.1 hu).1
        simp [hy.len] at this; omega
      obtain ⟨b', off', hp, hc⟩ := hy.cell j hj
      simp only [Option.some.injEq] at hp
      subst hp
      rw [Addr.add_lit, hc, ← hu, nd_get (by rw [hy.len]; exact hj)]
      simp [hy.len, hj]
    · intro u hu
      obtain ⟨_, _, rfl⟩ := List.mem_map.1 hu
      rfl
    · intro v' w' ho' hg' _
      have hex : ∃ p' c', v' = .slice p' (n + m) c' := by
        rcases ho'.2 with ⟨h1, h2⟩ | ⟨g, cap, cur, h1, _⟩
        · exact ⟨none, 0, by rw [h1, h2]⟩
        · exact ⟨_, _, h1⟩
      obtain ⟨p', c', rfl⟩ := hex
      refine h p' c' w' ⟨by simp [hown.len, hy.len], hown.lims.append hy.lims, by rw [List.map_append]; exact ho'⟩ hg' (hB0.grown hg' (Nat.le_trans hBB hB) ?_)
      intro k hk
      exact Nat.le_trans hBB (hown.own.lt k hk).1

/-- A make of n limbs, in whatever world. -/
theorem run_make32 {t : TypeId} (h1 : Try.prog.underlying t = some (.slice 29)) (n : Nat) (b2 : n ≤ 35184372088832) (L : Int) (hL : L = (n : Int)) (w : World) :
    (Instr.makeSlice t (.int .i64 L) (.int .i64 L)).run Try.prog w = .ok (.slice (some ⟨w.heap.size, 0, none⟩) n n) (w.alloc (.cells (madeCells #[.int .u32 0] n) 29)) := by
  obtain ⟨i, hi, hz0, hz1, hz2⟩ := info_parts info_u32
  have hr := run_make (P := Try.prog) w t 29 i (.int .u32 0) h1 hi hz0 .i64 .i64 n n (by omega) (Int.le_refl _) (by rw [hz2]; omega) (by omega)
  rw [hz1, Nat.mul_one] at hr
  subst hL
  simpa [Value.cells] using hr

theorem Fr.made {B : Nat} (w : World) (n : Nat) (hB : B ≤ w.heap.size) (b2 : n ≤ 35184372088832) : Fr B (w.alloc (.cells (madeCells #[.int .u32 0] n) 29)) (some ⟨w.heap.size, 0, none⟩) n n (List.replicate n 0) := by
  have hm : maxLen = 9223372036854775807 := rfl
  refine ⟨by simp, lims_zeros n, ?_⟩
  have := World.ownsRow_lit (base := B) (e := 29) (size := 1) w (madeCells #[.int .u32 0] n) n hB (by omega) (by rw [size_madeCells, Nat.mul_one])
  rw [toList_madeCells_one] at this
  have e : (List.replicate n 0).map (fun x : Nat => Value.int .u32 (x : Int)) = List.replicate n (.int .u32 0) := by simp
  rw [e]
  exact this

theorem val_zeros_append (q : Nat) (xs : List Nat) : val (List.replicate q 0 ++ xs) = 4294967296 ^ q * val xs := by
  rw [val_append, List.length_replicate]
  have : val (List.replicate q 0) = 0 := sm_zero fun i _ => nd_replicate _ _
  rw [this, Nat.zero_add]

set_option maxRecDepth 100000 in
set_option maxHeartbeats 2000000 in
theorem rleft_any {p : Option Addr} {n c : Nat} {xs : List Nat} {w : World} {s : Nat} (hx : Sl w p n c xs) (hs : s ≤ 17592186044416) (hn : n ≤ 1099511627776) :
    Calls Try.prog 110 #[.slice p n c, .int .i64 (s : Int)] w (RetN w (lim (val xs * 2 ^ s))) := by
  have hmk := run_make32 Try.underlying23 (s / 32) (by omega) ((s : Int) / 32) (by omega)
  have hwq : IntKind.i64.wrap ((s : Int) / 32) = (s : Int) / 32 := IntWalk.i64_in _ (by omega)
  have ht : s % 32 < 32 := Nat.mod_lt _ (by omega)
  have hp : 2 ^ (s % 32) < 4294967296 := by rw [show (4294967296 : Nat) = 2 ^ 32 from rfl]; exact Nat.pow_lt_pow_right (by omega) ht
  have hpi : (2 : Int) ^ (s % 32) % 4294967296 = ((2 ^ (s % 32) : Nat) : Int) := by
    have : (2 : Int) ^ (s % 32) = ((2 ^ (s % 32) : Nat) : Int) := by rw [Int.natCast_pow]; rfl
    rw [this]; exact Int.emod_eq_of_lt (Int.natCast_nonneg _) (Int.ofNat_lt.2 hp)
  have HPI := Lib.hid hpi
  clear hpi
  go_enter Try.func110, Try.ntmps110
  go_wp2_with fail
  go_region_held3 (fun w' => Below w.heap.size w w')
    (first | exact (Below.refl _ _).drew | exact ((Below.refl _ _).alloc (Nat.le_refl _) _).drew | exact hS4 | exact hS4.alloc hS4.size _ | exact hb5)
    (first
      | (go_at_call 69; have hS0 := ‹Below w.heap.size w _›; refine (rnorm_any (hx.below hS0 (Nat.le_refl _)) (by omega)).mono ?_; rintro e w4 ⟨p4, n4, c4, rfl, hf4, hb4⟩; have hS4 := hS0.trans (hb4.mono hS0.size); have hn4 : n4 ≤ n := (by rw [hf4.sl.lln, ← tl_ll hx.lims, hx.len]; exact tl_le _ _))
      | (refine step_appendAny rfl _ _ _ rfl Try.underlying23 w.heap.size _ (s / 32) _ _ rfl (Fr.below (Fr.made w (s / 32) (Nat.le_refl _) (by omega)) ((Below.refl _ _).drew.trans hb4) (Nat.le_refl _)) _ n4 _ _ rfl hf4.sl (by omega) hS4 (Nat.le_refl _) hS4.size ?_; intro p5 c5 w5 hf5 hg5 hb5)
      | (refine step_appendAny rfl _ _ _ rfl Try.underlying23 w.heap.size _ (s / 32) _ _ rfl (Fr.made w4 (s / 32) hS4.size (by omega)) _ n4 _ _ rfl (hf4.sl.below ((Below.refl _ _).alloc (Nat.le_refl _) _) (Nat.le_refl _)) (by omega) (hS4.alloc hS4.size _) (Nat.le_refl _) (Nat.le_trans hS4.size (by simp)) ?_; intro p5 c5 w5 hf5 hg5 hb5))
  all_goals
    go_wp2_with fail
    refine (rsmall_any HPI.out hf5.sl hp (by omega)).mono ?_
    have e : val (List.replicate (s / 32) 0 ++ lim (val xs)) * 2 ^ (s % 32) = val xs * 2 ^ s := by
      rw [val_zeros_append, val_lim, ← pow_split s, Nat.mul_comm (4294967296 ^ (s / 32)), Nat.mul_assoc]
    rw [e]
    rintro e w6 ⟨p6, n6, c6, rfl, hf6, hb6⟩
    go_wp2_with fail
    go_ret
    exact ⟨_, _, _, rfl, hf6.mono hb5.size, hb5.trans (hb6.mono hb5.size)⟩

end Go.Proofs.Ytlnilkghbbbhbaa
