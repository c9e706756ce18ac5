
/-
  rat's Height and the document's.
-/
import Derived.Test.YtoinfkimlhhmpaaRLists
import Derived.Test.YtoinfkimlhhmpaaRatPow0
set_option linter.unusedVariables false
set_option linter.unusedSimpArgs false
namespace Go.Proofs.Ytoinfkimlhhmpaa
open Go.RowKit

section
variable {P : Program} {o : Oper} {n : Nat} {f : Nat → Value} {w w0 : World} {R : List Res} {K : Act → World → Prop} {Q : Exit → Act → World → Prop} {d : Nat}
theorem omax {c : Call} {x y z : Operand} {ts : Array TypeId} {a b e r : Nat} (hop : o.op = .call c) (hc : c = { callee := .builtin .max, args := #[x, y, z], argTypes := ts }) (ho : o.dst = some d)
    (hx : (act n f).eval x = .int .i64 ((a : Nat) : Int)) (hy : (act n f).eval y = .int .i64 ((b : Nat) : Int)) (hz : (act n f).eval z = .int .i64 ((e : Nat) : Int)) (hr : max (max a b) e = r) (hK : K (act n (upd f d (.int .i64 ((r : Nat) : Int)))) w) : OW P o (act n f) w K Q := by
  have e1 : ∀ a b : Nat, (if (b : Int) > (a : Int) then (b : Int) else (a : Int)) = ((max a b : Nat) : Int) := fun a b => by
    by_cases h : a < b
    · rw [if_pos (by omega)]; congr 1; omega
    · rw [if_neg (by omega)]; congr 1; omega
  refine oval ho ?_ rfl hK
  subst hc; subst hr
  simp only [execOp, hop, resolve, invoke, builtin, Builtin.max_, Builtin.max2, List.map_toArray, List.map_cons, List.map_nil, hx, hy, hz, Sem.run_bind, Sem.run_pure, Result.andThen_ok, List.foldlM_cons, List.foldlM_nil, e1]
theorem oidx {t e : TypeId} {x i : Operand} {cs : List Value} {k m : Nat} {v : Value} (hop : o.op = .index t x i) (ho : o.dst = some d) (ht : ∀ w, (underlying t).run P w = .ok (.array m e) w) (hs : ∀ w, (sizeOf e).run P w = .ok 1 w) (ha : ∀ w, (isAgg e).run P w = .ok false w)
    (hx : (act n f).eval x = .agg cs.toArray) (hi : (act n f).eval i = .int .i64 ((k : Nat) : Int)) (hv : cs[k]? = some v) (hk : k < m) (hK : K (act n (upd f d v)) w) : OW P o (act n f) w K Q := by
  refine oval ho ?_ rfl hK
  have h1 : (0 : Int) ≤ (k : Int) ∧ (k : Int) < (m : Int) := by omega
  simp [execOp, hop, hx, hi, Instr.index, asIntOf, ht, hs, ha, h1, hk, Go.part, hv]
end
theorem wnlenZ {p : Option Addr} {n c : Nat} {b : Bool} {z : Int} {w : World} (h : Zr w b p n c z 67108864) :
    Calls Try.prog 69 #[.slice p n c] w (Ret (Is (.int .i64 ((blen z.natAbs : Nat) : Int))) w) := by
  obtain ⟨xs, h1, rfl, h2⟩ := h
  have := len_any h1 (by omega)
  rw [zv_abs]
  exact this.mono RetLen.u
/-- The most bits of the first i. -/
def hgt (L : List (Int × Int)) (i : Nat) : Nat := (L.take i).foldl (fun h e => max (max h (blen e.1.natAbs)) (blen e.2.natAbs)) 0
theorem hgt_succ {L : List (Int × Int)} {i : Nat} {e : Int × Int} (h : L[i]? = some e) : hgt L (i + 1) = max (max (hgt L i) (blen e.1.natAbs)) (blen e.2.natAbs) := by
  unfold hgt
  rw [List.take_add_one, h, List.foldl_append]; rfl
def hst (h a b : Nat) : Nat → Nat
  | 0 => h
  | 1 => max h a
  | _ => max (max h a) b

set_option maxRecDepth 100000 in
set_option maxHeartbeats 16000000 in
theorem wrheight1 {L : List (Int × Int)} {w : World} {pl : Option Addr} {m cl : Nat} (hl : Rs w pl m L 67108864) :
    Calls Try.prog 68 #[.slice pl m cl] w (Ret (Is (.tuple #[.int .i64 ((hgt L m : Nat) : Int), .int .i64 0])) w) := by
  have hS := Sep.init w
  refine went Try.func68 rfl (n := 25) rfl rfl ?_
  refine wseq ?_
  refine wreg ?_
  refine wl rfl (oassign (v := .int .i64 0) rfl rfl (evc (v := .int .i64 0)) ?_)
  refine wl rfl (oassign (v := .int .i64 0) rfl rfl (evc (v := .int .i64 0)) ?_)
  refine wnil ?_
  refine thenN ?_
  refine wseq ?_
  refine wreg ?_
  refine wl rfl (oassign (v := .int .i64 0) rfl rfl (evc (v := .int .i64 0)) ?_)
  refine wnil ?_
  refine thenN ?_
  refine wseq ?_
  refine wseq ?_
  refine wreg ?_
  refine wl rfl (omove (v := .slice pl m cl) rfl rfl (ev (v := .slice pl m cl) rfl rfl) ?_)
  refine wl rfl (olen rfl rfl rfl Try.runUnderlying38 (p := pl) (k := m) (m := cl) (ev (v := .slice pl m cl) rfl rfl) ?_)
  refine wl rfl (omove (v := .int .i64 0) rfl rfl (evc (v := .int .i64 0)) ?_)
  refine wnil ?_
  refine thenN ?_
  refine wblock ?_

  refine wloop (σ := Nat) (fun i a w' => ∃ (fb : Nat → Value) (hh : Nat), a = act 25 (sets fb [(2, .int .i64 0), (3, .int .i64 0), (4, .int .i64 (((hh : Nat) : Int))), (7, .slice pl m cl), (8, .int .i64 (((m : Nat) : Int))), (9, .int .i64 (((i : Nat) : Int)))]) ∧ Sep w [] w' ∧ (i ≤ m) ∧ (hh = hgt L i)) (fun i => m - i) (0) ⟨_, _, act_sets (l := [(2, .int .i64 0), (3, .int .i64 0), (4, .int .i64 0), (7, .slice pl m cl), (8, .int .i64 (((m : Nat) : Int))), (9, .int .i64 0)]) ⟨rfl, rfl, rfl, rfl, rfl, rfl, trivial⟩, hS, Nat.zero_le _, rfl⟩ ?_
  clear hS; rintro i _ w1 ⟨fb, hh, rfl, hS, hi, hhe⟩
  refine wseq ?_
  refine wreg ?_
  by_cases hlt : i < m
  ·
    refine wl rfl (obin (u := .int .i64 (((i : Nat) : Int))) (v := .int .i64 (((m : Nat) : Int))) (z := .bool true) rfl rfl (ev (v := .int .i64 (((i : Nat) : Int))) rfl rfl) (ev (v := .int .i64 (((m : Nat) : Int))) rfl rfl) (bin_lss (decide_eq_true (by omega))) ?_)
    refine wnil ?_
    refine thenN ?_
    refine wseq ?_
    refine wT (ev (v := .bool true) rfl rfl) ?_
    refine wskip ?_
    refine thenN ?_
    refine wseq ?_
    refine wblock ?_
    refine wseq ?_
    refine wreg ?_
    obtain ⟨e1, g1x, o1, bx, qx, nx, kx, by1, qy, ny, ky, hle, hp1, hc1, hzx, hzy⟩ := hl.el hlt
    refine wl rfl (oindex (p := pl) (g := g1x) (off := o1) (m := m) (k := i) (j := (o1 + i * 4)) rfl rfl Try.runUnderlying38 Try.sizeOf27 (ev (v := .slice pl m cl) rfl rfl) (hp1) (ev (v := .int .i64 (((i : Nat) : Int))) rfl rfl) (hlt) rfl ?_)
    refine wl rfl (oloadA (vs := [.bool bx, .slice qx nx kx, .bool by1, .slice qy ny ky]) aggR rfl rfl (ev (v := .pointer (some ⟨g1x, (o1 + i * 4), none⟩)) rfl rfl) (fun j v hj => hS.cellAt (hc1 j v hj)) rfl ?_)
    refine wl rfl (oalloc [.bool false, .slice none 0 0, .bool false, .slice none 0 0] hS rfl rfl Try.zeroValue27 rfl ?_)
    clear hS; intro g2 w3 hS
    refine wl rfl (ostore [.bool bx, .slice qx nx kx, .bool by1, .slice qy ny ky] [.bool bx, .slice qx nx kx, .bool by1, .slice qy ny ky] Try.sizeOf27 hS 0 rfl rfl (ev rfl rfl) (ev (v := .agg #[.bool bx, .slice qx nx kx, .bool by1, .slice qy ny ky]) rfl rfl) rfl rfl rfl rfl rfl rfl ?_)
    clear hS; intro w4 hS
    refine wnil ?_
    refine thenN ?_
    refine wstage 10 [13, 14, 15, 16, 17, 18, 19, 20, 21, 22] [[], [], [1], [2, 1], [3, 1, 2], [], [5], [6, 5], [7, 1, 2, 3, 4, 5, 6], [0, 4, 8, 1, 2, 3, 5, 6, 7]] [[], [], [], [], [], [], [], [], [], []] [] [] (fun i9 => ([fun _ => Is (.int .i64 (((hh : Nat) : Int))), fun _ => Is (.pointer (some ⟨g2, 0, none⟩)), fun _ => Is (.pointer (some ⟨g2, 1, none⟩)), fun _ => Is (.slice qx nx kx), fun _ => Is (.int .i64 (((blen e1.1.natAbs : Nat) : Int))), fun _ => Is (.pointer (some ⟨g2, 2, none⟩)), fun _ => Is (.pointer (some ⟨g2, 3, none⟩)), fun _ => Is (.slice qy ny ky), fun _ => Is (.int .i64 (((blen e1.2.natAbs : Nat) : Int))), fun _ => Is (.int .i64 (((hgt L (i + 1) : Nat) : Int)))] : List (List Value → Tell)).getD i9 (fun _ _ _ => False)) (heldNil) (fun d _ _ _ _ h => (by cases d <;> exact h)) (by kernel_rfl) (by kernel_rfl) (by kernel_rfl) hS ?_ ?_
    ·
      refine stepsCons rfl ?_ ?_
      · intro Q f' w' ρ S ho hT hS hB
        exact .inl ⟨want_none rfl, omove (v := .int .i64 (((hh : Nat) : Int))) rfl rfl (ev (v := .int .i64 (((hh : Nat) : Int))) rfl (ho 4 rfl)) ⟨_, _, rfl, isI, New.same _⟩⟩
      refine stepsCons rfl ?_ ?_
      · intro Q f' w' ρ S ho hT hS hB
        exact .inl ⟨want_none rfl, ofieldAddr (g := g2) (off := 0) 0 rfl rfl (ev (v := .pointer (some ⟨g2, 0, none⟩)) rfl (ho 6 rfl)) Try.runUnderlying27 rfl Try.sizeOf25 rfl ⟨_, _, rfl, isI, New.same _⟩⟩
      refine stepsCons rfl ?_ ?_
      · intro Q f' w' ρ S ho hT hS hB
        obtain ⟨hv1, hr1⟩ := (hT 1 14 rfl rfl : (Is (.pointer (some ⟨g2, 0, none⟩))) (f' 14) (ρ 1))
        obtain hS := hS.flat1 hr1
        exact .inl ⟨want_none rfl, ofieldAddr (g := g2) (off := 0) 1 rfl rfl (ev (v := .pointer (some ⟨g2, 0, none⟩)) rfl hv1) Try.runUnderlying25 rfl Try.sizeOf23 rfl ⟨_, _, rfl, isI, New.same _⟩⟩
      refine stepsCons rfl ?_ ?_
      · intro Q f' w' ρ S ho hT hS hB
        obtain ⟨hv2, hr2⟩ := (hT 2 15 rfl rfl : (Is (.pointer (some ⟨g2, 1, none⟩))) (f' 15) (ρ 2))
        obtain hS := hS.flat1 hr2
        exact .inl ⟨want_none rfl, oload1 (v := .slice qx nx kx) oneN hS 0 rfl rfl (ev rfl hv2) rfl rfl ⟨_, _, rfl, isI, New.same _⟩⟩
      refine stepsCons rfl ?_ ?_
      · intro Q f' w' ρ S ho hT hS hB
        obtain ⟨hv3, hr3⟩ := (hT 3 16 rfl rfl : (Is (.slice qx nx kx)) (f' 16) (ρ 3))
        obtain hS := hS.flat1 hr3
        refine .inl ⟨want_none rfl, ocall rfl rfl Try.call69 rfl (wnlenZ (hzx.at hS)) (args1 (ev rfl hv3)) ?_⟩
        rintro _ w9 ⟨_, _, rfl, hTT, hN⟩
        exact ⟨_, rfl, _, _, rfl, hTT, hN⟩
      refine stepsCons rfl ?_ ?_
      · intro Q f' w' ρ S ho hT hS hB
        exact .inl ⟨want_none rfl, ofieldAddr (g := g2) (off := 0) 2 rfl rfl (ev (v := .pointer (some ⟨g2, 0, none⟩)) rfl (ho 6 rfl)) Try.runUnderlying27 rfl Try.sizeOf25 rfl ⟨_, _, rfl, isI, New.same _⟩⟩
      refine stepsCons rfl ?_ ?_
      · intro Q f' w' ρ S ho hT hS hB
        obtain ⟨hv5, hr5⟩ := (hT 5 18 rfl rfl : (Is (.pointer (some ⟨g2, 2, none⟩))) (f' 18) (ρ 5))
        obtain hS := hS.flat1 hr5
        exact .inl ⟨want_none rfl, ofieldAddr (g := g2) (off := 2) 3 rfl rfl (ev (v := .pointer (some ⟨g2, 2, none⟩)) rfl hv5) Try.runUnderlying25 rfl Try.sizeOf23 rfl ⟨_, _, rfl, isI, New.same _⟩⟩
      refine stepsCons rfl ?_ ?_
      · intro Q f' w' ρ S ho hT hS hB
        obtain ⟨hv6, hr6⟩ := (hT 6 19 rfl rfl : (Is (.pointer (some ⟨g2, 3, none⟩))) (f' 19) (ρ 6))
        obtain hS := hS.flat1 hr6
        exact .inl ⟨want_none rfl, oload1 (v := .slice qy ny ky) oneN hS 0 rfl rfl (ev rfl hv6) rfl rfl ⟨_, _, rfl, isI, New.same _⟩⟩
      refine stepsCons rfl ?_ ?_
      · intro Q f' w' ρ S ho hT hS hB
        obtain ⟨hv7, hr7⟩ := (hT 7 20 rfl rfl : (Is (.slice qy ny ky)) (f' 20) (ρ 7))
        obtain hS := hS.flat1 hr7
        refine .inl ⟨want_none rfl, ocall rfl rfl Try.call69 rfl (wnlenZ (hzy.at hS)) (args1 (ev rfl hv7)) ?_⟩
        rintro _ w9 ⟨_, _, rfl, hTT, hN⟩
        exact ⟨_, rfl, _, _, rfl, hTT, hN⟩
      refine stepsCons rfl ?_ ?_
      · intro Q f' w' ρ S ho hT hS hB
        obtain ⟨hv0, hr0⟩ := (hT 0 13 rfl rfl : (Is (.int .i64 (((hh : Nat) : Int)))) (f' 13) (ρ 0))
        obtain ⟨hv4, hr4⟩ := (hT 4 17 rfl rfl : (Is (.int .i64 (((blen e1.1.natAbs : Nat) : Int)))) (f' 17) (ρ 4))
        obtain ⟨hv8, hr8⟩ := (hT 8 21 rfl rfl : (Is (.int .i64 (((blen e1.2.natAbs : Nat) : Int)))) (f' 21) (ρ 8))
        obtain hS := hS.flat3 hr0 hr4 hr8
        exact .inl ⟨want_none rfl, omax (a := hh) (b := (blen e1.1.natAbs)) (e := (blen e1.2.natAbs)) (r := (hgt L (i + 1))) rfl rfl rfl (ev (v := .int .i64 (((hh : Nat) : Int))) rfl hv0) (ev (v := .int .i64 (((blen e1.1.natAbs : Nat) : Int))) rfl hv4) (ev (v := .int .i64 (((blen e1.2.natAbs : Nat) : Int))) rfl hv8) (by rw [hgt_succ hle, hhe]) ⟨_, _, rfl, isI, New.same _⟩⟩
      exact stepsNil
    ·
      intro vs ρ w5 f' hf hT hS
      obtain ⟨hv0, hr0⟩ := (hT 0 (by decide) : (Is (.int .i64 (((hh : Nat) : Int)))) (vs 0) (ρ 0))
      obtain ⟨hv1, hr1⟩ := (hT 1 (by decide) : (Is (.pointer (some ⟨g2, 0, none⟩))) (vs 1) (ρ 1))
      obtain ⟨hv2, hr2⟩ := (hT 2 (by decide) : (Is (.pointer (some ⟨g2, 1, none⟩))) (vs 2) (ρ 2))
      obtain ⟨hv3, hr3⟩ := (hT 3 (by decide) : (Is (.slice qx nx kx)) (vs 3) (ρ 3))
      obtain ⟨hv4, hr4⟩ := (hT 4 (by decide) : (Is (.int .i64 (((blen e1.1.natAbs : Nat) : Int)))) (vs 4) (ρ 4))
      obtain ⟨hv5, hr5⟩ := (hT 5 (by decide) : (Is (.pointer (some ⟨g2, 2, none⟩))) (vs 5) (ρ 5))
      obtain ⟨hv6, hr6⟩ := (hT 6 (by decide) : (Is (.pointer (some ⟨g2, 3, none⟩))) (vs 6) (ρ 6))
      obtain ⟨hv7, hr7⟩ := (hT 7 (by decide) : (Is (.slice qy ny ky)) (vs 7) (ρ 7))
      obtain ⟨hv8, hr8⟩ := (hT 8 (by decide) : (Is (.int .i64 (((blen e1.2.natAbs : Nat) : Int)))) (vs 8) (ρ 8))
      obtain ⟨hv9, hr9⟩ := (hT 9 (by decide) : (Is (.int .i64 (((hgt L (i + 1) : Nat) : Int)))) (vs 9) (ρ 9))
      simp only [pool, if_true, hr0, hr1, hr2, hr3, hr4, hr5, hr6, hr7, hr8, hr9, List.nil_append, List.cons_append, List.append_nil] at hS
      simp only [layf, hv0, hv1, hv2, hv3, hv4, hv5, hv6, hv7, hv8, hv9] at hf
      subst hf; clear hT hv0 hv1 hv2 hv3 hv4 hv5 hv6 hv7 hv8 hv9 hr0 hr1 hr2 hr3 hr4 hr5 hr6 hr7 hr8 hr9
      refine wlate 10 rfl (by kernel_rfl) (oassign (v := .int .i64 (((hgt L (i + 1) : Nat) : Int))) rfl rfl (ev (v := .int .i64 (((hgt L (i + 1) : Nat) : Int))) rfl rfl) ?_)
      refine ⟨heldNil, ?_⟩
      refine wdone rfl ?_
      refine blkN ?_
      refine thenN ?_
      refine wreg ?_
      refine wl rfl (obin (u := .int .i64 (((i : Nat) : Int))) (v := .int .i64 1) (z := .int .i64 (((i + 1 : Nat) : Int))) rfl rfl (ev (v := .int .i64 (((i : Nat) : Int))) rfl rfl) (evc (v := .int .i64 1)) (bin_add (wrap_succ (by have := hl.2.1; omega))) ?_)
      refine wl rfl (omove (v := .int .i64 (((i + 1 : Nat) : Int))) rfl rfl (ev (v := .int .i64 (((i + 1 : Nat) : Int))) rfl rfl) ?_)
      refine wnil ?_
      refine thenN ?_
      exact ⟨(i + 1), ⟨_, _, act_sets (l := [(2, .int .i64 0), (3, .int .i64 0), (4, .int .i64 (((hgt L (i + 1) : Nat) : Int))), (7, .slice pl m cl), (8, .int .i64 (((m : Nat) : Int))), (9, .int .i64 (((i + 1 : Nat) : Int)))]) ⟨rfl, rfl, rfl, rfl, rfl, rfl, trivial⟩, hS.pick [] (by decide) rfl, by omega, rfl⟩, by omega⟩
  ·
    refine wl rfl (obin (u := .int .i64 (((i : Nat) : Int))) (v := .int .i64 (((m : Nat) : Int))) (z := .bool false) rfl rfl (ev (v := .int .i64 (((i : Nat) : Int))) rfl rfl) (ev (v := .int .i64 (((m : Nat) : Int))) rfl rfl) (bin_lss (decide_eq_false (by omega))) ?_)
    refine wnil ?_
    refine thenN ?_
    refine wseq ?_
    refine wF (ev (v := .bool false) rfl rfl) ?_
    refine wexit ?_
    refine thenE ?_
    refine thenE ?_
    refine blkE ?_
    refine thenN ?_
    refine wseq ?_
    refine wreg ?_
    refine wl rfl (omove (v := .int .i64 (((hh : Nat) : Int))) rfl rfl (ev (v := .int .i64 (((hh : Nat) : Int))) rfl rfl) ?_)
    refine wl rfl (oassign (v := .int .i64 (((hh : Nat) : Int))) rfl rfl (ev (v := .int .i64 (((hh : Nat) : Int))) rfl rfl) ?_)
    refine wl rfl (oassign (v := .int .i64 0) rfl rfl (evc (v := .int .i64 0)) ?_)
    refine wnil ?_
    refine thenN ?_
    refine wleave ?_
    refine wret2 Try.results68 (tellT (v := .int .i64 (((hh : Nat) : Int))) rfl rfl) (tellT (v := .int .i64 0) rfl rfl) ?_
    obtain rfl : i = m := by omega
    subst hhe
    exact ⟨_, _, rfl, isI, hS.new0⟩

set_option maxRecDepth 100000 in
set_option maxHeartbeats 16000000 in
theorem wrheight {L : List (Int × Int)} {w : World} {pl : Option Addr} {m cl : Nat} (hl : Rs w pl m L 16777216) (hall : ∀ e ∈ L, e.2 ≠ 0) :
    Calls Try.prog 19 #[.slice pl m cl] w (Ret (Is (.tuple #[.int .i64 ((hgt (lows L) m : Nat) : Int), .int .i64 0])) w) := by
  have hS := Sep.init w
  refine went Try.func19 rfl (n := 8) rfl rfl ?_
  refine wseq ?_
  refine wreg ?_
  refine wl rfl (oassign (v := .int .i64 0) rfl rfl (evc (v := .int .i64 0)) ?_)
  refine wl rfl (oassign (v := .int .i64 0) rfl rfl (evc (v := .int .i64 0)) ?_)
  refine wnil ?_
  refine thenN ?_
  refine wseq ?_
  refine wreg ?_
  refine wl rfl (omove (v := .slice pl m cl) rfl rfl (ev (v := .slice pl m cl) rfl rfl) ?_)
  refine wl rfl (ocall rfl rfl Try.call67 rfl (wmI (z := ((hgt (lows L) m : Nat) : Int)) (E := 0) Try.call68 (hl.at hS) (by omega) hall (fun w1 p c h => wrheight1 (h.mono (by omega)))) (args2 rfl (ev rfl rfl)) ?_)
  rintro _ w1 ⟨_, _, rfl, ⟨rfl, rfl⟩, hN⟩
  refine ⟨_, rfl, ?_⟩
  replace hS := hS.news hN; clear hN
  refine wl rfl (oextract (vs := [.int .i64 (((hgt (lows L) m : Nat) : Int)), .int .i64 0]) (v := .int .i64 (((hgt (lows L) m : Nat) : Int))) rfl rfl (ev (v := .tuple #[.int .i64 (((hgt (lows L) m : Nat) : Int)), .int .i64 0]) rfl rfl) rfl ?_)
  refine wl rfl (oextract (vs := [.int .i64 (((hgt (lows L) m : Nat) : Int)), .int .i64 0]) (v := .int .i64 0) rfl rfl (ev (v := .tuple #[.int .i64 (((hgt (lows L) m : Nat) : Int)), .int .i64 0]) rfl rfl) rfl ?_)
  refine wl rfl (oassign (v := .int .i64 (((hgt (lows L) m : Nat) : Int))) rfl rfl (ev (v := .int .i64 (((hgt (lows L) m : Nat) : Int))) rfl rfl) ?_)
  refine wl rfl (oassign (v := .int .i64 0) rfl rfl (ev (v := .int .i64 0) rfl rfl) ?_)
  refine wnil ?_
  refine thenN ?_
  refine wleave ?_
  refine wret2 Try.results19 (tellT (v := .int .i64 (((hgt (lows L) m : Nat) : Int))) rfl rfl) (tellT (v := .int .i64 0) rfl rfl) ?_
  exact ⟨_, _, rfl, isI, hS.new0⟩

set_option maxRecDepth 100000 in
set_option maxHeartbeats 16000000 in
theorem wrheight0 {L : List (Int × Int)} {w : World} {pl : Option Addr} {m cl : Nat} (hl : Rs w pl m L 16777216) (hbad : ∃ e ∈ L, e.2 = 0) :
    Calls Try.prog 19 #[.slice pl m cl] w (Ret (Is (.tuple #[.int .i64 0, .int .i64 6])) w) := by
  have hS := Sep.init w
  refine went Try.func19 rfl (n := 8) rfl rfl ?_
  refine wseq ?_
  refine wreg ?_
  refine wl rfl (oassign (v := .int .i64 0) rfl rfl (evc (v := .int .i64 0)) ?_)
  refine wl rfl (oassign (v := .int .i64 0) rfl rfl (evc (v := .int .i64 0)) ?_)
  refine wnil ?_
  refine thenN ?_
  refine wseq ?_
  refine wreg ?_
  refine wl rfl (omove (v := .slice pl m cl) rfl rfl (ev (v := .slice pl m cl) rfl rfl) ?_)
  refine wl rfl (ocall rfl rfl Try.call67 rfl (wmadeI0 ((hl.at hS).mono (by omega)) hbad) (args2 rfl (ev rfl rfl)) ?_)
  rintro _ w1 ⟨_, _, rfl, ⟨rfl, rfl⟩, hN⟩
  refine ⟨_, rfl, ?_⟩
  replace hS := hS.news hN; clear hN
  refine wl rfl (oextract (vs := [.int .i64 0, .int .i64 6]) (v := .int .i64 0) rfl rfl (ev (v := .tuple #[.int .i64 0, .int .i64 6]) rfl rfl) rfl ?_)
  refine wl rfl (oextract (vs := [.int .i64 0, .int .i64 6]) (v := .int .i64 6) rfl rfl (ev (v := .tuple #[.int .i64 0, .int .i64 6]) rfl rfl) rfl ?_)
  refine wl rfl (oassign (v := .int .i64 0) rfl rfl (ev (v := .int .i64 0) rfl rfl) ?_)
  refine wl rfl (oassign (v := .int .i64 6) rfl rfl (ev (v := .int .i64 6) rfl rfl) ?_)
  refine wnil ?_
  refine thenN ?_
  refine wleave ?_
  refine wret2 Try.results19 (tellT (v := .int .i64 0) rfl rfl) (tellT (v := .int .i64 6) rfl rfl) ?_
  exact ⟨_, _, rfl, isI, hS.new0⟩

set_option maxRecDepth 100000 in
set_option maxHeartbeats 16000000 in
theorem wsheight {L : List (Int × Int)} {w : World} {pl : Option Addr} {m cl : Nat} (hl : Rs w pl m L 16777216) (hall : ∀ e ∈ L, e.2 ≠ 0) :
    Calls Try.prog 25 #[.slice pl m cl] w (Ret (Is (.int .i64 ((hgt (lows L) m : Nat) : Int))) w) := by
  have hS := Sep.init w
  refine went Try.func25 rfl (n := 35) rfl rfl ?_
  refine wseq ?_
  refine wreg ?_
  refine wl rfl (oassign (v := .int .i64 0) rfl rfl (evc (v := .int .i64 0)) ?_)
  refine wnil ?_
  refine thenN ?_
  refine wseq ?_
  refine wreg ?_
  refine wl rfl (oassign (v := .int .i64 0) rfl rfl (evc (v := .int .i64 0)) ?_)
  refine wnil ?_
  refine thenN ?_
  refine wseq ?_
  refine wseq ?_
  refine wreg ?_
  refine wl rfl (omove (v := .slice pl m cl) rfl rfl (ev (v := .slice pl m cl) rfl rfl) ?_)
  refine wl rfl (olen rfl rfl rfl Try.runUnderlying38 (p := pl) (k := m) (m := cl) (ev (v := .slice pl m cl) rfl rfl) ?_)
  refine wl rfl (omove (v := .int .i64 0) rfl rfl (evc (v := .int .i64 0)) ?_)
  refine wnil ?_
  refine thenN ?_
  refine wblock ?_
  refine wloop (σ := Nat) (fun i a w' => ∃ (fb : Nat → Value) (hh : Nat), a = act 35 (sets fb [(2, .int .i64 0), (3, .int .i64 (((hh : Nat) : Int))), (8, .slice pl m cl), (9, .int .i64 (((m : Nat) : Int))), (10, .int .i64 (((i : Nat) : Int)))]) ∧ Sep w [] w' ∧ (i ≤ m) ∧ (hh = hgt (lows L) i)) (fun i => m - i) (0) ⟨_, _, act_sets (l := [(2, .int .i64 0), (3, .int .i64 0), (8, .slice pl m cl), (9, .int .i64 (((m : Nat) : Int))), (10, .int .i64 0)]) ⟨rfl, rfl, rfl, rfl, rfl, trivial⟩, hS, Nat.zero_le _, rfl⟩ ?_
  clear hS; rintro i _ w1 ⟨fb, hh, rfl, hS, hi, hhe⟩
  refine wseq ?_
  refine wreg ?_
  by_cases hlt : i < m
  ·
    refine wl rfl (obin (u := .int .i64 (((i : Nat) : Int))) (v := .int .i64 (((m : Nat) : Int))) (z := .bool true) rfl rfl (ev (v := .int .i64 (((i : Nat) : Int))) rfl rfl) (ev (v := .int .i64 (((m : Nat) : Int))) rfl rfl) (bin_lss (decide_eq_true (by omega))) ?_)
    refine wnil ?_
    refine thenN ?_
    refine wseq ?_
    refine wT (ev (v := .bool true) rfl rfl) ?_
    refine wskip ?_
    refine thenN ?_
    refine wseq ?_
    refine wblock ?_
    refine wseq ?_
    refine wreg ?_
    obtain ⟨e1, g1x, o1, bx, qx, nx, kx, by1, qy, ny, ky, hle, hp1, hc1, hzx, hzy⟩ := hl.el hlt
    refine wl rfl (oindex (p := pl) (g := g1x) (off := o1) (m := m) (k := i) (j := (o1 + i * 4)) rfl rfl Try.runUnderlying38 Try.sizeOf27 (ev (v := .slice pl m cl) rfl rfl) (hp1) (ev (v := .int .i64 (((i : Nat) : Int))) rfl rfl) (hlt) rfl ?_)
    refine wl rfl (oloadA (vs := [.bool bx, .slice qx nx kx, .bool by1, .slice qy ny ky]) aggR rfl rfl (ev (v := .pointer (some ⟨g1x, (o1 + i * 4), none⟩)) rfl rfl) (fun j v hj => hS.cellAt (hc1 j v hj)) rfl ?_)
    refine wl rfl (oalloc [.bool false, .slice none 0 0, .bool false, .slice none 0 0] hS rfl rfl Try.zeroValue27 rfl ?_)
    clear hS; intro g2 w3 hS
    refine wl rfl (ostore [.bool bx, .slice qx nx kx, .bool by1, .slice qy ny ky] [.bool bx, .slice qx nx kx, .bool by1, .slice qy ny ky] Try.sizeOf27 hS 0 rfl rfl (ev rfl rfl) (ev (v := .agg #[.bool bx, .slice qx nx kx, .bool by1, .slice qy ny ky]) rfl rfl) rfl rfl rfl rfl rfl rfl ?_)
    clear hS; intro w4 hS
    refine wnil ?_
    refine thenN ?_
    refine wseq ?_
    refine wreg ?_
    refine wl rfl (oload (vs := [.bool bx, .slice qx nx kx, .bool by1, .slice qy ny ky]) aggR hS 0 rfl rfl (ev rfl rfl) rfl rfl rfl ?_)
    have h0 := hall e1 (List.mem_of_getElem? hle)
    obtain ⟨z1, hz1⟩ : ∃ z : Int, Hid (RN e1.1 e1.2 = z) := ⟨_, rfl⟩
    have hk1 : Wd z1 16777216 := Wd.rn hzx.wd hz1
    obtain ⟨z2, hz2⟩ : ∃ z : Int, Hid (RD e1.1 e1.2 = z) := ⟨_, rfl⟩
    have hk2 : Wd z2 16777216 := Wd.rd hzy.wd hz2
    refine wl rfl (ocall rfl rfl Try.call37 rfl ((wsnorm ((hzx.at hS).mono (by omega)) ((hzy.at hS).mono (by omega)) (h0) hz1 hz2)) (args1 (ev rfl rfl)) ?_)
    rintro _ w5 ⟨_, _, rfl, ⟨p1, n1, c1, p2, n2, c2, rfl, rfl⟩, hN⟩
    refine ⟨_, rfl, ?_⟩
    replace hS := hS.news hN; clear hN
    refine wl rfl (ostore [.bool (ng z1), .slice p1 n1 c1, .bool (ng z2), .slice p2 n2 c2] [.bool (ng z1), .slice p1 n1 c1, .bool (ng z2), .slice p2 n2 c2] Try.sizeOf27 hS 2 rfl rfl (ev rfl rfl) (ev (v := .agg #[.bool (ng z1), .slice p1 n1 c1, .bool (ng z2), .slice p2 n2 c2]) rfl rfl) rfl rfl rfl rfl rfl rfl ?_)
    clear hS; intro w6 hS
    refine wnil ?_
    refine thenN ?_
    refine wseq ?_
    refine wstage 10 [16, 17, 18, 19, 20, 21, 22, 23, 24, 25] [[], [0], [1, 0], [2, 0, 1], [], [4], [5, 4], [6, 0, 1, 2, 3, 4, 5], [3, 7, 0, 1, 2, 4, 5, 6], []] [[], [], [], [], [], [], [], [], [], []] [] [] (fun i9 => ([fun _ => Is (.pointer (some ⟨g2, 0, none⟩)), fun _ => Is (.pointer (some ⟨g2, 1, none⟩)), fun _ => Is (.slice p1 n1 c1), fun _ => Is (.int .i64 (((blen z1.natAbs : Nat) : Int))), fun _ => Is (.pointer (some ⟨g2, 2, none⟩)), fun _ => Is (.pointer (some ⟨g2, 3, none⟩)), fun _ => Is (.slice p2 n2 c2), fun _ => Is (.int .i64 (((blen z2.natAbs : Nat) : Int))), fun _ => Is (.agg #[.int .i64 (((blen z1.natAbs : Nat) : Int)), .int .i64 (((blen z2.natAbs : Nat) : Int))]), fun _ => Is (.int .i64 0)] : List (List Value → Tell)).getD i9 (fun _ _ _ => False)) (heldNil) (fun d _ _ _ _ h => (by cases d <;> exact h)) (by kernel_rfl) (by kernel_rfl) (by kernel_rfl) hS ?_ ?_
    ·
      refine stepsCons rfl ?_ ?_
      · intro Q f' w' ρ S ho hT hS hB
        exact .inl ⟨want_none rfl, ofieldAddr (g := g2) (off := 0) 0 rfl rfl (ev (v := .pointer (some ⟨g2, 0, none⟩)) rfl (ho 5 rfl)) Try.runUnderlying27 rfl Try.sizeOf25 rfl ⟨_, _, rfl, isI, New.same _⟩⟩
      refine stepsCons rfl ?_ ?_
      · intro Q f' w' ρ S ho hT hS hB
        obtain ⟨hv0, hr0⟩ := (hT 0 16 rfl rfl : (Is (.pointer (some ⟨g2, 0, none⟩))) (f' 16) (ρ 0))
        obtain hS := hS.flat1 hr0
        exact .inl ⟨want_none rfl, ofieldAddr (g := g2) (off := 0) 1 rfl rfl (ev (v := .pointer (some ⟨g2, 0, none⟩)) rfl hv0) Try.runUnderlying25 rfl Try.sizeOf23 rfl ⟨_, _, rfl, isI, New.same _⟩⟩
      refine stepsCons rfl ?_ ?_
      · intro Q f' w' ρ S ho hT hS hB
        obtain ⟨hv1, hr1⟩ := (hT 1 17 rfl rfl : (Is (.pointer (some ⟨g2, 1, none⟩))) (f' 17) (ρ 1))
        obtain hS := hS.flat1 hr1
        exact .inl ⟨want_none rfl, oload1 (v := .slice p1 n1 c1) oneN hS 2 rfl rfl (ev rfl hv1) rfl rfl ⟨_, _, rfl, isI, New.same _⟩⟩
      refine stepsCons rfl ?_ ?_
      · intro Q f' w' ρ S ho hT hS hB
        obtain ⟨hv2, hr2⟩ := (hT 2 18 rfl rfl : (Is (.slice p1 n1 c1)) (f' 18) (ρ 2))
        obtain hS := hS.flat1 hr2
        refine .inl ⟨want_none rfl, ocall rfl rfl Try.call39 rfl (wrlen (z := z1) (hS.slm 0 rfl) (hk1.mono (by omega))) (args1 (ev rfl hv2)) ?_⟩
        rintro _ w9 ⟨_, _, rfl, hTT, hN⟩
        exact ⟨_, rfl, _, _, rfl, hTT, hN⟩
      refine stepsCons rfl ?_ ?_
      · intro Q f' w' ρ S ho hT hS hB
        exact .inl ⟨want_none rfl, ofieldAddr (g := g2) (off := 0) 2 rfl rfl (ev (v := .pointer (some ⟨g2, 0, none⟩)) rfl (ho 5 rfl)) Try.runUnderlying27 rfl Try.sizeOf25 rfl ⟨_, _, rfl, isI, New.same _⟩⟩
      refine stepsCons rfl ?_ ?_
      · intro Q f' w' ρ S ho hT hS hB
        obtain ⟨hv4, hr4⟩ := (hT 4 20 rfl rfl : (Is (.pointer (some ⟨g2, 2, none⟩))) (f' 20) (ρ 4))
        obtain hS := hS.flat1 hr4
        exact .inl ⟨want_none rfl, ofieldAddr (g := g2) (off := 2) 3 rfl rfl (ev (v := .pointer (some ⟨g2, 2, none⟩)) rfl hv4) Try.runUnderlying25 rfl Try.sizeOf23 rfl ⟨_, _, rfl, isI, New.same _⟩⟩
      refine stepsCons rfl ?_ ?_
      · intro Q f' w' ρ S ho hT hS hB
        obtain ⟨hv5, hr5⟩ := (hT 5 21 rfl rfl : (Is (.pointer (some ⟨g2, 3, none⟩))) (f' 21) (ρ 5))
        obtain hS := hS.flat1 hr5
        exact .inl ⟨want_none rfl, oload1 (v := .slice p2 n2 c2) oneN hS 2 rfl rfl (ev rfl hv5) rfl rfl ⟨_, _, rfl, isI, New.same _⟩⟩
      refine stepsCons rfl ?_ ?_
      · intro Q f' w' ρ S ho hT hS hB
        obtain ⟨hv6, hr6⟩ := (hT 6 22 rfl rfl : (Is (.slice p2 n2 c2)) (f' 22) (ρ 6))
        obtain hS := hS.flat1 hr6
        refine .inl ⟨want_none rfl, ocall rfl rfl Try.call39 rfl (wrlen (z := z2) (hS.slm 1 rfl) (hk2.mono (by omega))) (args1 (ev rfl hv6)) ?_⟩
        rintro _ w9 ⟨_, _, rfl, hTT, hN⟩
        exact ⟨_, rfl, _, _, rfl, hTT, hN⟩
      refine stepsCons rfl ?_ ?_
      · intro Q f' w' ρ S ho hT hS hB
        obtain ⟨hv3, hr3⟩ := (hT 3 19 rfl rfl : (Is (.int .i64 (((blen z1.natAbs : Nat) : Int)))) (f' 19) (ρ 3))
        obtain ⟨hv7, hr7⟩ := (hT 7 23 rfl rfl : (Is (.int .i64 (((blen z2.natAbs : Nat) : Int)))) (f' 23) (ρ 7))
        obtain hS := hS.flat2 hr3 hr7
        exact .inl ⟨want_none rfl, obuild (ps := #[(0, .int .i64 (((blen z1.natAbs : Nat) : Int))), (1, .int .i64 (((blen z2.natAbs : Nat) : Int)))]) (v := .agg #[.int .i64 (((blen z1.natAbs : Nat) : Int)), .int .i64 (((blen z2.natAbs : Nat) : Int))]) rfl rfl (parts2 (ev (v := .int .i64 (((blen z1.natAbs : Nat) : Int))) rfl hv3) (ev (v := .int .i64 (((blen z2.natAbs : Nat) : Int))) rfl hv7)) (fun w => by simp [go_sem, Instr.build, Instr.fill]) ⟨_, _, rfl, isI, New.same _⟩⟩
      refine stepsCons rfl ?_ ?_
      · intro Q f' w' ρ S ho hT hS hB
        exact .inl ⟨want_none rfl, omove (v := .int .i64 0) rfl rfl (evc (v := .int .i64 0)) ⟨_, _, rfl, isI, New.same _⟩⟩
      exact stepsNil
    ·
      intro vs ρ w7 f' hf hT hS
      obtain ⟨hv0, hr0⟩ := (hT 0 (by decide) : (Is (.pointer (some ⟨g2, 0, none⟩))) (vs 0) (ρ 0))
      obtain ⟨hv1, hr1⟩ := (hT 1 (by decide) : (Is (.pointer (some ⟨g2, 1, none⟩))) (vs 1) (ρ 1))
      obtain ⟨hv2, hr2⟩ := (hT 2 (by decide) : (Is (.slice p1 n1 c1)) (vs 2) (ρ 2))
      obtain ⟨hv3, hr3⟩ := (hT 3 (by decide) : (Is (.int .i64 (((blen z1.natAbs : Nat) : Int)))) (vs 3) (ρ 3))
      obtain ⟨hv4, hr4⟩ := (hT 4 (by decide) : (Is (.pointer (some ⟨g2, 2, none⟩))) (vs 4) (ρ 4))
      obtain ⟨hv5, hr5⟩ := (hT 5 (by decide) : (Is (.pointer (some ⟨g2, 3, none⟩))) (vs 5) (ρ 5))
      obtain ⟨hv6, hr6⟩ := (hT 6 (by decide) : (Is (.slice p2 n2 c2)) (vs 6) (ρ 6))
      obtain ⟨hv7, hr7⟩ := (hT 7 (by decide) : (Is (.int .i64 (((blen z2.natAbs : Nat) : Int)))) (vs 7) (ρ 7))
      obtain ⟨hv8, hr8⟩ := (hT 8 (by decide) : (Is (.agg #[.int .i64 (((blen z1.natAbs : Nat) : Int)), .int .i64 (((blen z2.natAbs : Nat) : Int))])) (vs 8) (ρ 8))
      obtain ⟨hv9, hr9⟩ := (hT 9 (by decide) : (Is (.int .i64 0)) (vs 9) (ρ 9))
      simp only [pool, if_true, hr0, hr1, hr2, hr3, hr4, hr5, hr6, hr7, hr8, hr9, List.nil_append, List.cons_append, List.append_nil] at hS
      simp only [layf, hv0, hv1, hv2, hv3, hv4, hv5, hv6, hv7, hv8, hv9] at hf
      subst hf; clear hT hv0 hv1 hv2 hv3 hv4 hv5 hv6 hv7 hv8 hv9 hr0 hr1 hr2 hr3 hr4 hr5 hr6 hr7 hr8 hr9
      refine wdone rfl ?_
      refine thenN ?_
      refine wblock ?_
      refine wloop (σ := Nat) (fun jj a w' => ∃ (fb : Nat → Value) (hj : Nat), a = act 35 (sets fb [(2, .int .i64 0), (3, .int .i64 (((hj : Nat) : Int))), (5, .pointer (some ⟨g2, 0, none⟩)), (8, .slice pl m cl), (9, .int .i64 (((m : Nat) : Int))), (10, .int .i64 (((i : Nat) : Int))), (11, .bool true), (12, .pointer (some ⟨g1x, (o1 + i * 4), none⟩)), (13, .agg #[.bool bx, .slice qx nx kx, .bool by1, .slice qy ny ky]), (14, .agg #[.bool bx, .slice qx nx kx, .bool by1, .slice qy ny ky]), (15, .agg #[.bool (ng z1), .slice p1 n1 c1, .bool (ng z2), .slice p2 n2 c2]), (16, .pointer (some ⟨g2, 0, none⟩)), (17, .pointer (some ⟨g2, 1, none⟩)), (18, .slice p1 n1 c1), (19, .int .i64 (((blen z1.natAbs : Nat) : Int))), (20, .pointer (some ⟨g2, 2, none⟩)), (21, .pointer (some ⟨g2, 3, none⟩)), (22, .slice p2 n2 c2), (23, .int .i64 (((blen z2.natAbs : Nat) : Int))), (24, .agg #[.int .i64 (((blen z1.natAbs : Nat) : Int)), .int .i64 (((blen z2.natAbs : Nat) : Int))]), (25, .int .i64 (((jj : Nat) : Int)))]) ∧ Sep w [.rowm p1 n1 c1 (lim z1.natAbs), .rowm p2 n2 c2 (lim z2.natAbs), .blk g2 [.bool (ng z1), .slice p1 n1 c1, .bool (ng z2), .slice p2 n2 c2] 27] w' ∧ (jj ≤ 2) ∧ (hj = hst hh (blen z1.natAbs) (blen z2.natAbs) jj)) (fun jj => 2 - jj) (0) ⟨_, _, act_sets (l := [(2, .int .i64 0), (3, .int .i64 (((hh : Nat) : Int))), (5, .pointer (some ⟨g2, 0, none⟩)), (8, .slice pl m cl), (9, .int .i64 (((m : Nat) : Int))), (10, .int .i64 (((i : Nat) : Int))), (11, .bool true), (12, .pointer (some ⟨g1x, (o1 + i * 4), none⟩)), (13, .agg #[.bool bx, .slice qx nx kx, .bool by1, .slice qy ny ky]), (14, .agg #[.bool bx, .slice qx nx kx, .bool by1, .slice qy ny ky]), (15, .agg #[.bool (ng z1), .slice p1 n1 c1, .bool (ng z2), .slice p2 n2 c2]), (16, .pointer (some ⟨g2, 0, none⟩)), (17, .pointer (some ⟨g2, 1, none⟩)), (18, .slice p1 n1 c1), (19, .int .i64 (((blen z1.natAbs : Nat) : Int))), (20, .pointer (some ⟨g2, 2, none⟩)), (21, .pointer (some ⟨g2, 3, none⟩)), (22, .slice p2 n2 c2), (23, .int .i64 (((blen z2.natAbs : Nat) : Int))), (24, .agg #[.int .i64 (((blen z1.natAbs : Nat) : Int)), .int .i64 (((blen z2.natAbs : Nat) : Int))]), (25, .int .i64 0)]) ⟨rfl, rfl, rfl, rfl, rfl, rfl, rfl, rfl, rfl, rfl, rfl, rfl, rfl, rfl, rfl, rfl, rfl, rfl, rfl, rfl, rfl, trivial⟩, hS, by omega, rfl⟩ ?_
      clear hS; rintro jj _ w8 ⟨fb, hj, rfl, hS, hjj, hje⟩
      refine wseq ?_
      refine wreg ?_
      by_cases hlj : jj < 2
      ·
        refine wl rfl (obin (u := .int .i64 (((jj : Nat) : Int))) (v := .int .i64 2) (z := .bool true) rfl rfl (ev (v := .int .i64 (((jj : Nat) : Int))) rfl rfl) (evc (v := .int .i64 2)) (bin_lss (decide_eq_true (by omega))) ?_)
        refine wnil ?_
        refine thenN ?_
        refine wseq ?_
        refine wT (ev (v := .bool true) rfl rfl) ?_
        refine wskip ?_
        refine thenN ?_
        refine wseq ?_
        refine wblock ?_
        refine wseq ?_
        refine wreg ?_
        by_cases hj0 : jj = 0
        ·
          refine wl rfl (oidx (cs := [.int .i64 (((blen z1.natAbs : Nat) : Int)), .int .i64 (((blen z2.natAbs : Nat) : Int))]) (k := jj) (v := .int .i64 (((blen z1.natAbs : Nat) : Int))) rfl rfl Try.runUnderlying93 Try.sizeOf3 Try.isAgg3 (ev (v := .agg #[.int .i64 (((blen z1.natAbs : Nat) : Int)), .int .i64 (((blen z2.natAbs : Nat) : Int))]) rfl rfl) (ev (v := .int .i64 (((jj : Nat) : Int))) rfl rfl) ((by obtain rfl : jj = 0 := (by omega); rfl)) (by omega) ?_)
          refine wl rfl (oassign (v := .int .i64 (((blen z1.natAbs : Nat) : Int))) rfl rfl (ev (v := .int .i64 (((blen z1.natAbs : Nat) : Int))) rfl rfl) ?_)
          refine wnil ?_
          refine thenN ?_
          refine wseq ?_
          refine wreg ?_
          refine wl rfl (omove (v := .int .i64 (((blen z1.natAbs : Nat) : Int))) rfl rfl (ev (v := .int .i64 (((blen z1.natAbs : Nat) : Int))) rfl rfl) ?_)
          refine wl rfl (omove (v := .int .i64 (((hj : Nat) : Int))) rfl rfl (ev (v := .int .i64 (((hj : Nat) : Int))) rfl rfl) ?_)
          by_cases hgt1 : hj < blen z1.natAbs
          ·
            refine wl rfl (obin (u := .int .i64 (((blen z1.natAbs : Nat) : Int))) (v := .int .i64 (((hj : Nat) : Int))) (z := .bool true) rfl rfl (ev (v := .int .i64 (((blen z1.natAbs : Nat) : Int))) rfl rfl) (ev (v := .int .i64 (((hj : Nat) : Int))) rfl rfl) (bin_gtr (decide_eq_true (by omega))) ?_)
            refine wnil ?_
            refine thenN ?_
            refine wT (ev (v := .bool true) rfl rfl) ?_
            refine wreg ?_
            refine wl rfl (omove (v := .int .i64 (((blen z1.natAbs : Nat) : Int))) rfl rfl (ev (v := .int .i64 (((blen z1.natAbs : Nat) : Int))) rfl rfl) ?_)
            refine wl rfl (oassign (v := .int .i64 (((blen z1.natAbs : Nat) : Int))) rfl rfl (ev (v := .int .i64 (((blen z1.natAbs : Nat) : Int))) rfl rfl) ?_)
            refine wnil ?_
            refine blkN ?_
            refine thenN ?_
            refine wreg ?_
            refine wl rfl (obin (u := .int .i64 (((jj : Nat) : Int))) (v := .int .i64 1) (z := .int .i64 (((jj + 1 : Nat) : Int))) rfl rfl (ev (v := .int .i64 (((jj : Nat) : Int))) rfl rfl) (evc (v := .int .i64 1)) (bin_add (wrap_succ (by omega))) ?_)
            refine wl rfl (omove (v := .int .i64 (((jj + 1 : Nat) : Int))) rfl rfl (ev (v := .int .i64 (((jj + 1 : Nat) : Int))) rfl rfl) ?_)
            refine wnil ?_
            refine thenN ?_
            exact ⟨(jj + 1), ⟨_, _, act_sets (l := [(2, .int .i64 0), (3, .int .i64 (((blen z1.natAbs : Nat) : Int))), (5, .pointer (some ⟨g2, 0, none⟩)), (8, .slice pl m cl), (9, .int .i64 (((m : Nat) : Int))), (10, .int .i64 (((i : Nat) : Int))), (11, .bool true), (12, .pointer (some ⟨g1x, (o1 + i * 4), none⟩)), (13, .agg #[.bool bx, .slice qx nx kx, .bool by1, .slice qy ny ky]), (14, .agg #[.bool bx, .slice qx nx kx, .bool by1, .slice qy ny ky]), (15, .agg #[.bool (ng z1), .slice p1 n1 c1, .bool (ng z2), .slice p2 n2 c2]), (16, .pointer (some ⟨g2, 0, none⟩)), (17, .pointer (some ⟨g2, 1, none⟩)), (18, .slice p1 n1 c1), (19, .int .i64 (((blen z1.natAbs : Nat) : Int))), (20, .pointer (some ⟨g2, 2, none⟩)), (21, .pointer (some ⟨g2, 3, none⟩)), (22, .slice p2 n2 c2), (23, .int .i64 (((blen z2.natAbs : Nat) : Int))), (24, .agg #[.int .i64 (((blen z1.natAbs : Nat) : Int)), .int .i64 (((blen z2.natAbs : Nat) : Int))]), (25, .int .i64 (((jj + 1 : Nat) : Int)))]) ⟨rfl, rfl, rfl, rfl, rfl, rfl, rfl, rfl, rfl, rfl, rfl, rfl, rfl, rfl, rfl, rfl, rfl, rfl, rfl, rfl, rfl, trivial⟩, hS.pick [0, 1, 2] (by decide) rfl, by omega, (by obtain rfl : jj = 0 := (by omega); simp only [hst] at *; omega)⟩, by omega⟩
          ·
            refine wl rfl (obin (u := .int .i64 (((blen z1.natAbs : Nat) : Int))) (v := .int .i64 (((hj : Nat) : Int))) (z := .bool false) rfl rfl (ev (v := .int .i64 (((blen z1.natAbs : Nat) : Int))) rfl rfl) (ev (v := .int .i64 (((hj : Nat) : Int))) rfl rfl) (bin_gtr (decide_eq_false (by omega))) ?_)
            refine wnil ?_
            refine thenN ?_
            refine wF (ev (v := .bool false) rfl rfl) ?_
            refine wskip ?_
            refine blkN ?_
            refine thenN ?_
            refine wreg ?_
            refine wl rfl (obin (u := .int .i64 (((jj : Nat) : Int))) (v := .int .i64 1) (z := .int .i64 (((jj + 1 : Nat) : Int))) rfl rfl (ev (v := .int .i64 (((jj : Nat) : Int))) rfl rfl) (evc (v := .int .i64 1)) (bin_add (wrap_succ (by omega))) ?_)
            refine wl rfl (omove (v := .int .i64 (((jj + 1 : Nat) : Int))) rfl rfl (ev (v := .int .i64 (((jj + 1 : Nat) : Int))) rfl rfl) ?_)
            refine wnil ?_
            refine thenN ?_
            exact ⟨(jj + 1), ⟨_, _, act_sets (l := [(2, .int .i64 0), (3, .int .i64 (((hj : Nat) : Int))), (5, .pointer (some ⟨g2, 0, none⟩)), (8, .slice pl m cl), (9, .int .i64 (((m : Nat) : Int))), (10, .int .i64 (((i : Nat) : Int))), (11, .bool true), (12, .pointer (some ⟨g1x, (o1 + i * 4), none⟩)), (13, .agg #[.bool bx, .slice qx nx kx, .bool by1, .slice qy ny ky]), (14, .agg #[.bool bx, .slice qx nx kx, .bool by1, .slice qy ny ky]), (15, .agg #[.bool (ng z1), .slice p1 n1 c1, .bool (ng z2), .slice p2 n2 c2]), (16, .pointer (some ⟨g2, 0, none⟩)), (17, .pointer (some ⟨g2, 1, none⟩)), (18, .slice p1 n1 c1), (19, .int .i64 (((blen z1.natAbs : Nat) : Int))), (20, .pointer (some ⟨g2, 2, none⟩)), (21, .pointer (some ⟨g2, 3, none⟩)), (22, .slice p2 n2 c2), (23, .int .i64 (((blen z2.natAbs : Nat) : Int))), (24, .agg #[.int .i64 (((blen z1.natAbs : Nat) : Int)), .int .i64 (((blen z2.natAbs : Nat) : Int))]), (25, .int .i64 (((jj + 1 : Nat) : Int)))]) ⟨rfl, rfl, rfl, rfl, rfl, rfl, rfl, rfl, rfl, rfl, rfl, rfl, rfl, rfl, rfl, rfl, rfl, rfl, rfl, rfl, rfl, trivial⟩, hS.pick [0, 1, 2] (by decide) rfl, by omega, (by obtain rfl : jj = 0 := (by omega); simp only [hst] at *; omega)⟩, by omega⟩
        ·
          refine wl rfl (oidx (cs := [.int .i64 (((blen z1.natAbs : Nat) : Int)), .int .i64 (((blen z2.natAbs : Nat) : Int))]) (k := jj) (v := .int .i64 (((blen z2.natAbs : Nat) : Int))) rfl rfl Try.runUnderlying93 Try.sizeOf3 Try.isAgg3 (ev (v := .agg #[.int .i64 (((blen z1.natAbs : Nat) : Int)), .int .i64 (((blen z2.natAbs : Nat) : Int))]) rfl rfl) (ev (v := .int .i64 (((jj : Nat) : Int))) rfl rfl) ((by obtain rfl : jj = 1 := (by omega); rfl)) (by omega) ?_)
          refine wl rfl (oassign (v := .int .i64 (((blen z2.natAbs : Nat) : Int))) rfl rfl (ev (v := .int .i64 (((blen z2.natAbs : Nat) : Int))) rfl rfl) ?_)
          refine wnil ?_
          refine thenN ?_
          refine wseq ?_
          refine wreg ?_
          refine wl rfl (omove (v := .int .i64 (((blen z2.natAbs : Nat) : Int))) rfl rfl (ev (v := .int .i64 (((blen z2.natAbs : Nat) : Int))) rfl rfl) ?_)
          refine wl rfl (omove (v := .int .i64 (((hj : Nat) : Int))) rfl rfl (ev (v := .int .i64 (((hj : Nat) : Int))) rfl rfl) ?_)
          by_cases hgt1 : hj < blen z2.natAbs
          ·
            refine wl rfl (obin (u := .int .i64 (((blen z2.natAbs : Nat) : Int))) (v := .int .i64 (((hj : Nat) : Int))) (z := .bool true) rfl rfl (ev (v := .int .i64 (((blen z2.natAbs : Nat) : Int))) rfl rfl) (ev (v := .int .i64 (((hj : Nat) : Int))) rfl rfl) (bin_gtr (decide_eq_true (by omega))) ?_)
            refine wnil ?_
            refine thenN ?_
            refine wT (ev (v := .bool true) rfl rfl) ?_
            refine wreg ?_
            refine wl rfl (omove (v := .int .i64 (((blen z2.natAbs : Nat) : Int))) rfl rfl (ev (v := .int .i64 (((blen z2.natAbs : Nat) : Int))) rfl rfl) ?_)
            refine wl rfl (oassign (v := .int .i64 (((blen z2.natAbs : Nat) : Int))) rfl rfl (ev (v := .int .i64 (((blen z2.natAbs : Nat) : Int))) rfl rfl) ?_)
            refine wnil ?_
            refine blkN ?_
            refine thenN ?_
            refine wreg ?_
            refine wl rfl (obin (u := .int .i64 (((jj : Nat) : Int))) (v := .int .i64 1) (z := .int .i64 (((jj + 1 : Nat) : Int))) rfl rfl (ev (v := .int .i64 (((jj : Nat) : Int))) rfl rfl) (evc (v := .int .i64 1)) (bin_add (wrap_succ (by omega))) ?_)
            refine wl rfl (omove (v := .int .i64 (((jj + 1 : Nat) : Int))) rfl rfl (ev (v := .int .i64 (((jj + 1 : Nat) : Int))) rfl rfl) ?_)
            refine wnil ?_
            refine thenN ?_
            exact ⟨(jj + 1), ⟨_, _, act_sets (l := [(2, .int .i64 0), (3, .int .i64 (((blen z2.natAbs : Nat) : Int))), (5, .pointer (some ⟨g2, 0, none⟩)), (8, .slice pl m cl), (9, .int .i64 (((m : Nat) : Int))), (10, .int .i64 (((i : Nat) : Int))), (11, .bool true), (12, .pointer (some ⟨g1x, (o1 + i * 4), none⟩)), (13, .agg #[.bool bx, .slice qx nx kx, .bool by1, .slice qy ny ky]), (14, .agg #[.bool bx, .slice qx nx kx, .bool by1, .slice qy ny ky]), (15, .agg #[.bool (ng z1), .slice p1 n1 c1, .bool (ng z2), .slice p2 n2 c2]), (16, .pointer (some ⟨g2, 0, none⟩)), (17, .pointer (some ⟨g2, 1, none⟩)), (18, .slice p1 n1 c1), (19, .int .i64 (((blen z1.natAbs : Nat) : Int))), (20, .pointer (some ⟨g2, 2, none⟩)), (21, .pointer (some ⟨g2, 3, none⟩)), (22, .slice p2 n2 c2), (23, .int .i64 (((blen z2.natAbs : Nat) : Int))), (24, .agg #[.int .i64 (((blen z1.natAbs : Nat) : Int)), .int .i64 (((blen z2.natAbs : Nat) : Int))]), (25, .int .i64 (((jj + 1 : Nat) : Int)))]) ⟨rfl, rfl, rfl, rfl, rfl, rfl, rfl, rfl, rfl, rfl, rfl, rfl, rfl, rfl, rfl, rfl, rfl, rfl, rfl, rfl, rfl, trivial⟩, hS.pick [0, 1, 2] (by decide) rfl, by omega, (by obtain rfl : jj = 1 := (by omega); simp only [hst] at *; omega)⟩, by omega⟩
          ·
            refine wl rfl (obin (u := .int .i64 (((blen z2.natAbs : Nat) : Int))) (v := .int .i64 (((hj : Nat) : Int))) (z := .bool false) rfl rfl (ev (v := .int .i64 (((blen z2.natAbs : Nat) : Int))) rfl rfl) (ev (v := .int .i64 (((hj : Nat) : Int))) rfl rfl) (bin_gtr (decide_eq_false (by omega))) ?_)
            refine wnil ?_
            refine thenN ?_
            refine wF (ev (v := .bool false) rfl rfl) ?_
            refine wskip ?_
            refine blkN ?_
            refine thenN ?_
            refine wreg ?_
            refine wl rfl (obin (u := .int .i64 (((jj : Nat) : Int))) (v := .int .i64 1) (z := .int .i64 (((jj + 1 : Nat) : Int))) rfl rfl (ev (v := .int .i64 (((jj : Nat) : Int))) rfl rfl) (evc (v := .int .i64 1)) (bin_add (wrap_succ (by omega))) ?_)
            refine wl rfl (omove (v := .int .i64 (((jj + 1 : Nat) : Int))) rfl rfl (ev (v := .int .i64 (((jj + 1 : Nat) : Int))) rfl rfl) ?_)
            refine wnil ?_
            refine thenN ?_
            exact ⟨(jj + 1), ⟨_, _, act_sets (l := [(2, .int .i64 0), (3, .int .i64 (((hj : Nat) : Int))), (5, .pointer (some ⟨g2, 0, none⟩)), (8, .slice pl m cl), (9, .int .i64 (((m : Nat) : Int))), (10, .int .i64 (((i : Nat) : Int))), (11, .bool true), (12, .pointer (some ⟨g1x, (o1 + i * 4), none⟩)), (13, .agg #[.bool bx, .slice qx nx kx, .bool by1, .slice qy ny ky]), (14, .agg #[.bool bx, .slice qx nx kx, .bool by1, .slice qy ny ky]), (15, .agg #[.bool (ng z1), .slice p1 n1 c1, .bool (ng z2), .slice p2 n2 c2]), (16, .pointer (some ⟨g2, 0, none⟩)), (17, .pointer (some ⟨g2, 1, none⟩)), (18, .slice p1 n1 c1), (19, .int .i64 (((blen z1.natAbs : Nat) : Int))), (20, .pointer (some ⟨g2, 2, none⟩)), (21, .pointer (some ⟨g2, 3, none⟩)), (22, .slice p2 n2 c2), (23, .int .i64 (((blen z2.natAbs : Nat) : Int))), (24, .agg #[.int .i64 (((blen z1.natAbs : Nat) : Int)), .int .i64 (((blen z2.natAbs : Nat) : Int))]), (25, .int .i64 (((jj + 1 : Nat) : Int)))]) ⟨rfl, rfl, rfl, rfl, rfl, rfl, rfl, rfl, rfl, rfl, rfl, rfl, rfl, rfl, rfl, rfl, rfl, rfl, rfl, rfl, rfl, trivial⟩, hS.pick [0, 1, 2] (by decide) rfl, by omega, (by obtain rfl : jj = 1 := (by omega); simp only [hst] at *; omega)⟩, by omega⟩
      ·
        refine wl rfl (obin (u := .int .i64 (((jj : Nat) : Int))) (v := .int .i64 2) (z := .bool false) rfl rfl (ev (v := .int .i64 (((jj : Nat) : Int))) rfl rfl) (evc (v := .int .i64 2)) (bin_lss (decide_eq_false (by omega))) ?_)
        refine wnil ?_
        refine thenN ?_
        refine wseq ?_
        refine wF (ev (v := .bool false) rfl rfl) ?_
        refine wexit ?_
        refine thenE ?_
        refine thenE ?_
        refine blkE ?_
        refine blkN ?_
        refine thenN ?_
        refine wreg ?_
        refine wl rfl (obin (u := .int .i64 (((i : Nat) : Int))) (v := .int .i64 1) (z := .int .i64 (((i + 1 : Nat) : Int))) rfl rfl (ev (v := .int .i64 (((i : Nat) : Int))) rfl rfl) (evc (v := .int .i64 1)) (bin_add (wrap_succ (by have := hl.2.1; omega))) ?_)
        refine wl rfl (omove (v := .int .i64 (((i + 1 : Nat) : Int))) rfl rfl (ev (v := .int .i64 (((i + 1 : Nat) : Int))) rfl rfl) ?_)
        refine wnil ?_
        refine thenN ?_
        exact ⟨(i + 1), ⟨_, _, act_sets (l := [(2, .int .i64 0), (3, .int .i64 (((hj : Nat) : Int))), (8, .slice pl m cl), (9, .int .i64 (((m : Nat) : Int))), (10, .int .i64 (((i + 1 : Nat) : Int)))]) ⟨rfl, rfl, rfl, rfl, rfl, trivial⟩, hS.pick [] (by decide) rfl, by omega, (by obtain rfl : jj = 2 := (by omega); rw [hgt_succ (e := (RN e1.1 e1.2, RD e1.1 e1.2)) (by unfold lows; rw [List.getElem?_map, hle]; rfl), hje, ← hz1.out, ← hz2.out, ← hhe]; rfl)⟩, by omega⟩
  ·
    refine wl rfl (obin (u := .int .i64 (((i : Nat) : Int))) (v := .int .i64 (((m : Nat) : Int))) (z := .bool false) rfl rfl (ev (v := .int .i64 (((i : Nat) : Int))) rfl rfl) (ev (v := .int .i64 (((m : Nat) : Int))) rfl rfl) (bin_lss (decide_eq_false (by omega))) ?_)
    refine wnil ?_
    refine thenN ?_
    refine wseq ?_
    refine wF (ev (v := .bool false) rfl rfl) ?_
    refine wexit ?_
    refine thenE ?_
    refine thenE ?_
    refine blkE ?_
    refine thenN ?_
    refine wseq ?_
    refine wreg ?_
    refine wl rfl (omove (v := .int .i64 (((hh : Nat) : Int))) rfl rfl (ev (v := .int .i64 (((hh : Nat) : Int))) rfl rfl) ?_)
    refine wl rfl (oassign (v := .int .i64 (((hh : Nat) : Int))) rfl rfl (ev (v := .int .i64 (((hh : Nat) : Int))) rfl rfl) ?_)
    refine wnil ?_
    refine thenN ?_
    refine wleave ?_
    refine wret1 Try.results25 (tellT (v := .int .i64 (((hh : Nat) : Int))) rfl rfl) ?_
    obtain rfl : i = m := by omega
    subst hhe
    exact ⟨_, _, rfl, isI, hS.new0⟩

end Go.Proofs.Ytoinfkimlhhmpaa
