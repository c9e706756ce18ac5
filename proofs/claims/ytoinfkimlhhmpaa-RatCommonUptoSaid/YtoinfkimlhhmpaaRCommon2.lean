
/-
  rat's Common and the document's.
-/
import Derived.Test.YtoinfkimlhhmpaaRCommon
import Derived.Test.YtoinfkimlhhmpaaW7
set_option linter.unusedVariables false
set_option linter.unusedSimpArgs false
namespace Go.Proofs.Ytoinfkimlhhmpaa
open Go.RowKit

theorem wqLcm_two {w : World} {g : Nat} {t : TypeId} {b b2 : Bool} {p q : Option Addr} {n m c d : Nat} {x y z : Int} (hg : w.heap[g]? = some (.cells [.bool b, .slice p n c, .bool b2, .slice q m d].toArray t)) (hx : Zr w b p n c x 67108864) (hy : Zr w b2 q m d y 67108864) {k l : Nat} (hk : Wd x k) (hl : Wd y l) (hz : Hid ((Int.lcm x y : Int) = z)) :
    Calls Try.prog 71 #[.slice (some ⟨g, 0, none⟩) 2 2] w (Ret (Zt z) w) := by
  refine wqLcm (Zs.two hg hx hy) ?_ ?_
  · intro i hi
    match i, hi with
    | 0, _ => exact (Wd.i64 (z := 1) (by omega) (by omega)).mono (by omega)
    | 1, _ =>
      have e : facc lcmZ 1 [x, y] 1 = (x.natAbs : Int) := by simp [facc, lcmZ, Int.lcm]
      rw [e]; exact (Wd.nabs hx.wd rfl).mono (by omega)
    | 2, _ =>
      have e : facc lcmZ 1 [x, y] 2 = (Int.lcm x y : Int) := by simp [facc, lcmZ, Int.lcm]
      rw [e]; exact Wd.lcm hx.wd hy.wd rfl (by omega)
  · show _ = _
    rw [← hz.out]
    simp [facc, lcmZ, Int.lcm]

section
variable {P : Program} {n : Nat}
theorem yfieldAddr {o : Oper} {f : Nat → Value} {s : TypeId} {x : Operand} {i : Nat} {g off : Nat} {fs : Array Field} {fd : Field} {k : Nat} (off' : Nat) (hop : o.op = .fieldAddr s x i) (hx : (act n f).eval x = .pointer (some ⟨g, off, none⟩)) (hu : ∀ w, (underlying s).run P w = .ok (.struct fs) w) (hf : fs[i]? = some fd) (hz : ∀ w, (sizeOf fd.type).run P w = .ok (k + 1) w) (he : off + fd.offset = off') (w : World) :
    (execOp (act n f).eval o).run P w = .ok (.value (.pointer (some ⟨g, off', none⟩))) w := by
  subst he
  have e : (⟨g, off, none⟩ : Addr).add fd.offset = ⟨g, off + fd.offset, none⟩ := Addr.add_mid _ _ _
  simp [execOp, hop, hx, Instr.fieldAt, hu, hf, Instr.sureAddr, fieldPlace, hz, e]
end

set_option maxRecDepth 100000 in
set_option maxHeartbeats 16000000 in
theorem wmadeC {F : FuncId} {caps : Array Value} (hF : ∀ args w, (callFunc F args).run Try.prog w = .ok (.enter F args) w) {den E : Int} {f : Nat → Int} {k : Nat} {L : List (Int × Int)} {w : World} {pl : Option Addr} {m cl : Nat} (hl : Rs w pl m L 67108864) (hall : ∀ e ∈ L, e.2 ≠ 0) (hf : ∀ (R : List Res) (w0 w1 : World) (p : Option Addr) (c : Nat) (es : List El), REls L m es → Sep w0 (.lst 27 4 p m c es :: R) w1 → Calls Try.prog F (#[.slice p m c] ++ caps) w1 (fun e w' => ∃ v s, e = .returned v ∧ CMt den f k E v s ∧ Sep w0 (s ++ R) w')) :
    Calls Try.prog 62 #[.func (.func F) #[] caps, .slice pl m cl] w (Ret (CMt den f k E) w) := by
  have hS := Sep.init w
  refine went Try.func62 rfl (n := 40) rfl rfl ?_
  refine wseq ?_
  refine wreg ?_
  refine wl rfl (oalloc [.bool false, .slice none 0 0, .slice none 0 0] hS rfl rfl Try.zeroValue82 rfl ?_)
  clear hS; intro g1 w2 hS
  refine wl rfl (oassign (v := .int .i64 0) rfl rfl (evc (v := .int .i64 0)) ?_)
  refine wnil ?_
  refine thenN ?_
  refine wseq ?_
  refine wreg ?_
  refine wl rfl (oalloc [.bool false, .slice none 0 0, .slice none 0 0] hS rfl rfl Try.zeroValue82 rfl ?_)
  clear hS; intro g3 w4 hS
  refine wnil ?_
  refine thenN ?_
  refine wseq ?_
  refine wreg ?_
  refine wl rfl (omove (v := .slice pl m cl) rfl rfl (ev (v := .slice pl m cl) rfl rfl) ?_)
  refine wl rfl (olen rfl rfl rfl Try.runUnderlying38 (p := pl) (k := m) (m := cl) (ev (v := .slice pl m cl) rfl rfl) ?_)
  refine wl rfl (omakeL (zs := [.bool false, .slice none 0 0, .bool false, .slice none 0 0]) (k := 0) (m := m) hS rfl rfl Try.underlying38 infoRat rfl rfl (by decide) rfl (evc (v := .int .i64 ((0 : Nat) : Int))) (ev (v := .int .i64 (((m : Nat) : Int))) rfl rfl) (Nat.zero_le _) (by have := hl.2.1; omega) (by have := hl.2.1; omega) ?_)
  clear hS; intro g5 w6 hS
  refine wl rfl (oassign (v := .slice (some ⟨g5, 0, none⟩) 0 m) rfl rfl (ev (v := .slice (some ⟨g5, 0, none⟩) 0 m) rfl rfl) ?_)
  refine wnil ?_
  refine thenN ?_
  refine wseq ?_
  refine wseq ?_
  refine wreg ?_
  refine wl rfl (omove (v := .slice pl m cl) rfl rfl (ev (v := .slice pl m cl) rfl rfl) ?_)
  refine wl rfl (olen rfl rfl rfl Try.runUnderlying38 (p := pl) (k := m) (m := cl) (ev (v := .slice pl m cl) rfl rfl) ?_)
  refine wl rfl (omove (v := .int .i64 0) rfl rfl (evc (v := .int .i64 0)) ?_)
  refine wnil ?_
  refine thenN ?_
  refine wblock ?_
  refine wloop (σ := Nat) (fun i a w' => ∃ (fb : Nat → Value) (es : List El) (pz : Option Addr) (cz : Nat), a = act 40 (sets fb [(0, .func (.func F) #[] caps), (4, .pointer (some ⟨g1, 0, none⟩)), (6, .pointer (some ⟨g3, 0, none⟩)), (7, .slice pz i cz), (15, .slice pl m cl), (16, .int .i64 (((m : Nat) : Int))), (17, .int .i64 (((i : Nat) : Int)))]) ∧ Sep w [.lst 27 4 pz i cz es, .blk g3 [.bool false, .slice none 0 0, .slice none 0 0] 82, .blk g1 [.bool false, .slice none 0 0, .slice none 0 0] 82] w' ∧ (i ≤ m) ∧ (REls L i es)) (fun i => m - i) (0) ⟨_, _, _, _, act_sets (l := [(0, .func (.func F) #[] caps), (4, .pointer (some ⟨g1, 0, none⟩)), (6, .pointer (some ⟨g3, 0, none⟩)), (7, .slice (some ⟨g5, 0, none⟩) 0 m), (15, .slice pl m cl), (16, .int .i64 (((m : Nat) : Int))), (17, .int .i64 0)]) ⟨rfl, rfl, rfl, rfl, rfl, rfl, rfl, trivial⟩, hS, Nat.zero_le _, ⟨rfl, fun j e h => by omega⟩⟩ ?_
  clear hS; rintro i _ w7 ⟨fb, es, pz, cz, rfl, hS, hi, hes⟩
  refine wseq ?_
  refine wreg ?_
  by_cases hlt : i < m
  ·
    refine wl rfl (obin (u := .int .i64 (((i : Nat) : Int))) (v := .int .i64 (((m : Nat) : Int))) (z := .bool true) rfl rfl (ev (v := .int .i64 (((i : Nat) : Int))) rfl rfl) (ev (v := .int .i64 (((m : Nat) : Int))) rfl rfl) (bin_lss (decide_eq_true (by omega))) ?_)
    refine wnil ?_
    refine thenN ?_
    refine wseq ?_
    refine wT (ev (v := .bool true) rfl rfl) ?_
    refine wskip ?_
    refine thenN ?_
    refine wseq ?_
    refine wblock ?_
    refine wseq ?_
    refine wreg ?_
    obtain ⟨e1, g1x, o1, bx, qx, nx, kx, by1, qy, ny, ky, hle, hp1, hc1, hzx, hzy⟩ := hl.el hlt
    refine wl rfl (oindex (p := pl) (g := g1x) (off := o1) (m := m) (k := i) (j := (o1 + i * 4)) rfl rfl Try.runUnderlying38 Try.sizeOf27 (ev (v := .slice pl m cl) rfl rfl) (hp1) (ev (v := .int .i64 (((i : Nat) : Int))) rfl rfl) (hlt) rfl ?_)
    refine wl rfl (oloadA (vs := [.bool bx, .slice qx nx kx, .bool by1, .slice qy ny ky]) aggR rfl rfl (ev (v := .pointer (some ⟨g1x, (o1 + i * 4), none⟩)) rfl rfl) (fun j v hj => hS.cellAt (hc1 j v hj)) rfl ?_)
    refine wl rfl (oalloc [.bool false, .slice none 0 0, .bool false, .slice none 0 0] hS rfl rfl Try.zeroValue27 rfl ?_)
    clear hS; intro g8 w9 hS
    refine wl rfl (ostore [.bool bx, .slice qx nx kx, .bool by1, .slice qy ny ky] [.bool bx, .slice qx nx kx, .bool by1, .slice qy ny ky] Try.sizeOf27 hS 0 rfl rfl (ev rfl rfl) (ev (v := .agg #[.bool bx, .slice qx nx kx, .bool by1, .slice qy ny ky]) rfl rfl) rfl rfl rfl rfl rfl rfl ?_)
    clear hS; intro w10 hS
    refine wnil ?_
    refine thenN ?_
    refine wseq ?_
    refine wreg ?_
    refine wl rfl (oload (vs := [.bool bx, .slice qx nx kx, .bool by1, .slice qy ny ky]) aggR hS 0 rfl rfl (ev rfl rfl) rfl rfl rfl ?_)
    have h0 := hall e1 (List.mem_of_getElem? hle)
    obtain ⟨z1, hz1⟩ : ∃ z : Int, Hid (RN e1.1 e1.2 = z) := ⟨_, rfl⟩
    have hk1 : Wd z1 67108864 := Wd.rn hzx.wd hz1
    obtain ⟨z2, hz2⟩ : ∃ z : Int, Hid (RD e1.1 e1.2 = z) := ⟨_, rfl⟩
    have hk2 : Wd z2 67108864 := Wd.rd hzy.wd hz2
    refine wl rfl (ocall rfl rfl Try.call43 rfl ((wrnorm (hzx.at hS) (hzy.at hS) (h0) hz1 hz2)) (args1 (ev rfl rfl)) ?_)
    rintro _ w11 ⟨_, _, rfl, ⟨p1, n1, c1, p2, n2, c2, rfl, rfl⟩, hN⟩
    refine ⟨_, rfl, ?_⟩
    replace hS := hS.news hN; clear hN
    refine wl rfl (omove (v := .tuple #[.agg #[.bool (ng z1), .slice p1 n1 c1, .bool (ng z2), .slice p2 n2 c2], .int .i64 0]) rfl rfl (ev (v := .tuple #[.agg #[.bool (ng z1), .slice p1 n1 c1, .bool (ng z2), .slice p2 n2 c2], .int .i64 0]) rfl rfl) ?_)
    refine wl rfl (oextract (vs := [.agg #[.bool (ng z1), .slice p1 n1 c1, .bool (ng z2), .slice p2 n2 c2], .int .i64 0]) (v := .agg #[.bool (ng z1), .slice p1 n1 c1, .bool (ng z2), .slice p2 n2 c2]) rfl rfl (ev (v := .tuple #[.agg #[.bool (ng z1), .slice p1 n1 c1, .bool (ng z2), .slice p2 n2 c2], .int .i64 0]) rfl rfl) rfl ?_)
    refine wl rfl (oextract (vs := [.agg #[.bool (ng z1), .slice p1 n1 c1, .bool (ng z2), .slice p2 n2 c2], .int .i64 0]) (v := .int .i64 0) rfl rfl (ev (v := .tuple #[.agg #[.bool (ng z1), .slice p1 n1 c1, .bool (ng z2), .slice p2 n2 c2], .int .i64 0]) rfl rfl) rfl ?_)
    refine wl rfl (oalloc [.bool false, .slice none 0 0, .bool false, .slice none 0 0] hS rfl rfl Try.zeroValue27 rfl ?_)
    clear hS; intro g12 w13 hS
    refine wl rfl (ostore [.bool (ng z1), .slice p1 n1 c1, .bool (ng z2), .slice p2 n2 c2] [.bool (ng z1), .slice p1 n1 c1, .bool (ng z2), .slice p2 n2 c2] Try.sizeOf27 hS 0 rfl rfl (ev rfl rfl) (ev (v := .agg #[.bool (ng z1), .slice p1 n1 c1, .bool (ng z2), .slice p2 n2 c2]) rfl rfl) rfl rfl rfl rfl rfl rfl ?_)
    clear hS; intro w14 hS
    refine wl rfl (oassign (v := .int .i64 0) rfl rfl (ev (v := .int .i64 0) rfl rfl) ?_)
    refine wnil ?_
    refine thenN ?_
    refine wseq ?_
    refine wseq ?_
    refine wreg ?_
    refine wl rfl (omove (v := .int .i64 0) rfl rfl (ev (v := .int .i64 0) rfl rfl) ?_)
    refine wl rfl (obin (u := .int .i64 0) (v := .int .i64 0) (z := .bool false) rfl rfl (ev (v := .int .i64 0) rfl rfl) (evc (v := .int .i64 0)) (bin_neq (by decide)) ?_)
    refine wnil ?_
    refine thenN ?_
    refine wF (ev (v := .bool false) rfl rfl) ?_
    refine wskip ?_
    refine thenN ?_
    refine wreg ?_
    refine wl rfl (omove (v := .slice pz i cz) rfl rfl (ev (v := .slice pz i cz) rfl rfl) ?_)
    refine wl rfl (oload (vs := [.bool (ng z1), .slice p1 n1 c1, .bool (ng z2), .slice p2 n2 c2]) aggR hS 0 rfl rfl (ev rfl rfl) rfl rfl rfl ?_)
    refine wl rfl (obslice (ps := #[(0, .agg #[.bool (ng z1), .slice p1 n1 c1, .bool (ng z2), .slice p2 n2 c2])]) (z := .agg #[.bool false, .slice none 0 0, .bool false, .slice none 0 0]) [.bool (ng z1), .slice p1 n1 c1, .bool (ng z2), .slice p2 n2 c2] hS rfl rfl Try.runUnderlying38 Try.sizeOf27 Try.zeroValue27 (parts1 (ev (v := .agg #[.bool (ng z1), .slice p1 n1 c1, .bool (ng z2), .slice p2 n2 c2]) rfl rfl)) rfl (by decide) fill4_1 ?_)
    clear hS; intro g15 w16 hS
    obtain hS := (show Sep w [.rowm p1 n1 c1 (lim z1.natAbs), .rowm p2 n2 c2 (lim z2.natAbs), .lst 27 4 pz i cz es, .blk g15 [.bool (ng z1), .slice p1 n1 c1, .bool (ng z2), .slice p2 n2 c2] 27, .blk g12 [.bool (ng z1), .slice p1 n1 c1, .bool (ng z2), .slice p2 n2 c2] 27, .blk g8 [.bool bx, .slice qx nx kx, .bool by1, .slice qy ny ky] 27, .blk g3 [.bool false, .slice none 0 0, .slice none 0 0] 82, .blk g1 [.bool false, .slice none 0 0, .slice none 0 0] 82] w16 from hS.pick [2, 3, 5, 0, 1, 4, 6, 7] (by decide) rfl)
    refine wl rfl (oappendL (p := pz) (m := i) (c := cz) (g2 := g15) (c2 := 1) (off := 0) [.bool (ng z1), .slice p1 n1 c1, .bool (ng z2), .slice p2 n2 c2] [.rowm p1 n1 c1 (lim z1.natAbs), .rowm p2 n2 c2 (lim z2.natAbs)] hS rfl rfl Try.underlying38 infoRat rfl (by decide) (ev (v := .slice pz i cz) rfl rfl) (ev (v := .slice (some ⟨g15, 0, none⟩) 1 1) rfl rfl) (fun j v hj => by rw [Nat.zero_add]; exact (blk_cell (hS.blkAt 3 rfl) j).trans hj) rfl rfl rfl (by have := hl.2.1; omega) (by have := hl.2.1; omega) ?_)
    clear hS; intro p18 c19 w17 hS
    refine wl rfl (oassign (v := .slice p18 ((i + 1)) c19) rfl rfl (ev (v := .slice p18 ((i + 1)) c19) rfl rfl) ?_)
    refine wnil ?_
    refine blkN ?_
    refine thenN ?_
    refine wreg ?_
    refine wl rfl (obin (u := .int .i64 (((i : Nat) : Int))) (v := .int .i64 1) (z := .int .i64 (((i + 1 : Nat) : Int))) rfl rfl (ev (v := .int .i64 (((i : Nat) : Int))) rfl rfl) (evc (v := .int .i64 1)) (bin_add (wrap_succ (by have := hl.2.1; omega))) ?_)
    refine wl rfl (omove (v := .int .i64 (((i + 1 : Nat) : Int))) rfl rfl (ev (v := .int .i64 (((i + 1 : Nat) : Int))) rfl rfl) ?_)
    refine wnil ?_
    refine thenN ?_
    obtain rfl := hz1.out
    obtain rfl := hz2.out
    exact ⟨(i + 1), ⟨_, _, _, _, act_sets (l := [(0, .func (.func F) #[] caps), (4, .pointer (some ⟨g1, 0, none⟩)), (6, .pointer (some ⟨g3, 0, none⟩)), (7, .slice p18 ((i + 1)) c19), (15, .slice pl m cl), (16, .int .i64 (((m : Nat) : Int))), (17, .int .i64 (((i + 1 : Nat) : Int)))]) ⟨rfl, rfl, rfl, rfl, rfl, rfl, rfl, trivial⟩, hS.pick [0, 4, 5] (by decide) rfl, by omega, hes.app hle h0 _ _ _ _ _ _⟩, by omega⟩
  ·
    refine wl rfl (obin (u := .int .i64 (((i : Nat) : Int))) (v := .int .i64 (((m : Nat) : Int))) (z := .bool false) rfl rfl (ev (v := .int .i64 (((i : Nat) : Int))) rfl rfl) (ev (v := .int .i64 (((m : Nat) : Int))) rfl rfl) (bin_lss (decide_eq_false (by omega))) ?_)
    refine wnil ?_
    refine thenN ?_
    refine wseq ?_
    refine wF (ev (v := .bool false) rfl rfl) ?_
    refine wexit ?_
    refine thenE ?_
    refine thenE ?_
    refine blkE ?_
    refine thenN ?_
    refine wseq ?_
    refine wreg ?_
    refine wl rfl (omove (v := .func (.func F) #[] caps) rfl rfl (ev (v := .func (.func F) #[] caps) rfl rfl) ?_)
    refine wl rfl (omove (v := .slice pz i cz) rfl rfl (ev (v := .slice pz i cz) rfl rfl) ?_)
    obtain rfl : i = m := by omega
    refine wl rfl (ocallc rfl rfl (ev (v := .func (.func F) #[] caps) rfl rfl) hF rfl (hf _ _ _ _ _ _ hes hS) (args1 (ev rfl rfl)) ?_)
    rintro _ w8 ⟨_, _, rfl, ⟨pr1, nr1, cr1, ql1, dl1, esl1, hnl1, rfl, rfl⟩, hN⟩
    refine ⟨_, rfl, ?_⟩
    clear hS; have hS := hN; clear hN
    refine wl rfl (oextract (vs := [.agg #[.bool (ng den), .slice pr1 nr1 cr1, .slice ql1 k dl1], .int .i64 E]) (v := .agg #[.bool (ng den), .slice pr1 nr1 cr1, .slice ql1 k dl1]) rfl rfl (ev (v := .tuple #[.agg #[.bool (ng den), .slice pr1 nr1 cr1, .slice ql1 k dl1], .int .i64 E]) rfl rfl) rfl ?_)
    refine wl rfl (oextract (vs := [.agg #[.bool (ng den), .slice pr1 nr1 cr1, .slice ql1 k dl1], .int .i64 E]) (v := .int .i64 E) rfl rfl (ev (v := .tuple #[.agg #[.bool (ng den), .slice pr1 nr1 cr1, .slice ql1 k dl1], .int .i64 E]) rfl rfl) rfl ?_)
    refine wl rfl (ostore [.bool (ng den), .slice pr1 nr1 cr1, .slice ql1 k dl1] [.bool (ng den), .slice pr1 nr1 cr1, .slice ql1 k dl1] Try.sizeOf82 hS 3 rfl rfl (ev rfl rfl) (ev (v := .agg #[.bool (ng den), .slice pr1 nr1 cr1, .slice ql1 k dl1]) rfl rfl) rfl rfl rfl rfl rfl rfl ?_)
    clear hS; intro w9 hS
    refine wl rfl (oassign (v := .int .i64 E) rfl rfl (ev (v := .int .i64 E) rfl rfl) ?_)
    refine wnil ?_
    refine thenN ?_
    refine wleave ?_
    refine wret2 Try.results62 (tellC (cs := [.bool (ng den), .slice pr1 nr1 cr1, .slice ql1 k dl1]) (show Agg Try.prog 82 3 from ⟨Try.isAgg82, Try.sizeOf82⟩) hS 3 rfl rfl rfl rfl) (tellT (v := .int .i64 E) rfl rfl) ?_
    exact ⟨_, _, rfl, ⟨_, _, _, _, _, _, hnl1, rfl, rfl⟩, hS.newM [0, 1] (by decide) rfl rfl⟩

set_option maxRecDepth 100000 in
set_option maxHeartbeats 16000000 in
theorem wmadeC0 {F : FuncId} {caps : Array Value} {L : List (Int × Int)} {w : World} {pl : Option Addr} {m cl : Nat} (hl : Rs w pl m L 67108864) (hbad : ∃ e ∈ L, e.2 = 0) :
    Calls Try.prog 62 #[.func (.func F) #[] caps, .slice pl m cl] w (Ret (Is (.tuple #[.agg #[.bool false, .slice none 0 0, .slice none 0 0], .int .i64 6])) w) := by
  have hS := Sep.init w
  refine went Try.func62 rfl (n := 40) rfl rfl ?_
  refine wseq ?_
  refine wreg ?_
  refine wl rfl (oalloc [.bool false, .slice none 0 0, .slice none 0 0] hS rfl rfl Try.zeroValue82 rfl ?_)
  clear hS; intro g1 w2 hS
  refine wl rfl (oassign (v := .int .i64 0) rfl rfl (evc (v := .int .i64 0)) ?_)
  refine wnil ?_
  refine thenN ?_
  refine wseq ?_
  refine wreg ?_
  refine wl rfl (oalloc [.bool false, .slice none 0 0, .slice none 0 0] hS rfl rfl Try.zeroValue82 rfl ?_)
  clear hS; intro g3 w4 hS
  refine wnil ?_
  refine thenN ?_
  refine wseq ?_
  refine wreg ?_
  refine wl rfl (omove (v := .slice pl m cl) rfl rfl (ev (v := .slice pl m cl) rfl rfl) ?_)
  refine wl rfl (olen rfl rfl rfl Try.runUnderlying38 (p := pl) (k := m) (m := cl) (ev (v := .slice pl m cl) rfl rfl) ?_)
  refine wl rfl (omakeL (zs := [.bool false, .slice none 0 0, .bool false, .slice none 0 0]) (k := 0) (m := m) hS rfl rfl Try.underlying38 infoRat rfl rfl (by decide) rfl (evc (v := .int .i64 ((0 : Nat) : Int))) (ev (v := .int .i64 (((m : Nat) : Int))) rfl rfl) (Nat.zero_le _) (by have := hl.2.1; omega) (by have := hl.2.1; omega) ?_)
  clear hS; intro g5 w6 hS
  refine wl rfl (oassign (v := .slice (some ⟨g5, 0, none⟩) 0 m) rfl rfl (ev (v := .slice (some ⟨g5, 0, none⟩) 0 m) rfl rfl) ?_)
  refine wnil ?_
  refine thenN ?_
  refine wseq ?_
  refine wseq ?_
  refine wreg ?_
  refine wl rfl (omove (v := .slice pl m cl) rfl rfl (ev (v := .slice pl m cl) rfl rfl) ?_)
  refine wl rfl (olen rfl rfl rfl Try.runUnderlying38 (p := pl) (k := m) (m := cl) (ev (v := .slice pl m cl) rfl rfl) ?_)
  refine wl rfl (omove (v := .int .i64 0) rfl rfl (evc (v := .int .i64 0)) ?_)
  refine wnil ?_
  refine thenN ?_
  refine wblock ?_
  refine wloop (σ := Nat) (fun i a w' => ∃ (fb : Nat → Value) (es : List El) (pz : Option Addr) (cz : Nat), a = act 40 (sets fb [(0, .func (.func F) #[] caps), (4, .pointer (some ⟨g1, 0, none⟩)), (6, .pointer (some ⟨g3, 0, none⟩)), (7, .slice pz i cz), (15, .slice pl m cl), (16, .int .i64 (((m : Nat) : Int))), (17, .int .i64 (((i : Nat) : Int)))]) ∧ Sep w [.lst 27 4 pz i cz es, .blk g3 [.bool false, .slice none 0 0, .slice none 0 0] 82, .blk g1 [.bool false, .slice none 0 0, .slice none 0 0] 82] w' ∧ (i ≤ m) ∧ (REls L i es)) (fun i => m - i) (0) ⟨_, _, _, _, act_sets (l := [(0, .func (.func F) #[] caps), (4, .pointer (some ⟨g1, 0, none⟩)), (6, .pointer (some ⟨g3, 0, none⟩)), (7, .slice (some ⟨g5, 0, none⟩) 0 m), (15, .slice pl m cl), (16, .int .i64 (((m : Nat) : Int))), (17, .int .i64 0)]) ⟨rfl, rfl, rfl, rfl, rfl, rfl, rfl, trivial⟩, hS, Nat.zero_le _, ⟨rfl, fun j e h => by omega⟩⟩ ?_
  clear hS; rintro i _ w7 ⟨fb, es, pz, cz, rfl, hS, hi, hes⟩
  refine wseq ?_
  refine wreg ?_
  by_cases hlt : i < m
  ·
    refine wl rfl (obin (u := .int .i64 (((i : Nat) : Int))) (v := .int .i64 (((m : Nat) : Int))) (z := .bool true) rfl rfl (ev (v := .int .i64 (((i : Nat) : Int))) rfl rfl) (ev (v := .int .i64 (((m : Nat) : Int))) rfl rfl) (bin_lss (decide_eq_true (by omega))) ?_)
    refine wnil ?_
    refine thenN ?_
    refine wseq ?_
    refine wT (ev (v := .bool true) rfl rfl) ?_
    refine wskip ?_
    refine thenN ?_
    refine wseq ?_
    refine wblock ?_
    refine wseq ?_
    refine wreg ?_
    obtain ⟨e1, g1x, o1, bx, qx, nx, kx, by1, qy, ny, ky, hle, hp1, hc1, hzx, hzy⟩ := hl.el hlt
    refine wl rfl (oindex (p := pl) (g := g1x) (off := o1) (m := m) (k := i) (j := (o1 + i * 4)) rfl rfl Try.runUnderlying38 Try.sizeOf27 (ev (v := .slice pl m cl) rfl rfl) (hp1) (ev (v := .int .i64 (((i : Nat) : Int))) rfl rfl) (hlt) rfl ?_)
    refine wl rfl (oloadA (vs := [.bool bx, .slice qx nx kx, .bool by1, .slice qy ny ky]) aggR rfl rfl (ev (v := .pointer (some ⟨g1x, (o1 + i * 4), none⟩)) rfl rfl) (fun j v hj => hS.cellAt (hc1 j v hj)) rfl ?_)
    refine wl rfl (oalloc [.bool false, .slice none 0 0, .bool false, .slice none 0 0] hS rfl rfl Try.zeroValue27 rfl ?_)
    clear hS; intro g8 w9 hS
    refine wl rfl (ostore [.bool bx, .slice qx nx kx, .bool by1, .slice qy ny ky] [.bool bx, .slice qx nx kx, .bool by1, .slice qy ny ky] Try.sizeOf27 hS 0 rfl rfl (ev rfl rfl) (ev (v := .agg #[.bool bx, .slice qx nx kx, .bool by1, .slice qy ny ky]) rfl rfl) rfl rfl rfl rfl rfl rfl ?_)
    clear hS; intro w10 hS
    refine wnil ?_
    refine thenN ?_
    refine wseq ?_
    refine wreg ?_
    refine wl rfl (oload (vs := [.bool bx, .slice qx nx kx, .bool by1, .slice qy ny ky]) aggR hS 0 rfl rfl (ev rfl rfl) rfl rfl rfl ?_)
    by_cases h0 : e1.2 = 0
    ·
      refine wl rfl (ocall rfl rfl Try.call43 rfl (wrnorm0 (hzx.at hS) (hzy.at hS) (h0)) (args1 (ev rfl rfl)) ?_)
      rintro _ w11 ⟨_, _, rfl, ⟨rfl, rfl⟩, hN⟩
      refine ⟨_, rfl, ?_⟩
      replace hS := hS.news hN; clear hN
      refine wl rfl (omove (v := .tuple #[.agg #[.bool false, .slice none 0 0, .bool false, .slice none 0 0], .int .i64 6]) rfl rfl (ev (v := .tuple #[.agg #[.bool false, .slice none 0 0, .bool false, .slice none 0 0], .int .i64 6]) rfl rfl) ?_)
      refine wl rfl (oextract (vs := [.agg #[.bool false, .slice none 0 0, .bool false, .slice none 0 0], .int .i64 6]) (v := .agg #[.bool false, .slice none 0 0, .bool false, .slice none 0 0]) rfl rfl (ev (v := .tuple #[.agg #[.bool false, .slice none 0 0, .bool false, .slice none 0 0], .int .i64 6]) rfl rfl) rfl ?_)
      refine wl rfl (oextract (vs := [.agg #[.bool false, .slice none 0 0, .bool false, .slice none 0 0], .int .i64 6]) (v := .int .i64 6) rfl rfl (ev (v := .tuple #[.agg #[.bool false, .slice none 0 0, .bool false, .slice none 0 0], .int .i64 6]) rfl rfl) rfl ?_)
      refine wl rfl (oalloc [.bool false, .slice none 0 0, .bool false, .slice none 0 0] hS rfl rfl Try.zeroValue27 rfl ?_)
      clear hS; intro g12 w13 hS
      refine wl rfl (ostore [.bool false, .slice none 0 0, .bool false, .slice none 0 0] [.bool false, .slice none 0 0, .bool false, .slice none 0 0] Try.sizeOf27 hS 0 rfl rfl (ev rfl rfl) (ev (v := .agg #[.bool false, .slice none 0 0, .bool false, .slice none 0 0]) rfl rfl) rfl rfl rfl rfl rfl rfl ?_)
      clear hS; intro w14 hS
      refine wl rfl (oassign (v := .int .i64 6) rfl rfl (ev (v := .int .i64 6) rfl rfl) ?_)
      refine wnil ?_
      refine thenN ?_
      refine wseq ?_
      refine wseq ?_
      refine wreg ?_
      refine wl rfl (omove (v := .int .i64 6) rfl rfl (ev (v := .int .i64 6) rfl rfl) ?_)
      refine wl rfl (obin (u := .int .i64 6) (v := .int .i64 0) (z := .bool true) rfl rfl (ev (v := .int .i64 6) rfl rfl) (evc (v := .int .i64 0)) (bin_neq (by decide)) ?_)
      refine wnil ?_
      refine thenN ?_
      refine wT (ev (v := .bool true) rfl rfl) ?_
      refine wseq ?_
      refine wreg ?_
      refine wl rfl (oload (vs := [.bool false, .slice none 0 0, .slice none 0 0]) (show Agg Try.prog 82 3 from ⟨Try.isAgg82, Try.sizeOf82⟩) hS 3 rfl rfl (ev rfl rfl) rfl rfl rfl ?_)
      refine wl rfl (omove (v := .int .i64 6) rfl rfl (ev (v := .int .i64 6) rfl rfl) ?_)
      refine wl rfl (ostore [.bool false, .slice none 0 0, .slice none 0 0] [.bool false, .slice none 0 0, .slice none 0 0] Try.sizeOf82 hS 4 rfl rfl (ev rfl rfl) (ev (v := .agg #[.bool false, .slice none 0 0, .slice none 0 0]) rfl rfl) rfl rfl rfl rfl rfl rfl ?_)
      clear hS; intro w15 hS
      refine wl rfl (oassign (v := .int .i64 6) rfl rfl (ev (v := .int .i64 6) rfl rfl) ?_)
      refine wnil ?_
      refine thenN ?_
      refine wleave ?_
      refine thenR ?_
      refine blkR ?_
      refine thenR ?_
      refine thenR ?_
      refine blkR ?_
      refine thenR ?_
      refine wret2 Try.results62 (tellC (cs := [.bool false, .slice none 0 0, .slice none 0 0]) (show Agg Try.prog 82 3 from ⟨Try.isAgg82, Try.sizeOf82⟩) hS 4 rfl rfl rfl rfl) (tellT (v := .int .i64 6) rfl rfl) ?_
      exact ⟨_, _, rfl, isI, hS.new0⟩
    ·
      obtain ⟨z1, hz1⟩ : ∃ z : Int, Hid (RN e1.1 e1.2 = z) := ⟨_, rfl⟩
      have hk1 : Wd z1 67108864 := Wd.rn hzx.wd hz1
      obtain ⟨z2, hz2⟩ : ∃ z : Int, Hid (RD e1.1 e1.2 = z) := ⟨_, rfl⟩
      have hk2 : Wd z2 67108864 := Wd.rd hzy.wd hz2
      refine wl rfl (ocall rfl rfl Try.call43 rfl ((wrnorm (hzx.at hS) (hzy.at hS) (h0) hz1 hz2)) (args1 (ev rfl rfl)) ?_)
      rintro _ w11 ⟨_, _, rfl, ⟨p1, n1, c1, p2, n2, c2, rfl, rfl⟩, hN⟩
      refine ⟨_, rfl, ?_⟩
      replace hS := hS.news hN; clear hN
      refine wl rfl (omove (v := .tuple #[.agg #[.bool (ng z1), .slice p1 n1 c1, .bool (ng z2), .slice p2 n2 c2], .int .i64 0]) rfl rfl (ev (v := .tuple #[.agg #[.bool (ng z1), .slice p1 n1 c1, .bool (ng z2), .slice p2 n2 c2], .int .i64 0]) rfl rfl) ?_)
      refine wl rfl (oextract (vs := [.agg #[.bool (ng z1), .slice p1 n1 c1, .bool (ng z2), .slice p2 n2 c2], .int .i64 0]) (v := .agg #[.bool (ng z1), .slice p1 n1 c1, .bool (ng z2), .slice p2 n2 c2]) rfl rfl (ev (v := .tuple #[.agg #[.bool (ng z1), .slice p1 n1 c1, .bool (ng z2), .slice p2 n2 c2], .int .i64 0]) rfl rfl) rfl ?_)
      refine wl rfl (oextract (vs := [.agg #[.bool (ng z1), .slice p1 n1 c1, .bool (ng z2), .slice p2 n2 c2], .int .i64 0]) (v := .int .i64 0) rfl rfl (ev (v := .tuple #[.agg #[.bool (ng z1), .slice p1 n1 c1, .bool (ng z2), .slice p2 n2 c2], .int .i64 0]) rfl rfl) rfl ?_)
      refine wl rfl (oalloc [.bool false, .slice none 0 0, .bool false, .slice none 0 0] hS rfl rfl Try.zeroValue27 rfl ?_)
      clear hS; intro g12 w13 hS
      refine wl rfl (ostore [.bool (ng z1), .slice p1 n1 c1, .bool (ng z2), .slice p2 n2 c2] [.bool (ng z1), .slice p1 n1 c1, .bool (ng z2), .slice p2 n2 c2] Try.sizeOf27 hS 0 rfl rfl (ev rfl rfl) (ev (v := .agg #[.bool (ng z1), .slice p1 n1 c1, .bool (ng z2), .slice p2 n2 c2]) rfl rfl) rfl rfl rfl rfl rfl rfl ?_)
      clear hS; intro w14 hS
      refine wl rfl (oassign (v := .int .i64 0) rfl rfl (ev (v := .int .i64 0) rfl rfl) ?_)
      refine wnil ?_
      refine thenN ?_
      refine wseq ?_
      refine wseq ?_
      refine wreg ?_
      refine wl rfl (omove (v := .int .i64 0) rfl rfl (ev (v := .int .i64 0) rfl rfl) ?_)
      refine wl rfl (obin (u := .int .i64 0) (v := .int .i64 0) (z := .bool false) rfl rfl (ev (v := .int .i64 0) rfl rfl) (evc (v := .int .i64 0)) (bin_neq (by decide)) ?_)
      refine wnil ?_
      refine thenN ?_
      refine wF (ev (v := .bool false) rfl rfl) ?_
      refine wskip ?_
      refine thenN ?_
      refine wreg ?_
      refine wl rfl (omove (v := .slice pz i cz) rfl rfl (ev (v := .slice pz i cz) rfl rfl) ?_)
      refine wl rfl (oload (vs := [.bool (ng z1), .slice p1 n1 c1, .bool (ng z2), .slice p2 n2 c2]) aggR hS 0 rfl rfl (ev rfl rfl) rfl rfl rfl ?_)
      refine wl rfl (obslice (ps := #[(0, .agg #[.bool (ng z1), .slice p1 n1 c1, .bool (ng z2), .slice p2 n2 c2])]) (z := .agg #[.bool false, .slice none 0 0, .bool false, .slice none 0 0]) [.bool (ng z1), .slice p1 n1 c1, .bool (ng z2), .slice p2 n2 c2] hS rfl rfl Try.runUnderlying38 Try.sizeOf27 Try.zeroValue27 (parts1 (ev (v := .agg #[.bool (ng z1), .slice p1 n1 c1, .bool (ng z2), .slice p2 n2 c2]) rfl rfl)) rfl (by decide) fill4_1 ?_)
      clear hS; intro g15 w16 hS
      obtain hS := (show Sep w [.rowm p1 n1 c1 (lim z1.natAbs), .rowm p2 n2 c2 (lim z2.natAbs), .lst 27 4 pz i cz es, .blk g15 [.bool (ng z1), .slice p1 n1 c1, .bool (ng z2), .slice p2 n2 c2] 27, .blk g12 [.bool (ng z1), .slice p1 n1 c1, .bool (ng z2), .slice p2 n2 c2] 27, .blk g8 [.bool bx, .slice qx nx kx, .bool by1, .slice qy ny ky] 27, .blk g3 [.bool false, .slice none 0 0, .slice none 0 0] 82, .blk g1 [.bool false, .slice none 0 0, .slice none 0 0] 82] w16 from hS.pick [2, 3, 5, 0, 1, 4, 6, 7] (by decide) rfl)
      refine wl rfl (oappendL (p := pz) (m := i) (c := cz) (g2 := g15) (c2 := 1) (off := 0) [.bool (ng z1), .slice p1 n1 c1, .bool (ng z2), .slice p2 n2 c2] [.rowm p1 n1 c1 (lim z1.natAbs), .rowm p2 n2 c2 (lim z2.natAbs)] hS rfl rfl Try.underlying38 infoRat rfl (by decide) (ev (v := .slice pz i cz) rfl rfl) (ev (v := .slice (some ⟨g15, 0, none⟩) 1 1) rfl rfl) (fun j v hj => by rw [Nat.zero_add]; exact (blk_cell (hS.blkAt 3 rfl) j).trans hj) rfl rfl rfl (by have := hl.2.1; omega) (by have := hl.2.1; omega) ?_)
      clear hS; intro p18 c19 w17 hS
      refine wl rfl (oassign (v := .slice p18 ((i + 1)) c19) rfl rfl (ev (v := .slice p18 ((i + 1)) c19) rfl rfl) ?_)
      refine wnil ?_
      refine blkN ?_
      refine thenN ?_
      refine wreg ?_
      refine wl rfl (obin (u := .int .i64 (((i : Nat) : Int))) (v := .int .i64 1) (z := .int .i64 (((i + 1 : Nat) : Int))) rfl rfl (ev (v := .int .i64 (((i : Nat) : Int))) rfl rfl) (evc (v := .int .i64 1)) (bin_add (wrap_succ (by have := hl.2.1; omega))) ?_)
      refine wl rfl (omove (v := .int .i64 (((i + 1 : Nat) : Int))) rfl rfl (ev (v := .int .i64 (((i + 1 : Nat) : Int))) rfl rfl) ?_)
      refine wnil ?_
      refine thenN ?_
      obtain rfl := hz1.out
      obtain rfl := hz2.out
      exact ⟨(i + 1), ⟨_, _, _, _, act_sets (l := [(0, .func (.func F) #[] caps), (4, .pointer (some ⟨g1, 0, none⟩)), (6, .pointer (some ⟨g3, 0, none⟩)), (7, .slice p18 ((i + 1)) c19), (15, .slice pl m cl), (16, .int .i64 (((m : Nat) : Int))), (17, .int .i64 (((i + 1 : Nat) : Int)))]) ⟨rfl, rfl, rfl, rfl, rfl, rfl, rfl, trivial⟩, hS.pick [0, 4, 5] (by decide) rfl, by omega, hes.app hle h0 _ _ _ _ _ _⟩, by omega⟩
  ·
    obtain ⟨e, he, h0⟩ := hbad
    obtain ⟨j, hj⟩ := List.mem_iff_getElem?.1 he
    exact absurd h0 (hes.2 j e (by have := (List.getElem?_eq_some_iff.1 hj).1; have := hl.1; omega) hj).1

theorem wmC {F : FuncId} (hF : ∀ args w, (callFunc F args).run Try.prog w = .ok (.enter F args) w) {K : Nat} {den E : Int} {f : Nat → Int} {k : Nat} {L : List (Int × Int)} {w : World} {pl : Option Addr} {m cl : Nat} (hl : Rs w pl m L K) (hK : K ≤ 67108864) (hall : ∀ e ∈ L, e.2 ≠ 0) (hf : ∀ (w1 : World) (p : Option Addr) (c : Nat), Rs w1 p m (lows L) K → Calls Try.prog F #[.slice p m c] w1 (Ret (CMt den f k E) w1)) :
    Calls Try.prog 62 #[.func (.func F) #[] #[], .slice pl m cl] w (Ret (CMt den f k E) w) :=
  wmadeC hF (hl.mono hK) hall (fun R w0 w1 p c es hes hS => by
    rw [Array.append_empty]
    exact (hf w1 p c (hS.rs 0 rfl hes hl.1 hl.2.1 hl.wd)).mono fun e w' h => giveL hS h)
theorem low_ne {L : List (Int × Int)} (h : ∀ e ∈ L, e.2 ≠ 0) : ∀ e ∈ lows L, e.2 ≠ 0 := by
  intro e he
  obtain ⟨e', h1, rfl⟩ := List.mem_map.1 he
  exact Int.ne_of_gt (RD_pos (h e' h1))
theorem low_at {L : List (Int × Int)} {i : Nat} {e : Int × Int} (h : L[i]? = some e) : (lows L)[i]? = some (RN e.1 e.2, RD e.1 e.2) := by unfold lows; rw [List.getElem?_map, h]; rfl
set_option maxRecDepth 100000 in
set_option maxHeartbeats 16000000 in
theorem wrcommon {L : List (Int × Int)} {w : World} {pl : Option Addr} {m cl : Nat} (hl : Rs w pl m L 16777216) (hall : ∀ e ∈ L, e.2 ≠ 0) (hW : ∀ i, i ≤ m → Wd (facc lcmZ 1 (dens (lows L)) i) 4194304) :
    Calls Try.prog 18 #[.slice pl m cl] w (Ret (CTt (facc lcmZ 1 (dens (lows L)) m) (cnum (lows L) (facc lcmZ 1 (dens (lows L)) m)) m 0) w) := by
  have hS := Sep.init w
  refine went Try.func18 rfl (n := 17) rfl rfl ?_
  refine wseq ?_
  refine wreg ?_
  refine wl rfl (oalloc [.bool false, .slice none 0 0] hS rfl rfl Try.zeroValue25 rfl ?_)
  clear hS; intro g1 w2 hS
  refine wl rfl (oassign (v := .slice none 0 0) rfl rfl (evc (v := .slice none 0 0)) ?_)
  refine wl rfl (oassign (v := .int .i64 0) rfl rfl (evc (v := .int .i64 0)) ?_)
  refine wnil ?_
  refine thenN ?_
  refine wseq ?_
  refine wreg ?_
  refine wl rfl (omove (v := .slice pl m cl) rfl rfl (ev (v := .slice pl m cl) rfl rfl) ?_)
  refine wl rfl (ocall rfl rfl Try.call62 rfl (wmC (den := (facc lcmZ 1 (dens (lows L)) m)) (f := (cnum (lows L) (facc lcmZ 1 (dens (lows L)) m))) (k := m) (E := 0) Try.call63 (hl.at hS) (by omega) hall (fun w1 p c h => wrcommon1 h (low_ne hall) hW)) (args2 rfl (ev rfl rfl)) ?_)
  rintro _ w3 ⟨_, _, rfl, ⟨pr1, nr1, cr1, ql1, dl1, esl1, hnl1, rfl, rfl⟩, hN⟩
  refine ⟨_, rfl, ?_⟩
  replace hS := hS.news hN; clear hN
  refine wl rfl (omove (v := .tuple #[.agg #[.bool (ng ((facc lcmZ 1 (dens (lows L)) m))), .slice pr1 nr1 cr1, .slice ql1 m dl1], .int .i64 0]) rfl rfl (ev (v := .tuple #[.agg #[.bool (ng ((facc lcmZ 1 (dens (lows L)) m))), .slice pr1 nr1 cr1, .slice ql1 m dl1], .int .i64 0]) rfl rfl) ?_)
  refine wl rfl (oextract (vs := [.agg #[.bool (ng ((facc lcmZ 1 (dens (lows L)) m))), .slice pr1 nr1 cr1, .slice ql1 m dl1], .int .i64 0]) (v := .agg #[.bool (ng ((facc lcmZ 1 (dens (lows L)) m))), .slice pr1 nr1 cr1, .slice ql1 m dl1]) rfl rfl (ev (v := .tuple #[.agg #[.bool (ng ((facc lcmZ 1 (dens (lows L)) m))), .slice pr1 nr1 cr1, .slice ql1 m dl1], .int .i64 0]) rfl rfl) rfl ?_)
  refine wl rfl (oextract (vs := [.agg #[.bool (ng ((facc lcmZ 1 (dens (lows L)) m))), .slice pr1 nr1 cr1, .slice ql1 m dl1], .int .i64 0]) (v := .int .i64 0) rfl rfl (ev (v := .tuple #[.agg #[.bool (ng ((facc lcmZ 1 (dens (lows L)) m))), .slice pr1 nr1 cr1, .slice ql1 m dl1], .int .i64 0]) rfl rfl) rfl ?_)
  refine wl rfl (oalloc [.bool false, .slice none 0 0, .slice none 0 0] hS rfl rfl Try.zeroValue82 rfl ?_)
  clear hS; intro g4 w5 hS
  refine wl rfl (ostore [.bool (ng ((facc lcmZ 1 (dens (lows L)) m))), .slice pr1 nr1 cr1, .slice ql1 m dl1] [.bool (ng ((facc lcmZ 1 (dens (lows L)) m))), .slice pr1 nr1 cr1, .slice ql1 m dl1] Try.sizeOf82 hS 0 rfl rfl (ev rfl rfl) (ev (v := .agg #[.bool (ng ((facc lcmZ 1 (dens (lows L)) m))), .slice pr1 nr1 cr1, .slice ql1 m dl1]) rfl rfl) rfl rfl rfl rfl rfl rfl ?_)
  clear hS; intro w6 hS
  refine wl rfl (oassign (v := .int .i64 0) rfl rfl (ev (v := .int .i64 0) rfl rfl) ?_)
  refine wnil ?_
  refine thenN ?_
  refine wseq ?_
  refine wstageP 5 [12, 13, 14, 15, 16] [[], [0], [], [2], []] [[], [], [], [], []] [2, 3, 4] [(g4, [.bool (ng ((facc lcmZ 1 (dens (lows L)) m))), .slice pr1 nr1 cr1, .slice ql1 m dl1], 82)] (fun i9 => ([fun _ => Is (.pointer (some ⟨g4, 0, none⟩)), fun _ => Is (.agg #[.bool (ng ((facc lcmZ 1 (dens (lows L)) m))), .slice pr1 nr1 cr1]), fun _ => Is (.pointer (some ⟨g4, 2, none⟩)), fun _ => Is (.slice ql1 m dl1), fun _ => Is (.int .i64 0)] : List (List Value → Tell)).getD i9 (fun _ _ _ => False)) ((heldCons (hS.blkAt 0 rfl) heldNil)) (fun d _ _ _ _ h => (by cases d <;> exact h)) (by kernel_rfl) (by kernel_rfl) (by kernel_rfl) hS ?_ ?_
  ·
    refine stepsCons rfl ?_ ?_
    · intro Q f' w' ρ S ho hT hS hB
      exact .inl ⟨want_none rfl, ofieldAddr (g := g4) (off := 0) 0 rfl rfl (ev (v := .pointer (some ⟨g4, 0, none⟩)) rfl (ho 5 rfl)) Try.runUnderlying82 rfl Try.sizeOf25 rfl ⟨_, _, rfl, isI, New.same _⟩⟩
    refine stepsCons rfl ?_ ?_
    · intro Q f' w' ρ S ho hT hS hB
      obtain ⟨hv0, hr0⟩ := (hT 0 12 rfl rfl : (Is (.pointer (some ⟨g4, 0, none⟩))) (f' 12) (ρ 0))
      obtain hS := hS.flat1 hr0
      exact .inl ⟨want_none rfl, oload (vs := [.bool (ng ((facc lcmZ 1 (dens (lows L)) m))), .slice pr1 nr1 cr1]) aggZ hS 0 rfl rfl (ev rfl hv0) rfl rfl rfl ⟨_, _, rfl, isI, New.same _⟩⟩
    refine stepsPure rfl ?_ ?_
    · intro f' ρ ho hT
      exact ⟨_, .inl ⟨want_none rfl, fun w hw => yfieldAddr (g := g4) (off := 0) 2 rfl (ev (v := .pointer (some ⟨g4, 0, none⟩)) rfl (ho 5 rfl)) Try.runUnderlying82 rfl Try.sizeOf40 rfl w⟩, isI⟩
    refine stepsPure rfl ?_ ?_
    · intro f' ρ ho hT
      obtain ⟨hv2, hr2⟩ := (hT 2 14 rfl rfl : (Is (.pointer (some ⟨g4, 2, none⟩))) (f' 14) (ρ 2))
      exact ⟨_, .inl ⟨want_none rfl, fun w hw => yload1 (v := .slice ql1 m dl1) (show One Try.prog 40 from ⟨Try.isAgg40, Try.sizeOf40⟩) rfl (ev rfl hv2) (hw.at 0 rfl) rfl⟩, isI⟩
    refine stepsPure rfl ?_ ?_
    · intro f' ρ ho hT
      exact ⟨_, .inl ⟨want_none rfl, fun w hw => ymove (v := .int .i64 0) rfl (ev (v := .int .i64 0) rfl (ho 6 rfl)) w⟩, isI⟩
    exact stepsNil
  ·
    intro vs ρ w7 f' hf hT hS
    obtain ⟨hv0, hr0⟩ := (hT 0 (by decide) : (Is (.pointer (some ⟨g4, 0, none⟩))) (vs 0) (ρ 0))
    obtain ⟨hv1, hr1⟩ := (hT 1 (by decide) : (Is (.agg #[.bool (ng ((facc lcmZ 1 (dens (lows L)) m))), .slice pr1 nr1 cr1])) (vs 1) (ρ 1))
    obtain ⟨hv2, hr2⟩ := (hT 2 (by decide) : (Is (.pointer (some ⟨g4, 2, none⟩))) (vs 2) (ρ 2))
    obtain ⟨hv3, hr3⟩ := (hT 3 (by decide) : (Is (.slice ql1 m dl1)) (vs 3) (ρ 3))
    obtain ⟨hv4, hr4⟩ := (hT 4 (by decide) : (Is (.int .i64 0)) (vs 4) (ρ 4))
    simp only [pool, if_true, hr0, hr1, hr2, hr3, hr4, List.nil_append, List.cons_append, List.append_nil] at hS
    simp only [layf, hv0, hv1, hv2, hv3, hv4] at hf
    subst hf; clear hT hv0 hv1 hv2 hv3 hv4 hr0 hr1 hr2 hr3 hr4
    refine wlate 5 rfl (by kernel_rfl) (ostore [.bool (ng ((facc lcmZ 1 (dens (lows L)) m))), .slice pr1 nr1 cr1] [.bool (ng ((facc lcmZ 1 (dens (lows L)) m))), .slice pr1 nr1 cr1] Try.sizeOf25 hS 3 rfl rfl (ev rfl rfl) (ev (v := .agg #[.bool (ng ((facc lcmZ 1 (dens (lows L)) m))), .slice pr1 nr1 cr1]) rfl rfl) rfl rfl rfl rfl rfl rfl ?_)
    clear hS; intro w8 hS
    refine ⟨(heldCons (hS.blkAt 0 rfl) heldNil), ?_⟩
    refine wlate 6 rfl (by kernel_rfl) (oassign (v := .slice ql1 m dl1) rfl rfl (ev (v := .slice ql1 m dl1) rfl rfl) ?_)
    refine ⟨(heldCons (hS.blkAt 0 rfl) heldNil), ?_⟩
    refine wlate 7 rfl (by kernel_rfl) (oassign (v := .int .i64 0) rfl rfl (ev (v := .int .i64 0) rfl rfl) ?_)
    refine ⟨(heldCons (hS.blkAt 0 rfl) heldNil), ?_⟩
    refine wdone rfl ?_
    refine thenN ?_
    refine wleave ?_
    refine wret3 Try.results18 (tellC (cs := [.bool (ng ((facc lcmZ 1 (dens (lows L)) m))), .slice pr1 nr1 cr1]) aggZ hS 3 rfl rfl rfl rfl) (tellT (v := .slice ql1 m dl1) rfl rfl) (tellT (v := .int .i64 0) rfl rfl) ?_
    exact ⟨_, _, rfl, ⟨_, _, _, _, _, _, hnl1, rfl, rfl⟩, hS.newM [1, 2] (by decide) rfl rfl⟩

set_option maxRecDepth 100000 in
set_option maxHeartbeats 16000000 in
theorem wrcommon0 {L : List (Int × Int)} {w : World} {pl : Option Addr} {m cl : Nat} (hl : Rs w pl m L 16777216) (hbad : ∃ e ∈ L, e.2 = 0) :
    Calls Try.prog 18 #[.slice pl m cl] w (Ret (Is (.tuple #[.agg #[.bool false, .slice none 0 0], .slice none 0 0, .int .i64 6])) w) := by
  have hS := Sep.init w
  refine went Try.func18 rfl (n := 17) rfl rfl ?_
  refine wseq ?_
  refine wreg ?_
  refine wl rfl (oalloc [.bool false, .slice none 0 0] hS rfl rfl Try.zeroValue25 rfl ?_)
  clear hS; intro g1 w2 hS
  refine wl rfl (oassign (v := .slice none 0 0) rfl rfl (evc (v := .slice none 0 0)) ?_)
  refine wl rfl (oassign (v := .int .i64 0) rfl rfl (evc (v := .int .i64 0)) ?_)
  refine wnil ?_
  refine thenN ?_
  refine wseq ?_
  refine wreg ?_
  refine wl rfl (omove (v := .slice pl m cl) rfl rfl (ev (v := .slice pl m cl) rfl rfl) ?_)
  refine wl rfl (ocall rfl rfl Try.call62 rfl (wmadeC0 ((hl.at hS).mono (by omega)) hbad) (args2 rfl (ev rfl rfl)) ?_)
  rintro _ w3 ⟨_, _, rfl, ⟨rfl, rfl⟩, hN⟩
  refine ⟨_, rfl, ?_⟩
  replace hS := hS.news hN; clear hN
  refine wl rfl (omove (v := .tuple #[.agg #[.bool false, .slice none 0 0, .slice none 0 0], .int .i64 6]) rfl rfl (ev (v := .tuple #[.agg #[.bool false, .slice none 0 0, .slice none 0 0], .int .i64 6]) rfl rfl) ?_)
  refine wl rfl (oextract (vs := [.agg #[.bool false, .slice none 0 0, .slice none 0 0], .int .i64 6]) (v := .agg #[.bool false, .slice none 0 0, .slice none 0 0]) rfl rfl (ev (v := .tuple #[.agg #[.bool false, .slice none 0 0, .slice none 0 0], .int .i64 6]) rfl rfl) rfl ?_)
  refine wl rfl (oextract (vs := [.agg #[.bool false, .slice none 0 0, .slice none 0 0], .int .i64 6]) (v := .int .i64 6) rfl rfl (ev (v := .tuple #[.agg #[.bool false, .slice none 0 0, .slice none 0 0], .int .i64 6]) rfl rfl) rfl ?_)
  refine wl rfl (oalloc [.bool false, .slice none 0 0, .slice none 0 0] hS rfl rfl Try.zeroValue82 rfl ?_)
  clear hS; intro g4 w5 hS
  refine wl rfl (ostore [.bool false, .slice none 0 0, .slice none 0 0] [.bool false, .slice none 0 0, .slice none 0 0] Try.sizeOf82 hS 0 rfl rfl (ev rfl rfl) (ev (v := .agg #[.bool false, .slice none 0 0, .slice none 0 0]) rfl rfl) rfl rfl rfl rfl rfl rfl ?_)
  clear hS; intro w6 hS
  refine wl rfl (oassign (v := .int .i64 6) rfl rfl (ev (v := .int .i64 6) rfl rfl) ?_)
  refine wnil ?_
  refine thenN ?_
  refine wseq ?_
  refine wstageP 5 [12, 13, 14, 15, 16] [[], [0], [], [2], []] [[], [], [], [], []] [2, 3, 4] [(g4, [.bool false, .slice none 0 0, .slice none 0 0], 82)] (fun i9 => ([fun _ => Is (.pointer (some ⟨g4, 0, none⟩)), fun _ => Is (.agg #[.bool false, .slice none 0 0]), fun _ => Is (.pointer (some ⟨g4, 2, none⟩)), fun _ => Is (.slice none 0 0), fun _ => Is (.int .i64 6)] : List (List Value → Tell)).getD i9 (fun _ _ _ => False)) ((heldCons (hS.blkAt 0 rfl) heldNil)) (fun d _ _ _ _ h => (by cases d <;> exact h)) (by kernel_rfl) (by kernel_rfl) (by kernel_rfl) hS ?_ ?_
  ·
    refine stepsCons rfl ?_ ?_
    · intro Q f' w' ρ S ho hT hS hB
      exact .inl ⟨want_none rfl, ofieldAddr (g := g4) (off := 0) 0 rfl rfl (ev (v := .pointer (some ⟨g4, 0, none⟩)) rfl (ho 5 rfl)) Try.runUnderlying82 rfl Try.sizeOf25 rfl ⟨_, _, rfl, isI, New.same _⟩⟩
    refine stepsCons rfl ?_ ?_
    · intro Q f' w' ρ S ho hT hS hB
      obtain ⟨hv0, hr0⟩ := (hT 0 12 rfl rfl : (Is (.pointer (some ⟨g4, 0, none⟩))) (f' 12) (ρ 0))
      obtain hS := hS.flat1 hr0
      exact .inl ⟨want_none rfl, oload (vs := [.bool false, .slice none 0 0]) aggZ hS 0 rfl rfl (ev rfl hv0) rfl rfl rfl ⟨_, _, rfl, isI, New.same _⟩⟩
    refine stepsPure rfl ?_ ?_
    · intro f' ρ ho hT
      exact ⟨_, .inl ⟨want_none rfl, fun w hw => yfieldAddr (g := g4) (off := 0) 2 rfl (ev (v := .pointer (some ⟨g4, 0, none⟩)) rfl (ho 5 rfl)) Try.runUnderlying82 rfl Try.sizeOf40 rfl w⟩, isI⟩
    refine stepsPure rfl ?_ ?_
    · intro f' ρ ho hT
      obtain ⟨hv2, hr2⟩ := (hT 2 14 rfl rfl : (Is (.pointer (some ⟨g4, 2, none⟩))) (f' 14) (ρ 2))
      exact ⟨_, .inl ⟨want_none rfl, fun w hw => yload1 (v := .slice none 0 0) (show One Try.prog 40 from ⟨Try.isAgg40, Try.sizeOf40⟩) rfl (ev rfl hv2) (hw.at 0 rfl) rfl⟩, isI⟩
    refine stepsPure rfl ?_ ?_
    · intro f' ρ ho hT
      exact ⟨_, .inl ⟨want_none rfl, fun w hw => ymove (v := .int .i64 6) rfl (ev (v := .int .i64 6) rfl (ho 6 rfl)) w⟩, isI⟩
    exact stepsNil
  ·
    intro vs ρ w7 f' hf hT hS
    obtain ⟨hv0, hr0⟩ := (hT 0 (by decide) : (Is (.pointer (some ⟨g4, 0, none⟩))) (vs 0) (ρ 0))
    obtain ⟨hv1, hr1⟩ := (hT 1 (by decide) : (Is (.agg #[.bool false, .slice none 0 0])) (vs 1) (ρ 1))
    obtain ⟨hv2, hr2⟩ := (hT 2 (by decide) : (Is (.pointer (some ⟨g4, 2, none⟩))) (vs 2) (ρ 2))
    obtain ⟨hv3, hr3⟩ := (hT 3 (by decide) : (Is (.slice none 0 0)) (vs 3) (ρ 3))
    obtain ⟨hv4, hr4⟩ := (hT 4 (by decide) : (Is (.int .i64 6)) (vs 4) (ρ 4))
    simp only [pool, if_true, hr0, hr1, hr2, hr3, hr4, List.nil_append, List.cons_append, List.append_nil] at hS
    simp only [layf, hv0, hv1, hv2, hv3, hv4] at hf
    subst hf; clear hT hv0 hv1 hv2 hv3 hv4 hr0 hr1 hr2 hr3 hr4
    refine wlate 5 rfl (by kernel_rfl) (ostore [.bool false, .slice none 0 0] [.bool false, .slice none 0 0] Try.sizeOf25 hS 1 rfl rfl (ev rfl rfl) (ev (v := .agg #[.bool false, .slice none 0 0]) rfl rfl) rfl rfl rfl rfl rfl rfl ?_)
    clear hS; intro w8 hS
    refine ⟨(heldCons (hS.blkAt 0 rfl) heldNil), ?_⟩
    refine wlate 6 rfl (by kernel_rfl) (oassign (v := .slice none 0 0) rfl rfl (ev (v := .slice none 0 0) rfl rfl) ?_)
    refine ⟨(heldCons (hS.blkAt 0 rfl) heldNil), ?_⟩
    refine wlate 7 rfl (by kernel_rfl) (oassign (v := .int .i64 6) rfl rfl (ev (v := .int .i64 6) rfl rfl) ?_)
    refine ⟨(heldCons (hS.blkAt 0 rfl) heldNil), ?_⟩
    refine wdone rfl ?_
    refine thenN ?_
    refine wleave ?_
    refine wret3 Try.results18 (tellC (cs := [.bool false, .slice none 0 0]) aggZ hS 1 rfl rfl rfl rfl) (tellT (v := .slice none 0 0) rfl rfl) (tellT (v := .int .i64 6) rfl rfl) ?_
    exact ⟨_, _, rfl, isI, hS.new0⟩

set_option maxRecDepth 100000 in
set_option maxHeartbeats 16000000 in
theorem wqcommon {L : List (Int × Int)} {w : World} {pl : Option Addr} {m cl : Nat} (hl : Rs w pl m L 16777216) (hall : ∀ e ∈ L, e.2 ≠ 0) (hW : ∀ i, i ≤ m → Wd (facc lcmZ 1 (dens (lows L)) i) 4194304) :
    Calls Try.prog 23 #[.slice pl m cl] w (Ret (CQt (facc lcmZ 1 (dens (lows L)) m) (cnum (lows L) (facc lcmZ 1 (dens (lows L)) m)) m) w) := by
  have hS := Sep.init w
  refine went Try.func23 rfl (n := 41) rfl rfl ?_
  refine wseq ?_
  refine wreg ?_
  refine wl rfl (oalloc [.bool false, .slice none 0 0] hS rfl rfl Try.zeroValue25 rfl ?_)
  clear hS; intro g1 w2 hS
  refine wl rfl (oassign (v := .slice none 0 0) rfl rfl (evc (v := .slice none 0 0)) ?_)
  refine wnil ?_
  refine thenN ?_
  refine wseq ?_
  refine wreg ?_
  have hk1 : Wd 1 2 := Wd.i64 (by omega) (by omega)
  refine wl rfl (ocall rfl rfl Try.call60 rfl (wqof (z := 1) (by omega) (by omega)) (args1 evc) ?_)
  rintro _ w3 ⟨_, _, rfl, ⟨p1, n1, c1, rfl, rfl⟩, hN⟩
  refine ⟨_, rfl, ?_⟩
  replace hS := hS.news hN; clear hN
  refine wl rfl (oalloc [.bool false, .slice none 0 0] hS rfl rfl Try.zeroValue25 rfl ?_)
  clear hS; intro g4 w5 hS
  refine wl rfl (ostore [.bool (ng 1), .slice p1 n1 c1] [.bool (ng 1), .slice p1 n1 c1] Try.sizeOf25 hS 0 rfl rfl (ev rfl rfl) (ev (v := .agg #[.bool (ng 1), .slice p1 n1 c1]) rfl rfl) rfl rfl rfl rfl rfl rfl ?_)
  clear hS; intro w6 hS
  refine wnil ?_
  refine thenN ?_
  refine wseq ?_
  refine wseq ?_
  refine wreg ?_
  refine wl rfl (omove (v := .slice pl m cl) rfl rfl (ev (v := .slice pl m cl) rfl rfl) ?_)
  refine wl rfl (olen rfl rfl rfl Try.runUnderlying38 (p := pl) (k := m) (m := cl) (ev (v := .slice pl m cl) rfl rfl) ?_)
  refine wl rfl (omove (v := .int .i64 0) rfl rfl (evc (v := .int .i64 0)) ?_)
  refine wnil ?_
  refine thenN ?_
  refine wblock ?_
  refine wloop (σ := Nat) (fun i a w' => ∃ (fb : Nat → Value) (pza : Option Addr) (nza : Nat) (cza : Nat), a = act 41 (sets fb [(0, .slice pl m cl), (2, .pointer (some ⟨g1, 0, none⟩)), (3, .slice none 0 0), (4, .pointer (some ⟨g4, 0, none⟩)), (11, .slice pl m cl), (12, .int .i64 (((m : Nat) : Int))), (13, .int .i64 (((i : Nat) : Int)))]) ∧ Sep w [.blk g4 [.bool (ng ((facc lcmZ 1 (dens (lows L)) i))), .slice pza nza cza] 25, .row pza nza cza (lim ((facc lcmZ 1 (dens (lows L)) i)).natAbs), .blk g1 [.bool false, .slice none 0 0] 25] w' ∧ (i ≤ m) ∧ (Wd ((facc lcmZ 1 (dens (lows L)) i)) 4194304)) (fun i => m - i) (0) ⟨_, _, _, _, act_sets (l := [(0, .slice pl m cl), (2, .pointer (some ⟨g1, 0, none⟩)), (3, .slice none 0 0), (4, .pointer (some ⟨g4, 0, none⟩)), (11, .slice pl m cl), (12, .int .i64 (((m : Nat) : Int))), (13, .int .i64 0)]) ⟨rfl, rfl, rfl, rfl, rfl, rfl, rfl, trivial⟩, hS, Nat.zero_le _, (hk1).mono (by omega)⟩ ?_
  clear hS; rintro i _ w7 ⟨fb, pza, nza, cza, rfl, hS, hi, hkza⟩
  refine wseq ?_
  refine wreg ?_
  by_cases hlt : i < m
  ·
    refine wl rfl (obin (u := .int .i64 (((i : Nat) : Int))) (v := .int .i64 (((m : Nat) : Int))) (z := .bool true) rfl rfl (ev (v := .int .i64 (((i : Nat) : Int))) rfl rfl) (ev (v := .int .i64 (((m : Nat) : Int))) rfl rfl) (bin_lss (decide_eq_true (by omega))) ?_)
    refine wnil ?_
    refine thenN ?_
    refine wseq ?_
    refine wT (ev (v := .bool true) rfl rfl) ?_
    refine wskip ?_
    refine thenN ?_
    refine wseq ?_
    refine wblock ?_
    refine wseq ?_
    refine wreg ?_
    obtain ⟨e1, g1x, o1, bx, qx, nx, kx, by1, qy, ny, ky, hle, hp1, hc1, hzx, hzy⟩ := hl.el hlt
    refine wl rfl (oindex (p := pl) (g := g1x) (off := o1) (m := m) (k := i) (j := (o1 + i * 4)) rfl rfl Try.runUnderlying38 Try.sizeOf27 (ev (v := .slice pl m cl) rfl rfl) (hp1) (ev (v := .int .i64 (((i : Nat) : Int))) rfl rfl) (hlt) rfl ?_)
    refine wl rfl (oloadA (vs := [.bool bx, .slice qx nx kx, .bool by1, .slice qy ny ky]) aggR rfl rfl (ev (v := .pointer (some ⟨g1x, (o1 + i * 4), none⟩)) rfl rfl) (fun j v hj => hS.cellAt (hc1 j v hj)) rfl ?_)
    refine wl rfl (oalloc [.bool false, .slice none 0 0, .bool false, .slice none 0 0] hS rfl rfl Try.zeroValue27 rfl ?_)
    clear hS; intro g8 w9 hS
    refine wl rfl (ostore [.bool bx, .slice qx nx kx, .bool by1, .slice qy ny ky] [.bool bx, .slice qx nx kx, .bool by1, .slice qy ny ky] Try.sizeOf27 hS 0 rfl rfl (ev rfl rfl) (ev (v := .agg #[.bool bx, .slice qx nx kx, .bool by1, .slice qy ny ky]) rfl rfl) rfl rfl rfl rfl rfl rfl ?_)
    clear hS; intro w10 hS
    refine wnil ?_
    refine thenN ?_
    have h0 := hall e1 (List.mem_of_getElem? hle)
    obtain ⟨z2, hz2⟩ : ∃ z : Int, Hid (RN e1.1 e1.2 = z) := ⟨_, rfl⟩
    have hk2 : Wd z2 16777216 := Wd.rn hzx.wd hz2
    obtain ⟨z3, hz3⟩ : ∃ z : Int, Hid (RD e1.1 e1.2 = z) := ⟨_, rfl⟩
    have hk3 : Wd z3 16777216 := Wd.rd hzy.wd hz3
    obtain ⟨z4, hz4⟩ : ∃ z : Int, Hid ((Int.lcm ((facc lcmZ 1 (dens (lows L)) i)) z3 : Int) = z) := ⟨_, rfl⟩
    have hk4 : Wd z4 20971520 := Wd.lcm hkza hk3 hz4 (by omega)
    refine wstage 6 [17, 18, 19, 20, 21, 22] [[], [], [1], [2, 1], [0, 2, 3, 1], [2, 4, 0, 1, 3]] [[], [], [], [2], [2], []] [] [] (fun i9 => ([fun _ => Is (.agg #[.bool (ng ((facc lcmZ 1 (dens (lows L)) i))), .slice pza nza cza]), fun _ => Is (.agg #[.bool bx, .slice qx nx kx, .bool by1, .slice qy ny ky]), fun _ => Rrt z2 z3, fun us => Is (.agg #[.bool (ng z3), (vat (us.getD 0 undef) [3])]), fun us => Slb [.bool (ng ((facc lcmZ 1 (dens (lows L)) i))), .slice pza nza cza, .bool (ng z3), (vat (us.getD 0 undef) [3])] 25 2, fun _ => Zt z4] : List (List Value → Tell)).getD i9 (fun _ _ _ => False)) (heldNil) (fun d _ _ _ _ h => (by cases d <;> exact h)) (by kernel_rfl) (by kernel_rfl) (by kernel_rfl) hS ?_ ?_
    ·
      refine stepsCons rfl ?_ ?_
      · intro Q f' w' ρ S ho hT hS hB
        exact .inl ⟨want_none rfl, oload (vs := [.bool (ng ((facc lcmZ 1 (dens (lows L)) i))), .slice pza nza cza]) aggZ hS 1 rfl rfl (ev rfl (ho 4 rfl)) rfl rfl rfl ⟨_, _, rfl, isI, New.same _⟩⟩
      refine stepsCons rfl ?_ ?_
      · intro Q f' w' ρ S ho hT hS hB
        exact .inl ⟨want_none rfl, oload (vs := [.bool bx, .slice qx nx kx, .bool by1, .slice qy ny ky]) aggR hS 0 rfl rfl (ev rfl (ho 6 rfl)) rfl rfl rfl ⟨_, _, rfl, isI, New.same _⟩⟩
      refine stepsCons rfl ?_ ?_
      · intro Q f' w' ρ S ho hT hS hB
        obtain ⟨hv1, hr1⟩ := (hT 1 18 rfl rfl : (Is (.agg #[.bool bx, .slice qx nx kx, .bool by1, .slice qy ny ky])) (f' 18) (ρ 1))
        obtain hS := hS.flat1 hr1
        refine .inl ⟨want_none rfl, ocall rfl rfl Try.call37 rfl ((wsnorm ((hzx.at hS).mono (by omega)) ((hzy.at hS).mono (by omega)) (h0) hz2 hz3)) (args1 (ev rfl hv1)) ?_⟩
        rintro _ w9 ⟨_, _, rfl, hTT, hN⟩
        exact ⟨_, rfl, _, _, rfl, hTT, hN⟩
      refine stepsCons rfl ?_ ?_
      · intro Q f' w' ρ S ho hT hS hB
        obtain ⟨p2, n2, c2, p3, n3, c3, hv2, hr2⟩ := (hT 2 19 rfl rfl : (Rrt z2 z3) (f' 19) (ρ 2))
        obtain hS := hS.flat1 hr2
        have hQ : (.agg #[.bool (ng z3), .slice p3 n3 c3] : Value) = (fun (us : List Value) => (.agg #[.bool (ng z3), (vat (us.getD 0 undef) [3])] : Value)) [f' 19] := by show _ = (.agg #[.bool (ng z3), (vat (f' 19) [3])] : Value); rw [hv2]; rfl
        exact .inl ⟨want_none rfl, ofield (sz := 0) (vs := []) (fs := #[]) (fd := default) (cs := [.bool (ng z2), .slice p2 n2 c2, .bool (ng z3), .slice p3 n3 c3]) (v := .agg #[.bool (ng z3), .slice p3 n3 c3]) rfl rfl (ev (v := .agg #[.bool (ng z2), .slice p2 n2 c2, .bool (ng z3), .slice p3 n3 c3]) rfl hv2) (run_field_agg Try.runUnderlying27 rfl aggZ rfl) ⟨_, _, rfl, ⟨hQ, rfl⟩, New.same _⟩⟩
      refine stepsCons rfl ?_ ?_
      · intro Q f' w' ρ S ho hT hS hB
        obtain ⟨hv0, hr0⟩ := (hT 0 17 rfl rfl : (Is (.agg #[.bool (ng ((facc lcmZ 1 (dens (lows L)) i))), .slice pza nza cza])) (f' 17) (ρ 0))
        obtain ⟨p2, n2, c2, p3, n3, c3, hv2, hr2⟩ := (hT 2 19 rfl rfl : (Rrt z2 z3) (f' 19) (ρ 2))
        obtain ⟨hv3, hr3⟩ := (hT 3 20 rfl rfl : (fun (us : List Value) => Is (.agg #[.bool (ng z3), (vat (us.getD 0 undef) [3])])) [f' 19] (f' 20) (ρ 3))
        replace hv3 : f' 20 = .agg #[.bool (ng z3), .slice p3 n3 c3] := hv3.trans (by show (.agg #[.bool (ng z3), (vat (f' 19) [3])] : Value) = _; rw [hv2]; rfl)
        obtain hS := hS.flat3 hr0 hr2 hr3
        have hQ : ([.bool (ng ((facc lcmZ 1 (dens (lows L)) i))), .slice pza nza cza, .bool (ng z3), .slice p3 n3 c3] : List Value) = (fun (us : List Value) => ([.bool (ng ((facc lcmZ 1 (dens (lows L)) i))), .slice pza nza cza, .bool (ng z3), (vat (us.getD 0 undef) [3])] : List Value)) [f' 19] := by show _ = ([.bool (ng ((facc lcmZ 1 (dens (lows L)) i))), .slice pza nza cza, .bool (ng z3), (vat (f' 19) [3])] : List Value); rw [hv2]; rfl
        exact .inl ⟨want_none rfl, obsliceN (ps := #[(0, .agg #[.bool (ng ((facc lcmZ 1 (dens (lows L)) i))), .slice pza nza cza]), (1, .agg #[.bool (ng z3), .slice p3 n3 c3])]) (z := .agg #[.bool false, .slice none 0 0]) [.bool (ng ((facc lcmZ 1 (dens (lows L)) i))), .slice pza nza cza, .bool (ng z3), .slice p3 n3 c3] rfl rfl Try.runUnderlying40 Try.sizeOf25 Try.zeroValue25 (parts2 (ev (v := .agg #[.bool (ng ((facc lcmZ 1 (dens (lows L)) i))), .slice pza nza cza]) rfl hv0) (ev (v := .agg #[.bool (ng z3), .slice p3 n3 c3]) rfl hv3)) rfl (by decide) fill2 ⟨_, _, rfl, ⟨_, rfl, congrArg (fun l => [Res.blk _ l _]) hQ⟩, New.blk _ _ _⟩⟩
      refine stepsCons rfl ?_ ?_
      · intro Q f' w' ρ S ho hT hS hB
        obtain ⟨p2, n2, c2, p3, n3, c3, hv2, hr2⟩ := (hT 2 19 rfl rfl : (Rrt z2 z3) (f' 19) (ρ 2))
        obtain ⟨g11, hv4, hr4⟩ := (hT 4 21 rfl rfl : (fun (us : List Value) => Slb [.bool (ng ((facc lcmZ 1 (dens (lows L)) i))), .slice pza nza cza, .bool (ng z3), (vat (us.getD 0 undef) [3])] 25 2) [f' 19] (f' 21) (ρ 4))
        replace hr4 : ρ 4 = [.blk g11 [.bool (ng ((facc lcmZ 1 (dens (lows L)) i))), .slice pza nza cza, .bool (ng z3), .slice p3 n3 c3] 25] := hr4.trans (by show ([.blk g11 [.bool (ng ((facc lcmZ 1 (dens (lows L)) i))), .slice pza nza cza, .bool (ng z3), (vat (f' 19) [3])] 25] : List Res) = _; rw [hv2]; rfl)
        obtain hS := hS.flat2 hr2 hr4
        refine .inl ⟨want_none rfl, ocall rfl rfl Try.call71 rfl ((wqLcm_two (hS.blkAt 6 rfl) (((hS.sl 2 rfl).zr hkza).mono (by omega)) (((hS.slm 5 rfl).zr hk3).mono (by omega)) hkza hk3 hz4)) (args1 (ev rfl hv4)) ?_⟩
        rintro _ w9 ⟨_, _, rfl, hTT, hN⟩
        exact ⟨_, rfl, _, _, rfl, hTT, hN⟩
      exact stepsNil
    ·
      intro vs ρ w12 f' hf hT hS
      obtain ⟨hv0, hr0⟩ := (hT 0 (by decide) : (Is (.agg #[.bool (ng ((facc lcmZ 1 (dens (lows L)) i))), .slice pza nza cza])) (vs 0) (ρ 0))
      obtain ⟨hv1, hr1⟩ := (hT 1 (by decide) : (Is (.agg #[.bool bx, .slice qx nx kx, .bool by1, .slice qy ny ky])) (vs 1) (ρ 1))
      obtain ⟨p2, n2, c2, p3, n3, c3, hv2, hr2⟩ := (hT 2 (by decide) : (Rrt z2 z3) (vs 2) (ρ 2))
      obtain ⟨hv3, hr3⟩ := (hT 3 (by decide) : (fun (us : List Value) => Is (.agg #[.bool (ng z3), (vat (us.getD 0 undef) [3])])) [vs 2] (vs 3) (ρ 3))
      replace hv3 : vs 3 = .agg #[.bool (ng z3), .slice p3 n3 c3] := hv3.trans (by show (.agg #[.bool (ng z3), (vat (vs 2) [3])] : Value) = _; rw [hv2]; rfl)
      obtain ⟨g11, hv4, hr4⟩ := (hT 4 (by decide) : (fun (us : List Value) => Slb [.bool (ng ((facc lcmZ 1 (dens (lows L)) i))), .slice pza nza cza, .bool (ng z3), (vat (us.getD 0 undef) [3])] 25 2) [vs 2] (vs 4) (ρ 4))
      replace hr4 : ρ 4 = [.blk g11 [.bool (ng ((facc lcmZ 1 (dens (lows L)) i))), .slice pza nza cza, .bool (ng z3), .slice p3 n3 c3] 25] := hr4.trans (by show ([.blk g11 [.bool (ng ((facc lcmZ 1 (dens (lows L)) i))), .slice pza nza cza, .bool (ng z3), (vat (vs 2) [3])] 25] : List Res) = _; rw [hv2]; rfl)
      obtain ⟨p4, n4, c4, hv5, hr5⟩ := (hT 5 (by decide) : (Zt z4) (vs 5) (ρ 5))
      simp only [pool, if_true, hr0, hr1, hr2, hr3, hr4, hr5, List.nil_append, List.cons_append, List.append_nil] at hS
      simp only [layf, hv0, hv1, hv2, hv3, hv4, hv5] at hf
      subst hf; clear hT hv0 hv1 hv2 hv3 hv4 hv5 hr0 hr1 hr2 hr3 hr4 hr5
      refine wlate 6 rfl (by kernel_rfl) (ostore [.bool (ng z4), .slice p4 n4 c4] [.bool (ng z4), .slice p4 n4 c4] Try.sizeOf25 hS 5 rfl rfl (ev rfl rfl) (ev (v := .agg #[.bool (ng z4), .slice p4 n4 c4]) rfl rfl) rfl rfl rfl rfl rfl rfl ?_)
      clear hS; intro w13 hS
      refine ⟨heldNil, ?_⟩
      refine wdone rfl ?_
      refine blkN ?_
      refine thenN ?_
      refine wreg ?_
      obtain rfl : (facc lcmZ 1 (dens (lows L)) (i + 1)) = z4 := (facc_succ (dens_at (low_at hle))).trans (by show lcmZ _ (RD e1.1 e1.2) = _; rw [hz3.out]; exact hz4.out)
      refine wl rfl (obin (u := .int .i64 (((i : Nat) : Int))) (v := .int .i64 1) (z := .int .i64 (((i + 1 : Nat) : Int))) rfl rfl (ev (v := .int .i64 (((i : Nat) : Int))) rfl rfl) (evc (v := .int .i64 1)) (bin_add (wrap_succ (by have := hl.2.1; omega))) ?_)
      refine wl rfl (omove (v := .int .i64 (((i + 1 : Nat) : Int))) rfl rfl (ev (v := .int .i64 (((i + 1 : Nat) : Int))) rfl rfl) ?_)
      refine wnil ?_
      refine thenN ?_
      exact ⟨(i + 1), ⟨_, _, _, _, act_sets (l := [(0, .slice pl m cl), (2, .pointer (some ⟨g1, 0, none⟩)), (3, .slice none 0 0), (4, .pointer (some ⟨g4, 0, none⟩)), (11, .slice pl m cl), (12, .int .i64 (((m : Nat) : Int))), (13, .int .i64 (((i + 1 : Nat) : Int)))]) ⟨rfl, rfl, rfl, rfl, rfl, rfl, rfl, trivial⟩, hS.pick [5, 0, 7] (by decide) rfl, by omega, hW _ (by omega)⟩, by omega⟩
  ·
    refine wl rfl (obin (u := .int .i64 (((i : Nat) : Int))) (v := .int .i64 (((m : Nat) : Int))) (z := .bool false) rfl rfl (ev (v := .int .i64 (((i : Nat) : Int))) rfl rfl) (ev (v := .int .i64 (((m : Nat) : Int))) rfl rfl) (bin_lss (decide_eq_false (by omega))) ?_)
    refine wnil ?_
    refine thenN ?_
    refine wseq ?_
    refine wF (ev (v := .bool false) rfl rfl) ?_
    refine wexit ?_
    refine thenE ?_
    refine thenE ?_
    refine blkE ?_
    refine thenN ?_
    refine wseq ?_
    refine wreg ?_
    refine wl rfl (oassign (v := .slice none 0 0) rfl rfl (evc (v := .slice none 0 0)) ?_)
    refine wnil ?_
    refine thenN ?_
    refine wseq ?_
    refine wseq ?_
    refine wreg ?_
    refine wl rfl (omove (v := .slice pl m cl) rfl rfl (ev (v := .slice pl m cl) rfl rfl) ?_)
    refine wl rfl (olen rfl rfl rfl Try.runUnderlying38 (p := pl) (k := m) (m := cl) (ev (v := .slice pl m cl) rfl rfl) ?_)
    refine wl rfl (omove (v := .int .i64 0) rfl rfl (evc (v := .int .i64 0)) ?_)
    refine wnil ?_
    refine thenN ?_
    refine wblock ?_
    have him : i = m := by omega
    obtain ⟨den, hden⟩ : ∃ d, d = (facc lcmZ 1 (dens (lows L)) m) := ⟨_, rfl⟩
    rw [him, ← hden] at hS hkza
    obtain hS := hS.nilLst (e := 25) (sz := 2)
    refine wloop (σ := Nat) (fun j a w' => ∃ (fb : Nat → Value) (es : List El) (pn : Option Addr) (cn : Nat), a = act 41 (sets fb [(2, .pointer (some ⟨g1, 0, none⟩)), (3, .slice none 0 0), (4, .pointer (some ⟨g4, 0, none⟩)), (7, .slice pn j cn), (24, .slice pl m cl), (25, .int .i64 (((m : Nat) : Int))), (26, .int .i64 (((j : Nat) : Int)))]) ∧ Sep w [.lst 25 2 pn j cn es, .blk g4 [.bool (ng den), .slice pza nza cza] 25, .row pza nza cza (lim den.natAbs), .blk g1 [.bool false, .slice none 0 0] 25] w' ∧ (j ≤ m) ∧ (NEls (cnum (lows L) den) j es)) (fun j => m - j) (0) ⟨_, _, _, _, act_sets (l := [(2, .pointer (some ⟨g1, 0, none⟩)), (3, .slice none 0 0), (4, .pointer (some ⟨g4, 0, none⟩)), (7, .slice none 0 0), (24, .slice pl m cl), (25, .int .i64 (((m : Nat) : Int))), (26, .int .i64 0)]) ⟨rfl, rfl, rfl, rfl, rfl, rfl, rfl, trivial⟩, hS, Nat.zero_le _, NEls.nil _⟩ ?_
    clear hS; rintro j _ w8 ⟨fb, es, pn, cn, rfl, hS, hj, hes⟩
    refine wseq ?_
    refine wreg ?_
    by_cases hlt2 : j < m
    ·
      refine wl rfl (obin (u := .int .i64 (((j : Nat) : Int))) (v := .int .i64 (((m : Nat) : Int))) (z := .bool true) rfl rfl (ev (v := .int .i64 (((j : Nat) : Int))) rfl rfl) (ev (v := .int .i64 (((m : Nat) : Int))) rfl rfl) (bin_lss (decide_eq_true (by omega))) ?_)
      refine wnil ?_
      refine thenN ?_
      refine wseq ?_
      refine wT (ev (v := .bool true) rfl rfl) ?_
      refine wskip ?_
      refine thenN ?_
      refine wseq ?_
      refine wblock ?_
      refine wseq ?_
      refine wreg ?_
      obtain ⟨e1, g1x, o1, bx, qx, nx, kx, by1, qy, ny, ky, hle, hp1, hc1, hzx, hzy⟩ := hl.el hlt2
      refine wl rfl (oindex (p := pl) (g := g1x) (off := o1) (m := m) (k := j) (j := (o1 + j * 4)) rfl rfl Try.runUnderlying38 Try.sizeOf27 (ev (v := .slice pl m cl) rfl rfl) (hp1) (ev (v := .int .i64 (((j : Nat) : Int))) rfl rfl) (hlt2) rfl ?_)
      refine wl rfl (oloadA (vs := [.bool bx, .slice qx nx kx, .bool by1, .slice qy ny ky]) aggR rfl rfl (ev (v := .pointer (some ⟨g1x, (o1 + j * 4), none⟩)) rfl rfl) (fun j v hj => hS.cellAt (hc1 j v hj)) rfl ?_)
      refine wl rfl (oalloc [.bool false, .slice none 0 0, .bool false, .slice none 0 0] hS rfl rfl Try.zeroValue27 rfl ?_)
      clear hS; intro g9 w10 hS
      refine wl rfl (ostore [.bool bx, .slice qx nx kx, .bool by1, .slice qy ny ky] [.bool bx, .slice qx nx kx, .bool by1, .slice qy ny ky] Try.sizeOf27 hS 0 rfl rfl (ev rfl rfl) (ev (v := .agg #[.bool bx, .slice qx nx kx, .bool by1, .slice qy ny ky]) rfl rfl) rfl rfl rfl rfl rfl rfl ?_)
      clear hS; intro w11 hS
      refine wnil ?_
      refine thenN ?_
      have hk2 : Wd den 4194304 := hkza
      have hk3 : Wd 1 2 := Wd.i64 (by omega) (by omega)
      have h0 := hall e1 (List.mem_of_getElem? hle)
      obtain ⟨z4, hz4⟩ : ∃ z : Int, Hid (RN (e1.1 * den) (e1.2 * 1) = z) := ⟨_, rfl⟩
      have hk4 : Wd z4 20971520 := Wd.rn (Wd.mul (m := 20971520) hzx.wd hk2 rfl (by omega)) hz4
      obtain ⟨z5, hz5⟩ : ∃ z : Int, Hid (RD (e1.1 * den) (e1.2 * 1) = z) := ⟨_, rfl⟩
      have hk5 : Wd z5 16777218 := Wd.rd (Wd.mul (m := 16777218) hzy.wd hk3 rfl (by omega)) hz5
      refine wstage 7 [30, 31, 32, 33, 34, 35, 36] [[], [], [], [2], [1, 3, 2], [4, 1, 2, 3], [4, 5, 1, 2, 3]] [[], [], [], [], [], [4], [4]] [] [] (fun i9 => ([fun _ => Is (.slice pn j cn), fun _ => Is (.agg #[.bool bx, .slice qx nx kx, .bool by1, .slice qy ny ky]), fun _ => Is (.agg #[.bool (ng den), .slice pza nza cza]), fun _ => Rrt den 1, fun _ => Rrt z4 z5, fun us => Is (.agg #[.bool (ng z4), (vat (us.getD 0 undef) [1])]), fun us => Slb [.bool (ng z4), (vat (us.getD 0 undef) [1])] 25 1] : List (List Value → Tell)).getD i9 (fun _ _ _ => False)) (heldNil) (fun d _ _ _ _ h => (by cases d <;> exact h)) (by kernel_rfl) (by kernel_rfl) (by kernel_rfl) hS ?_ ?_
      ·
        refine stepsCons rfl ?_ ?_
        · intro Q f' w' ρ S ho hT hS hB
          exact .inl ⟨want_none rfl, omove (v := .slice pn j cn) rfl rfl (ev (v := .slice pn j cn) rfl (ho 7 rfl)) ⟨_, _, rfl, isI, New.same _⟩⟩
        refine stepsCons rfl ?_ ?_
        · intro Q f' w' ρ S ho hT hS hB
          exact .inl ⟨want_none rfl, oload (vs := [.bool bx, .slice qx nx kx, .bool by1, .slice qy ny ky]) aggR hS 0 rfl rfl (ev rfl (ho 9 rfl)) rfl rfl rfl ⟨_, _, rfl, isI, New.same _⟩⟩
        refine stepsCons rfl ?_ ?_
        · intro Q f' w' ρ S ho hT hS hB
          exact .inl ⟨want_none rfl, oload (vs := [.bool (ng den), .slice pza nza cza]) aggZ hS 2 rfl rfl (ev rfl (ho 4 rfl)) rfl rfl rfl ⟨_, _, rfl, isI, New.same _⟩⟩
        refine stepsCons rfl ?_ ?_
        · intro Q f' w' ρ S ho hT hS hB
          obtain ⟨hv2, hr2⟩ := (hT 2 32 rfl rfl : (Is (.agg #[.bool (ng den), .slice pza nza cza])) (f' 32) (ρ 2))
          obtain hS := hS.flat1 hr2
          refine .inl ⟨want_none rfl, ocall rfl rfl Try.call72 rfl (wsint (((hS.sl 3 rfl).zr hkza).mono (by omega))) (args1 (ev rfl hv2)) ?_⟩
          rintro _ w9 ⟨_, _, rfl, hTT, hN⟩
          exact ⟨_, rfl, _, _, rfl, hTT, hN⟩
        refine stepsCons rfl ?_ ?_
        · intro Q f' w' ρ S ho hT hS hB
          obtain ⟨hv1, hr1⟩ := (hT 1 31 rfl rfl : (Is (.agg #[.bool bx, .slice qx nx kx, .bool by1, .slice qy ny ky])) (f' 31) (ρ 1))
          obtain ⟨p2, n2, c2, p3, n3, c3, hv3, hr3⟩ := (hT 3 33 rfl rfl : (Rrt den 1) (f' 33) (ρ 3))
          obtain hS := hS.flat2 hr1 hr3
          refine .inl ⟨want_none rfl, ocall rfl rfl Try.call36 rfl (wsmul (hzx.at hS) (hzy.at hS) (((hS.slm 5 rfl).zr hk2).mono (by omega)) (((hS.slm 6 rfl).zr hk3).mono (by omega)) (h0) (by omega) hz4 hz5) (args2 (ev rfl hv1) (ev rfl hv3)) ?_⟩
          rintro _ w9 ⟨_, _, rfl, hTT, hN⟩
          exact ⟨_, rfl, _, _, rfl, hTT, hN⟩
        refine stepsCons rfl ?_ ?_
        · intro Q f' w' ρ S ho hT hS hB
          obtain ⟨p4, n4, c4, p5, n5, c5, hv4, hr4⟩ := (hT 4 34 rfl rfl : (Rrt z4 z5) (f' 34) (ρ 4))
          obtain hS := hS.flat1 hr4
          have hQ : (.agg #[.bool (ng z4), .slice p4 n4 c4] : Value) = (fun (us : List Value) => (.agg #[.bool (ng z4), (vat (us.getD 0 undef) [1])] : Value)) [f' 34] := by show _ = (.agg #[.bool (ng z4), (vat (f' 34) [1])] : Value); rw [hv4]; rfl
          exact .inl ⟨want_none rfl, ofield (sz := 0) (vs := []) (fs := #[]) (fd := default) (cs := [.bool (ng z4), .slice p4 n4 c4, .bool (ng z5), .slice p5 n5 c5]) (v := .agg #[.bool (ng z4), .slice p4 n4 c4]) rfl rfl (ev (v := .agg #[.bool (ng z4), .slice p4 n4 c4, .bool (ng z5), .slice p5 n5 c5]) rfl hv4) (run_field_agg Try.runUnderlying27 rfl aggZ rfl) ⟨_, _, rfl, ⟨hQ, rfl⟩, New.same _⟩⟩
        refine stepsCons rfl ?_ ?_
        · intro Q f' w' ρ S ho hT hS hB
          obtain ⟨p4, n4, c4, p5, n5, c5, hv4, hr4⟩ := (hT 4 34 rfl rfl : (Rrt z4 z5) (f' 34) (ρ 4))
          obtain ⟨hv5, hr5⟩ := (hT 5 35 rfl rfl : (fun (us : List Value) => Is (.agg #[.bool (ng z4), (vat (us.getD 0 undef) [1])])) [f' 34] (f' 35) (ρ 5))
          replace hv5 : f' 35 = .agg #[.bool (ng z4), .slice p4 n4 c4] := hv5.trans (by show (.agg #[.bool (ng z4), (vat (f' 34) [1])] : Value) = _; rw [hv4]; rfl)
          obtain hS := hS.flat2 hr4 hr5
          have hQ : ([.bool (ng z4), .slice p4 n4 c4] : List Value) = (fun (us : List Value) => ([.bool (ng z4), (vat (us.getD 0 undef) [1])] : List Value)) [f' 34] := by show _ = ([.bool (ng z4), (vat (f' 34) [1])] : List Value); rw [hv4]; rfl
          exact .inl ⟨want_none rfl, obsliceN (ps := #[(0, .agg #[.bool (ng z4), .slice p4 n4 c4])]) (z := .agg #[.bool false, .slice none 0 0]) [.bool (ng z4), .slice p4 n4 c4] rfl rfl Try.runUnderlying40 Try.sizeOf25 Try.zeroValue25 (parts1 (ev (v := .agg #[.bool (ng z4), .slice p4 n4 c4]) rfl hv5)) rfl (by decide) fill2_1 ⟨_, _, rfl, ⟨_, rfl, congrArg (fun l => [Res.blk _ l _]) hQ⟩, New.blk _ _ _⟩⟩
        exact stepsNil
      ·
        intro vs ρ w13 f' hf hT hS
        obtain ⟨hv0, hr0⟩ := (hT 0 (by decide) : (Is (.slice pn j cn)) (vs 0) (ρ 0))
        obtain ⟨hv1, hr1⟩ := (hT 1 (by decide) : (Is (.agg #[.bool bx, .slice qx nx kx, .bool by1, .slice qy ny ky])) (vs 1) (ρ 1))
        obtain ⟨hv2, hr2⟩ := (hT 2 (by decide) : (Is (.agg #[.bool (ng den), .slice pza nza cza])) (vs 2) (ρ 2))
        obtain ⟨p2, n2, c2, p3, n3, c3, hv3, hr3⟩ := (hT 3 (by decide) : (Rrt den 1) (vs 3) (ρ 3))
        obtain ⟨p4, n4, c4, p5, n5, c5, hv4, hr4⟩ := (hT 4 (by decide) : (Rrt z4 z5) (vs 4) (ρ 4))
        obtain ⟨hv5, hr5⟩ := (hT 5 (by decide) : (fun (us : List Value) => Is (.agg #[.bool (ng z4), (vat (us.getD 0 undef) [1])])) [vs 4] (vs 5) (ρ 5))
        replace hv5 : vs 5 = .agg #[.bool (ng z4), .slice p4 n4 c4] := hv5.trans (by show (.agg #[.bool (ng z4), (vat (vs 4) [1])] : Value) = _; rw [hv4]; rfl)
        obtain ⟨g12, hv6, hr6⟩ := (hT 6 (by decide) : (fun (us : List Value) => Slb [.bool (ng z4), (vat (us.getD 0 undef) [1])] 25 1) [vs 4] (vs 6) (ρ 6))
        replace hr6 : ρ 6 = [.blk g12 [.bool (ng z4), .slice p4 n4 c4] 25] := hr6.trans (by show ([.blk g12 [.bool (ng z4), (vat (vs 4) [1])] 25] : List Res) = _; rw [hv4]; rfl)
        simp only [pool, if_true, hr0, hr1, hr2, hr3, hr4, hr5, hr6, List.nil_append, List.cons_append, List.append_nil] at hS
        simp only [layf, hv0, hv1, hv2, hv3, hv4, hv5, hv6] at hf
        subst hf; clear hT hv0 hv1 hv2 hv3 hv4 hv5 hv6 hr0 hr1 hr2 hr3 hr4 hr5 hr6
        obtain hS := (show Sep w [.rowm p4 n4 c4 (lim z4.natAbs), .lst 25 2 pn j cn es, .blk g12 [.bool (ng z4), .slice p4 n4 c4] 25, .rowm p5 n5 c5 (lim z5.natAbs), .rowm p2 n2 c2 (lim den.natAbs), .rowm p3 n3 c3 (lim (1 : Int).natAbs), .blk g9 [.bool bx, .slice qx nx kx, .bool by1, .slice qy ny ky] 27, .blk g4 [.bool (ng den), .slice pza nza cza] 25, .row pza nza cza (lim den.natAbs), .blk g1 [.bool false, .slice none 0 0] 25] w13 from hS.pick [1, 6, 0, 2, 3, 4, 5, 7, 8, 9] (by decide) rfl)
        refine wlate 7 rfl (by kernel_rfl) (oappendL (p := pn) (m := j) (c := cn) (g2 := g12) (c2 := 1) (off := 0) [.bool (ng z4), .slice p4 n4 c4] [.rowm p4 n4 c4 (lim z4.natAbs)] hS rfl rfl Try.underlying40 infoInt rfl (by decide) (ev (v := .slice pn j cn) rfl rfl) (ev (v := .slice (some ⟨g12, 0, none⟩) 1 1) rfl rfl) (fun j v hj => by rw [Nat.zero_add]; exact (blk_cell (hS.blkAt 2 rfl) j).trans hj) rfl rfl rfl (by have := hl.2.1; omega) (by have := hl.2.1; omega) ?_)
        clear hS; intro p15 c16 w14 hS
        refine ⟨heldNil, ?_⟩
        refine wlate 8 rfl (by kernel_rfl) (oassign (v := .slice p15 ((j + 1)) c16) rfl rfl (ev (v := .slice p15 ((j + 1)) c16) rfl rfl) ?_)
        refine ⟨heldNil, ?_⟩
        refine wdone rfl ?_
        refine blkN ?_
        refine thenN ?_
        refine wreg ?_
        refine wl rfl (obin (u := .int .i64 (((j : Nat) : Int))) (v := .int .i64 1) (z := .int .i64 (((j + 1 : Nat) : Int))) rfl rfl (ev (v := .int .i64 (((j : Nat) : Int))) rfl rfl) (evc (v := .int .i64 1)) (bin_add (wrap_succ (by have := hl.2.1; omega))) ?_)
        refine wl rfl (omove (v := .int .i64 (((j + 1 : Nat) : Int))) rfl rfl (ev (v := .int .i64 (((j + 1 : Nat) : Int))) rfl rfl) ?_)
        refine wnil ?_
        refine thenN ?_
        exact ⟨(j + 1), ⟨_, _, _, _, act_sets (l := [(2, .pointer (some ⟨g1, 0, none⟩)), (3, .slice none 0 0), (4, .pointer (some ⟨g4, 0, none⟩)), (7, .slice p15 ((j + 1)) c16), (24, .slice pl m cl), (25, .int .i64 (((m : Nat) : Int))), (26, .int .i64 (((j + 1 : Nat) : Int)))]) ⟨rfl, rfl, rfl, rfl, rfl, rfl, rfl, trivial⟩, hS.pick [0, 6, 7, 8] (by decide) rfl, by omega, hes.app (by rw [cnum_at (low_at hle), ← hz4.out]; exact lcm_low h0 (by rw [hden]; exact facc_lcm_mod (dens_at (low_at hle)) hlt2)) _ _ _⟩, by omega⟩
    ·
      refine wl rfl (obin (u := .int .i64 (((j : Nat) : Int))) (v := .int .i64 (((m : Nat) : Int))) (z := .bool false) rfl rfl (ev (v := .int .i64 (((j : Nat) : Int))) rfl rfl) (ev (v := .int .i64 (((m : Nat) : Int))) rfl rfl) (bin_lss (decide_eq_false (by omega))) ?_)
      refine wnil ?_
      refine thenN ?_
      refine wseq ?_
      refine wF (ev (v := .bool false) rfl rfl) ?_
      refine wexit ?_
      refine thenE ?_
      refine thenE ?_
      refine blkE ?_
      refine thenN ?_
      refine wseq ?_
      refine wreg ?_
      refine wl rfl (oload (vs := [.bool (ng den), .slice pza nza cza]) aggZ hS 1 rfl rfl (ev rfl rfl) rfl rfl rfl ?_)
      refine wl rfl (omove (v := .slice pn j cn) rfl rfl (ev (v := .slice pn j cn) rfl rfl) ?_)
      refine wl rfl (ostore [.bool (ng den), .slice pza nza cza] [.bool (ng den), .slice pza nza cza] Try.sizeOf25 hS 3 rfl rfl (ev rfl rfl) (ev (v := .agg #[.bool (ng den), .slice pza nza cza]) rfl rfl) rfl rfl rfl rfl rfl rfl ?_)
      clear hS; intro w9 hS
      refine wl rfl (oassign (v := .slice pn j cn) rfl rfl (ev (v := .slice pn j cn) rfl rfl) ?_)
      refine wnil ?_
      refine thenN ?_
      refine wleave ?_
      refine wret2 Try.results23 (tellC (cs := [.bool (ng den), .slice pza nza cza]) aggZ hS 3 rfl rfl rfl rfl) (tellT (v := .slice pn j cn) rfl rfl) ?_
      obtain rfl : j = m := by omega
      subst hden
      exact ⟨_, _, rfl, ⟨_, _, _, _, _, _, hes, rfl, rfl⟩, hS.newM [2, 0] (by decide) rfl rfl⟩

end Go.Proofs.Ytoinfkimlhhmpaa
