
/-
  rat's Pow and the document's.
-/
import Derived.Test.YtoinfkimlhhmpaaRatPow0
set_option linter.unusedVariables false
set_option linter.unusedSimpArgs false
namespace Go.Proofs.Ytoinfkimlhhmpaa
open Go.RowKit

section
variable {P : Program} {o : Oper} {n : Nat} {f : Nat → Value} {w w0 : World} {R : List Res} {K : Act → World → Prop} {Q : Exit → Act → World → Prop} {d : Nat}
theorem omakeFunc {F : FuncId} {xs : Array Operand} {cs : Array Value} (hop : o.op = .makeFunc (.func F) #[] xs) (ho : o.dst = some d) (hx : xs.map (act n f).eval = cs) (hK : K (act n (upd f d (.func (.func F) #[] cs))) w) : OW P o (act n f) w K Q :=
  oval ho (by simp [execOp, hop, hx, Instr.makeFunc]) rfl hK
end
theorem Sep.ownCell {w0 w : World} {R : List Res} (hS : Sep w0 R w) (k : Nat) {e : TypeId} {sz g n c : Nat} {cs : List Value} (hk : R[k]? = some (.own' e sz (some ⟨g, 0, none⟩) n c cs)) {j : Nat} {v : Value} (hj : cs[j]? = some v) : w.cell? ⟨g, 0 + 0 * 4 + j, none⟩ = some v := by
  have ho := (show (Res.own' e sz (some ⟨g, 0, none⟩) n c cs).holds w from hS.get k hk)
  have := ho.cells (g := g) rfl j v hj
  rw [Addr.add_mid] at this
  rw [← this]
  try simp
theorem Sep.nil2 {w0 w : World} {R : List Res} (hS : Sep w0 R w) : Sep w0 (.rowm none 0 0 (lim (0 : Int).natAbs) :: .rowm none 0 0 (lim (0 : Int).natAbs) :: R) w := by
  have h1 := hS.add (Below.refl _ _) (.rowm none 0 0 (lim (0 : Int).natAbs)) (Fr.nil 0 w) (fun g hg => by cases hg)
  exact h1.add (Below.refl _ _) (.rowm none 0 0 (lim (0 : Int).natAbs)) (Fr.nil 0 w) (fun g hg => by cases hg)
theorem made_end {w0 w : World} {R : List Res} {x y : Int} {p : Option Addr} {c : Nat} {es : List El} (hes : REls [(x, y)] 1 es) (hS : Sep w0 (.lst 27 4 p 1 c es :: R) w) : ∃ g pA nA cA pB nB cB, p = some ⟨g, 0, none⟩ ∧
    Sep w0 (.own' 27 4 (some ⟨g, 0, none⟩) 1 c [.bool (ng (RN x y)), .slice pA nA cA, .bool (ng (RD x y)), .slice pB nB cB] :: .rowm pA nA cA (lim (RN x y).natAbs) :: .rowm pB nB cB (lim (RD x y).natAbs) :: R) w := by
  obtain ⟨h0, p1, n1, c1, q, m1, d, he⟩ := hes.2 0 (x, y) (by omega) rfl
  obtain ⟨g, hg, hc, hr⟩ := hS.lstCell 0 rfl he (by omega)
  have e1 : es = [elR (RN x y) p1 n1 c1 (RD x y) q m1 d] := by
    match es, hes.1, he with
    | [a], _, he => simp at he; rw [he]
  subst e1
  subst hg
  exact ⟨g, p1, n1, c1, q, m1, d, rfl, hS.openL.2.2⟩

set_option maxRecDepth 100000 in
set_option maxHeartbeats 16000000 in
theorem wpow1_p {x y : Int} {gL gk gm gp cL : Nat} {pA pB : Option Addr} {nA cA nB cB : Nat} {w0 w : World} {K : Nat} (hS : Sep w0 [.own' 27 4 (some ⟨gL, 0, none⟩) 1 cL [.bool (ng x), .slice pA nA cA, .bool (ng y), .slice pB nB cB], .rowm pA nA cA (lim x.natAbs), .rowm pB nB cB (lim y.natAbs), .blk gk [.int .i64 (((K : Nat) : Int))] 3, .blk gm [.bool false, .slice none 0 0, .bool false, .slice none 0 0] 27, .blk gp [.bool false, .slice none 0 0, .bool false, .slice none 0 0] 27] w) (hkA : Wd x 16777216) (hkB : Wd y 16777216) (hy : y ≠ 0) (hK : K ≤ 9223372036854775807) (h1 : PowOk x K) (h2 : PowOk y K) :
    Calls Try.prog 85 #[.slice (some ⟨gL, 0, none⟩) 1 cL, .pointer (some ⟨gk, 0, none⟩)] w (fun e w' => ∃ v s kc, e = .returned v ∧ RRt (x ^ K) (y ^ K) 0 v s ∧ Sep w0 (s ++ [.blk gk [kc] 3, .blk gm [.bool false, .slice none 0 0, .bool false, .slice none 0 0] 27, .blk gp [.bool false, .slice none 0 0, .bool false, .slice none 0 0] 27]) w') := by
  refine went Try.func85 rfl (n := 67) rfl rfl ?_
  refine wseq ?_
  refine wreg ?_
  refine wl rfl (oalloc [.bool false, .slice none 0 0, .bool false, .slice none 0 0] hS rfl rfl Try.zeroValue27 rfl ?_)
  clear hS; intro g1 w2 hS
  refine wl rfl (oassign (v := .int .i64 0) rfl rfl (evc (v := .int .i64 0)) ?_)
  refine wnil ?_
  refine thenN ?_
  refine wseq ?_
  refine wreg ?_
  refine wl rfl (omove (v := .slice (some ⟨gL, 0, none⟩) 1 cL) rfl rfl (ev (v := .slice (some ⟨gL, 0, none⟩) 1 cL) rfl rfl) ?_)
  refine wl rfl (oindex (p := (some ⟨gL, 0, none⟩)) (g := gL) (off := 0) (m := 1) (k := 0) (j := (0 + 0 * 4)) rfl rfl Try.runUnderlying38 Try.sizeOf27 (ev (v := .slice (some ⟨gL, 0, none⟩) 1 cL) rfl rfl) (rfl) (evc (v := .int .i64 ((0 : Nat) : Int))) ((by omega)) rfl ?_)
  refine wl rfl (oloadA (vs := [.bool (ng x), .slice pA nA cA, .bool (ng y), .slice pB nB cB]) aggR rfl rfl (ev (v := .pointer (some ⟨gL, (0 + 0 * 4), none⟩)) rfl rfl) (fun j v hj => hS.ownCell 1 rfl hj) rfl ?_)
  refine wl rfl (oalloc [.bool false, .slice none 0 0, .bool false, .slice none 0 0] hS rfl rfl Try.zeroValue27 rfl ?_)
  clear hS; intro g3 w4 hS
  refine wl rfl (ostore [.bool (ng x), .slice pA nA cA, .bool (ng y), .slice pB nB cB] [.bool (ng x), .slice pA nA cA, .bool (ng y), .slice pB nB cB] Try.sizeOf27 hS 0 rfl rfl (ev rfl rfl) (ev (v := .agg #[.bool (ng x), .slice pA nA cA, .bool (ng y), .slice pB nB cB]) rfl rfl) rfl rfl rfl rfl rfl rfl ?_)
  clear hS; intro w5 hS
  refine wnil ?_
  refine thenN ?_
  refine wseq ?_
  refine wseq ?_
  refine wreg ?_
  refine wl rfl (oload1 (v := .int .i64 (((K : Nat) : Int))) oneI hS 5 rfl rfl (ev rfl rfl) rfl rfl ?_)
  refine wl rfl (obin (u := .int .i64 (((K : Nat) : Int))) (v := .int .i64 0) (z := .bool false) rfl rfl (ev (v := .int .i64 (((K : Nat) : Int))) rfl rfl) (evc (v := .int .i64 0)) (bin_lss (decide_eq_false (by omega))) ?_)
  refine wnil ?_
  refine thenN ?_
  refine wF (ev (v := .bool false) rfl rfl) ?_
  refine wskip ?_
  refine thenN ?_
  refine wseq ?_
  refine wreg ?_
  refine wl rfl (ofieldAddr (g := g3) (off := 0) 0 rfl rfl (ev (v := .pointer (some ⟨g3, 0, none⟩)) rfl rfl) Try.runUnderlying27 rfl Try.sizeOf25 rfl ?_)
  refine wl rfl (oload (vs := [.bool (ng x), .slice pA nA cA]) aggZ hS 0 rfl rfl (ev rfl rfl) rfl rfl rfl ?_)
  refine wl rfl (oload1 (v := .int .i64 (((K : Nat) : Int))) oneI hS 5 rfl rfl (ev rfl rfl) rfl rfl ?_)
  obtain ⟨z1, hz1⟩ : ∃ z : Int, Hid (x ^ K = z) := ⟨_, rfl⟩
  have hk1 : Wd z1 16778468 := wd_pow hkA (h1) hz1
  refine wl rfl (ocall rfl rfl Try.call86 rfl (wzpow (((hS.slm 3 rfl).zr hkA).mono (by omega)) (hK) (h1) hz1) (args2 (ev rfl rfl) (ev rfl rfl)) ?_)
  rintro _ w6 ⟨_, _, rfl, ⟨p1, n1, c1, rfl, rfl⟩, hN⟩
  refine ⟨_, rfl, ?_⟩
  replace hS := hS.news hN; clear hN
  refine wl rfl (omove (v := .tuple #[.agg #[.bool (ng z1), .slice p1 n1 c1], .int .i64 0]) rfl rfl (ev (v := .tuple #[.agg #[.bool (ng z1), .slice p1 n1 c1], .int .i64 0]) rfl rfl) ?_)
  refine wl rfl (oextract (vs := [.agg #[.bool (ng z1), .slice p1 n1 c1], .int .i64 0]) (v := .agg #[.bool (ng z1), .slice p1 n1 c1]) rfl rfl (ev (v := .tuple #[.agg #[.bool (ng z1), .slice p1 n1 c1], .int .i64 0]) rfl rfl) rfl ?_)
  refine wl rfl (oextract (vs := [.agg #[.bool (ng z1), .slice p1 n1 c1], .int .i64 0]) (v := .int .i64 0) rfl rfl (ev (v := .tuple #[.agg #[.bool (ng z1), .slice p1 n1 c1], .int .i64 0]) rfl rfl) rfl ?_)
  refine wl rfl (oalloc [.bool false, .slice none 0 0] hS rfl rfl Try.zeroValue25 rfl ?_)
  clear hS; intro g7 w8 hS
  refine wl rfl (ostore [.bool (ng z1), .slice p1 n1 c1] [.bool (ng z1), .slice p1 n1 c1] Try.sizeOf25 hS 0 rfl rfl (ev rfl rfl) (ev (v := .agg #[.bool (ng z1), .slice p1 n1 c1]) rfl rfl) rfl rfl rfl rfl rfl rfl ?_)
  clear hS; intro w9 hS
  refine wl rfl (oassign (v := .int .i64 0) rfl rfl (ev (v := .int .i64 0) rfl rfl) ?_)
  refine wnil ?_
  refine thenN ?_
  refine wseq ?_
  refine wseq ?_
  refine wreg ?_
  refine wl rfl (omove (v := .int .i64 0) rfl rfl (ev (v := .int .i64 0) rfl rfl) ?_)
  refine wl rfl (obin (u := .int .i64 0) (v := .int .i64 0) (z := .bool false) rfl rfl (ev (v := .int .i64 0) rfl rfl) (evc (v := .int .i64 0)) (bin_neq (by decide)) ?_)
  refine wnil ?_
  refine thenN ?_
  refine wF (ev (v := .bool false) rfl rfl) ?_
  refine wskip ?_
  refine thenN ?_
  refine wseq ?_
  refine wreg ?_
  refine wl rfl (ofieldAddr (g := g3) (off := 0) 2 rfl rfl (ev (v := .pointer (some ⟨g3, 0, none⟩)) rfl rfl) Try.runUnderlying27 rfl Try.sizeOf25 rfl ?_)
  refine wl rfl (oload (vs := [.bool (ng y), .slice pB nB cB]) aggZ hS 2 rfl rfl (ev rfl rfl) rfl rfl rfl ?_)
  refine wl rfl (oload1 (v := .int .i64 (((K : Nat) : Int))) oneI hS 7 rfl rfl (ev rfl rfl) rfl rfl ?_)
  obtain ⟨z2, hz2⟩ : ∃ z : Int, Hid (y ^ K = z) := ⟨_, rfl⟩
  have hk2 : Wd z2 16778468 := wd_pow hkB (h2) hz2
  refine wl rfl (ocall rfl rfl Try.call86 rfl (wzpow (((hS.slm 6 rfl).zr hkB).mono (by omega)) (hK) (h2) hz2) (args2 (ev rfl rfl) (ev rfl rfl)) ?_)
  rintro _ w10 ⟨_, _, rfl, ⟨p2, n2, c2, rfl, rfl⟩, hN⟩
  refine ⟨_, rfl, ?_⟩
  replace hS := hS.news hN; clear hN
  refine wl rfl (omove (v := .tuple #[.agg #[.bool (ng z2), .slice p2 n2 c2], .int .i64 0]) rfl rfl (ev (v := .tuple #[.agg #[.bool (ng z2), .slice p2 n2 c2], .int .i64 0]) rfl rfl) ?_)
  refine wl rfl (oextract (vs := [.agg #[.bool (ng z2), .slice p2 n2 c2], .int .i64 0]) (v := .agg #[.bool (ng z2), .slice p2 n2 c2]) rfl rfl (ev (v := .tuple #[.agg #[.bool (ng z2), .slice p2 n2 c2], .int .i64 0]) rfl rfl) rfl ?_)
  refine wl rfl (oextract (vs := [.agg #[.bool (ng z2), .slice p2 n2 c2], .int .i64 0]) (v := .int .i64 0) rfl rfl (ev (v := .tuple #[.agg #[.bool (ng z2), .slice p2 n2 c2], .int .i64 0]) rfl rfl) rfl ?_)
  refine wl rfl (oalloc [.bool false, .slice none 0 0] hS rfl rfl Try.zeroValue25 rfl ?_)
  clear hS; intro g11 w12 hS
  refine wl rfl (ostore [.bool (ng z2), .slice p2 n2 c2] [.bool (ng z2), .slice p2 n2 c2] Try.sizeOf25 hS 0 rfl rfl (ev rfl rfl) (ev (v := .agg #[.bool (ng z2), .slice p2 n2 c2]) rfl rfl) rfl rfl rfl rfl rfl rfl ?_)
  clear hS; intro w13 hS
  refine wl rfl (oassign (v := .int .i64 0) rfl rfl (ev (v := .int .i64 0) rfl rfl) ?_)
  refine wnil ?_
  refine thenN ?_
  refine wseq ?_
  refine wseq ?_
  refine wreg ?_
  refine wl rfl (omove (v := .int .i64 0) rfl rfl (ev (v := .int .i64 0) rfl rfl) ?_)
  refine wl rfl (obin (u := .int .i64 0) (v := .int .i64 0) (z := .bool false) rfl rfl (ev (v := .int .i64 0) rfl rfl) (evc (v := .int .i64 0)) (bin_neq (by decide)) ?_)
  refine wnil ?_
  refine thenN ?_
  refine wF (ev (v := .bool false) rfl rfl) ?_
  refine wskip ?_
  refine thenN ?_
  refine wseq ?_
  refine wreg ?_
  refine wl rfl (oload (vs := [.bool (ng z1), .slice p1 n1 c1]) aggZ hS 2 rfl rfl (ev rfl rfl) rfl rfl rfl ?_)
  refine wl rfl (oload (vs := [.bool (ng z2), .slice p2 n2 c2]) aggZ hS 0 rfl rfl (ev rfl rfl) rfl rfl rfl ?_)
  refine wl rfl (obuild (ps := #[(0, .agg #[.bool (ng z1), .slice p1 n1 c1]), (1, .agg #[.bool (ng z2), .slice p2 n2 c2])]) (v := .agg #[.bool (ng z1), .slice p1 n1 c1, .bool (ng z2), .slice p2 n2 c2]) rfl rfl (parts2 (ev (v := .agg #[.bool (ng z1), .slice p1 n1 c1]) rfl rfl) (ev (v := .agg #[.bool (ng z2), .slice p2 n2 c2]) rfl rfl)) (fun w => by simp [go_sem, Instr.build, Instr.fill]) ?_)
  refine wl rfl (ostore [.bool (ng z1), .slice p1 n1 c1, .bool (ng z2), .slice p2 n2 c2] [.bool (ng z1), .slice p1 n1 c1, .bool (ng z2), .slice p2 n2 c2] Try.sizeOf27 hS 5 rfl rfl (ev rfl rfl) (ev (v := .agg #[.bool (ng z1), .slice p1 n1 c1, .bool (ng z2), .slice p2 n2 c2]) rfl rfl) rfl rfl rfl rfl rfl rfl ?_)
  clear hS; intro w14 hS
  refine wl rfl (oassign (v := .int .i64 0) rfl rfl (evc (v := .int .i64 0)) ?_)
  refine wnil ?_
  refine thenN ?_
  refine wleave ?_
  refine wret2 Try.results85 (tellC (cs := [.bool (ng z1), .slice p1 n1 c1, .bool (ng z2), .slice p2 n2 c2]) aggR hS 5 rfl rfl rfl rfl) (tellT (v := .int .i64 0) rfl rfl) ?_
  obtain rfl := hz1.out
  obtain rfl := hz2.out
  exact ⟨_, _, _, rfl, ⟨_, _, _, _, _, _, rfl, rfl⟩, hS.pick [3, 1, 9, 10, 11] (by decide) rfl⟩

set_option maxRecDepth 100000 in
set_option maxHeartbeats 16000000 in
theorem wpow1_pA {x y : Int} {gL gk gm gp cL : Nat} {pA pB : Option Addr} {nA cA nB cB : Nat} {w0 w : World} {K : Nat} (hS : Sep w0 [.own' 27 4 (some ⟨gL, 0, none⟩) 1 cL [.bool (ng x), .slice pA nA cA, .bool (ng y), .slice pB nB cB], .rowm pA nA cA (lim x.natAbs), .rowm pB nB cB (lim y.natAbs), .blk gk [.int .i64 (((K : Nat) : Int))] 3, .blk gm [.bool false, .slice none 0 0, .bool false, .slice none 0 0] 27, .blk gp [.bool false, .slice none 0 0, .bool false, .slice none 0 0] 27] w) (hkA : Wd x 16777216) (hkB : Wd y 16777216) (hy : y ≠ 0) (hK : K ≤ 9223372036854775807) (h1 : PowBig x K) :
    Calls Try.prog 85 #[.slice (some ⟨gL, 0, none⟩) 1 cL, .pointer (some ⟨gk, 0, none⟩)] w (fun e w' => ∃ v s kc, e = .returned v ∧ RRt 0 0 4 v s ∧ Sep w0 (s ++ [.blk gk [kc] 3, .blk gm [.bool false, .slice none 0 0, .bool false, .slice none 0 0] 27, .blk gp [.bool false, .slice none 0 0, .bool false, .slice none 0 0] 27]) w') := by
  refine went Try.func85 rfl (n := 67) rfl rfl ?_
  refine wseq ?_
  refine wreg ?_
  refine wl rfl (oalloc [.bool false, .slice none 0 0, .bool false, .slice none 0 0] hS rfl rfl Try.zeroValue27 rfl ?_)
  clear hS; intro g1 w2 hS
  refine wl rfl (oassign (v := .int .i64 0) rfl rfl (evc (v := .int .i64 0)) ?_)
  refine wnil ?_
  refine thenN ?_
  refine wseq ?_
  refine wreg ?_
  refine wl rfl (omove (v := .slice (some ⟨gL, 0, none⟩) 1 cL) rfl rfl (ev (v := .slice (some ⟨gL, 0, none⟩) 1 cL) rfl rfl) ?_)
  refine wl rfl (oindex (p := (some ⟨gL, 0, none⟩)) (g := gL) (off := 0) (m := 1) (k := 0) (j := (0 + 0 * 4)) rfl rfl Try.runUnderlying38 Try.sizeOf27 (ev (v := .slice (some ⟨gL, 0, none⟩) 1 cL) rfl rfl) (rfl) (evc (v := .int .i64 ((0 : Nat) : Int))) ((by omega)) rfl ?_)
  refine wl rfl (oloadA (vs := [.bool (ng x), .slice pA nA cA, .bool (ng y), .slice pB nB cB]) aggR rfl rfl (ev (v := .pointer (some ⟨gL, (0 + 0 * 4), none⟩)) rfl rfl) (fun j v hj => hS.ownCell 1 rfl hj) rfl ?_)
  refine wl rfl (oalloc [.bool false, .slice none 0 0, .bool false, .slice none 0 0] hS rfl rfl Try.zeroValue27 rfl ?_)
  clear hS; intro g3 w4 hS
  refine wl rfl (ostore [.bool (ng x), .slice pA nA cA, .bool (ng y), .slice pB nB cB] [.bool (ng x), .slice pA nA cA, .bool (ng y), .slice pB nB cB] Try.sizeOf27 hS 0 rfl rfl (ev rfl rfl) (ev (v := .agg #[.bool (ng x), .slice pA nA cA, .bool (ng y), .slice pB nB cB]) rfl rfl) rfl rfl rfl rfl rfl rfl ?_)
  clear hS; intro w5 hS
  refine wnil ?_
  refine thenN ?_
  refine wseq ?_
  refine wseq ?_
  refine wreg ?_
  refine wl rfl (oload1 (v := .int .i64 (((K : Nat) : Int))) oneI hS 5 rfl rfl (ev rfl rfl) rfl rfl ?_)
  refine wl rfl (obin (u := .int .i64 (((K : Nat) : Int))) (v := .int .i64 0) (z := .bool false) rfl rfl (ev (v := .int .i64 (((K : Nat) : Int))) rfl rfl) (evc (v := .int .i64 0)) (bin_lss (decide_eq_false (by omega))) ?_)
  refine wnil ?_
  refine thenN ?_
  refine wF (ev (v := .bool false) rfl rfl) ?_
  refine wskip ?_
  refine thenN ?_
  refine wseq ?_
  refine wreg ?_
  refine wl rfl (ofieldAddr (g := g3) (off := 0) 0 rfl rfl (ev (v := .pointer (some ⟨g3, 0, none⟩)) rfl rfl) Try.runUnderlying27 rfl Try.sizeOf25 rfl ?_)
  refine wl rfl (oload (vs := [.bool (ng x), .slice pA nA cA]) aggZ hS 0 rfl rfl (ev rfl rfl) rfl rfl rfl ?_)
  refine wl rfl (oload1 (v := .int .i64 (((K : Nat) : Int))) oneI hS 5 rfl rfl (ev rfl rfl) rfl rfl ?_)
  have hk1 : Wd 0 2 := Wd.i64 (by omega) (by omega)
  refine wl rfl (ocall rfl rfl Try.call86 rfl (wzpowB (((hS.slm 3 rfl).zr hkA).mono (by omega)) (hK) (h1)) (args2 (ev rfl rfl) (ev rfl rfl)) ?_)
  rintro _ w6 ⟨_, _, rfl, ⟨p1, n1, c1, rfl, rfl⟩, hN⟩
  refine ⟨_, rfl, ?_⟩
  replace hS := hS.news hN; clear hN
  refine wl rfl (omove (v := .tuple #[.agg #[.bool (ng 0), .slice p1 n1 c1], .int .i64 4]) rfl rfl (ev (v := .tuple #[.agg #[.bool (ng 0), .slice p1 n1 c1], .int .i64 4]) rfl rfl) ?_)
  refine wl rfl (oextract (vs := [.agg #[.bool (ng 0), .slice p1 n1 c1], .int .i64 4]) (v := .agg #[.bool (ng 0), .slice p1 n1 c1]) rfl rfl (ev (v := .tuple #[.agg #[.bool (ng 0), .slice p1 n1 c1], .int .i64 4]) rfl rfl) rfl ?_)
  refine wl rfl (oextract (vs := [.agg #[.bool (ng 0), .slice p1 n1 c1], .int .i64 4]) (v := .int .i64 4) rfl rfl (ev (v := .tuple #[.agg #[.bool (ng 0), .slice p1 n1 c1], .int .i64 4]) rfl rfl) rfl ?_)
  refine wl rfl (oalloc [.bool false, .slice none 0 0] hS rfl rfl Try.zeroValue25 rfl ?_)
  clear hS; intro g7 w8 hS
  refine wl rfl (ostore [.bool (ng 0), .slice p1 n1 c1] [.bool (ng 0), .slice p1 n1 c1] Try.sizeOf25 hS 0 rfl rfl (ev rfl rfl) (ev (v := .agg #[.bool (ng 0), .slice p1 n1 c1]) rfl rfl) rfl rfl rfl rfl rfl rfl ?_)
  clear hS; intro w9 hS
  refine wl rfl (oassign (v := .int .i64 4) rfl rfl (ev (v := .int .i64 4) rfl rfl) ?_)
  refine wnil ?_
  refine thenN ?_
  refine wseq ?_
  refine wseq ?_
  refine wreg ?_
  refine wl rfl (omove (v := .int .i64 4) rfl rfl (ev (v := .int .i64 4) rfl rfl) ?_)
  refine wl rfl (obin (u := .int .i64 4) (v := .int .i64 0) (z := .bool true) rfl rfl (ev (v := .int .i64 4) rfl rfl) (evc (v := .int .i64 0)) (bin_neq (by decide)) ?_)
  refine wnil ?_
  refine thenN ?_
  refine wT (ev (v := .bool true) rfl rfl) ?_
  refine wseq ?_
  refine wreg ?_
  refine wl rfl (obuild (ps := #[]) (v := .agg #[.bool false, .slice none 0 0, .bool false, .slice none 0 0]) rfl rfl (parts0) (fun w => by simp [go_sem, Instr.build, Instr.fill]) ?_)
  refine wl rfl (omove (v := .int .i64 4) rfl rfl (ev (v := .int .i64 4) rfl rfl) ?_)
  refine wl rfl (ostore [.bool false, .slice none 0 0, .bool false, .slice none 0 0] [.bool false, .slice none 0 0, .bool false, .slice none 0 0] Try.sizeOf27 hS 3 rfl rfl (ev rfl rfl) (ev (v := .agg #[.bool false, .slice none 0 0, .bool false, .slice none 0 0]) rfl rfl) rfl rfl rfl rfl rfl rfl ?_)
  clear hS; intro w10 hS
  refine wl rfl (oassign (v := .int .i64 4) rfl rfl (ev (v := .int .i64 4) rfl rfl) ?_)
  refine wnil ?_
  refine thenN ?_
  refine wleave ?_
  refine thenR ?_
  refine wret2 Try.results85 (tellC (cs := [.bool false, .slice none 0 0, .bool false, .slice none 0 0]) aggR hS 3 rfl rfl rfl rfl) (tellT (v := .int .i64 4) rfl rfl) ?_
  exact ⟨_, _, _, rfl, ⟨_, _, _, _, _, _, rfl, rfl⟩, (hS.pick [7, 8, 9] (by decide) rfl).nil2⟩

set_option maxRecDepth 100000 in
set_option maxHeartbeats 16000000 in
theorem wpow1_pB {x y : Int} {gL gk gm gp cL : Nat} {pA pB : Option Addr} {nA cA nB cB : Nat} {w0 w : World} {K : Nat} (hS : Sep w0 [.own' 27 4 (some ⟨gL, 0, none⟩) 1 cL [.bool (ng x), .slice pA nA cA, .bool (ng y), .slice pB nB cB], .rowm pA nA cA (lim x.natAbs), .rowm pB nB cB (lim y.natAbs), .blk gk [.int .i64 (((K : Nat) : Int))] 3, .blk gm [.bool false, .slice none 0 0, .bool false, .slice none 0 0] 27, .blk gp [.bool false, .slice none 0 0, .bool false, .slice none 0 0] 27] w) (hkA : Wd x 16777216) (hkB : Wd y 16777216) (hy : y ≠ 0) (hK : K ≤ 9223372036854775807) (h1 : PowOk x K) (h2 : PowBig y K) :
    Calls Try.prog 85 #[.slice (some ⟨gL, 0, none⟩) 1 cL, .pointer (some ⟨gk, 0, none⟩)] w (fun e w' => ∃ v s kc, e = .returned v ∧ RRt 0 0 4 v s ∧ Sep w0 (s ++ [.blk gk [kc] 3, .blk gm [.bool false, .slice none 0 0, .bool false, .slice none 0 0] 27, .blk gp [.bool false, .slice none 0 0, .bool false, .slice none 0 0] 27]) w') := by
  refine went Try.func85 rfl (n := 67) rfl rfl ?_
  refine wseq ?_
  refine wreg ?_
  refine wl rfl (oalloc [.bool false, .slice none 0 0, .bool false, .slice none 0 0] hS rfl rfl Try.zeroValue27 rfl ?_)
  clear hS; intro g1 w2 hS
  refine wl rfl (oassign (v := .int .i64 0) rfl rfl (evc (v := .int .i64 0)) ?_)
  refine wnil ?_
  refine thenN ?_
  refine wseq ?_
  refine wreg ?_
  refine wl rfl (omove (v := .slice (some ⟨gL, 0, none⟩) 1 cL) rfl rfl (ev (v := .slice (some ⟨gL, 0, none⟩) 1 cL) rfl rfl) ?_)
  refine wl rfl (oindex (p := (some ⟨gL, 0, none⟩)) (g := gL) (off := 0) (m := 1) (k := 0) (j := (0 + 0 * 4)) rfl rfl Try.runUnderlying38 Try.sizeOf27 (ev (v := .slice (some ⟨gL, 0, none⟩) 1 cL) rfl rfl) (rfl) (evc (v := .int .i64 ((0 : Nat) : Int))) ((by omega)) rfl ?_)
  refine wl rfl (oloadA (vs := [.bool (ng x), .slice pA nA cA, .bool (ng y), .slice pB nB cB]) aggR rfl rfl (ev (v := .pointer (some ⟨gL, (0 + 0 * 4), none⟩)) rfl rfl) (fun j v hj => hS.ownCell 1 rfl hj) rfl ?_)
  refine wl rfl (oalloc [.bool false, .slice none 0 0, .bool false, .slice none 0 0] hS rfl rfl Try.zeroValue27 rfl ?_)
  clear hS; intro g3 w4 hS
  refine wl rfl (ostore [.bool (ng x), .slice pA nA cA, .bool (ng y), .slice pB nB cB] [.bool (ng x), .slice pA nA cA, .bool (ng y), .slice pB nB cB] Try.sizeOf27 hS 0 rfl rfl (ev rfl rfl) (ev (v := .agg #[.bool (ng x), .slice pA nA cA, .bool (ng y), .slice pB nB cB]) rfl rfl) rfl rfl rfl rfl rfl rfl ?_)
  clear hS; intro w5 hS
  refine wnil ?_
  refine thenN ?_
  refine wseq ?_
  refine wseq ?_
  refine wreg ?_
  refine wl rfl (oload1 (v := .int .i64 (((K : Nat) : Int))) oneI hS 5 rfl rfl (ev rfl rfl) rfl rfl ?_)
  refine wl rfl (obin (u := .int .i64 (((K : Nat) : Int))) (v := .int .i64 0) (z := .bool false) rfl rfl (ev (v := .int .i64 (((K : Nat) : Int))) rfl rfl) (evc (v := .int .i64 0)) (bin_lss (decide_eq_false (by omega))) ?_)
  refine wnil ?_
  refine thenN ?_
  refine wF (ev (v := .bool false) rfl rfl) ?_
  refine wskip ?_
  refine thenN ?_
  refine wseq ?_
  refine wreg ?_
  refine wl rfl (ofieldAddr (g := g3) (off := 0) 0 rfl rfl (ev (v := .pointer (some ⟨g3, 0, none⟩)) rfl rfl) Try.runUnderlying27 rfl Try.sizeOf25 rfl ?_)
  refine wl rfl (oload (vs := [.bool (ng x), .slice pA nA cA]) aggZ hS 0 rfl rfl (ev rfl rfl) rfl rfl rfl ?_)
  refine wl rfl (oload1 (v := .int .i64 (((K : Nat) : Int))) oneI hS 5 rfl rfl (ev rfl rfl) rfl rfl ?_)
  obtain ⟨z1, hz1⟩ : ∃ z : Int, Hid (x ^ K = z) := ⟨_, rfl⟩
  have hk1 : Wd z1 16778468 := wd_pow hkA (h1) hz1
  refine wl rfl (ocall rfl rfl Try.call86 rfl (wzpow (((hS.slm 3 rfl).zr hkA).mono (by omega)) (hK) (h1) hz1) (args2 (ev rfl rfl) (ev rfl rfl)) ?_)
  rintro _ w6 ⟨_, _, rfl, ⟨p1, n1, c1, rfl, rfl⟩, hN⟩
  refine ⟨_, rfl, ?_⟩
  replace hS := hS.news hN; clear hN
  refine wl rfl (omove (v := .tuple #[.agg #[.bool (ng z1), .slice p1 n1 c1], .int .i64 0]) rfl rfl (ev (v := .tuple #[.agg #[.bool (ng z1), .slice p1 n1 c1], .int .i64 0]) rfl rfl) ?_)
  refine wl rfl (oextract (vs := [.agg #[.bool (ng z1), .slice p1 n1 c1], .int .i64 0]) (v := .agg #[.bool (ng z1), .slice p1 n1 c1]) rfl rfl (ev (v := .tuple #[.agg #[.bool (ng z1), .slice p1 n1 c1], .int .i64 0]) rfl rfl) rfl ?_)
  refine wl rfl (oextract (vs := [.agg #[.bool (ng z1), .slice p1 n1 c1], .int .i64 0]) (v := .int .i64 0) rfl rfl (ev (v := .tuple #[.agg #[.bool (ng z1), .slice p1 n1 c1], .int .i64 0]) rfl rfl) rfl ?_)
  refine wl rfl (oalloc [.bool false, .slice none 0 0] hS rfl rfl Try.zeroValue25 rfl ?_)
  clear hS; intro g7 w8 hS
  refine wl rfl (ostore [.bool (ng z1), .slice p1 n1 c1] [.bool (ng z1), .slice p1 n1 c1] Try.sizeOf25 hS 0 rfl rfl (ev rfl rfl) (ev (v := .agg #[.bool (ng z1), .slice p1 n1 c1]) rfl rfl) rfl rfl rfl rfl rfl rfl ?_)
  clear hS; intro w9 hS
  refine wl rfl (oassign (v := .int .i64 0) rfl rfl (ev (v := .int .i64 0) rfl rfl) ?_)
  refine wnil ?_
  refine thenN ?_
  refine wseq ?_
  refine wseq ?_
  refine wreg ?_
  refine wl rfl (omove (v := .int .i64 0) rfl rfl (ev (v := .int .i64 0) rfl rfl) ?_)
  refine wl rfl (obin (u := .int .i64 0) (v := .int .i64 0) (z := .bool false) rfl rfl (ev (v := .int .i64 0) rfl rfl) (evc (v := .int .i64 0)) (bin_neq (by decide)) ?_)
  refine wnil ?_
  refine thenN ?_
  refine wF (ev (v := .bool false) rfl rfl) ?_
  refine wskip ?_
  refine thenN ?_
  refine wseq ?_
  refine wreg ?_
  refine wl rfl (ofieldAddr (g := g3) (off := 0) 2 rfl rfl (ev (v := .pointer (some ⟨g3, 0, none⟩)) rfl rfl) Try.runUnderlying27 rfl Try.sizeOf25 rfl ?_)
  refine wl rfl (oload (vs := [.bool (ng y), .slice pB nB cB]) aggZ hS 2 rfl rfl (ev rfl rfl) rfl rfl rfl ?_)
  refine wl rfl (oload1 (v := .int .i64 (((K : Nat) : Int))) oneI hS 7 rfl rfl (ev rfl rfl) rfl rfl ?_)
  have hk2 : Wd 0 2 := Wd.i64 (by omega) (by omega)
  refine wl rfl (ocall rfl rfl Try.call86 rfl (wzpowB (((hS.slm 6 rfl).zr hkB).mono (by omega)) (hK) (h2)) (args2 (ev rfl rfl) (ev rfl rfl)) ?_)
  rintro _ w10 ⟨_, _, rfl, ⟨p2, n2, c2, rfl, rfl⟩, hN⟩
  refine ⟨_, rfl, ?_⟩
  replace hS := hS.news hN; clear hN
  refine wl rfl (omove (v := .tuple #[.agg #[.bool (ng 0), .slice p2 n2 c2], .int .i64 4]) rfl rfl (ev (v := .tuple #[.agg #[.bool (ng 0), .slice p2 n2 c2], .int .i64 4]) rfl rfl) ?_)
  refine wl rfl (oextract (vs := [.agg #[.bool (ng 0), .slice p2 n2 c2], .int .i64 4]) (v := .agg #[.bool (ng 0), .slice p2 n2 c2]) rfl rfl (ev (v := .tuple #[.agg #[.bool (ng 0), .slice p2 n2 c2], .int .i64 4]) rfl rfl) rfl ?_)
  refine wl rfl (oextract (vs := [.agg #[.bool (ng 0), .slice p2 n2 c2], .int .i64 4]) (v := .int .i64 4) rfl rfl (ev (v := .tuple #[.agg #[.bool (ng 0), .slice p2 n2 c2], .int .i64 4]) rfl rfl) rfl ?_)
  refine wl rfl (oalloc [.bool false, .slice none 0 0] hS rfl rfl Try.zeroValue25 rfl ?_)
  clear hS; intro g11 w12 hS
  refine wl rfl (ostore [.bool (ng 0), .slice p2 n2 c2] [.bool (ng 0), .slice p2 n2 c2] Try.sizeOf25 hS 0 rfl rfl (ev rfl rfl) (ev (v := .agg #[.bool (ng 0), .slice p2 n2 c2]) rfl rfl) rfl rfl rfl rfl rfl rfl ?_)
  clear hS; intro w13 hS
  refine wl rfl (oassign (v := .int .i64 4) rfl rfl (ev (v := .int .i64 4) rfl rfl) ?_)
  refine wnil ?_
  refine thenN ?_
  refine wseq ?_
  refine wseq ?_
  refine wreg ?_
  refine wl rfl (omove (v := .int .i64 4) rfl rfl (ev (v := .int .i64 4) rfl rfl) ?_)
  refine wl rfl (obin (u := .int .i64 4) (v := .int .i64 0) (z := .bool true) rfl rfl (ev (v := .int .i64 4) rfl rfl) (evc (v := .int .i64 0)) (bin_neq (by decide)) ?_)
  refine wnil ?_
  refine thenN ?_
  refine wT (ev (v := .bool true) rfl rfl) ?_
  refine wseq ?_
  refine wreg ?_
  refine wl rfl (obuild (ps := #[]) (v := .agg #[.bool false, .slice none 0 0, .bool false, .slice none 0 0]) rfl rfl (parts0) (fun w => by simp [go_sem, Instr.build, Instr.fill]) ?_)
  refine wl rfl (omove (v := .int .i64 4) rfl rfl (ev (v := .int .i64 4) rfl rfl) ?_)
  refine wl rfl (ostore [.bool false, .slice none 0 0, .bool false, .slice none 0 0] [.bool false, .slice none 0 0, .bool false, .slice none 0 0] Try.sizeOf27 hS 5 rfl rfl (ev rfl rfl) (ev (v := .agg #[.bool false, .slice none 0 0, .bool false, .slice none 0 0]) rfl rfl) rfl rfl rfl rfl rfl rfl ?_)
  clear hS; intro w14 hS
  refine wl rfl (oassign (v := .int .i64 4) rfl rfl (ev (v := .int .i64 4) rfl rfl) ?_)
  refine wnil ?_
  refine thenN ?_
  refine wleave ?_
  refine thenR ?_
  refine wret2 Try.results85 (tellC (cs := [.bool false, .slice none 0 0, .bool false, .slice none 0 0]) aggR hS 5 rfl rfl rfl rfl) (tellT (v := .int .i64 4) rfl rfl) ?_
  exact ⟨_, _, _, rfl, ⟨_, _, _, _, _, _, rfl, rfl⟩, (hS.pick [9, 10, 11] (by decide) rfl).nil2⟩

set_option maxRecDepth 100000 in
set_option maxHeartbeats 16000000 in
theorem wpow1_n {x y : Int} {gL gk gm gp cL : Nat} {pA pB : Option Addr} {nA cA nB cB : Nat} {w0 w : World} {K : Nat} (hS : Sep w0 [.own' 27 4 (some ⟨gL, 0, none⟩) 1 cL [.bool (ng x), .slice pA nA cA, .bool (ng y), .slice pB nB cB], .rowm pA nA cA (lim x.natAbs), .rowm pB nB cB (lim y.natAbs), .blk gk [.int .i64 ((-((K : Nat) : Int)))] 3, .blk gm [.bool false, .slice none 0 0, .bool false, .slice none 0 0] 27, .blk gp [.bool false, .slice none 0 0, .bool false, .slice none 0 0] 27] w) (hkA : Wd x 16777216) (hkB : Wd y 16777216) (hy : y ≠ 0) (hK : K ≤ 9223372036854775807) (hK0 : 0 < K) (hx : x ≠ 0) (h1 : PowOk (RN y x) K) (h2 : PowOk (RD y x) K) :
    Calls Try.prog 85 #[.slice (some ⟨gL, 0, none⟩) 1 cL, .pointer (some ⟨gk, 0, none⟩)] w (fun e w' => ∃ v s kc, e = .returned v ∧ RRt (RN y x ^ K) (RD y x ^ K) 0 v s ∧ Sep w0 (s ++ [.blk gk [kc] 3, .blk gm [.bool false, .slice none 0 0, .bool false, .slice none 0 0] 27, .blk gp [.bool false, .slice none 0 0, .bool false, .slice none 0 0] 27]) w') := by
  refine went Try.func85 rfl (n := 67) rfl rfl ?_
  refine wseq ?_
  refine wreg ?_
  refine wl rfl (oalloc [.bool false, .slice none 0 0, .bool false, .slice none 0 0] hS rfl rfl Try.zeroValue27 rfl ?_)
  clear hS; intro g1 w2 hS
  refine wl rfl (oassign (v := .int .i64 0) rfl rfl (evc (v := .int .i64 0)) ?_)
  refine wnil ?_
  refine thenN ?_
  refine wseq ?_
  refine wreg ?_
  refine wl rfl (omove (v := .slice (some ⟨gL, 0, none⟩) 1 cL) rfl rfl (ev (v := .slice (some ⟨gL, 0, none⟩) 1 cL) rfl rfl) ?_)
  refine wl rfl (oindex (p := (some ⟨gL, 0, none⟩)) (g := gL) (off := 0) (m := 1) (k := 0) (j := (0 + 0 * 4)) rfl rfl Try.runUnderlying38 Try.sizeOf27 (ev (v := .slice (some ⟨gL, 0, none⟩) 1 cL) rfl rfl) (rfl) (evc (v := .int .i64 ((0 : Nat) : Int))) ((by omega)) rfl ?_)
  refine wl rfl (oloadA (vs := [.bool (ng x), .slice pA nA cA, .bool (ng y), .slice pB nB cB]) aggR rfl rfl (ev (v := .pointer (some ⟨gL, (0 + 0 * 4), none⟩)) rfl rfl) (fun j v hj => hS.ownCell 1 rfl hj) rfl ?_)
  refine wl rfl (oalloc [.bool false, .slice none 0 0, .bool false, .slice none 0 0] hS rfl rfl Try.zeroValue27 rfl ?_)
  clear hS; intro g3 w4 hS
  refine wl rfl (ostore [.bool (ng x), .slice pA nA cA, .bool (ng y), .slice pB nB cB] [.bool (ng x), .slice pA nA cA, .bool (ng y), .slice pB nB cB] Try.sizeOf27 hS 0 rfl rfl (ev rfl rfl) (ev (v := .agg #[.bool (ng x), .slice pA nA cA, .bool (ng y), .slice pB nB cB]) rfl rfl) rfl rfl rfl rfl rfl rfl ?_)
  clear hS; intro w5 hS
  refine wnil ?_
  refine thenN ?_
  refine wseq ?_
  refine wseq ?_
  refine wreg ?_
  refine wl rfl (oload1 (v := .int .i64 ((-((K : Nat) : Int)))) oneI hS 5 rfl rfl (ev rfl rfl) rfl rfl ?_)
  refine wl rfl (obin (u := .int .i64 ((-((K : Nat) : Int)))) (v := .int .i64 0) (z := .bool true) rfl rfl (ev (v := .int .i64 ((-((K : Nat) : Int)))) rfl rfl) (evc (v := .int .i64 0)) (bin_lss (decide_eq_true (by omega))) ?_)
  refine wnil ?_
  refine thenN ?_
  refine wT (ev (v := .bool true) rfl rfl) ?_
  refine wseq ?_
  refine wseq ?_
  refine wreg ?_
  refine wl rfl (ofieldAddr (g := g3) (off := 0) 0 rfl rfl (ev (v := .pointer (some ⟨g3, 0, none⟩)) rfl rfl) Try.runUnderlying27 rfl Try.sizeOf25 rfl ?_)
  refine wl rfl (oload (vs := [.bool (ng x), .slice pA nA cA]) aggZ hS 0 rfl rfl (ev rfl rfl) rfl rfl rfl ?_)
  obtain ⟨s1, hs1⟩ : ∃ z : Int, Hid ((x : Int).sign = z) := ⟨_, rfl⟩
  refine wl rfl (ocall rfl rfl Try.call55 rfl (wzsign (((hS.slm 3 rfl).zr hkA).mono (by omega)) hs1) (args1 (ev rfl rfl)) ?_)
  rintro _ w6 ⟨_, _, rfl, ⟨rfl, rfl⟩, hN⟩
  refine ⟨_, rfl, ?_⟩
  replace hS := hS.news hN; clear hN
  refine wl rfl (obin (u := .int .i64 s1) (v := .int .i64 0) (z := .bool false) rfl rfl (ev (v := .int .i64 s1) rfl rfl) (evc (v := .int .i64 0)) (bin_eql (sign_ne hs1 hx)) ?_)
  refine wnil ?_
  refine thenN ?_
  refine wF (ev (v := .bool false) rfl rfl) ?_
  refine wskip ?_
  refine thenN ?_
  refine wseq ?_
  refine wreg ?_
  refine wl rfl (oload (vs := [.bool (ng x), .slice pA nA cA, .bool (ng y), .slice pB nB cB]) aggR hS 0 rfl rfl (ev rfl rfl) rfl rfl rfl ?_)
  obtain ⟨z2, hz2⟩ : ∃ z : Int, Hid (RN y x = z) := ⟨_, rfl⟩
  have hk2 : Wd z2 16777216 := Wd.rn hkB hz2
  obtain ⟨z3, hz3⟩ : ∃ z : Int, Hid (RD y x = z) := ⟨_, rfl⟩
  have hk3 : Wd z3 16777216 := Wd.rd hkA hz3
  refine wl rfl (ocall rfl rfl Try.call9 rfl (wrinv ((hS.slm 3 rfl).zr hkA) ((hS.slm 4 rfl).zr hkB) (hy) (hx) hz2 hz3) (args1 (ev rfl rfl)) ?_)
  rintro _ w7 ⟨_, _, rfl, ⟨p2, n2, c2, p3, n3, c3, rfl, rfl⟩, hN⟩
  refine ⟨_, rfl, ?_⟩
  replace hS := hS.news hN; clear hN
  refine wl rfl (omove (v := .tuple #[.agg #[.bool (ng z2), .slice p2 n2 c2, .bool (ng z3), .slice p3 n3 c3], .int .i64 0]) rfl rfl (ev (v := .tuple #[.agg #[.bool (ng z2), .slice p2 n2 c2, .bool (ng z3), .slice p3 n3 c3], .int .i64 0]) rfl rfl) ?_)
  refine wl rfl (oextract (vs := [.agg #[.bool (ng z2), .slice p2 n2 c2, .bool (ng z3), .slice p3 n3 c3], .int .i64 0]) (v := .agg #[.bool (ng z2), .slice p2 n2 c2, .bool (ng z3), .slice p3 n3 c3]) rfl rfl (ev (v := .tuple #[.agg #[.bool (ng z2), .slice p2 n2 c2, .bool (ng z3), .slice p3 n3 c3], .int .i64 0]) rfl rfl) rfl ?_)
  refine wl rfl (oextract (vs := [.agg #[.bool (ng z2), .slice p2 n2 c2, .bool (ng z3), .slice p3 n3 c3], .int .i64 0]) (v := .int .i64 0) rfl rfl (ev (v := .tuple #[.agg #[.bool (ng z2), .slice p2 n2 c2, .bool (ng z3), .slice p3 n3 c3], .int .i64 0]) rfl rfl) rfl ?_)
  refine wl rfl (ostore [.bool (ng z2), .slice p2 n2 c2, .bool (ng z3), .slice p3 n3 c3] [.bool (ng z2), .slice p2 n2 c2, .bool (ng z3), .slice p3 n3 c3] Try.sizeOf27 hS 2 rfl rfl (ev rfl rfl) (ev (v := .agg #[.bool (ng z2), .slice p2 n2 c2, .bool (ng z3), .slice p3 n3 c3]) rfl rfl) rfl rfl rfl rfl rfl rfl ?_)
  clear hS; intro w8 hS
  refine wnil ?_
  refine thenN ?_
  refine wseq ?_
  refine wreg ?_
  refine wl rfl (oload1 (v := .int .i64 ((-((K : Nat) : Int)))) oneI hS 7 rfl rfl (ev rfl rfl) rfl rfl ?_)
  refine wl rfl (oneg (k := .i64) (c := ((K : Nat) : Int)) rfl rfl (ev (v := .int .i64 ((-((K : Nat) : Int)))) rfl rfl) (by rw [Int.neg_neg]; exact wrap_i64 (by omega) (by omega)) ?_)
  refine wl rfl (ostore [.int .i64 (((K : Nat) : Int))] [.int .i64 (((K : Nat) : Int))] Try.sizeOf3 hS 7 rfl rfl (ev rfl rfl) (ev (v := .int .i64 (((K : Nat) : Int))) rfl rfl) rfl rfl rfl rfl rfl rfl ?_)
  clear hS; intro w9 hS
  refine wnil ?_
  refine thenN ?_
  refine wseq ?_
  refine wreg ?_
  refine wl rfl (oload1 (v := .int .i64 (((K : Nat) : Int))) oneI hS 7 rfl rfl (ev rfl rfl) rfl rfl ?_)
  refine wl rfl (obin (u := .int .i64 (((K : Nat) : Int))) (v := .int .i64 0) (z := .bool false) rfl rfl (ev (v := .int .i64 (((K : Nat) : Int))) rfl rfl) (evc (v := .int .i64 0)) (bin_lss (decide_eq_false (by omega))) ?_)
  refine wnil ?_
  refine thenN ?_
  refine wF (ev (v := .bool false) rfl rfl) ?_
  refine wskip ?_
  refine thenN ?_
  refine wseq ?_
  refine wreg ?_
  refine wl rfl (ofieldAddr (g := g3) (off := 0) 0 rfl rfl (ev (v := .pointer (some ⟨g3, 0, none⟩)) rfl rfl) Try.runUnderlying27 rfl Try.sizeOf25 rfl ?_)
  refine wl rfl (oload (vs := [.bool (ng z2), .slice p2 n2 c2]) aggZ hS 2 rfl rfl (ev rfl rfl) rfl rfl rfl ?_)
  refine wl rfl (oload1 (v := .int .i64 (((K : Nat) : Int))) oneI hS 7 rfl rfl (ev rfl rfl) rfl rfl ?_)
  obtain ⟨z4, hz4⟩ : ∃ z : Int, Hid (z2 ^ K = z) := ⟨_, rfl⟩
  have hk4 : Wd z4 16778468 := wd_pow hk2 ((by rw [← hz2.out]; exact h1)) hz4
  refine wl rfl (ocall rfl rfl Try.call86 rfl (wzpow (((hS.slm 0 rfl).zr hk2).mono (by omega)) (hK) ((by rw [← hz2.out]; exact h1)) hz4) (args2 (ev rfl rfl) (ev rfl rfl)) ?_)
  rintro _ w10 ⟨_, _, rfl, ⟨p4, n4, c4, rfl, rfl⟩, hN⟩
  refine ⟨_, rfl, ?_⟩
  replace hS := hS.news hN; clear hN
  refine wl rfl (omove (v := .tuple #[.agg #[.bool (ng z4), .slice p4 n4 c4], .int .i64 0]) rfl rfl (ev (v := .tuple #[.agg #[.bool (ng z4), .slice p4 n4 c4], .int .i64 0]) rfl rfl) ?_)
  refine wl rfl (oextract (vs := [.agg #[.bool (ng z4), .slice p4 n4 c4], .int .i64 0]) (v := .agg #[.bool (ng z4), .slice p4 n4 c4]) rfl rfl (ev (v := .tuple #[.agg #[.bool (ng z4), .slice p4 n4 c4], .int .i64 0]) rfl rfl) rfl ?_)
  refine wl rfl (oextract (vs := [.agg #[.bool (ng z4), .slice p4 n4 c4], .int .i64 0]) (v := .int .i64 0) rfl rfl (ev (v := .tuple #[.agg #[.bool (ng z4), .slice p4 n4 c4], .int .i64 0]) rfl rfl) rfl ?_)
  refine wl rfl (oalloc [.bool false, .slice none 0 0] hS rfl rfl Try.zeroValue25 rfl ?_)
  clear hS; intro g11 w12 hS
  refine wl rfl (ostore [.bool (ng z4), .slice p4 n4 c4] [.bool (ng z4), .slice p4 n4 c4] Try.sizeOf25 hS 0 rfl rfl (ev rfl rfl) (ev (v := .agg #[.bool (ng z4), .slice p4 n4 c4]) rfl rfl) rfl rfl rfl rfl rfl rfl ?_)
  clear hS; intro w13 hS
  refine wl rfl (oassign (v := .int .i64 0) rfl rfl (ev (v := .int .i64 0) rfl rfl) ?_)
  refine wnil ?_
  refine thenN ?_
  refine wseq ?_
  refine wseq ?_
  refine wreg ?_
  refine wl rfl (omove (v := .int .i64 0) rfl rfl (ev (v := .int .i64 0) rfl rfl) ?_)
  refine wl rfl (obin (u := .int .i64 0) (v := .int .i64 0) (z := .bool false) rfl rfl (ev (v := .int .i64 0) rfl rfl) (evc (v := .int .i64 0)) (bin_neq (by decide)) ?_)
  refine wnil ?_
  refine thenN ?_
  refine wF (ev (v := .bool false) rfl rfl) ?_
  refine wskip ?_
  refine thenN ?_
  refine wseq ?_
  refine wreg ?_
  refine wl rfl (ofieldAddr (g := g3) (off := 0) 2 rfl rfl (ev (v := .pointer (some ⟨g3, 0, none⟩)) rfl rfl) Try.runUnderlying27 rfl Try.sizeOf25 rfl ?_)
  refine wl rfl (oload (vs := [.bool (ng z3), .slice p3 n3 c3]) aggZ hS 4 rfl rfl (ev rfl rfl) rfl rfl rfl ?_)
  refine wl rfl (oload1 (v := .int .i64 (((K : Nat) : Int))) oneI hS 9 rfl rfl (ev rfl rfl) rfl rfl ?_)
  obtain ⟨z5, hz5⟩ : ∃ z : Int, Hid (z3 ^ K = z) := ⟨_, rfl⟩
  have hk5 : Wd z5 16778468 := wd_pow hk3 ((by rw [← hz3.out]; exact h2)) hz5
  refine wl rfl (ocall rfl rfl Try.call86 rfl (wzpow (((hS.slm 3 rfl).zr hk3).mono (by omega)) (hK) ((by rw [← hz3.out]; exact h2)) hz5) (args2 (ev rfl rfl) (ev rfl rfl)) ?_)
  rintro _ w14 ⟨_, _, rfl, ⟨p5, n5, c5, rfl, rfl⟩, hN⟩
  refine ⟨_, rfl, ?_⟩
  replace hS := hS.news hN; clear hN
  refine wl rfl (omove (v := .tuple #[.agg #[.bool (ng z5), .slice p5 n5 c5], .int .i64 0]) rfl rfl (ev (v := .tuple #[.agg #[.bool (ng z5), .slice p5 n5 c5], .int .i64 0]) rfl rfl) ?_)
  refine wl rfl (oextract (vs := [.agg #[.bool (ng z5), .slice p5 n5 c5], .int .i64 0]) (v := .agg #[.bool (ng z5), .slice p5 n5 c5]) rfl rfl (ev (v := .tuple #[.agg #[.bool (ng z5), .slice p5 n5 c5], .int .i64 0]) rfl rfl) rfl ?_)
  refine wl rfl (oextract (vs := [.agg #[.bool (ng z5), .slice p5 n5 c5], .int .i64 0]) (v := .int .i64 0) rfl rfl (ev (v := .tuple #[.agg #[.bool (ng z5), .slice p5 n5 c5], .int .i64 0]) rfl rfl) rfl ?_)
  refine wl rfl (oalloc [.bool false, .slice none 0 0] hS rfl rfl Try.zeroValue25 rfl ?_)
  clear hS; intro g15 w16 hS
  refine wl rfl (ostore [.bool (ng z5), .slice p5 n5 c5] [.bool (ng z5), .slice p5 n5 c5] Try.sizeOf25 hS 0 rfl rfl (ev rfl rfl) (ev (v := .agg #[.bool (ng z5), .slice p5 n5 c5]) rfl rfl) rfl rfl rfl rfl rfl rfl ?_)
  clear hS; intro w17 hS
  refine wl rfl (oassign (v := .int .i64 0) rfl rfl (ev (v := .int .i64 0) rfl rfl) ?_)
  refine wnil ?_
  refine thenN ?_
  refine wseq ?_
  refine wseq ?_
  refine wreg ?_
  refine wl rfl (omove (v := .int .i64 0) rfl rfl (ev (v := .int .i64 0) rfl rfl) ?_)
  refine wl rfl (obin (u := .int .i64 0) (v := .int .i64 0) (z := .bool false) rfl rfl (ev (v := .int .i64 0) rfl rfl) (evc (v := .int .i64 0)) (bin_neq (by decide)) ?_)
  refine wnil ?_
  refine thenN ?_
  refine wF (ev (v := .bool false) rfl rfl) ?_
  refine wskip ?_
  refine thenN ?_
  refine wseq ?_
  refine wreg ?_
  refine wl rfl (oload (vs := [.bool (ng z4), .slice p4 n4 c4]) aggZ hS 2 rfl rfl (ev rfl rfl) rfl rfl rfl ?_)
  refine wl rfl (oload (vs := [.bool (ng z5), .slice p5 n5 c5]) aggZ hS 0 rfl rfl (ev rfl rfl) rfl rfl rfl ?_)
  refine wl rfl (obuild (ps := #[(0, .agg #[.bool (ng z4), .slice p4 n4 c4]), (1, .agg #[.bool (ng z5), .slice p5 n5 c5])]) (v := .agg #[.bool (ng z4), .slice p4 n4 c4, .bool (ng z5), .slice p5 n5 c5]) rfl rfl (parts2 (ev (v := .agg #[.bool (ng z4), .slice p4 n4 c4]) rfl rfl) (ev (v := .agg #[.bool (ng z5), .slice p5 n5 c5]) rfl rfl)) (fun w => by simp [go_sem, Instr.build, Instr.fill]) ?_)
  refine wl rfl (ostore [.bool (ng z4), .slice p4 n4 c4, .bool (ng z5), .slice p5 n5 c5] [.bool (ng z4), .slice p4 n4 c4, .bool (ng z5), .slice p5 n5 c5] Try.sizeOf27 hS 7 rfl rfl (ev rfl rfl) (ev (v := .agg #[.bool (ng z4), .slice p4 n4 c4, .bool (ng z5), .slice p5 n5 c5]) rfl rfl) rfl rfl rfl rfl rfl rfl ?_)
  clear hS; intro w18 hS
  refine wl rfl (oassign (v := .int .i64 0) rfl rfl (evc (v := .int .i64 0)) ?_)
  refine wnil ?_
  refine thenN ?_
  refine wleave ?_
  obtain rfl := hz2.out
  obtain rfl := hz3.out
  refine wret2 Try.results85 (tellC (cs := [.bool (ng z4), .slice p4 n4 c4, .bool (ng z5), .slice p5 n5 c5]) aggR hS 7 rfl rfl rfl rfl) (tellT (v := .int .i64 0) rfl rfl) ?_
  obtain rfl := hz4.out
  obtain rfl := hz5.out
  exact ⟨_, _, _, rfl, ⟨_, _, _, _, _, _, rfl, rfl⟩, hS.pick [3, 1, 11, 12, 13] (by decide) rfl⟩

set_option maxRecDepth 100000 in
set_option maxHeartbeats 16000000 in
theorem wpow1_nA {x y : Int} {gL gk gm gp cL : Nat} {pA pB : Option Addr} {nA cA nB cB : Nat} {w0 w : World} {K : Nat} (hS : Sep w0 [.own' 27 4 (some ⟨gL, 0, none⟩) 1 cL [.bool (ng x), .slice pA nA cA, .bool (ng y), .slice pB nB cB], .rowm pA nA cA (lim x.natAbs), .rowm pB nB cB (lim y.natAbs), .blk gk [.int .i64 ((-((K : Nat) : Int)))] 3, .blk gm [.bool false, .slice none 0 0, .bool false, .slice none 0 0] 27, .blk gp [.bool false, .slice none 0 0, .bool false, .slice none 0 0] 27] w) (hkA : Wd x 16777216) (hkB : Wd y 16777216) (hy : y ≠ 0) (hK : K ≤ 9223372036854775807) (hK0 : 0 < K) (hx : x ≠ 0) (h1 : PowBig (RN y x) K) :
    Calls Try.prog 85 #[.slice (some ⟨gL, 0, none⟩) 1 cL, .pointer (some ⟨gk, 0, none⟩)] w (fun e w' => ∃ v s kc, e = .returned v ∧ RRt 0 0 4 v s ∧ Sep w0 (s ++ [.blk gk [kc] 3, .blk gm [.bool false, .slice none 0 0, .bool false, .slice none 0 0] 27, .blk gp [.bool false, .slice none 0 0, .bool false, .slice none 0 0] 27]) w') := by
  refine went Try.func85 rfl (n := 67) rfl rfl ?_
  refine wseq ?_
  refine wreg ?_
  refine wl rfl (oalloc [.bool false, .slice none 0 0, .bool false, .slice none 0 0] hS rfl rfl Try.zeroValue27 rfl ?_)
  clear hS; intro g1 w2 hS
  refine wl rfl (oassign (v := .int .i64 0) rfl rfl (evc (v := .int .i64 0)) ?_)
  refine wnil ?_
  refine thenN ?_
  refine wseq ?_
  refine wreg ?_
  refine wl rfl (omove (v := .slice (some ⟨gL, 0, none⟩) 1 cL) rfl rfl (ev (v := .slice (some ⟨gL, 0, none⟩) 1 cL) rfl rfl) ?_)
  refine wl rfl (oindex (p := (some ⟨gL, 0, none⟩)) (g := gL) (off := 0) (m := 1) (k := 0) (j := (0 + 0 * 4)) rfl rfl Try.runUnderlying38 Try.sizeOf27 (ev (v := .slice (some ⟨gL, 0, none⟩) 1 cL) rfl rfl) (rfl) (evc (v := .int .i64 ((0 : Nat) : Int))) ((by omega)) rfl ?_)
  refine wl rfl (oloadA (vs := [.bool (ng x), .slice pA nA cA, .bool (ng y), .slice pB nB cB]) aggR rfl rfl (ev (v := .pointer (some ⟨gL, (0 + 0 * 4), none⟩)) rfl rfl) (fun j v hj => hS.ownCell 1 rfl hj) rfl ?_)
  refine wl rfl (oalloc [.bool false, .slice none 0 0, .bool false, .slice none 0 0] hS rfl rfl Try.zeroValue27 rfl ?_)
  clear hS; intro g3 w4 hS
  refine wl rfl (ostore [.bool (ng x), .slice pA nA cA, .bool (ng y), .slice pB nB cB] [.bool (ng x), .slice pA nA cA, .bool (ng y), .slice pB nB cB] Try.sizeOf27 hS 0 rfl rfl (ev rfl rfl) (ev (v := .agg #[.bool (ng x), .slice pA nA cA, .bool (ng y), .slice pB nB cB]) rfl rfl) rfl rfl rfl rfl rfl rfl ?_)
  clear hS; intro w5 hS
  refine wnil ?_
  refine thenN ?_
  refine wseq ?_
  refine wseq ?_
  refine wreg ?_
  refine wl rfl (oload1 (v := .int .i64 ((-((K : Nat) : Int)))) oneI hS 5 rfl rfl (ev rfl rfl) rfl rfl ?_)
  refine wl rfl (obin (u := .int .i64 ((-((K : Nat) : Int)))) (v := .int .i64 0) (z := .bool true) rfl rfl (ev (v := .int .i64 ((-((K : Nat) : Int)))) rfl rfl) (evc (v := .int .i64 0)) (bin_lss (decide_eq_true (by omega))) ?_)
  refine wnil ?_
  refine thenN ?_
  refine wT (ev (v := .bool true) rfl rfl) ?_
  refine wseq ?_
  refine wseq ?_
  refine wreg ?_
  refine wl rfl (ofieldAddr (g := g3) (off := 0) 0 rfl rfl (ev (v := .pointer (some ⟨g3, 0, none⟩)) rfl rfl) Try.runUnderlying27 rfl Try.sizeOf25 rfl ?_)
  refine wl rfl (oload (vs := [.bool (ng x), .slice pA nA cA]) aggZ hS 0 rfl rfl (ev rfl rfl) rfl rfl rfl ?_)
  obtain ⟨s1, hs1⟩ : ∃ z : Int, Hid ((x : Int).sign = z) := ⟨_, rfl⟩
  refine wl rfl (ocall rfl rfl Try.call55 rfl (wzsign (((hS.slm 3 rfl).zr hkA).mono (by omega)) hs1) (args1 (ev rfl rfl)) ?_)
  rintro _ w6 ⟨_, _, rfl, ⟨rfl, rfl⟩, hN⟩
  refine ⟨_, rfl, ?_⟩
  replace hS := hS.news hN; clear hN
  refine wl rfl (obin (u := .int .i64 s1) (v := .int .i64 0) (z := .bool false) rfl rfl (ev (v := .int .i64 s1) rfl rfl) (evc (v := .int .i64 0)) (bin_eql (sign_ne hs1 hx)) ?_)
  refine wnil ?_
  refine thenN ?_
  refine wF (ev (v := .bool false) rfl rfl) ?_
  refine wskip ?_
  refine thenN ?_
  refine wseq ?_
  refine wreg ?_
  refine wl rfl (oload (vs := [.bool (ng x), .slice pA nA cA, .bool (ng y), .slice pB nB cB]) aggR hS 0 rfl rfl (ev rfl rfl) rfl rfl rfl ?_)
  obtain ⟨z2, hz2⟩ : ∃ z : Int, Hid (RN y x = z) := ⟨_, rfl⟩
  have hk2 : Wd z2 16777216 := Wd.rn hkB hz2
  obtain ⟨z3, hz3⟩ : ∃ z : Int, Hid (RD y x = z) := ⟨_, rfl⟩
  have hk3 : Wd z3 16777216 := Wd.rd hkA hz3
  refine wl rfl (ocall rfl rfl Try.call9 rfl (wrinv ((hS.slm 3 rfl).zr hkA) ((hS.slm 4 rfl).zr hkB) (hy) (hx) hz2 hz3) (args1 (ev rfl rfl)) ?_)
  rintro _ w7 ⟨_, _, rfl, ⟨p2, n2, c2, p3, n3, c3, rfl, rfl⟩, hN⟩
  refine ⟨_, rfl, ?_⟩
  replace hS := hS.news hN; clear hN
  refine wl rfl (omove (v := .tuple #[.agg #[.bool (ng z2), .slice p2 n2 c2, .bool (ng z3), .slice p3 n3 c3], .int .i64 0]) rfl rfl (ev (v := .tuple #[.agg #[.bool (ng z2), .slice p2 n2 c2, .bool (ng z3), .slice p3 n3 c3], .int .i64 0]) rfl rfl) ?_)
  refine wl rfl (oextract (vs := [.agg #[.bool (ng z2), .slice p2 n2 c2, .bool (ng z3), .slice p3 n3 c3], .int .i64 0]) (v := .agg #[.bool (ng z2), .slice p2 n2 c2, .bool (ng z3), .slice p3 n3 c3]) rfl rfl (ev (v := .tuple #[.agg #[.bool (ng z2), .slice p2 n2 c2, .bool (ng z3), .slice p3 n3 c3], .int .i64 0]) rfl rfl) rfl ?_)
  refine wl rfl (oextract (vs := [.agg #[.bool (ng z2), .slice p2 n2 c2, .bool (ng z3), .slice p3 n3 c3], .int .i64 0]) (v := .int .i64 0) rfl rfl (ev (v := .tuple #[.agg #[.bool (ng z2), .slice p2 n2 c2, .bool (ng z3), .slice p3 n3 c3], .int .i64 0]) rfl rfl) rfl ?_)
  refine wl rfl (ostore [.bool (ng z2), .slice p2 n2 c2, .bool (ng z3), .slice p3 n3 c3] [.bool (ng z2), .slice p2 n2 c2, .bool (ng z3), .slice p3 n3 c3] Try.sizeOf27 hS 2 rfl rfl (ev rfl rfl) (ev (v := .agg #[.bool (ng z2), .slice p2 n2 c2, .bool (ng z3), .slice p3 n3 c3]) rfl rfl) rfl rfl rfl rfl rfl rfl ?_)
  clear hS; intro w8 hS
  refine wnil ?_
  refine thenN ?_
  refine wseq ?_
  refine wreg ?_
  refine wl rfl (oload1 (v := .int .i64 ((-((K : Nat) : Int)))) oneI hS 7 rfl rfl (ev rfl rfl) rfl rfl ?_)
  refine wl rfl (oneg (k := .i64) (c := ((K : Nat) : Int)) rfl rfl (ev (v := .int .i64 ((-((K : Nat) : Int)))) rfl rfl) (by rw [Int.neg_neg]; exact wrap_i64 (by omega) (by omega)) ?_)
  refine wl rfl (ostore [.int .i64 (((K : Nat) : Int))] [.int .i64 (((K : Nat) : Int))] Try.sizeOf3 hS 7 rfl rfl (ev rfl rfl) (ev (v := .int .i64 (((K : Nat) : Int))) rfl rfl) rfl rfl rfl rfl rfl rfl ?_)
  clear hS; intro w9 hS
  refine wnil ?_
  refine thenN ?_
  refine wseq ?_
  refine wreg ?_
  refine wl rfl (oload1 (v := .int .i64 (((K : Nat) : Int))) oneI hS 7 rfl rfl (ev rfl rfl) rfl rfl ?_)
  refine wl rfl (obin (u := .int .i64 (((K : Nat) : Int))) (v := .int .i64 0) (z := .bool false) rfl rfl (ev (v := .int .i64 (((K : Nat) : Int))) rfl rfl) (evc (v := .int .i64 0)) (bin_lss (decide_eq_false (by omega))) ?_)
  refine wnil ?_
  refine thenN ?_
  refine wF (ev (v := .bool false) rfl rfl) ?_
  refine wskip ?_
  refine thenN ?_
  refine wseq ?_
  refine wreg ?_
  refine wl rfl (ofieldAddr (g := g3) (off := 0) 0 rfl rfl (ev (v := .pointer (some ⟨g3, 0, none⟩)) rfl rfl) Try.runUnderlying27 rfl Try.sizeOf25 rfl ?_)
  refine wl rfl (oload (vs := [.bool (ng z2), .slice p2 n2 c2]) aggZ hS 2 rfl rfl (ev rfl rfl) rfl rfl rfl ?_)
  refine wl rfl (oload1 (v := .int .i64 (((K : Nat) : Int))) oneI hS 7 rfl rfl (ev rfl rfl) rfl rfl ?_)
  have hk4 : Wd 0 2 := Wd.i64 (by omega) (by omega)
  refine wl rfl (ocall rfl rfl Try.call86 rfl (wzpowB (((hS.slm 0 rfl).zr hk2).mono (by omega)) (hK) ((by rw [← hz2.out]; exact h1))) (args2 (ev rfl rfl) (ev rfl rfl)) ?_)
  rintro _ w10 ⟨_, _, rfl, ⟨p4, n4, c4, rfl, rfl⟩, hN⟩
  refine ⟨_, rfl, ?_⟩
  replace hS := hS.news hN; clear hN
  refine wl rfl (omove (v := .tuple #[.agg #[.bool (ng 0), .slice p4 n4 c4], .int .i64 4]) rfl rfl (ev (v := .tuple #[.agg #[.bool (ng 0), .slice p4 n4 c4], .int .i64 4]) rfl rfl) ?_)
  refine wl rfl (oextract (vs := [.agg #[.bool (ng 0), .slice p4 n4 c4], .int .i64 4]) (v := .agg #[.bool (ng 0), .slice p4 n4 c4]) rfl rfl (ev (v := .tuple #[.agg #[.bool (ng 0), .slice p4 n4 c4], .int .i64 4]) rfl rfl) rfl ?_)
  refine wl rfl (oextract (vs := [.agg #[.bool (ng 0), .slice p4 n4 c4], .int .i64 4]) (v := .int .i64 4) rfl rfl (ev (v := .tuple #[.agg #[.bool (ng 0), .slice p4 n4 c4], .int .i64 4]) rfl rfl) rfl ?_)
  refine wl rfl (oalloc [.bool false, .slice none 0 0] hS rfl rfl Try.zeroValue25 rfl ?_)
  clear hS; intro g11 w12 hS
  refine wl rfl (ostore [.bool (ng 0), .slice p4 n4 c4] [.bool (ng 0), .slice p4 n4 c4] Try.sizeOf25 hS 0 rfl rfl (ev rfl rfl) (ev (v := .agg #[.bool (ng 0), .slice p4 n4 c4]) rfl rfl) rfl rfl rfl rfl rfl rfl ?_)
  clear hS; intro w13 hS
  refine wl rfl (oassign (v := .int .i64 4) rfl rfl (ev (v := .int .i64 4) rfl rfl) ?_)
  refine wnil ?_
  refine thenN ?_
  refine wseq ?_
  refine wseq ?_
  refine wreg ?_
  refine wl rfl (omove (v := .int .i64 4) rfl rfl (ev (v := .int .i64 4) rfl rfl) ?_)
  refine wl rfl (obin (u := .int .i64 4) (v := .int .i64 0) (z := .bool true) rfl rfl (ev (v := .int .i64 4) rfl rfl) (evc (v := .int .i64 0)) (bin_neq (by decide)) ?_)
  refine wnil ?_
  refine thenN ?_
  refine wT (ev (v := .bool true) rfl rfl) ?_
  refine wseq ?_
  refine wreg ?_
  refine wl rfl (obuild (ps := #[]) (v := .agg #[.bool false, .slice none 0 0, .bool false, .slice none 0 0]) rfl rfl (parts0) (fun w => by simp [go_sem, Instr.build, Instr.fill]) ?_)
  refine wl rfl (omove (v := .int .i64 4) rfl rfl (ev (v := .int .i64 4) rfl rfl) ?_)
  refine wl rfl (ostore [.bool false, .slice none 0 0, .bool false, .slice none 0 0] [.bool false, .slice none 0 0, .bool false, .slice none 0 0] Try.sizeOf27 hS 5 rfl rfl (ev rfl rfl) (ev (v := .agg #[.bool false, .slice none 0 0, .bool false, .slice none 0 0]) rfl rfl) rfl rfl rfl rfl rfl rfl ?_)
  clear hS; intro w14 hS
  refine wl rfl (oassign (v := .int .i64 4) rfl rfl (ev (v := .int .i64 4) rfl rfl) ?_)
  refine wnil ?_
  refine thenN ?_
  refine wleave ?_
  refine thenR ?_
  refine wret2 Try.results85 (tellC (cs := [.bool false, .slice none 0 0, .bool false, .slice none 0 0]) aggR hS 5 rfl rfl rfl rfl) (tellT (v := .int .i64 4) rfl rfl) ?_
  exact ⟨_, _, _, rfl, ⟨_, _, _, _, _, _, rfl, rfl⟩, (hS.pick [9, 10, 11] (by decide) rfl).nil2⟩

set_option maxRecDepth 100000 in
set_option maxHeartbeats 16000000 in
theorem wpow1_nB {x y : Int} {gL gk gm gp cL : Nat} {pA pB : Option Addr} {nA cA nB cB : Nat} {w0 w : World} {K : Nat} (hS : Sep w0 [.own' 27 4 (some ⟨gL, 0, none⟩) 1 cL [.bool (ng x), .slice pA nA cA, .bool (ng y), .slice pB nB cB], .rowm pA nA cA (lim x.natAbs), .rowm pB nB cB (lim y.natAbs), .blk gk [.int .i64 ((-((K : Nat) : Int)))] 3, .blk gm [.bool false, .slice none 0 0, .bool false, .slice none 0 0] 27, .blk gp [.bool false, .slice none 0 0, .bool false, .slice none 0 0] 27] w) (hkA : Wd x 16777216) (hkB : Wd y 16777216) (hy : y ≠ 0) (hK : K ≤ 9223372036854775807) (hK0 : 0 < K) (hx : x ≠ 0) (h1 : PowOk (RN y x) K) (h2 : PowBig (RD y x) K) :
    Calls Try.prog 85 #[.slice (some ⟨gL, 0, none⟩) 1 cL, .pointer (some ⟨gk, 0, none⟩)] w (fun e w' => ∃ v s kc, e = .returned v ∧ RRt 0 0 4 v s ∧ Sep w0 (s ++ [.blk gk [kc] 3, .blk gm [.bool false, .slice none 0 0, .bool false, .slice none 0 0] 27, .blk gp [.bool false, .slice none 0 0, .bool false, .slice none 0 0] 27]) w') := by
  refine went Try.func85 rfl (n := 67) rfl rfl ?_
  refine wseq ?_
  refine wreg ?_
  refine wl rfl (oalloc [.bool false, .slice none 0 0, .bool false, .slice none 0 0] hS rfl rfl Try.zeroValue27 rfl ?_)
  clear hS; intro g1 w2 hS
  refine wl rfl (oassign (v := .int .i64 0) rfl rfl (evc (v := .int .i64 0)) ?_)
  refine wnil ?_
  refine thenN ?_
  refine wseq ?_
  refine wreg ?_
  refine wl rfl (omove (v := .slice (some ⟨gL, 0, none⟩) 1 cL) rfl rfl (ev (v := .slice (some ⟨gL, 0, none⟩) 1 cL) rfl rfl) ?_)
  refine wl rfl (oindex (p := (some ⟨gL, 0, none⟩)) (g := gL) (off := 0) (m := 1) (k := 0) (j := (0 + 0 * 4)) rfl rfl Try.runUnderlying38 Try.sizeOf27 (ev (v := .slice (some ⟨gL, 0, none⟩) 1 cL) rfl rfl) (rfl) (evc (v := .int .i64 ((0 : Nat) : Int))) ((by omega)) rfl ?_)
  refine wl rfl (oloadA (vs := [.bool (ng x), .slice pA nA cA, .bool (ng y), .slice pB nB cB]) aggR rfl rfl (ev (v := .pointer (some ⟨gL, (0 + 0 * 4), none⟩)) rfl rfl) (fun j v hj => hS.ownCell 1 rfl hj) rfl ?_)
  refine wl rfl (oalloc [.bool false, .slice none 0 0, .bool false, .slice none 0 0] hS rfl rfl Try.zeroValue27 rfl ?_)
  clear hS; intro g3 w4 hS
  refine wl rfl (ostore [.bool (ng x), .slice pA nA cA, .bool (ng y), .slice pB nB cB] [.bool (ng x), .slice pA nA cA, .bool (ng y), .slice pB nB cB] Try.sizeOf27 hS 0 rfl rfl (ev rfl rfl) (ev (v := .agg #[.bool (ng x), .slice pA nA cA, .bool (ng y), .slice pB nB cB]) rfl rfl) rfl rfl rfl rfl rfl rfl ?_)
  clear hS; intro w5 hS
  refine wnil ?_
  refine thenN ?_
  refine wseq ?_
  refine wseq ?_
  refine wreg ?_
  refine wl rfl (oload1 (v := .int .i64 ((-((K : Nat) : Int)))) oneI hS 5 rfl rfl (ev rfl rfl) rfl rfl ?_)
  refine wl rfl (obin (u := .int .i64 ((-((K : Nat) : Int)))) (v := .int .i64 0) (z := .bool true) rfl rfl (ev (v := .int .i64 ((-((K : Nat) : Int)))) rfl rfl) (evc (v := .int .i64 0)) (bin_lss (decide_eq_true (by omega))) ?_)
  refine wnil ?_
  refine thenN ?_
  refine wT (ev (v := .bool true) rfl rfl) ?_
  refine wseq ?_
  refine wseq ?_
  refine wreg ?_
  refine wl rfl (ofieldAddr (g := g3) (off := 0) 0 rfl rfl (ev (v := .pointer (some ⟨g3, 0, none⟩)) rfl rfl) Try.runUnderlying27 rfl Try.sizeOf25 rfl ?_)
  refine wl rfl (oload (vs := [.bool (ng x), .slice pA nA cA]) aggZ hS 0 rfl rfl (ev rfl rfl) rfl rfl rfl ?_)
  obtain ⟨s1, hs1⟩ : ∃ z : Int, Hid ((x : Int).sign = z) := ⟨_, rfl⟩
  refine wl rfl (ocall rfl rfl Try.call55 rfl (wzsign (((hS.slm 3 rfl).zr hkA).mono (by omega)) hs1) (args1 (ev rfl rfl)) ?_)
  rintro _ w6 ⟨_, _, rfl, ⟨rfl, rfl⟩, hN⟩
  refine ⟨_, rfl, ?_⟩
  replace hS := hS.news hN; clear hN
  refine wl rfl (obin (u := .int .i64 s1) (v := .int .i64 0) (z := .bool false) rfl rfl (ev (v := .int .i64 s1) rfl rfl) (evc (v := .int .i64 0)) (bin_eql (sign_ne hs1 hx)) ?_)
  refine wnil ?_
  refine thenN ?_
  refine wF (ev (v := .bool false) rfl rfl) ?_
  refine wskip ?_
  refine thenN ?_
  refine wseq ?_
  refine wreg ?_
  refine wl rfl (oload (vs := [.bool (ng x), .slice pA nA cA, .bool (ng y), .slice pB nB cB]) aggR hS 0 rfl rfl (ev rfl rfl) rfl rfl rfl ?_)
  obtain ⟨z2, hz2⟩ : ∃ z : Int, Hid (RN y x = z) := ⟨_, rfl⟩
  have hk2 : Wd z2 16777216 := Wd.rn hkB hz2
  obtain ⟨z3, hz3⟩ : ∃ z : Int, Hid (RD y x = z) := ⟨_, rfl⟩
  have hk3 : Wd z3 16777216 := Wd.rd hkA hz3
  refine wl rfl (ocall rfl rfl Try.call9 rfl (wrinv ((hS.slm 3 rfl).zr hkA) ((hS.slm 4 rfl).zr hkB) (hy) (hx) hz2 hz3) (args1 (ev rfl rfl)) ?_)
  rintro _ w7 ⟨_, _, rfl, ⟨p2, n2, c2, p3, n3, c3, rfl, rfl⟩, hN⟩
  refine ⟨_, rfl, ?_⟩
  replace hS := hS.news hN; clear hN
  refine wl rfl (omove (v := .tuple #[.agg #[.bool (ng z2), .slice p2 n2 c2, .bool (ng z3), .slice p3 n3 c3], .int .i64 0]) rfl rfl (ev (v := .tuple #[.agg #[.bool (ng z2), .slice p2 n2 c2, .bool (ng z3), .slice p3 n3 c3], .int .i64 0]) rfl rfl) ?_)
  refine wl rfl (oextract (vs := [.agg #[.bool (ng z2), .slice p2 n2 c2, .bool (ng z3), .slice p3 n3 c3], .int .i64 0]) (v := .agg #[.bool (ng z2), .slice p2 n2 c2, .bool (ng z3), .slice p3 n3 c3]) rfl rfl (ev (v := .tuple #[.agg #[.bool (ng z2), .slice p2 n2 c2, .bool (ng z3), .slice p3 n3 c3], .int .i64 0]) rfl rfl) rfl ?_)
  refine wl rfl (oextract (vs := [.agg #[.bool (ng z2), .slice p2 n2 c2, .bool (ng z3), .slice p3 n3 c3], .int .i64 0]) (v := .int .i64 0) rfl rfl (ev (v := .tuple #[.agg #[.bool (ng z2), .slice p2 n2 c2, .bool (ng z3), .slice p3 n3 c3], .int .i64 0]) rfl rfl) rfl ?_)
  refine wl rfl (ostore [.bool (ng z2), .slice p2 n2 c2, .bool (ng z3), .slice p3 n3 c3] [.bool (ng z2), .slice p2 n2 c2, .bool (ng z3), .slice p3 n3 c3] Try.sizeOf27 hS 2 rfl rfl (ev rfl rfl) (ev (v := .agg #[.bool (ng z2), .slice p2 n2 c2, .bool (ng z3), .slice p3 n3 c3]) rfl rfl) rfl rfl rfl rfl rfl rfl ?_)
  clear hS; intro w8 hS
  refine wnil ?_
  refine thenN ?_
  refine wseq ?_
  refine wreg ?_
  refine wl rfl (oload1 (v := .int .i64 ((-((K : Nat) : Int)))) oneI hS 7 rfl rfl (ev rfl rfl) rfl rfl ?_)
  refine wl rfl (oneg (k := .i64) (c := ((K : Nat) : Int)) rfl rfl (ev (v := .int .i64 ((-((K : Nat) : Int)))) rfl rfl) (by rw [Int.neg_neg]; exact wrap_i64 (by omega) (by omega)) ?_)
  refine wl rfl (ostore [.int .i64 (((K : Nat) : Int))] [.int .i64 (((K : Nat) : Int))] Try.sizeOf3 hS 7 rfl rfl (ev rfl rfl) (ev (v := .int .i64 (((K : Nat) : Int))) rfl rfl) rfl rfl rfl rfl rfl rfl ?_)
  clear hS; intro w9 hS
  refine wnil ?_
  refine thenN ?_
  refine wseq ?_
  refine wreg ?_
  refine wl rfl (oload1 (v := .int .i64 (((K : Nat) : Int))) oneI hS 7 rfl rfl (ev rfl rfl) rfl rfl ?_)
  refine wl rfl (obin (u := .int .i64 (((K : Nat) : Int))) (v := .int .i64 0) (z := .bool false) rfl rfl (ev (v := .int .i64 (((K : Nat) : Int))) rfl rfl) (evc (v := .int .i64 0)) (bin_lss (decide_eq_false (by omega))) ?_)
  refine wnil ?_
  refine thenN ?_
  refine wF (ev (v := .bool false) rfl rfl) ?_
  refine wskip ?_
  refine thenN ?_
  refine wseq ?_
  refine wreg ?_
  refine wl rfl (ofieldAddr (g := g3) (off := 0) 0 rfl rfl (ev (v := .pointer (some ⟨g3, 0, none⟩)) rfl rfl) Try.runUnderlying27 rfl Try.sizeOf25 rfl ?_)
  refine wl rfl (oload (vs := [.bool (ng z2), .slice p2 n2 c2]) aggZ hS 2 rfl rfl (ev rfl rfl) rfl rfl rfl ?_)
  refine wl rfl (oload1 (v := .int .i64 (((K : Nat) : Int))) oneI hS 7 rfl rfl (ev rfl rfl) rfl rfl ?_)
  obtain ⟨z4, hz4⟩ : ∃ z : Int, Hid (z2 ^ K = z) := ⟨_, rfl⟩
  have hk4 : Wd z4 16778468 := wd_pow hk2 ((by rw [← hz2.out]; exact h1)) hz4
  refine wl rfl (ocall rfl rfl Try.call86 rfl (wzpow (((hS.slm 0 rfl).zr hk2).mono (by omega)) (hK) ((by rw [← hz2.out]; exact h1)) hz4) (args2 (ev rfl rfl) (ev rfl rfl)) ?_)
  rintro _ w10 ⟨_, _, rfl, ⟨p4, n4, c4, rfl, rfl⟩, hN⟩
  refine ⟨_, rfl, ?_⟩
  replace hS := hS.news hN; clear hN
  refine wl rfl (omove (v := .tuple #[.agg #[.bool (ng z4), .slice p4 n4 c4], .int .i64 0]) rfl rfl (ev (v := .tuple #[.agg #[.bool (ng z4), .slice p4 n4 c4], .int .i64 0]) rfl rfl) ?_)
  refine wl rfl (oextract (vs := [.agg #[.bool (ng z4), .slice p4 n4 c4], .int .i64 0]) (v := .agg #[.bool (ng z4), .slice p4 n4 c4]) rfl rfl (ev (v := .tuple #[.agg #[.bool (ng z4), .slice p4 n4 c4], .int .i64 0]) rfl rfl) rfl ?_)
  refine wl rfl (oextract (vs := [.agg #[.bool (ng z4), .slice p4 n4 c4], .int .i64 0]) (v := .int .i64 0) rfl rfl (ev (v := .tuple #[.agg #[.bool (ng z4), .slice p4 n4 c4], .int .i64 0]) rfl rfl) rfl ?_)
  refine wl rfl (oalloc [.bool false, .slice none 0 0] hS rfl rfl Try.zeroValue25 rfl ?_)
  clear hS; intro g11 w12 hS
  refine wl rfl (ostore [.bool (ng z4), .slice p4 n4 c4] [.bool (ng z4), .slice p4 n4 c4] Try.sizeOf25 hS 0 rfl rfl (ev rfl rfl) (ev (v := .agg #[.bool (ng z4), .slice p4 n4 c4]) rfl rfl) rfl rfl rfl rfl rfl rfl ?_)
  clear hS; intro w13 hS
  refine wl rfl (oassign (v := .int .i64 0) rfl rfl (ev (v := .int .i64 0) rfl rfl) ?_)
  refine wnil ?_
  refine thenN ?_
  refine wseq ?_
  refine wseq ?_
  refine wreg ?_
  refine wl rfl (omove (v := .int .i64 0) rfl rfl (ev (v := .int .i64 0) rfl rfl) ?_)
  refine wl rfl (obin (u := .int .i64 0) (v := .int .i64 0) (z := .bool false) rfl rfl (ev (v := .int .i64 0) rfl rfl) (evc (v := .int .i64 0)) (bin_neq (by decide)) ?_)
  refine wnil ?_
  refine thenN ?_
  refine wF (ev (v := .bool false) rfl rfl) ?_
  refine wskip ?_
  refine thenN ?_
  refine wseq ?_
  refine wreg ?_
  refine wl rfl (ofieldAddr (g := g3) (off := 0) 2 rfl rfl (ev (v := .pointer (some ⟨g3, 0, none⟩)) rfl rfl) Try.runUnderlying27 rfl Try.sizeOf25 rfl ?_)
  refine wl rfl (oload (vs := [.bool (ng z3), .slice p3 n3 c3]) aggZ hS 4 rfl rfl (ev rfl rfl) rfl rfl rfl ?_)
  refine wl rfl (oload1 (v := .int .i64 (((K : Nat) : Int))) oneI hS 9 rfl rfl (ev rfl rfl) rfl rfl ?_)
  have hk5 : Wd 0 2 := Wd.i64 (by omega) (by omega)
  refine wl rfl (ocall rfl rfl Try.call86 rfl (wzpowB (((hS.slm 3 rfl).zr hk3).mono (by omega)) (hK) ((by rw [← hz3.out]; exact h2))) (args2 (ev rfl rfl) (ev rfl rfl)) ?_)
  rintro _ w14 ⟨_, _, rfl, ⟨p5, n5, c5, rfl, rfl⟩, hN⟩
  refine ⟨_, rfl, ?_⟩
  replace hS := hS.news hN; clear hN
  refine wl rfl (omove (v := .tuple #[.agg #[.bool (ng 0), .slice p5 n5 c5], .int .i64 4]) rfl rfl (ev (v := .tuple #[.agg #[.bool (ng 0), .slice p5 n5 c5], .int .i64 4]) rfl rfl) ?_)
  refine wl rfl (oextract (vs := [.agg #[.bool (ng 0), .slice p5 n5 c5], .int .i64 4]) (v := .agg #[.bool (ng 0), .slice p5 n5 c5]) rfl rfl (ev (v := .tuple #[.agg #[.bool (ng 0), .slice p5 n5 c5], .int .i64 4]) rfl rfl) rfl ?_)
  refine wl rfl (oextract (vs := [.agg #[.bool (ng 0), .slice p5 n5 c5], .int .i64 4]) (v := .int .i64 4) rfl rfl (ev (v := .tuple #[.agg #[.bool (ng 0), .slice p5 n5 c5], .int .i64 4]) rfl rfl) rfl ?_)
  refine wl rfl (oalloc [.bool false, .slice none 0 0] hS rfl rfl Try.zeroValue25 rfl ?_)
  clear hS; intro g15 w16 hS
  refine wl rfl (ostore [.bool (ng 0), .slice p5 n5 c5] [.bool (ng 0), .slice p5 n5 c5] Try.sizeOf25 hS 0 rfl rfl (ev rfl rfl) (ev (v := .agg #[.bool (ng 0), .slice p5 n5 c5]) rfl rfl) rfl rfl rfl rfl rfl rfl ?_)
  clear hS; intro w17 hS
  refine wl rfl (oassign (v := .int .i64 4) rfl rfl (ev (v := .int .i64 4) rfl rfl) ?_)
  refine wnil ?_
  refine thenN ?_
  refine wseq ?_
  refine wseq ?_
  refine wreg ?_
  refine wl rfl (omove (v := .int .i64 4) rfl rfl (ev (v := .int .i64 4) rfl rfl) ?_)
  refine wl rfl (obin (u := .int .i64 4) (v := .int .i64 0) (z := .bool true) rfl rfl (ev (v := .int .i64 4) rfl rfl) (evc (v := .int .i64 0)) (bin_neq (by decide)) ?_)
  refine wnil ?_
  refine thenN ?_
  refine wT (ev (v := .bool true) rfl rfl) ?_
  refine wseq ?_
  refine wreg ?_
  refine wl rfl (obuild (ps := #[]) (v := .agg #[.bool false, .slice none 0 0, .bool false, .slice none 0 0]) rfl rfl (parts0) (fun w => by simp [go_sem, Instr.build, Instr.fill]) ?_)
  refine wl rfl (omove (v := .int .i64 4) rfl rfl (ev (v := .int .i64 4) rfl rfl) ?_)
  refine wl rfl (ostore [.bool false, .slice none 0 0, .bool false, .slice none 0 0] [.bool false, .slice none 0 0, .bool false, .slice none 0 0] Try.sizeOf27 hS 7 rfl rfl (ev rfl rfl) (ev (v := .agg #[.bool false, .slice none 0 0, .bool false, .slice none 0 0]) rfl rfl) rfl rfl rfl rfl rfl rfl ?_)
  clear hS; intro w18 hS
  refine wl rfl (oassign (v := .int .i64 4) rfl rfl (ev (v := .int .i64 4) rfl rfl) ?_)
  refine wnil ?_
  refine thenN ?_
  refine wleave ?_
  refine thenR ?_
  refine wret2 Try.results85 (tellC (cs := [.bool false, .slice none 0 0, .bool false, .slice none 0 0]) aggR hS 7 rfl rfl rfl rfl) (tellT (v := .int .i64 4) rfl rfl) ?_
  exact ⟨_, _, _, rfl, ⟨_, _, _, _, _, _, rfl, rfl⟩, (hS.pick [11, 12, 13] (by decide) rfl).nil2⟩

set_option maxRecDepth 100000 in
set_option maxHeartbeats 16000000 in
theorem wpow1_nz {x y : Int} {gL gk gm gp cL : Nat} {pA pB : Option Addr} {nA cA nB cB : Nat} {w0 w : World} {K : Nat} (hS : Sep w0 [.own' 27 4 (some ⟨gL, 0, none⟩) 1 cL [.bool (ng x), .slice pA nA cA, .bool (ng y), .slice pB nB cB], .rowm pA nA cA (lim x.natAbs), .rowm pB nB cB (lim y.natAbs), .blk gk [.int .i64 ((-((K : Nat) : Int)))] 3, .blk gm [.bool false, .slice none 0 0, .bool false, .slice none 0 0] 27, .blk gp [.bool false, .slice none 0 0, .bool false, .slice none 0 0] 27] w) (hkA : Wd x 16777216) (hkB : Wd y 16777216) (hy : y ≠ 0) (hK : K ≤ 9223372036854775807) (hK0 : 0 < K) (hx : x = 0) :
    Calls Try.prog 85 #[.slice (some ⟨gL, 0, none⟩) 1 cL, .pointer (some ⟨gk, 0, none⟩)] w (fun e w' => ∃ v s kc, e = .returned v ∧ RRt 0 0 5 v s ∧ Sep w0 (s ++ [.blk gk [kc] 3, .blk gm [.bool false, .slice none 0 0, .bool false, .slice none 0 0] 27, .blk gp [.bool false, .slice none 0 0, .bool false, .slice none 0 0] 27]) w') := by
  refine went Try.func85 rfl (n := 67) rfl rfl ?_
  refine wseq ?_
  refine wreg ?_
  refine wl rfl (oalloc [.bool false, .slice none 0 0, .bool false, .slice none 0 0] hS rfl rfl Try.zeroValue27 rfl ?_)
  clear hS; intro g1 w2 hS
  refine wl rfl (oassign (v := .int .i64 0) rfl rfl (evc (v := .int .i64 0)) ?_)
  refine wnil ?_
  refine thenN ?_
  refine wseq ?_
  refine wreg ?_
  refine wl rfl (omove (v := .slice (some ⟨gL, 0, none⟩) 1 cL) rfl rfl (ev (v := .slice (some ⟨gL, 0, none⟩) 1 cL) rfl rfl) ?_)
  refine wl rfl (oindex (p := (some ⟨gL, 0, none⟩)) (g := gL) (off := 0) (m := 1) (k := 0) (j := (0 + 0 * 4)) rfl rfl Try.runUnderlying38 Try.sizeOf27 (ev (v := .slice (some ⟨gL, 0, none⟩) 1 cL) rfl rfl) (rfl) (evc (v := .int .i64 ((0 : Nat) : Int))) ((by omega)) rfl ?_)
  refine wl rfl (oloadA (vs := [.bool (ng x), .slice pA nA cA, .bool (ng y), .slice pB nB cB]) aggR rfl rfl (ev (v := .pointer (some ⟨gL, (0 + 0 * 4), none⟩)) rfl rfl) (fun j v hj => hS.ownCell 1 rfl hj) rfl ?_)
  refine wl rfl (oalloc [.bool false, .slice none 0 0, .bool false, .slice none 0 0] hS rfl rfl Try.zeroValue27 rfl ?_)
  clear hS; intro g3 w4 hS
  refine wl rfl (ostore [.bool (ng x), .slice pA nA cA, .bool (ng y), .slice pB nB cB] [.bool (ng x), .slice pA nA cA, .bool (ng y), .slice pB nB cB] Try.sizeOf27 hS 0 rfl rfl (ev rfl rfl) (ev (v := .agg #[.bool (ng x), .slice pA nA cA, .bool (ng y), .slice pB nB cB]) rfl rfl) rfl rfl rfl rfl rfl rfl ?_)
  clear hS; intro w5 hS
  refine wnil ?_
  refine thenN ?_
  refine wseq ?_
  refine wseq ?_
  refine wreg ?_
  refine wl rfl (oload1 (v := .int .i64 ((-((K : Nat) : Int)))) oneI hS 5 rfl rfl (ev rfl rfl) rfl rfl ?_)
  refine wl rfl (obin (u := .int .i64 ((-((K : Nat) : Int)))) (v := .int .i64 0) (z := .bool true) rfl rfl (ev (v := .int .i64 ((-((K : Nat) : Int)))) rfl rfl) (evc (v := .int .i64 0)) (bin_lss (decide_eq_true (by omega))) ?_)
  refine wnil ?_
  refine thenN ?_
  refine wT (ev (v := .bool true) rfl rfl) ?_
  refine wseq ?_
  refine wseq ?_
  refine wreg ?_
  refine wl rfl (ofieldAddr (g := g3) (off := 0) 0 rfl rfl (ev (v := .pointer (some ⟨g3, 0, none⟩)) rfl rfl) Try.runUnderlying27 rfl Try.sizeOf25 rfl ?_)
  refine wl rfl (oload (vs := [.bool (ng x), .slice pA nA cA]) aggZ hS 0 rfl rfl (ev rfl rfl) rfl rfl rfl ?_)
  obtain ⟨s1, hs1⟩ : ∃ z : Int, Hid ((x : Int).sign = z) := ⟨_, rfl⟩
  refine wl rfl (ocall rfl rfl Try.call55 rfl (wzsign (((hS.slm 3 rfl).zr hkA).mono (by omega)) hs1) (args1 (ev rfl rfl)) ?_)
  rintro _ w6 ⟨_, _, rfl, ⟨rfl, rfl⟩, hN⟩
  refine ⟨_, rfl, ?_⟩
  replace hS := hS.news hN; clear hN
  refine wl rfl (obin (u := .int .i64 s1) (v := .int .i64 0) (z := .bool true) rfl rfl (ev (v := .int .i64 s1) rfl rfl) (evc (v := .int .i64 0)) (bin_eql (sign_eq hs1 hx)) ?_)
  refine wnil ?_
  refine thenN ?_
  refine wT (ev (v := .bool true) rfl rfl) ?_
  refine wseq ?_
  refine wreg ?_
  refine wl rfl (obuild (ps := #[]) (v := .agg #[.bool false, .slice none 0 0, .bool false, .slice none 0 0]) rfl rfl (parts0) (fun w => by simp [go_sem, Instr.build, Instr.fill]) ?_)
  refine wl rfl (ostore [.bool false, .slice none 0 0, .bool false, .slice none 0 0] [.bool false, .slice none 0 0, .bool false, .slice none 0 0] Try.sizeOf27 hS 1 rfl rfl (ev rfl rfl) (ev (v := .agg #[.bool false, .slice none 0 0, .bool false, .slice none 0 0]) rfl rfl) rfl rfl rfl rfl rfl rfl ?_)
  clear hS; intro w7 hS
  refine wl rfl (oassign (v := .int .i64 5) rfl rfl (evc (v := .int .i64 5)) ?_)
  refine wnil ?_
  refine thenN ?_
  refine wleave ?_
  refine thenR ?_
  refine thenR ?_
  refine wret2 Try.results85 (tellC (cs := [.bool false, .slice none 0 0, .bool false, .slice none 0 0]) aggR hS 1 rfl rfl rfl rfl) (tellT (v := .int .i64 5) rfl rfl) ?_
  exact ⟨_, _, _, rfl, ⟨_, _, _, _, _, _, rfl, rfl⟩, (hS.pick [5, 6, 7] (by decide) rfl).nil2⟩

set_option maxRecDepth 100000 in
set_option maxHeartbeats 16000000 in
theorem wpow1_m {x y : Int} {gL gk gm gp cL : Nat} {pA pB : Option Addr} {nA cA nB cB : Nat} {w0 w : World} (hS : Sep w0 [.own' 27 4 (some ⟨gL, 0, none⟩) 1 cL [.bool (ng x), .slice pA nA cA, .bool (ng y), .slice pB nB cB], .rowm pA nA cA (lim x.natAbs), .rowm pB nB cB (lim y.natAbs), .blk gk [.int .i64 (-9223372036854775808)] 3, .blk gm [.bool false, .slice none 0 0, .bool false, .slice none 0 0] 27, .blk gp [.bool false, .slice none 0 0, .bool false, .slice none 0 0] 27] w) (hkA : Wd x 16777216) (hkB : Wd y 16777216) (hy : y ≠ 0) (hx : x ≠ 0) (h1 : blen (RN y x).natAbs = 1) (h2 : blen (RD y x).natAbs = 1) :
    Calls Try.prog 85 #[.slice (some ⟨gL, 0, none⟩) 1 cL, .pointer (some ⟨gk, 0, none⟩)] w (fun e w' => ∃ v s kc, e = .returned v ∧ RRt 1 1 0 v s ∧ Sep w0 (s ++ [.blk gk [kc] 3, .blk gm [.bool false, .slice none 0 0, .bool false, .slice none 0 0] 27, .blk gp [.bool false, .slice none 0 0, .bool false, .slice none 0 0] 27]) w') := by
  refine went Try.func85 rfl (n := 67) rfl rfl ?_
  refine wseq ?_
  refine wreg ?_
  refine wl rfl (oalloc [.bool false, .slice none 0 0, .bool false, .slice none 0 0] hS rfl rfl Try.zeroValue27 rfl ?_)
  clear hS; intro g1 w2 hS
  refine wl rfl (oassign (v := .int .i64 0) rfl rfl (evc (v := .int .i64 0)) ?_)
  refine wnil ?_
  refine thenN ?_
  refine wseq ?_
  refine wreg ?_
  refine wl rfl (omove (v := .slice (some ⟨gL, 0, none⟩) 1 cL) rfl rfl (ev (v := .slice (some ⟨gL, 0, none⟩) 1 cL) rfl rfl) ?_)
  refine wl rfl (oindex (p := (some ⟨gL, 0, none⟩)) (g := gL) (off := 0) (m := 1) (k := 0) (j := (0 + 0 * 4)) rfl rfl Try.runUnderlying38 Try.sizeOf27 (ev (v := .slice (some ⟨gL, 0, none⟩) 1 cL) rfl rfl) (rfl) (evc (v := .int .i64 ((0 : Nat) : Int))) ((by omega)) rfl ?_)
  refine wl rfl (oloadA (vs := [.bool (ng x), .slice pA nA cA, .bool (ng y), .slice pB nB cB]) aggR rfl rfl (ev (v := .pointer (some ⟨gL, (0 + 0 * 4), none⟩)) rfl rfl) (fun j v hj => hS.ownCell 1 rfl hj) rfl ?_)
  refine wl rfl (oalloc [.bool false, .slice none 0 0, .bool false, .slice none 0 0] hS rfl rfl Try.zeroValue27 rfl ?_)
  clear hS; intro g3 w4 hS
  refine wl rfl (ostore [.bool (ng x), .slice pA nA cA, .bool (ng y), .slice pB nB cB] [.bool (ng x), .slice pA nA cA, .bool (ng y), .slice pB nB cB] Try.sizeOf27 hS 0 rfl rfl (ev rfl rfl) (ev (v := .agg #[.bool (ng x), .slice pA nA cA, .bool (ng y), .slice pB nB cB]) rfl rfl) rfl rfl rfl rfl rfl rfl ?_)
  clear hS; intro w5 hS
  refine wnil ?_
  refine thenN ?_
  refine wseq ?_
  refine wseq ?_
  refine wreg ?_
  refine wl rfl (oload1 (v := .int .i64 (-9223372036854775808)) oneI hS 5 rfl rfl (ev rfl rfl) rfl rfl ?_)
  refine wl rfl (obin (u := .int .i64 (-9223372036854775808)) (v := .int .i64 0) (z := .bool true) rfl rfl (ev (v := .int .i64 (-9223372036854775808)) rfl rfl) (evc (v := .int .i64 0)) (bin_lss (by decide)) ?_)
  refine wnil ?_
  refine thenN ?_
  refine wT (ev (v := .bool true) rfl rfl) ?_
  refine wseq ?_
  refine wseq ?_
  refine wreg ?_
  refine wl rfl (ofieldAddr (g := g3) (off := 0) 0 rfl rfl (ev (v := .pointer (some ⟨g3, 0, none⟩)) rfl rfl) Try.runUnderlying27 rfl Try.sizeOf25 rfl ?_)
  refine wl rfl (oload (vs := [.bool (ng x), .slice pA nA cA]) aggZ hS 0 rfl rfl (ev rfl rfl) rfl rfl rfl ?_)
  obtain ⟨s1, hs1⟩ : ∃ z : Int, Hid ((x : Int).sign = z) := ⟨_, rfl⟩
  refine wl rfl (ocall rfl rfl Try.call55 rfl (wzsign (((hS.slm 3 rfl).zr hkA).mono (by omega)) hs1) (args1 (ev rfl rfl)) ?_)
  rintro _ w6 ⟨_, _, rfl, ⟨rfl, rfl⟩, hN⟩
  refine ⟨_, rfl, ?_⟩
  replace hS := hS.news hN; clear hN
  refine wl rfl (obin (u := .int .i64 s1) (v := .int .i64 0) (z := .bool false) rfl rfl (ev (v := .int .i64 s1) rfl rfl) (evc (v := .int .i64 0)) (bin_eql (sign_ne hs1 hx)) ?_)
  refine wnil ?_
  refine thenN ?_
  refine wF (ev (v := .bool false) rfl rfl) ?_
  refine wskip ?_
  refine thenN ?_
  refine wseq ?_
  refine wreg ?_
  refine wl rfl (oload (vs := [.bool (ng x), .slice pA nA cA, .bool (ng y), .slice pB nB cB]) aggR hS 0 rfl rfl (ev rfl rfl) rfl rfl rfl ?_)
  obtain ⟨z2, hz2⟩ : ∃ z : Int, Hid (RN y x = z) := ⟨_, rfl⟩
  have hk2 : Wd z2 16777216 := Wd.rn hkB hz2
  obtain ⟨z3, hz3⟩ : ∃ z : Int, Hid (RD y x = z) := ⟨_, rfl⟩
  have hk3 : Wd z3 16777216 := Wd.rd hkA hz3
  refine wl rfl (ocall rfl rfl Try.call9 rfl (wrinv ((hS.slm 3 rfl).zr hkA) ((hS.slm 4 rfl).zr hkB) (hy) (hx) hz2 hz3) (args1 (ev rfl rfl)) ?_)
  rintro _ w7 ⟨_, _, rfl, ⟨p2, n2, c2, p3, n3, c3, rfl, rfl⟩, hN⟩
  refine ⟨_, rfl, ?_⟩
  replace hS := hS.news hN; clear hN
  refine wl rfl (omove (v := .tuple #[.agg #[.bool (ng z2), .slice p2 n2 c2, .bool (ng z3), .slice p3 n3 c3], .int .i64 0]) rfl rfl (ev (v := .tuple #[.agg #[.bool (ng z2), .slice p2 n2 c2, .bool (ng z3), .slice p3 n3 c3], .int .i64 0]) rfl rfl) ?_)
  refine wl rfl (oextract (vs := [.agg #[.bool (ng z2), .slice p2 n2 c2, .bool (ng z3), .slice p3 n3 c3], .int .i64 0]) (v := .agg #[.bool (ng z2), .slice p2 n2 c2, .bool (ng z3), .slice p3 n3 c3]) rfl rfl (ev (v := .tuple #[.agg #[.bool (ng z2), .slice p2 n2 c2, .bool (ng z3), .slice p3 n3 c3], .int .i64 0]) rfl rfl) rfl ?_)
  refine wl rfl (oextract (vs := [.agg #[.bool (ng z2), .slice p2 n2 c2, .bool (ng z3), .slice p3 n3 c3], .int .i64 0]) (v := .int .i64 0) rfl rfl (ev (v := .tuple #[.agg #[.bool (ng z2), .slice p2 n2 c2, .bool (ng z3), .slice p3 n3 c3], .int .i64 0]) rfl rfl) rfl ?_)
  refine wl rfl (ostore [.bool (ng z2), .slice p2 n2 c2, .bool (ng z3), .slice p3 n3 c3] [.bool (ng z2), .slice p2 n2 c2, .bool (ng z3), .slice p3 n3 c3] Try.sizeOf27 hS 2 rfl rfl (ev rfl rfl) (ev (v := .agg #[.bool (ng z2), .slice p2 n2 c2, .bool (ng z3), .slice p3 n3 c3]) rfl rfl) rfl rfl rfl rfl rfl rfl ?_)
  clear hS; intro w8 hS
  refine wnil ?_
  refine thenN ?_
  refine wseq ?_
  refine wreg ?_
  refine wl rfl (oload1 (v := .int .i64 (-9223372036854775808)) oneI hS 7 rfl rfl (ev rfl rfl) rfl rfl ?_)
  refine wl rfl (oneg (k := .i64) (c := -9223372036854775808) rfl rfl (ev (v := .int .i64 (-9223372036854775808)) rfl rfl) (by decide) ?_)
  refine wl rfl (ostore [.int .i64 (-9223372036854775808)] [.int .i64 (-9223372036854775808)] Try.sizeOf3 hS 7 rfl rfl (ev rfl rfl) (ev (v := .int .i64 (-9223372036854775808)) rfl rfl) rfl rfl rfl rfl rfl rfl ?_)
  clear hS; intro w9 hS
  refine wnil ?_
  refine thenN ?_
  refine wseq ?_
  refine wreg ?_
  refine wl rfl (oload1 (v := .int .i64 (-9223372036854775808)) oneI hS 7 rfl rfl (ev rfl rfl) rfl rfl ?_)
  refine wl rfl (obin (u := .int .i64 (-9223372036854775808)) (v := .int .i64 0) (z := .bool true) rfl rfl (ev (v := .int .i64 (-9223372036854775808)) rfl rfl) (evc (v := .int .i64 0)) (bin_lss (by decide)) ?_)
  refine wnil ?_
  refine thenN ?_
  refine wT (ev (v := .bool true) rfl rfl) ?_
  refine wseq ?_
  refine wseq ?_
  refine wreg ?_
  refine wl rfl (ofieldAddr (g := g3) (off := 0) 0 rfl rfl (ev (v := .pointer (some ⟨g3, 0, none⟩)) rfl rfl) Try.runUnderlying27 rfl Try.sizeOf25 rfl ?_)
  refine wl rfl (ofieldAddr (g := g3) (off := 0) 1 rfl rfl (ev (v := .pointer (some ⟨g3, 0, none⟩)) rfl rfl) Try.runUnderlying25 rfl Try.sizeOf23 rfl ?_)
  refine wl rfl (oload1 (v := .slice p2 n2 c2) oneN hS 2 rfl rfl (ev rfl rfl) rfl rfl ?_)
  refine wl rfl (ocall rfl rfl Try.call69 rfl (wnlen (z := z2) (hS.slm 0 rfl) (hk2.mono (by omega))) (args1 (ev rfl rfl)) ?_)
  rintro _ w10 ⟨_, _, rfl, ⟨rfl, rfl⟩, hN⟩
  refine ⟨_, rfl, ?_⟩
  replace hS := hS.news hN; clear hN
  refine wl rfl (obin (u := .int .i64 (((blen z2.natAbs : Nat) : Int))) (v := .int .i64 1) (z := .bool true) rfl rfl (ev (v := .int .i64 (((blen z2.natAbs : Nat) : Int))) rfl rfl) (evc (v := .int .i64 1)) (bin_eql (eqT (by rw [← hz2.out]; omega))) ?_)
  refine wl rfl (omove (v := .bool true) rfl rfl (ev (v := .bool true) rfl rfl) ?_)
  refine wlOn (e := 33) rfl rfl rfl rfl (ofieldAddr (g := g3) (off := 0) 2 rfl rfl (ev (v := .pointer (some ⟨g3, 0, none⟩)) rfl rfl) Try.runUnderlying27 rfl Try.sizeOf25 rfl ?_)
  refine wlOn (e := 33) rfl rfl rfl rfl (ofieldAddr (g := g3) (off := 2) 3 rfl rfl (ev (v := .pointer (some ⟨g3, 2, none⟩)) rfl rfl) Try.runUnderlying25 rfl Try.sizeOf23 rfl ?_)
  refine wlOn (e := 33) rfl rfl rfl rfl (oload1 (v := .slice p3 n3 c3) oneN hS 2 rfl rfl (ev rfl rfl) rfl rfl ?_)
  refine wlOn (e := 33) rfl rfl rfl rfl (ocall rfl rfl Try.call69 rfl (wnlen (z := z3) (hS.slm 1 rfl) (hk3.mono (by omega))) (args1 (ev rfl rfl)) ?_)
  rintro _ w11 ⟨_, _, rfl, ⟨rfl, rfl⟩, hN⟩
  refine ⟨_, rfl, ?_⟩
  replace hS := hS.news hN; clear hN
  refine wlOn (e := 33) rfl rfl rfl rfl (obin (u := .int .i64 (((blen z3.natAbs : Nat) : Int))) (v := .int .i64 1) (z := .bool true) rfl rfl (ev (v := .int .i64 (((blen z3.natAbs : Nat) : Int))) rfl rfl) (evc (v := .int .i64 1)) (bin_eql (eqT (by rw [← hz3.out]; omega))) ?_)
  refine wl rfl (opick (b := true) (v := .bool true) rfl rfl (ev (v := .bool true) rfl rfl) (ev (v := .bool true) rfl rfl) ?_)
  refine wnil ?_
  refine thenN ?_
  refine wT (ev (v := .bool true) rfl rfl) ?_
  refine wseq ?_
  refine wreg ?_
  have hk4 : Wd 1 2 := Wd.i64 (by omega) (by omega)
  have hk5 : Wd 1 2 := Wd.i64 (by omega) (by omega)
  refine wl rfl (ocall rfl rfl Try.call47 rfl (wrof (x := 1) (by omega) (by omega)) (args1 evc) ?_)
  rintro _ w12 ⟨_, _, rfl, ⟨p4, n4, c4, p5, n5, c5, rfl, rfl⟩, hN⟩
  refine ⟨_, rfl, ?_⟩
  replace hS := hS.news hN; clear hN
  refine wl rfl (ostore [.bool (ng 1), .slice p4 n4 c4, .bool (ng 1), .slice p5 n5 c5] [.bool (ng 1), .slice p4 n4 c4, .bool (ng 1), .slice p5 n5 c5] Try.sizeOf27 hS 5 rfl rfl (ev rfl rfl) (ev (v := .agg #[.bool (ng 1), .slice p4 n4 c4, .bool (ng 1), .slice p5 n5 c5]) rfl rfl) rfl rfl rfl rfl rfl rfl ?_)
  clear hS; intro w13 hS
  refine wl rfl (oassign (v := .int .i64 0) rfl rfl (evc (v := .int .i64 0)) ?_)
  refine wnil ?_
  refine thenN ?_
  refine wleave ?_
  refine thenR ?_
  refine thenR ?_
  refine wret2 Try.results85 (tellC (cs := [.bool (ng 1), .slice p4 n4 c4, .bool (ng 1), .slice p5 n5 c5]) aggR hS 5 rfl rfl rfl rfl) (tellT (v := .int .i64 0) rfl rfl) ?_
  exact ⟨_, _, _, rfl, ⟨_, _, _, _, _, _, rfl, rfl⟩, hS.pick [0, 1, 9, 10, 11] (by decide) rfl⟩

set_option maxRecDepth 100000 in
set_option maxHeartbeats 16000000 in
theorem wpow1_mA {x y : Int} {gL gk gm gp cL : Nat} {pA pB : Option Addr} {nA cA nB cB : Nat} {w0 w : World} (hS : Sep w0 [.own' 27 4 (some ⟨gL, 0, none⟩) 1 cL [.bool (ng x), .slice pA nA cA, .bool (ng y), .slice pB nB cB], .rowm pA nA cA (lim x.natAbs), .rowm pB nB cB (lim y.natAbs), .blk gk [.int .i64 (-9223372036854775808)] 3, .blk gm [.bool false, .slice none 0 0, .bool false, .slice none 0 0] 27, .blk gp [.bool false, .slice none 0 0, .bool false, .slice none 0 0] 27] w) (hkA : Wd x 16777216) (hkB : Wd y 16777216) (hy : y ≠ 0) (hx : x ≠ 0) (h1 : blen (RN y x).natAbs ≠ 1) :
    Calls Try.prog 85 #[.slice (some ⟨gL, 0, none⟩) 1 cL, .pointer (some ⟨gk, 0, none⟩)] w (fun e w' => ∃ v s kc, e = .returned v ∧ RRt 0 0 4 v s ∧ Sep w0 (s ++ [.blk gk [kc] 3, .blk gm [.bool false, .slice none 0 0, .bool false, .slice none 0 0] 27, .blk gp [.bool false, .slice none 0 0, .bool false, .slice none 0 0] 27]) w') := by
  refine went Try.func85 rfl (n := 67) rfl rfl ?_
  refine wseq ?_
  refine wreg ?_
  refine wl rfl (oalloc [.bool false, .slice none 0 0, .bool false, .slice none 0 0] hS rfl rfl Try.zeroValue27 rfl ?_)
  clear hS; intro g1 w2 hS
  refine wl rfl (oassign (v := .int .i64 0) rfl rfl (evc (v := .int .i64 0)) ?_)
  refine wnil ?_
  refine thenN ?_
  refine wseq ?_
  refine wreg ?_
  refine wl rfl (omove (v := .slice (some ⟨gL, 0, none⟩) 1 cL) rfl rfl (ev (v := .slice (some ⟨gL, 0, none⟩) 1 cL) rfl rfl) ?_)
  refine wl rfl (oindex (p := (some ⟨gL, 0, none⟩)) (g := gL) (off := 0) (m := 1) (k := 0) (j := (0 + 0 * 4)) rfl rfl Try.runUnderlying38 Try.sizeOf27 (ev (v := .slice (some ⟨gL, 0, none⟩) 1 cL) rfl rfl) (rfl) (evc (v := .int .i64 ((0 : Nat) : Int))) ((by omega)) rfl ?_)
  refine wl rfl (oloadA (vs := [.bool (ng x), .slice pA nA cA, .bool (ng y), .slice pB nB cB]) aggR rfl rfl (ev (v := .pointer (some ⟨gL, (0 + 0 * 4), none⟩)) rfl rfl) (fun j v hj => hS.ownCell 1 rfl hj) rfl ?_)
  refine wl rfl (oalloc [.bool false, .slice none 0 0, .bool false, .slice none 0 0] hS rfl rfl Try.zeroValue27 rfl ?_)
  clear hS; intro g3 w4 hS
  refine wl rfl (ostore [.bool (ng x), .slice pA nA cA, .bool (ng y), .slice pB nB cB] [.bool (ng x), .slice pA nA cA, .bool (ng y), .slice pB nB cB] Try.sizeOf27 hS 0 rfl rfl (ev rfl rfl) (ev (v := .agg #[.bool (ng x), .slice pA nA cA, .bool (ng y), .slice pB nB cB]) rfl rfl) rfl rfl rfl rfl rfl rfl ?_)
  clear hS; intro w5 hS
  refine wnil ?_
  refine thenN ?_
  refine wseq ?_
  refine wseq ?_
  refine wreg ?_
  refine wl rfl (oload1 (v := .int .i64 (-9223372036854775808)) oneI hS 5 rfl rfl (ev rfl rfl) rfl rfl ?_)
  refine wl rfl (obin (u := .int .i64 (-9223372036854775808)) (v := .int .i64 0) (z := .bool true) rfl rfl (ev (v := .int .i64 (-9223372036854775808)) rfl rfl) (evc (v := .int .i64 0)) (bin_lss (by decide)) ?_)
  refine wnil ?_
  refine thenN ?_
  refine wT (ev (v := .bool true) rfl rfl) ?_
  refine wseq ?_
  refine wseq ?_
  refine wreg ?_
  refine wl rfl (ofieldAddr (g := g3) (off := 0) 0 rfl rfl (ev (v := .pointer (some ⟨g3, 0, none⟩)) rfl rfl) Try.runUnderlying27 rfl Try.sizeOf25 rfl ?_)
  refine wl rfl (oload (vs := [.bool (ng x), .slice pA nA cA]) aggZ hS 0 rfl rfl (ev rfl rfl) rfl rfl rfl ?_)
  obtain ⟨s1, hs1⟩ : ∃ z : Int, Hid ((x : Int).sign = z) := ⟨_, rfl⟩
  refine wl rfl (ocall rfl rfl Try.call55 rfl (wzsign (((hS.slm 3 rfl).zr hkA).mono (by omega)) hs1) (args1 (ev rfl rfl)) ?_)
  rintro _ w6 ⟨_, _, rfl, ⟨rfl, rfl⟩, hN⟩
  refine ⟨_, rfl, ?_⟩
  replace hS := hS.news hN; clear hN
  refine wl rfl (obin (u := .int .i64 s1) (v := .int .i64 0) (z := .bool false) rfl rfl (ev (v := .int .i64 s1) rfl rfl) (evc (v := .int .i64 0)) (bin_eql (sign_ne hs1 hx)) ?_)
  refine wnil ?_
  refine thenN ?_
  refine wF (ev (v := .bool false) rfl rfl) ?_
  refine wskip ?_
  refine thenN ?_
  refine wseq ?_
  refine wreg ?_
  refine wl rfl (oload (vs := [.bool (ng x), .slice pA nA cA, .bool (ng y), .slice pB nB cB]) aggR hS 0 rfl rfl (ev rfl rfl) rfl rfl rfl ?_)
  obtain ⟨z2, hz2⟩ : ∃ z : Int, Hid (RN y x = z) := ⟨_, rfl⟩
  have hk2 : Wd z2 16777216 := Wd.rn hkB hz2
  obtain ⟨z3, hz3⟩ : ∃ z : Int, Hid (RD y x = z) := ⟨_, rfl⟩
  have hk3 : Wd z3 16777216 := Wd.rd hkA hz3
  refine wl rfl (ocall rfl rfl Try.call9 rfl (wrinv ((hS.slm 3 rfl).zr hkA) ((hS.slm 4 rfl).zr hkB) (hy) (hx) hz2 hz3) (args1 (ev rfl rfl)) ?_)
  rintro _ w7 ⟨_, _, rfl, ⟨p2, n2, c2, p3, n3, c3, rfl, rfl⟩, hN⟩
  refine ⟨_, rfl, ?_⟩
  replace hS := hS.news hN; clear hN
  refine wl rfl (omove (v := .tuple #[.agg #[.bool (ng z2), .slice p2 n2 c2, .bool (ng z3), .slice p3 n3 c3], .int .i64 0]) rfl rfl (ev (v := .tuple #[.agg #[.bool (ng z2), .slice p2 n2 c2, .bool (ng z3), .slice p3 n3 c3], .int .i64 0]) rfl rfl) ?_)
  refine wl rfl (oextract (vs := [.agg #[.bool (ng z2), .slice p2 n2 c2, .bool (ng z3), .slice p3 n3 c3], .int .i64 0]) (v := .agg #[.bool (ng z2), .slice p2 n2 c2, .bool (ng z3), .slice p3 n3 c3]) rfl rfl (ev (v := .tuple #[.agg #[.bool (ng z2), .slice p2 n2 c2, .bool (ng z3), .slice p3 n3 c3], .int .i64 0]) rfl rfl) rfl ?_)
  refine wl rfl (oextract (vs := [.agg #[.bool (ng z2), .slice p2 n2 c2, .bool (ng z3), .slice p3 n3 c3], .int .i64 0]) (v := .int .i64 0) rfl rfl (ev (v := .tuple #[.agg #[.bool (ng z2), .slice p2 n2 c2, .bool (ng z3), .slice p3 n3 c3], .int .i64 0]) rfl rfl) rfl ?_)
  refine wl rfl (ostore [.bool (ng z2), .slice p2 n2 c2, .bool (ng z3), .slice p3 n3 c3] [.bool (ng z2), .slice p2 n2 c2, .bool (ng z3), .slice p3 n3 c3] Try.sizeOf27 hS 2 rfl rfl (ev rfl rfl) (ev (v := .agg #[.bool (ng z2), .slice p2 n2 c2, .bool (ng z3), .slice p3 n3 c3]) rfl rfl) rfl rfl rfl rfl rfl rfl ?_)
  clear hS; intro w8 hS
  refine wnil ?_
  refine thenN ?_
  refine wseq ?_
  refine wreg ?_
  refine wl rfl (oload1 (v := .int .i64 (-9223372036854775808)) oneI hS 7 rfl rfl (ev rfl rfl) rfl rfl ?_)
  refine wl rfl (oneg (k := .i64) (c := -9223372036854775808) rfl rfl (ev (v := .int .i64 (-9223372036854775808)) rfl rfl) (by decide) ?_)
  refine wl rfl (ostore [.int .i64 (-9223372036854775808)] [.int .i64 (-9223372036854775808)] Try.sizeOf3 hS 7 rfl rfl (ev rfl rfl) (ev (v := .int .i64 (-9223372036854775808)) rfl rfl) rfl rfl rfl rfl rfl rfl ?_)
  clear hS; intro w9 hS
  refine wnil ?_
  refine thenN ?_
  refine wseq ?_
  refine wreg ?_
  refine wl rfl (oload1 (v := .int .i64 (-9223372036854775808)) oneI hS 7 rfl rfl (ev rfl rfl) rfl rfl ?_)
  refine wl rfl (obin (u := .int .i64 (-9223372036854775808)) (v := .int .i64 0) (z := .bool true) rfl rfl (ev (v := .int .i64 (-9223372036854775808)) rfl rfl) (evc (v := .int .i64 0)) (bin_lss (by decide)) ?_)
  refine wnil ?_
  refine thenN ?_
  refine wT (ev (v := .bool true) rfl rfl) ?_
  refine wseq ?_
  refine wseq ?_
  refine wreg ?_
  refine wl rfl (ofieldAddr (g := g3) (off := 0) 0 rfl rfl (ev (v := .pointer (some ⟨g3, 0, none⟩)) rfl rfl) Try.runUnderlying27 rfl Try.sizeOf25 rfl ?_)
  refine wl rfl (ofieldAddr (g := g3) (off := 0) 1 rfl rfl (ev (v := .pointer (some ⟨g3, 0, none⟩)) rfl rfl) Try.runUnderlying25 rfl Try.sizeOf23 rfl ?_)
  refine wl rfl (oload1 (v := .slice p2 n2 c2) oneN hS 2 rfl rfl (ev rfl rfl) rfl rfl ?_)
  refine wl rfl (ocall rfl rfl Try.call69 rfl (wnlen (z := z2) (hS.slm 0 rfl) (hk2.mono (by omega))) (args1 (ev rfl rfl)) ?_)
  rintro _ w10 ⟨_, _, rfl, ⟨rfl, rfl⟩, hN⟩
  refine ⟨_, rfl, ?_⟩
  replace hS := hS.news hN; clear hN
  refine wl rfl (obin (u := .int .i64 (((blen z2.natAbs : Nat) : Int))) (v := .int .i64 1) (z := .bool false) rfl rfl (ev (v := .int .i64 (((blen z2.natAbs : Nat) : Int))) rfl rfl) (evc (v := .int .i64 1)) (bin_eql (eqF (by rw [← hz2.out]; omega))) ?_)
  refine wl rfl (omove (v := .bool false) rfl rfl (ev (v := .bool false) rfl rfl) ?_)
  refine wlOff (e := 33) (d := 34) (b' := false) rfl rfl rfl rfl rfl rfl ?_
  refine wlOff (e := 33) (d := 35) (b' := false) rfl rfl rfl rfl rfl rfl ?_
  refine wlOff (e := 33) (d := 36) (b' := false) rfl rfl rfl rfl rfl rfl ?_
  refine wlOff (e := 33) (d := 37) (b' := false) rfl rfl rfl rfl rfl rfl ?_
  refine wlOff (e := 33) (d := 38) (b' := false) rfl rfl rfl rfl rfl rfl ?_
  refine wl rfl (opick (b := false) (v := .bool false) rfl rfl (ev (v := .bool false) rfl rfl) (evc (v := .bool false)) ?_)
  refine wnil ?_
  refine thenN ?_
  refine wF (ev (v := .bool false) rfl rfl) ?_
  refine wskip ?_
  refine thenN ?_
  refine wseq ?_
  refine wreg ?_
  refine wl rfl (obuild (ps := #[]) (v := .agg #[.bool false, .slice none 0 0, .bool false, .slice none 0 0]) rfl rfl (parts0) (fun w => by simp [go_sem, Instr.build, Instr.fill]) ?_)
  refine wl rfl (ostore [.bool false, .slice none 0 0, .bool false, .slice none 0 0] [.bool false, .slice none 0 0, .bool false, .slice none 0 0] Try.sizeOf27 hS 3 rfl rfl (ev rfl rfl) (ev (v := .agg #[.bool false, .slice none 0 0, .bool false, .slice none 0 0]) rfl rfl) rfl rfl rfl rfl rfl rfl ?_)
  clear hS; intro w11 hS
  refine wl rfl (oassign (v := .int .i64 4) rfl rfl (evc (v := .int .i64 4)) ?_)
  refine wnil ?_
  refine thenN ?_
  refine wleave ?_
  refine thenR ?_
  refine wret2 Try.results85 (tellC (cs := [.bool false, .slice none 0 0, .bool false, .slice none 0 0]) aggR hS 3 rfl rfl rfl rfl) (tellT (v := .int .i64 4) rfl rfl) ?_
  exact ⟨_, _, _, rfl, ⟨_, _, _, _, _, _, rfl, rfl⟩, (hS.pick [7, 8, 9] (by decide) rfl).nil2⟩

set_option maxRecDepth 100000 in
set_option maxHeartbeats 16000000 in
theorem wpow1_mB {x y : Int} {gL gk gm gp cL : Nat} {pA pB : Option Addr} {nA cA nB cB : Nat} {w0 w : World} (hS : Sep w0 [.own' 27 4 (some ⟨gL, 0, none⟩) 1 cL [.bool (ng x), .slice pA nA cA, .bool (ng y), .slice pB nB cB], .rowm pA nA cA (lim x.natAbs), .rowm pB nB cB (lim y.natAbs), .blk gk [.int .i64 (-9223372036854775808)] 3, .blk gm [.bool false, .slice none 0 0, .bool false, .slice none 0 0] 27, .blk gp [.bool false, .slice none 0 0, .bool false, .slice none 0 0] 27] w) (hkA : Wd x 16777216) (hkB : Wd y 16777216) (hy : y ≠ 0) (hx : x ≠ 0) (h1 : blen (RN y x).natAbs = 1) (h2 : blen (RD y x).natAbs ≠ 1) :
    Calls Try.prog 85 #[.slice (some ⟨gL, 0, none⟩) 1 cL, .pointer (some ⟨gk, 0, none⟩)] w (fun e w' => ∃ v s kc, e = .returned v ∧ RRt 0 0 4 v s ∧ Sep w0 (s ++ [.blk gk [kc] 3, .blk gm [.bool false, .slice none 0 0, .bool false, .slice none 0 0] 27, .blk gp [.bool false, .slice none 0 0, .bool false, .slice none 0 0] 27]) w') := by
  refine went Try.func85 rfl (n := 67) rfl rfl ?_
  refine wseq ?_
  refine wreg ?_
  refine wl rfl (oalloc [.bool false, .slice none 0 0, .bool false, .slice none 0 0] hS rfl rfl Try.zeroValue27 rfl ?_)
  clear hS; intro g1 w2 hS
  refine wl rfl (oassign (v := .int .i64 0) rfl rfl (evc (v := .int .i64 0)) ?_)
  refine wnil ?_
  refine thenN ?_
  refine wseq ?_
  refine wreg ?_
  refine wl rfl (omove (v := .slice (some ⟨gL, 0, none⟩) 1 cL) rfl rfl (ev (v := .slice (some ⟨gL, 0, none⟩) 1 cL) rfl rfl) ?_)
  refine wl rfl (oindex (p := (some ⟨gL, 0, none⟩)) (g := gL) (off := 0) (m := 1) (k := 0) (j := (0 + 0 * 4)) rfl rfl Try.runUnderlying38 Try.sizeOf27 (ev (v := .slice (some ⟨gL, 0, none⟩) 1 cL) rfl rfl) (rfl) (evc (v := .int .i64 ((0 : Nat) : Int))) ((by omega)) rfl ?_)
  refine wl rfl (oloadA (vs := [.bool (ng x), .slice pA nA cA, .bool (ng y), .slice pB nB cB]) aggR rfl rfl (ev (v := .pointer (some ⟨gL, (0 + 0 * 4), none⟩)) rfl rfl) (fun j v hj => hS.ownCell 1 rfl hj) rfl ?_)
  refine wl rfl (oalloc [.bool false, .slice none 0 0, .bool false, .slice none 0 0] hS rfl rfl Try.zeroValue27 rfl ?_)
  clear hS; intro g3 w4 hS
  refine wl rfl (ostore [.bool (ng x), .slice pA nA cA, .bool (ng y), .slice pB nB cB] [.bool (ng x), .slice pA nA cA, .bool (ng y), .slice pB nB cB] Try.sizeOf27 hS 0 rfl rfl (ev rfl rfl) (ev (v := .agg #[.bool (ng x), .slice pA nA cA, .bool (ng y), .slice pB nB cB]) rfl rfl) rfl rfl rfl rfl rfl rfl ?_)
  clear hS; intro w5 hS
  refine wnil ?_
  refine thenN ?_
  refine wseq ?_
  refine wseq ?_
  refine wreg ?_
  refine wl rfl (oload1 (v := .int .i64 (-9223372036854775808)) oneI hS 5 rfl rfl (ev rfl rfl) rfl rfl ?_)
  refine wl rfl (obin (u := .int .i64 (-9223372036854775808)) (v := .int .i64 0) (z := .bool true) rfl rfl (ev (v := .int .i64 (-9223372036854775808)) rfl rfl) (evc (v := .int .i64 0)) (bin_lss (by decide)) ?_)
  refine wnil ?_
  refine thenN ?_
  refine wT (ev (v := .bool true) rfl rfl) ?_
  refine wseq ?_
  refine wseq ?_
  refine wreg ?_
  refine wl rfl (ofieldAddr (g := g3) (off := 0) 0 rfl rfl (ev (v := .pointer (some ⟨g3, 0, none⟩)) rfl rfl) Try.runUnderlying27 rfl Try.sizeOf25 rfl ?_)
  refine wl rfl (oload (vs := [.bool (ng x), .slice pA nA cA]) aggZ hS 0 rfl rfl (ev rfl rfl) rfl rfl rfl ?_)
  obtain ⟨s1, hs1⟩ : ∃ z : Int, Hid ((x : Int).sign = z) := ⟨_, rfl⟩
  refine wl rfl (ocall rfl rfl Try.call55 rfl (wzsign (((hS.slm 3 rfl).zr hkA).mono (by omega)) hs1) (args1 (ev rfl rfl)) ?_)
  rintro _ w6 ⟨_, _, rfl, ⟨rfl, rfl⟩, hN⟩
  refine ⟨_, rfl, ?_⟩
  replace hS := hS.news hN; clear hN
  refine wl rfl (obin (u := .int .i64 s1) (v := .int .i64 0) (z := .bool false) rfl rfl (ev (v := .int .i64 s1) rfl rfl) (evc (v := .int .i64 0)) (bin_eql (sign_ne hs1 hx)) ?_)
  refine wnil ?_
  refine thenN ?_
  refine wF (ev (v := .bool false) rfl rfl) ?_
  refine wskip ?_
  refine thenN ?_
  refine wseq ?_
  refine wreg ?_
  refine wl rfl (oload (vs := [.bool (ng x), .slice pA nA cA, .bool (ng y), .slice pB nB cB]) aggR hS 0 rfl rfl (ev rfl rfl) rfl rfl rfl ?_)
  obtain ⟨z2, hz2⟩ : ∃ z : Int, Hid (RN y x = z) := ⟨_, rfl⟩
  have hk2 : Wd z2 16777216 := Wd.rn hkB hz2
  obtain ⟨z3, hz3⟩ : ∃ z : Int, Hid (RD y x = z) := ⟨_, rfl⟩
  have hk3 : Wd z3 16777216 := Wd.rd hkA hz3
  refine wl rfl (ocall rfl rfl Try.call9 rfl (wrinv ((hS.slm 3 rfl).zr hkA) ((hS.slm 4 rfl).zr hkB) (hy) (hx) hz2 hz3) (args1 (ev rfl rfl)) ?_)
  rintro _ w7 ⟨_, _, rfl, ⟨p2, n2, c2, p3, n3, c3, rfl, rfl⟩, hN⟩
  refine ⟨_, rfl, ?_⟩
  replace hS := hS.news hN; clear hN
  refine wl rfl (omove (v := .tuple #[.agg #[.bool (ng z2), .slice p2 n2 c2, .bool (ng z3), .slice p3 n3 c3], .int .i64 0]) rfl rfl (ev (v := .tuple #[.agg #[.bool (ng z2), .slice p2 n2 c2, .bool (ng z3), .slice p3 n3 c3], .int .i64 0]) rfl rfl) ?_)
  refine wl rfl (oextract (vs := [.agg #[.bool (ng z2), .slice p2 n2 c2, .bool (ng z3), .slice p3 n3 c3], .int .i64 0]) (v := .agg #[.bool (ng z2), .slice p2 n2 c2, .bool (ng z3), .slice p3 n3 c3]) rfl rfl (ev (v := .tuple #[.agg #[.bool (ng z2), .slice p2 n2 c2, .bool (ng z3), .slice p3 n3 c3], .int .i64 0]) rfl rfl) rfl ?_)
  refine wl rfl (oextract (vs := [.agg #[.bool (ng z2), .slice p2 n2 c2, .bool (ng z3), .slice p3 n3 c3], .int .i64 0]) (v := .int .i64 0) rfl rfl (ev (v := .tuple #[.agg #[.bool (ng z2), .slice p2 n2 c2, .bool (ng z3), .slice p3 n3 c3], .int .i64 0]) rfl rfl) rfl ?_)
  refine wl rfl (ostore [.bool (ng z2), .slice p2 n2 c2, .bool (ng z3), .slice p3 n3 c3] [.bool (ng z2), .slice p2 n2 c2, .bool (ng z3), .slice p3 n3 c3] Try.sizeOf27 hS 2 rfl rfl (ev rfl rfl) (ev (v := .agg #[.bool (ng z2), .slice p2 n2 c2, .bool (ng z3), .slice p3 n3 c3]) rfl rfl) rfl rfl rfl rfl rfl rfl ?_)
  clear hS; intro w8 hS
  refine wnil ?_
  refine thenN ?_
  refine wseq ?_
  refine wreg ?_
  refine wl rfl (oload1 (v := .int .i64 (-9223372036854775808)) oneI hS 7 rfl rfl (ev rfl rfl) rfl rfl ?_)
  refine wl rfl (oneg (k := .i64) (c := -9223372036854775808) rfl rfl (ev (v := .int .i64 (-9223372036854775808)) rfl rfl) (by decide) ?_)
  refine wl rfl (ostore [.int .i64 (-9223372036854775808)] [.int .i64 (-9223372036854775808)] Try.sizeOf3 hS 7 rfl rfl (ev rfl rfl) (ev (v := .int .i64 (-9223372036854775808)) rfl rfl) rfl rfl rfl rfl rfl rfl ?_)
  clear hS; intro w9 hS
  refine wnil ?_
  refine thenN ?_
  refine wseq ?_
  refine wreg ?_
  refine wl rfl (oload1 (v := .int .i64 (-9223372036854775808)) oneI hS 7 rfl rfl (ev rfl rfl) rfl rfl ?_)
  refine wl rfl (obin (u := .int .i64 (-9223372036854775808)) (v := .int .i64 0) (z := .bool true) rfl rfl (ev (v := .int .i64 (-9223372036854775808)) rfl rfl) (evc (v := .int .i64 0)) (bin_lss (by decide)) ?_)
  refine wnil ?_
  refine thenN ?_
  refine wT (ev (v := .bool true) rfl rfl) ?_
  refine wseq ?_
  refine wseq ?_
  refine wreg ?_
  refine wl rfl (ofieldAddr (g := g3) (off := 0) 0 rfl rfl (ev (v := .pointer (some ⟨g3, 0, none⟩)) rfl rfl) Try.runUnderlying27 rfl Try.sizeOf25 rfl ?_)
  refine wl rfl (ofieldAddr (g := g3) (off := 0) 1 rfl rfl (ev (v := .pointer (some ⟨g3, 0, none⟩)) rfl rfl) Try.runUnderlying25 rfl Try.sizeOf23 rfl ?_)
  refine wl rfl (oload1 (v := .slice p2 n2 c2) oneN hS 2 rfl rfl (ev rfl rfl) rfl rfl ?_)
  refine wl rfl (ocall rfl rfl Try.call69 rfl (wnlen (z := z2) (hS.slm 0 rfl) (hk2.mono (by omega))) (args1 (ev rfl rfl)) ?_)
  rintro _ w10 ⟨_, _, rfl, ⟨rfl, rfl⟩, hN⟩
  refine ⟨_, rfl, ?_⟩
  replace hS := hS.news hN; clear hN
  refine wl rfl (obin (u := .int .i64 (((blen z2.natAbs : Nat) : Int))) (v := .int .i64 1) (z := .bool true) rfl rfl (ev (v := .int .i64 (((blen z2.natAbs : Nat) : Int))) rfl rfl) (evc (v := .int .i64 1)) (bin_eql (eqT (by rw [← hz2.out]; omega))) ?_)
  refine wl rfl (omove (v := .bool true) rfl rfl (ev (v := .bool true) rfl rfl) ?_)
  refine wlOn (e := 33) rfl rfl rfl rfl (ofieldAddr (g := g3) (off := 0) 2 rfl rfl (ev (v := .pointer (some ⟨g3, 0, none⟩)) rfl rfl) Try.runUnderlying27 rfl Try.sizeOf25 rfl ?_)
  refine wlOn (e := 33) rfl rfl rfl rfl (ofieldAddr (g := g3) (off := 2) 3 rfl rfl (ev (v := .pointer (some ⟨g3, 2, none⟩)) rfl rfl) Try.runUnderlying25 rfl Try.sizeOf23 rfl ?_)
  refine wlOn (e := 33) rfl rfl rfl rfl (oload1 (v := .slice p3 n3 c3) oneN hS 2 rfl rfl (ev rfl rfl) rfl rfl ?_)
  refine wlOn (e := 33) rfl rfl rfl rfl (ocall rfl rfl Try.call69 rfl (wnlen (z := z3) (hS.slm 1 rfl) (hk3.mono (by omega))) (args1 (ev rfl rfl)) ?_)
  rintro _ w11 ⟨_, _, rfl, ⟨rfl, rfl⟩, hN⟩
  refine ⟨_, rfl, ?_⟩
  replace hS := hS.news hN; clear hN
  refine wlOn (e := 33) rfl rfl rfl rfl (obin (u := .int .i64 (((blen z3.natAbs : Nat) : Int))) (v := .int .i64 1) (z := .bool false) rfl rfl (ev (v := .int .i64 (((blen z3.natAbs : Nat) : Int))) rfl rfl) (evc (v := .int .i64 1)) (bin_eql (eqF (by rw [← hz3.out]; omega))) ?_)
  refine wl rfl (opick (b := true) (v := .bool false) rfl rfl (ev (v := .bool true) rfl rfl) (ev (v := .bool false) rfl rfl) ?_)
  refine wnil ?_
  refine thenN ?_
  refine wF (ev (v := .bool false) rfl rfl) ?_
  refine wskip ?_
  refine thenN ?_
  refine wseq ?_
  refine wreg ?_
  refine wl rfl (obuild (ps := #[]) (v := .agg #[.bool false, .slice none 0 0, .bool false, .slice none 0 0]) rfl rfl (parts0) (fun w => by simp [go_sem, Instr.build, Instr.fill]) ?_)
  refine wl rfl (ostore [.bool false, .slice none 0 0, .bool false, .slice none 0 0] [.bool false, .slice none 0 0, .bool false, .slice none 0 0] Try.sizeOf27 hS 3 rfl rfl (ev rfl rfl) (ev (v := .agg #[.bool false, .slice none 0 0, .bool false, .slice none 0 0]) rfl rfl) rfl rfl rfl rfl rfl rfl ?_)
  clear hS; intro w12 hS
  refine wl rfl (oassign (v := .int .i64 4) rfl rfl (evc (v := .int .i64 4)) ?_)
  refine wnil ?_
  refine thenN ?_
  refine wleave ?_
  refine thenR ?_
  refine wret2 Try.results85 (tellC (cs := [.bool false, .slice none 0 0, .bool false, .slice none 0 0]) aggR hS 3 rfl rfl rfl rfl) (tellT (v := .int .i64 4) rfl rfl) ?_
  exact ⟨_, _, _, rfl, ⟨_, _, _, _, _, _, rfl, rfl⟩, (hS.pick [7, 8, 9] (by decide) rfl).nil2⟩

set_option maxRecDepth 100000 in
set_option maxHeartbeats 16000000 in
theorem wpow1_mz {x y : Int} {gL gk gm gp cL : Nat} {pA pB : Option Addr} {nA cA nB cB : Nat} {w0 w : World} (hS : Sep w0 [.own' 27 4 (some ⟨gL, 0, none⟩) 1 cL [.bool (ng x), .slice pA nA cA, .bool (ng y), .slice pB nB cB], .rowm pA nA cA (lim x.natAbs), .rowm pB nB cB (lim y.natAbs), .blk gk [.int .i64 (-9223372036854775808)] 3, .blk gm [.bool false, .slice none 0 0, .bool false, .slice none 0 0] 27, .blk gp [.bool false, .slice none 0 0, .bool false, .slice none 0 0] 27] w) (hkA : Wd x 16777216) (hkB : Wd y 16777216) (hy : y ≠ 0) (hx : x = 0) :
    Calls Try.prog 85 #[.slice (some ⟨gL, 0, none⟩) 1 cL, .pointer (some ⟨gk, 0, none⟩)] w (fun e w' => ∃ v s kc, e = .returned v ∧ RRt 0 0 5 v s ∧ Sep w0 (s ++ [.blk gk [kc] 3, .blk gm [.bool false, .slice none 0 0, .bool false, .slice none 0 0] 27, .blk gp [.bool false, .slice none 0 0, .bool false, .slice none 0 0] 27]) w') := by
  refine went Try.func85 rfl (n := 67) rfl rfl ?_
  refine wseq ?_
  refine wreg ?_
  refine wl rfl (oalloc [.bool false, .slice none 0 0, .bool false, .slice none 0 0] hS rfl rfl Try.zeroValue27 rfl ?_)
  clear hS; intro g1 w2 hS
  refine wl rfl (oassign (v := .int .i64 0) rfl rfl (evc (v := .int .i64 0)) ?_)
  refine wnil ?_
  refine thenN ?_
  refine wseq ?_
  refine wreg ?_
  refine wl rfl (omove (v := .slice (some ⟨gL, 0, none⟩) 1 cL) rfl rfl (ev (v := .slice (some ⟨gL, 0, none⟩) 1 cL) rfl rfl) ?_)
  refine wl rfl (oindex (p := (some ⟨gL, 0, none⟩)) (g := gL) (off := 0) (m := 1) (k := 0) (j := (0 + 0 * 4)) rfl rfl Try.runUnderlying38 Try.sizeOf27 (ev (v := .slice (some ⟨gL, 0, none⟩) 1 cL) rfl rfl) (rfl) (evc (v := .int .i64 ((0 : Nat) : Int))) ((by omega)) rfl ?_)
  refine wl rfl (oloadA (vs := [.bool (ng x), .slice pA nA cA, .bool (ng y), .slice pB nB cB]) aggR rfl rfl (ev (v := .pointer (some ⟨gL, (0 + 0 * 4), none⟩)) rfl rfl) (fun j v hj => hS.ownCell 1 rfl hj) rfl ?_)
  refine wl rfl (oalloc [.bool false, .slice none 0 0, .bool false, .slice none 0 0] hS rfl rfl Try.zeroValue27 rfl ?_)
  clear hS; intro g3 w4 hS
  refine wl rfl (ostore [.bool (ng x), .slice pA nA cA, .bool (ng y), .slice pB nB cB] [.bool (ng x), .slice pA nA cA, .bool (ng y), .slice pB nB cB] Try.sizeOf27 hS 0 rfl rfl (ev rfl rfl) (ev (v := .agg #[.bool (ng x), .slice pA nA cA, .bool (ng y), .slice pB nB cB]) rfl rfl) rfl rfl rfl rfl rfl rfl ?_)
  clear hS; intro w5 hS
  refine wnil ?_
  refine thenN ?_
  refine wseq ?_
  refine wseq ?_
  refine wreg ?_
  refine wl rfl (oload1 (v := .int .i64 (-9223372036854775808)) oneI hS 5 rfl rfl (ev rfl rfl) rfl rfl ?_)
  refine wl rfl (obin (u := .int .i64 (-9223372036854775808)) (v := .int .i64 0) (z := .bool true) rfl rfl (ev (v := .int .i64 (-9223372036854775808)) rfl rfl) (evc (v := .int .i64 0)) (bin_lss (by decide)) ?_)
  refine wnil ?_
  refine thenN ?_
  refine wT (ev (v := .bool true) rfl rfl) ?_
  refine wseq ?_
  refine wseq ?_
  refine wreg ?_
  refine wl rfl (ofieldAddr (g := g3) (off := 0) 0 rfl rfl (ev (v := .pointer (some ⟨g3, 0, none⟩)) rfl rfl) Try.runUnderlying27 rfl Try.sizeOf25 rfl ?_)
  refine wl rfl (oload (vs := [.bool (ng x), .slice pA nA cA]) aggZ hS 0 rfl rfl (ev rfl rfl) rfl rfl rfl ?_)
  obtain ⟨s1, hs1⟩ : ∃ z : Int, Hid ((x : Int).sign = z) := ⟨_, rfl⟩
  refine wl rfl (ocall rfl rfl Try.call55 rfl (wzsign (((hS.slm 3 rfl).zr hkA).mono (by omega)) hs1) (args1 (ev rfl rfl)) ?_)
  rintro _ w6 ⟨_, _, rfl, ⟨rfl, rfl⟩, hN⟩
  refine ⟨_, rfl, ?_⟩
  replace hS := hS.news hN; clear hN
  refine wl rfl (obin (u := .int .i64 s1) (v := .int .i64 0) (z := .bool true) rfl rfl (ev (v := .int .i64 s1) rfl rfl) (evc (v := .int .i64 0)) (bin_eql (sign_eq hs1 hx)) ?_)
  refine wnil ?_
  refine thenN ?_
  refine wT (ev (v := .bool true) rfl rfl) ?_
  refine wseq ?_
  refine wreg ?_
  refine wl rfl (obuild (ps := #[]) (v := .agg #[.bool false, .slice none 0 0, .bool false, .slice none 0 0]) rfl rfl (parts0) (fun w => by simp [go_sem, Instr.build, Instr.fill]) ?_)
  refine wl rfl (ostore [.bool false, .slice none 0 0, .bool false, .slice none 0 0] [.bool false, .slice none 0 0, .bool false, .slice none 0 0] Try.sizeOf27 hS 1 rfl rfl (ev rfl rfl) (ev (v := .agg #[.bool false, .slice none 0 0, .bool false, .slice none 0 0]) rfl rfl) rfl rfl rfl rfl rfl rfl ?_)
  clear hS; intro w7 hS
  refine wl rfl (oassign (v := .int .i64 5) rfl rfl (evc (v := .int .i64 5)) ?_)
  refine wnil ?_
  refine thenN ?_
  refine wleave ?_
  refine thenR ?_
  refine thenR ?_
  refine wret2 Try.results85 (tellC (cs := [.bool false, .slice none 0 0, .bool false, .slice none 0 0]) aggR hS 1 rfl rfl rfl rfl) (tellT (v := .int .i64 5) rfl rfl) ?_
  exact ⟨_, _, _, rfl, ⟨_, _, _, _, _, _, rfl, rfl⟩, (hS.pick [5, 6, 7] (by decide) rfl).nil2⟩

set_option maxRecDepth 100000 in
set_option maxHeartbeats 16000000 in
theorem wmadeP {x y z t E : Int} {kv : Value} {gs gk gp : Nat} {bA bB : Bool} {qA qB : Option Addr} {nA kA nB kB : Nat} {w0 w : World} (hS : Sep w0 [.blk gs [.bool bA, .slice qA nA kA, .bool bB, .slice qB nB kB] 27, .blk gk [kv] 3, .blk gp [.bool false, .slice none 0 0, .bool false, .slice none 0 0] 27] w) (hzA : Zr w0 bA qA nA kA x 16777216) (hzB : Zr w0 bB qB nB kB y 16777216) (hy : y ≠ 0) (hf : ∀ (gL gm cL : Nat) (pX pY : Option Addr) (nX cX nY cY : Nat) (w1 : World), Sep w0 [.own' 27 4 (some ⟨gL, 0, none⟩) 1 cL [.bool (ng (RN x y)), .slice pX nX cX, .bool (ng (RD x y)), .slice pY nY cY], .rowm pX nX cX (lim (RN x y).natAbs), .rowm pY nY cY (lim (RD x y).natAbs), .blk gk [kv] 3, .blk gm [.bool false, .slice none 0 0, .bool false, .slice none 0 0] 27, .blk gp [.bool false, .slice none 0 0, .bool false, .slice none 0 0] 27] w1 → Calls Try.prog 85 (#[.slice (some ⟨gL, 0, none⟩) 1 cL] ++ #[.pointer (some ⟨gk, 0, none⟩)]) w1 (fun e w' => ∃ v s kc, e = .returned v ∧ RRt z t E v s ∧ Sep w0 (s ++ [.blk gk [kc] 3, .blk gm [.bool false, .slice none 0 0, .bool false, .slice none 0 0] 27, .blk gp [.bool false, .slice none 0 0, .bool false, .slice none 0 0] 27]) w')) :
    Calls Try.prog 53 #[.func (.func 85) #[] #[.pointer (some ⟨gk, 0, none⟩)], .slice (some ⟨gs, 0, none⟩) 1 1] w (fun e w' => ∃ v s kc, e = .returned v ∧ RRt z t E v s ∧ Sep w0 (s ++ [.blk gk [kc] 3, .blk gp [.bool false, .slice none 0 0, .bool false, .slice none 0 0] 27]) w') := by
  refine went Try.func53 rfl (n := 40) rfl rfl ?_
  refine wseq ?_
  refine wreg ?_
  refine wl rfl (oalloc [.bool false, .slice none 0 0, .bool false, .slice none 0 0] hS rfl rfl Try.zeroValue27 rfl ?_)
  clear hS; intro g1 w2 hS
  refine wl rfl (oassign (v := .int .i64 0) rfl rfl (evc (v := .int .i64 0)) ?_)
  refine wnil ?_
  refine thenN ?_
  refine wseq ?_
  refine wreg ?_
  refine wl rfl (oalloc [.bool false, .slice none 0 0, .bool false, .slice none 0 0] hS rfl rfl Try.zeroValue27 rfl ?_)
  clear hS; intro g3 w4 hS
  refine wnil ?_
  refine thenN ?_
  refine wseq ?_
  refine wreg ?_
  refine wl rfl (omove (v := .slice (some ⟨gs, 0, none⟩) 1 1) rfl rfl (ev (v := .slice (some ⟨gs, 0, none⟩) 1 1) rfl rfl) ?_)
  refine wl rfl (olen rfl rfl rfl Try.runUnderlying38 (p := (some ⟨gs, 0, none⟩)) (k := 1) (m := 1) (ev (v := .slice (some ⟨gs, 0, none⟩) 1 1) rfl rfl) ?_)
  refine wl rfl (omakeL (zs := [.bool false, .slice none 0 0, .bool false, .slice none 0 0]) (k := 0) (m := 1) hS rfl rfl Try.underlying38 infoRat rfl rfl (by decide) rfl (evc (v := .int .i64 ((0 : Nat) : Int))) (ev (v := .int .i64 (((1 : Nat) : Int))) rfl rfl) (Nat.zero_le _) (by omega) (by omega) ?_)
  clear hS; intro g5 w6 hS
  refine wl rfl (oassign (v := .slice (some ⟨g5, 0, none⟩) 0 1) rfl rfl (ev (v := .slice (some ⟨g5, 0, none⟩) 0 1) rfl rfl) ?_)
  refine wnil ?_
  refine thenN ?_
  refine wseq ?_
  refine wseq ?_
  refine wreg ?_
  refine wl rfl (omove (v := .slice (some ⟨gs, 0, none⟩) 1 1) rfl rfl (ev (v := .slice (some ⟨gs, 0, none⟩) 1 1) rfl rfl) ?_)
  refine wl rfl (olen rfl rfl rfl Try.runUnderlying38 (p := (some ⟨gs, 0, none⟩)) (k := 1) (m := 1) (ev (v := .slice (some ⟨gs, 0, none⟩) 1 1) rfl rfl) ?_)
  refine wl rfl (omove (v := .int .i64 0) rfl rfl (evc (v := .int .i64 0)) ?_)
  refine wnil ?_
  refine thenN ?_
  refine wblock ?_
  refine wloop (σ := Nat) (fun i a w' => ∃ (fb : Nat → Value) (es : List El) (pz : Option Addr) (cz : Nat), a = act 40 (sets fb [(0, .func (.func 85) #[] #[.pointer (some ⟨gk, 0, none⟩)]), (4, .pointer (some ⟨g1, 0, none⟩)), (6, .pointer (some ⟨g3, 0, none⟩)), (7, .slice pz i cz), (15, .slice (some ⟨gs, 0, none⟩) 1 1), (16, .int .i64 (((1 : Nat) : Int))), (17, .int .i64 (((i : Nat) : Int)))]) ∧ Sep w0 [.lst 27 4 pz i cz es, .blk g3 [.bool false, .slice none 0 0, .bool false, .slice none 0 0] 27, .blk g1 [.bool false, .slice none 0 0, .bool false, .slice none 0 0] 27, .blk gs [.bool bA, .slice qA nA kA, .bool bB, .slice qB nB kB] 27, .blk gk [kv] 3, .blk gp [.bool false, .slice none 0 0, .bool false, .slice none 0 0] 27] w' ∧ (i ≤ 1) ∧ (REls [(x, y)] i es)) (fun i => 1 - i) (0) ⟨_, _, _, _, act_sets (l := [(0, .func (.func 85) #[] #[.pointer (some ⟨gk, 0, none⟩)]), (4, .pointer (some ⟨g1, 0, none⟩)), (6, .pointer (some ⟨g3, 0, none⟩)), (7, .slice (some ⟨g5, 0, none⟩) 0 1), (15, .slice (some ⟨gs, 0, none⟩) 1 1), (16, .int .i64 (((1 : Nat) : Int))), (17, .int .i64 0)]) ⟨rfl, rfl, rfl, rfl, rfl, rfl, rfl, trivial⟩, hS, by omega, ⟨rfl, fun j e h => by omega⟩⟩ ?_
  clear hS; rintro i _ w7 ⟨fb, es, pz, cz, rfl, hS, hi, hes⟩
  refine wseq ?_
  refine wreg ?_
  by_cases hlt : i < 1
  ·
    refine wl rfl (obin (u := .int .i64 (((i : Nat) : Int))) (v := .int .i64 (((1 : Nat) : Int))) (z := .bool true) rfl rfl (ev (v := .int .i64 (((i : Nat) : Int))) rfl rfl) (ev (v := .int .i64 (((1 : Nat) : Int))) rfl rfl) (bin_lss (decide_eq_true (by omega))) ?_)
    refine wnil ?_
    refine thenN ?_
    refine wseq ?_
    refine wT (ev (v := .bool true) rfl rfl) ?_
    refine wskip ?_
    refine thenN ?_
    refine wseq ?_
    refine wblock ?_
    refine wseq ?_
    refine wreg ?_
    refine wl rfl (oindex (p := (some ⟨gs, 0, none⟩)) (g := gs) (off := 0) (m := 1) (k := i) (j := (0 + i * 4)) rfl rfl Try.runUnderlying38 Try.sizeOf27 (ev (v := .slice (some ⟨gs, 0, none⟩) 1 1) rfl rfl) (rfl) (ev (v := .int .i64 (((i : Nat) : Int))) rfl rfl) (hlt) rfl ?_)
    refine wl rfl (oloadA (vs := [.bool bA, .slice qA nA kA, .bool bB, .slice qB nB kB]) aggR rfl rfl (ev (v := .pointer (some ⟨gs, (0 + i * 4), none⟩)) rfl rfl) (fun j v hj => by
          rw [show 0 + i * 4 + j = j by omega]; exact (blk_cell (hS.blkAt 3 rfl) j).trans hj) rfl ?_)
    refine wl rfl (oalloc [.bool false, .slice none 0 0, .bool false, .slice none 0 0] hS rfl rfl Try.zeroValue27 rfl ?_)
    clear hS; intro g8 w9 hS
    refine wl rfl (ostore [.bool bA, .slice qA nA kA, .bool bB, .slice qB nB kB] [.bool bA, .slice qA nA kA, .bool bB, .slice qB nB kB] Try.sizeOf27 hS 0 rfl rfl (ev rfl rfl) (ev (v := .agg #[.bool bA, .slice qA nA kA, .bool bB, .slice qB nB kB]) rfl rfl) rfl rfl rfl rfl rfl rfl ?_)
    clear hS; intro w10 hS
    refine wnil ?_
    refine thenN ?_
    refine wseq ?_
    refine wreg ?_
    refine wl rfl (oload (vs := [.bool bA, .slice qA nA kA, .bool bB, .slice qB nB kB]) aggR hS 0 rfl rfl (ev rfl rfl) rfl rfl rfl ?_)
    obtain ⟨z1, hz1⟩ : ∃ z : Int, Hid (RN x y = z) := ⟨_, rfl⟩
    have hk1 : Wd z1 16777216 := Wd.rn hzA.wd hz1
    obtain ⟨z2, hz2⟩ : ∃ z : Int, Hid (RD x y = z) := ⟨_, rfl⟩
    have hk2 : Wd z2 16777216 := Wd.rd hzB.wd hz2
    refine wl rfl (ocall rfl rfl Try.call43 rfl ((wrnorm ((hzA.at hS).mono (by omega)) ((hzB.at hS).mono (by omega)) (hy) hz1 hz2)) (args1 (ev rfl rfl)) ?_)
    rintro _ w11 ⟨_, _, rfl, ⟨p1, n1, c1, p2, n2, c2, rfl, rfl⟩, hN⟩
    refine ⟨_, rfl, ?_⟩
    replace hS := hS.news hN; clear hN
    refine wl rfl (omove (v := .tuple #[.agg #[.bool (ng z1), .slice p1 n1 c1, .bool (ng z2), .slice p2 n2 c2], .int .i64 0]) rfl rfl (ev (v := .tuple #[.agg #[.bool (ng z1), .slice p1 n1 c1, .bool (ng z2), .slice p2 n2 c2], .int .i64 0]) rfl rfl) ?_)
    refine wl rfl (oextract (vs := [.agg #[.bool (ng z1), .slice p1 n1 c1, .bool (ng z2), .slice p2 n2 c2], .int .i64 0]) (v := .agg #[.bool (ng z1), .slice p1 n1 c1, .bool (ng z2), .slice p2 n2 c2]) rfl rfl (ev (v := .tuple #[.agg #[.bool (ng z1), .slice p1 n1 c1, .bool (ng z2), .slice p2 n2 c2], .int .i64 0]) rfl rfl) rfl ?_)
    refine wl rfl (oextract (vs := [.agg #[.bool (ng z1), .slice p1 n1 c1, .bool (ng z2), .slice p2 n2 c2], .int .i64 0]) (v := .int .i64 0) rfl rfl (ev (v := .tuple #[.agg #[.bool (ng z1), .slice p1 n1 c1, .bool (ng z2), .slice p2 n2 c2], .int .i64 0]) rfl rfl) rfl ?_)
    refine wl rfl (oalloc [.bool false, .slice none 0 0, .bool false, .slice none 0 0] hS rfl rfl Try.zeroValue27 rfl ?_)
    clear hS; intro g12 w13 hS
    refine wl rfl (ostore [.bool (ng z1), .slice p1 n1 c1, .bool (ng z2), .slice p2 n2 c2] [.bool (ng z1), .slice p1 n1 c1, .bool (ng z2), .slice p2 n2 c2] Try.sizeOf27 hS 0 rfl rfl (ev rfl rfl) (ev (v := .agg #[.bool (ng z1), .slice p1 n1 c1, .bool (ng z2), .slice p2 n2 c2]) rfl rfl) rfl rfl rfl rfl rfl rfl ?_)
    clear hS; intro w14 hS
    refine wl rfl (oassign (v := .int .i64 0) rfl rfl (ev (v := .int .i64 0) rfl rfl) ?_)
    refine wnil ?_
    refine thenN ?_
    refine wseq ?_
    refine wseq ?_
    refine wreg ?_
    refine wl rfl (omove (v := .int .i64 0) rfl rfl (ev (v := .int .i64 0) rfl rfl) ?_)
    refine wl rfl (obin (u := .int .i64 0) (v := .int .i64 0) (z := .bool false) rfl rfl (ev (v := .int .i64 0) rfl rfl) (evc (v := .int .i64 0)) (bin_neq (by decide)) ?_)
    refine wnil ?_
    refine thenN ?_
    refine wF (ev (v := .bool false) rfl rfl) ?_
    refine wskip ?_
    refine thenN ?_
    refine wreg ?_
    refine wl rfl (omove (v := .slice pz i cz) rfl rfl (ev (v := .slice pz i cz) rfl rfl) ?_)
    refine wl rfl (oload (vs := [.bool (ng z1), .slice p1 n1 c1, .bool (ng z2), .slice p2 n2 c2]) aggR hS 0 rfl rfl (ev rfl rfl) rfl rfl rfl ?_)
    refine wl rfl (obslice (ps := #[(0, .agg #[.bool (ng z1), .slice p1 n1 c1, .bool (ng z2), .slice p2 n2 c2])]) (z := .agg #[.bool false, .slice none 0 0, .bool false, .slice none 0 0]) [.bool (ng z1), .slice p1 n1 c1, .bool (ng z2), .slice p2 n2 c2] hS rfl rfl Try.runUnderlying38 Try.sizeOf27 Try.zeroValue27 (parts1 (ev (v := .agg #[.bool (ng z1), .slice p1 n1 c1, .bool (ng z2), .slice p2 n2 c2]) rfl rfl)) rfl (by decide) fill4_1 ?_)
    clear hS; intro g15 w16 hS
    obtain hS := (show Sep w0 [.rowm p1 n1 c1 (lim z1.natAbs), .rowm p2 n2 c2 (lim z2.natAbs), .lst 27 4 pz i cz es, .blk g15 [.bool (ng z1), .slice p1 n1 c1, .bool (ng z2), .slice p2 n2 c2] 27, .blk g12 [.bool (ng z1), .slice p1 n1 c1, .bool (ng z2), .slice p2 n2 c2] 27, .blk g8 [.bool bA, .slice qA nA kA, .bool bB, .slice qB nB kB] 27, .blk g3 [.bool false, .slice none 0 0, .bool false, .slice none 0 0] 27, .blk g1 [.bool false, .slice none 0 0, .bool false, .slice none 0 0] 27, .blk gs [.bool bA, .slice qA nA kA, .bool bB, .slice qB nB kB] 27, .blk gk [kv] 3, .blk gp [.bool false, .slice none 0 0, .bool false, .slice none 0 0] 27] w16 from hS.pick [2, 3, 5, 0, 1, 4, 6, 7, 8, 9, 10] (by decide) rfl)
    refine wl rfl (oappendL (p := pz) (m := i) (c := cz) (g2 := g15) (c2 := 1) (off := 0) [.bool (ng z1), .slice p1 n1 c1, .bool (ng z2), .slice p2 n2 c2] [.rowm p1 n1 c1 (lim z1.natAbs), .rowm p2 n2 c2 (lim z2.natAbs)] hS rfl rfl Try.underlying38 infoRat rfl (by decide) (ev (v := .slice pz i cz) rfl rfl) (ev (v := .slice (some ⟨g15, 0, none⟩) 1 1) rfl rfl) (fun j v hj => by rw [Nat.zero_add]; exact (blk_cell (hS.blkAt 3 rfl) j).trans hj) rfl rfl rfl (by omega) (by omega) ?_)
    clear hS; intro p18 c19 w17 hS
    refine wl rfl (oassign (v := .slice p18 ((i + 1)) c19) rfl rfl (ev (v := .slice p18 ((i + 1)) c19) rfl rfl) ?_)
    refine wnil ?_
    refine blkN ?_
    refine thenN ?_
    refine wreg ?_
    refine wl rfl (obin (u := .int .i64 (((i : Nat) : Int))) (v := .int .i64 1) (z := .int .i64 (((i + 1 : Nat) : Int))) rfl rfl (ev (v := .int .i64 (((i : Nat) : Int))) rfl rfl) (evc (v := .int .i64 1)) (bin_add (wrap_succ (by omega))) ?_)
    refine wl rfl (omove (v := .int .i64 (((i + 1 : Nat) : Int))) rfl rfl (ev (v := .int .i64 (((i + 1 : Nat) : Int))) rfl rfl) ?_)
    refine wnil ?_
    refine thenN ?_
    obtain rfl := hz1.out
    obtain rfl := hz2.out
    exact ⟨(i + 1), ⟨_, _, _, _, act_sets (l := [(0, .func (.func 85) #[] #[.pointer (some ⟨gk, 0, none⟩)]), (4, .pointer (some ⟨g1, 0, none⟩)), (6, .pointer (some ⟨g3, 0, none⟩)), (7, .slice p18 ((i + 1)) c19), (15, .slice (some ⟨gs, 0, none⟩) 1 1), (16, .int .i64 (((1 : Nat) : Int))), (17, .int .i64 (((i + 1 : Nat) : Int)))]) ⟨rfl, rfl, rfl, rfl, rfl, rfl, rfl, trivial⟩, hS.pick [0, 4, 5, 6, 7, 8] (by decide) rfl, by omega, (show i = 0 by omega) ▸ REls.app ((show i = 0 by omega) ▸ hes) rfl hy _ _ _ _ _ _⟩, by omega⟩
  ·
    refine wl rfl (obin (u := .int .i64 (((i : Nat) : Int))) (v := .int .i64 (((1 : Nat) : Int))) (z := .bool false) rfl rfl (ev (v := .int .i64 (((i : Nat) : Int))) rfl rfl) (ev (v := .int .i64 (((1 : Nat) : Int))) rfl rfl) (bin_lss (decide_eq_false (by omega))) ?_)
    refine wnil ?_
    refine thenN ?_
    refine wseq ?_
    refine wF (ev (v := .bool false) rfl rfl) ?_
    refine wexit ?_
    refine thenE ?_
    refine thenE ?_
    refine blkE ?_
    refine thenN ?_
    refine wseq ?_
    refine wreg ?_
    refine wl rfl (omove (v := .func (.func 85) #[] #[.pointer (some ⟨gk, 0, none⟩)]) rfl rfl (ev (v := .func (.func 85) #[] #[.pointer (some ⟨gk, 0, none⟩)]) rfl rfl) ?_)
    refine wl rfl (omove (v := .slice pz i cz) rfl rfl (ev (v := .slice pz i cz) rfl rfl) ?_)
    obtain rfl : i = 1 := by omega
    obtain hS := (show Sep w0 [.lst 27 4 pz 1 cz es, .blk gk [kv] 3, .blk g1 [.bool false, .slice none 0 0, .bool false, .slice none 0 0] 27, .blk gp [.bool false, .slice none 0 0, .bool false, .slice none 0 0] 27, .blk g3 [.bool false, .slice none 0 0, .bool false, .slice none 0 0] 27, .blk gs [.bool bA, .slice qA nA kA, .bool bB, .slice qB nB kB] 27] w7 from hS.pick [0, 4, 2, 5, 1, 3] (by decide) rfl)
    obtain hS := (show Sep w0 [.lst 27 4 pz 1 cz es, .blk gk [kv] 3, .blk g1 [.bool false, .slice none 0 0, .bool false, .slice none 0 0] 27, .blk gp [.bool false, .slice none 0 0, .bool false, .slice none 0 0] 27] w7 from hS.pick [0, 1, 2, 3] (by decide) rfl)
    obtain ⟨gL, pX, nX, cX, pY, nY, cY, hpz, hSq⟩ := made_end hes hS
    clear hS; subst hpz; have hS := hSq; clear hSq
    refine wl rfl (ocallc (vs := #[.slice (some ⟨gL, 0, none⟩) 1 cz]) (caps := #[.pointer (some ⟨gk, 0, none⟩)]) rfl rfl (ev (v := .func (.func 85) #[] #[.pointer (some ⟨gk, 0, none⟩)]) rfl rfl) Try.call85 rfl (hf _ _ _ _ _ _ _ _ _ _ hS) (args1 (ev rfl rfl)) ?_)
    rintro _ w8 ⟨_, _, kc, rfl, ⟨pr1, nr1, cr1, pr2, nr2, cr2, rfl, rfl⟩, hN⟩
    refine ⟨_, rfl, ?_⟩
    clear hS; have hS := hN; clear hN
    refine wl rfl (oextract (vs := [.agg #[.bool (ng z), .slice pr1 nr1 cr1, .bool (ng t), .slice pr2 nr2 cr2], .int .i64 E]) (v := .agg #[.bool (ng z), .slice pr1 nr1 cr1, .bool (ng t), .slice pr2 nr2 cr2]) rfl rfl (ev (v := .tuple #[.agg #[.bool (ng z), .slice pr1 nr1 cr1, .bool (ng t), .slice pr2 nr2 cr2], .int .i64 E]) rfl rfl) rfl ?_)
    refine wl rfl (oextract (vs := [.agg #[.bool (ng z), .slice pr1 nr1 cr1, .bool (ng t), .slice pr2 nr2 cr2], .int .i64 E]) (v := .int .i64 E) rfl rfl (ev (v := .tuple #[.agg #[.bool (ng z), .slice pr1 nr1 cr1, .bool (ng t), .slice pr2 nr2 cr2], .int .i64 E]) rfl rfl) rfl ?_)
    refine wl rfl (ostore [.bool (ng z), .slice pr1 nr1 cr1, .bool (ng t), .slice pr2 nr2 cr2] [.bool (ng z), .slice pr1 nr1 cr1, .bool (ng t), .slice pr2 nr2 cr2] Try.sizeOf27 hS 3 rfl rfl (ev rfl rfl) (ev (v := .agg #[.bool (ng z), .slice pr1 nr1 cr1, .bool (ng t), .slice pr2 nr2 cr2]) rfl rfl) rfl rfl rfl rfl rfl rfl ?_)
    clear hS; intro w9 hS
    refine wl rfl (oassign (v := .int .i64 E) rfl rfl (ev (v := .int .i64 E) rfl rfl) ?_)
    refine wnil ?_
    refine thenN ?_
    refine wleave ?_
    refine wret2 Try.results53 (tellC (cs := [.bool (ng z), .slice pr1 nr1 cr1, .bool (ng t), .slice pr2 nr2 cr2]) aggR hS 3 rfl rfl rfl rfl) (tellT (v := .int .i64 E) rfl rfl) ?_
    exact ⟨_, _, _, rfl, ⟨_, _, _, _, _, _, rfl, rfl⟩, hS.pick [0, 1, 2, 4] (by decide) rfl⟩

end Go.Proofs.Ytoinfkimlhhmpaa
