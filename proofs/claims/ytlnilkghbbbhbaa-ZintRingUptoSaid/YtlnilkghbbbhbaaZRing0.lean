
/-
  What the walk of similelaw03.ZintRing needs: the same number, gcd and lcm of two, bounds, nearness.
-/
import Derived.Test.YtlnilkghbbbhbaaZBez2
import Derived.Test.YtlnilkghbbbhbaaZFold2
set_option linter.unusedVariables false
set_option linter.unusedSimpArgs false
namespace Go.Proofs.Ytlnilkghbbbhbaa
open Go.RowKit

section
variable {P : Program} {o : Oper} {n : Nat} {f : Nat → Value} {w w0 : World} {R : List Res} {K : Act → World → Prop} {Q : Exit → Act → World → Prop} {d : Nat}
def Slb (cs : List Value) (t : TypeId) (len : Nat) : Tell := fun v r => ∃ g, v = .slice (some ⟨g, 0, none⟩) len len ∧ r = [.blk g cs t]
theorem obsliceN {t e : TypeId} {len sz : Nat} {parts : Array (Nat × Operand)} {ps : Array (Nat × Value)} {z : Value} (cs : List Value) (hop : o.op = .buildSlice t len parts) (ho : o.dst = some d) (ht : ∀ w, (underlying t).run P w = .ok (.slice e) w) (hs : ∀ w, (sizeOf e).run P w = .ok sz w) (hz : ∀ w, (zeroValue e).run P w = .ok z w)
    (hx : (parts.map fun (i, x) => (i, (act n f).eval x)) = ps) (hle : Nat.ble (len * sz) 16777216 = true) (h0 : len * sz ≠ 0) (hf : Instr.fill (fun i => some (i * sz, sz)) ((Array.range (len * sz)).map (z.cells[· % z.cells.size]!)) ps.toList = some cs.toArray)
    (hK : K (act n (upd f d (.slice (some ⟨w.heap.size, 0, none⟩) len len))) (w.alloc (.cells cs.toArray e))) : OW P o (act n f) w K Q := by
  refine ⟨?_⟩
  unfold Oper.wp
  have hle' : ¬ (len * sz > 2 ^ 24) := by have := Nat.le_of_ble_eq_true hle; omega
  simp only [execOp, hop]
  rw [hx]
  simp [Instr.buildSlice, ht, hs, hz, hle', h0, hf, newRow]
  rw [Oper.upon_value, ho, act_put]
  exact hK
end

theorem fill2 {u v a b c d : Value} : Instr.fill (fun i => some (i * 2, 2)) ((Array.range (2 * 2)).map ((Value.agg #[u, v]).cells[· % (Value.agg #[u, v]).cells.size]!)) #[(0, .agg #[a, b]), (1, .agg #[c, d])].toList = some [a, b, c, d].toArray := by
  simp [Instr.fill, Value.cells, Array.range]
  apply Array.ext
  · simp
  · intro i h1 h2
    have h3 : i = 0 ∨ i = 1 ∨ i = 2 ∨ i = 3 := by simp at h2; omega
    rcases h3 with rfl | rfl | rfl | rfl <;> simp
theorem cmp_lt {a b s : Int} (h : Hid (cmpZ a b = s)) (hl : a < b) : s < 0 := by rw [← h.out]; unfold cmpZ; rw [if_pos hl]; decide
theorem cmp_le {a b s : Int} (h : Hid (cmpZ a b = s)) (hl : a ≤ b) : s ≤ 0 := by rw [← h.out]; unfold cmpZ; split <;> (try split) <;> omega
theorem cmpZ_self (x : Int) : cmpZ x x = 0 := by unfold cmpZ; simp
set_option maxRecDepth 100000 in
set_option maxHeartbeats 16000000 in
theorem wleq {b b2 : Bool} {p q : Option Addr} {n m c d : Nat} {x y : Int} {w : World} (hx : Zr w b p n c x 549755813888) (hy : Zr w b2 q m d y 549755813888) (h : x = y) :
    Calls Try.prog 57 #[.agg #[.bool b, .slice p n c], .agg #[.bool b2, .slice q m d]] w (Ret (Is (.bool true)) w) := by
  have hS := Sep.init w
  refine went Try.func57 rfl (n := 9) rfl rfl ?_
  refine wseq ?_
  refine wreg ?_
  refine wl rfl (obox [.bool b, .slice p n c] hS rfl rfl (ev (v := .agg #[.bool b, .slice p n c]) rfl rfl) rfl ?_)
  clear hS; intro g1 w2 hS
  refine wl rfl (obox [.bool b2, .slice q m d] hS rfl rfl (ev (v := .agg #[.bool b2, .slice q m d]) rfl rfl) rfl ?_)
  clear hS; intro g3 w4 hS
  refine wl rfl (oassign (v := .bool false) rfl rfl (evc (v := .bool false)) ?_)
  refine wnil ?_
  refine thenN ?_
  refine wseq ?_
  refine wreg ?_
  refine wl rfl (oload (vs := [.bool b, .slice p n c]) aggZ hS 1 rfl rfl (ev rfl rfl) rfl rfl rfl ?_)
  refine wl rfl (oload (vs := [.bool b2, .slice q m d]) aggZ hS 0 rfl rfl (ev rfl rfl) rfl rfl rfl ?_)
  obtain ⟨s1, hs1⟩ : ∃ z : Int, Hid (cmpZ x y = z) := ⟨_, rfl⟩
  refine wl rfl (ocall rfl rfl Try.call27 rfl (wzcmp (hx.at hS) (hy.at hS) hs1) (args2 (ev rfl rfl) (ev rfl rfl)) ?_)
  rintro _ w5 ⟨_, _, rfl, ⟨rfl, rfl⟩, hN⟩
  refine ⟨_, rfl, ?_⟩
  replace hS := hS.news hN; clear hN
  refine wl rfl (obin (u := .int .i64 s1) (v := .int .i64 0) (z := .bool true) rfl rfl (ev (v := .int .i64 s1) rfl rfl) (evc (v := .int .i64 0)) (bin_eql (by rw [← hs1.out, h, cmpZ_self]; rfl)) ?_)
  refine wl rfl (oassign (v := .bool true) rfl rfl (ev (v := .bool true) rfl rfl) ?_)
  refine wnil ?_
  refine thenN ?_
  refine wleave ?_
  refine wret1 Try.results57 (tellT (v := .bool true) rfl rfl) ?_
  exact ⟨_, _, rfl, isI, hS.new0⟩

theorem Wd.lcm {x y z : Int} {k l m : Nat} (hx : Wd x k) (hy : Wd y l) (hz : Hid ((Int.lcm x y : Int) = z)) (h : k + l ≤ m) : Wd z m := by
  have hz' := hz.out; subst hz'
  unfold Wd at *
  rw [Int.natAbs_natCast]
  have h1 : Int.lcm x y ≤ x.natAbs * y.natAbs := by
    unfold Int.lcm Nat.lcm
    exact Nat.div_le_self _ _
  exact llv_le h1 (llv_mul hx hy h)
theorem wzGcd_two {w : World} {g : Nat} {t : TypeId} {b b2 : Bool} {p q : Option Addr} {n m c d : Nat} {x y z : Int} (hg : w.heap[g]? = some (.cells [.bool b, .slice p n c, .bool b2, .slice q m d].toArray t)) (hx : Zr w b p n c x 1048576) (hy : Zr w b2 q m d y 1048576) {k l : Nat} (_ : Wd x k) (_ : Wd y l) (hz : Hid ((Int.gcd x y : Int) = z)) :
    Calls Try.prog 45 #[.slice (some ⟨g, 0, none⟩) 2 2] w (Ret (Zt z) w) := by
  refine wzGcd (Zs.two hg hx hy) ?_
  show _ = _
  rw [← hz.out]
  simp [facc, gcdZ, Int.gcd]
theorem wzLcm_two {w : World} {g : Nat} {t : TypeId} {b b2 : Bool} {p q : Option Addr} {n m c d : Nat} {x y z : Int} (hg : w.heap[g]? = some (.cells [.bool b, .slice p n c, .bool b2, .slice q m d].toArray t)) (hx : Zr w b p n c x 1048576) (hy : Zr w b2 q m d y 1048576) {k l : Nat} (hk : Wd x k) (hl : Wd y l) (hz : Hid ((Int.lcm x y : Int) = z)) :
    Calls Try.prog 47 #[.slice (some ⟨g, 0, none⟩) 2 2] w (Ret (Zt z) w) := by
  refine wzLcm (Zs.two hg hx hy) ?_ ?_
  · intro i hi
    match i, hi with
    | 0, _ => exact (Wd.i64 (z := 1) (by omega) (by omega)).mono (by omega)
    | 1, _ =>
      have e : facc lcmZ 1 [x, y] 1 = (x.natAbs : Int) := by simp [facc, lcmZ, Int.lcm]
      rw [e]; exact (Wd.nabs hx.wd rfl).mono (by omega)
    | 2, _ =>
      have e : facc lcmZ 1 [x, y] 2 = (Int.lcm x y : Int) := by simp [facc, lcmZ, Int.lcm]
      rw [e]; exact Wd.lcm hx.wd hy.wd rfl (by omega)
  · show _ = _
    rw [← hz.out]
    simp [facc, lcmZ, Int.lcm]
theorem bez_y {a b x y : Int} (hb : b ≠ 0) (h : Bez a b x y) : y.natAbs ≤ a.natAbs + 1 ∧ x.natAbs ≤ b.natAbs := by
  obtain ⟨h1, h2, h3⟩ := h
  have hg : 0 < Int.gcd a b := Nat.gcd_pos_of_pos_right _ (by omega)
  have hgb : Int.gcd a b ≤ b.natAbs := Nat.le_of_dvd (by omega) (Nat.gcd_dvd_right _ _)
  have hx : x ≤ x * (Int.gcd a b : Int) := by
    have := Int.mul_le_mul_of_nonneg_left (show (1 : Int) ≤ (Int.gcd a b : Int) by omega) h2
    omega
  have hxb : x.natAbs ≤ b.natAbs := by omega
  refine ⟨?_, hxb⟩
  have e : b * y = (Int.gcd a b : Int) - a * x := by omega
  have e2 : b.natAbs * y.natAbs ≤ b.natAbs + a.natAbs * b.natAbs := by
    rw [← Int.natAbs_mul, e]
    have f1 : ((Int.gcd a b : Int) - a * x).natAbs ≤ Int.gcd a b + (a * x).natAbs := by omega
    rw [Int.natAbs_mul] at f1
    have f2 : a.natAbs * x.natAbs ≤ a.natAbs * b.natAbs := Nat.mul_le_mul_left _ hxb
    omega
  have e3 : b.natAbs * y.natAbs ≤ b.natAbs * (a.natAbs + 1) := by rw [Nat.mul_add, Nat.mul_one, Nat.mul_comm b.natAbs a.natAbs]; omega
  exact Nat.le_of_mul_le_mul_left e3 (by omega)
theorem nearP_near {a b : Int} (hb : 0 < b) : ((a - nearP a b * b) * 2).natAbs ≤ b.natAbs := by
  have h1 := Int.emod_nonneg a (b := b) (by omega)
  have h2 := Int.emod_lt_of_pos a hb
  have h3 := Int.emod_add_mul_ediv a b
  unfold nearP
  split
  · rename_i h
    have e : a - (a / b + 1) * b = a % b - b := by rw [Int.add_mul, Int.mul_comm (a / b) b]; omega
    rw [e]; omega
  · rename_i h
    have e : a - a / b * b = a % b := by rw [Int.mul_comm (a / b) b]; omega
    rw [e]; omega
theorem nearZ_near {a b : Int} (hb : b ≠ 0) : ((a - nearZ a b * b) * 2).natAbs ≤ b.natAbs := by
  unfold nearZ
  split
  · have := nearP_near (a := -a) (b := -b) (by omega)
    rw [Int.mul_neg] at this
    omega
  · exact nearP_near (by omega)

theorem gcd_lcm (x y : Int) : (Int.gcd x y : Int) * (Int.lcm x y : Int) = ((x * y).natAbs : Int) := by
  rw [← Int.natCast_mul, Int.gcd_mul_lcm, Int.natAbs_mul]
end Go.Proofs.Ytlnilkghbbbhbaa
