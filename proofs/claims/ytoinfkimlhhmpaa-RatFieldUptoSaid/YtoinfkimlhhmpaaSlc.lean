
/-
  Slices just built, of structs; zint's Gcd and Lcm of two.
-/
import Derived.Test.YtoinfkimlhhmpaaZFold2
import Derived.Test.YtoinfkimlhhmpaaLst
set_option linter.unusedVariables false
set_option linter.unusedSimpArgs false
namespace Go.Proofs.Ytoinfkimlhhmpaa
open Go.RowKit

section
variable {P : Program} {o : Oper} {n : Nat} {f : Nat → Value} {w w0 : World} {R : List Res} {K : Act → World → Prop} {Q : Exit → Act → World → Prop} {d : Nat}
def Slb (cs : List Value) (t : TypeId) (len : Nat) : Tell := fun v r => ∃ g, v = .slice (some ⟨g, 0, none⟩) len len ∧ r = [.blk g cs t]
theorem obsliceN {t e : TypeId} {len sz : Nat} {parts : Array (Nat × Operand)} {ps : Array (Nat × Value)} {z : Value} (cs : List Value) (hop : o.op = .buildSlice t len parts) (ho : o.dst = some d) (ht : ∀ w, (underlying t).run P w = .ok (.slice e) w) (hs : ∀ w, (sizeOf e).run P w = .ok sz w) (hz : ∀ w, (zeroValue e).run P w = .ok z w)
    (hx : (parts.map fun (i, x) => (i, (act n f).eval x)) = ps) (hle : Nat.ble (len * sz) 16777216 = true) (h0 : len * sz ≠ 0) (hf : Instr.fill (fun i => some (i * sz, sz)) ((Array.range (len * sz)).map (z.cells[· % z.cells.size]!)) ps.toList = some cs.toArray)
    (hK : K (act n (upd f d (.slice (some ⟨w.heap.size, 0, none⟩) len len))) (w.alloc (.cells cs.toArray e))) : OW P o (act n f) w K Q := by
  refine ⟨?_⟩
  unfold Oper.wp
  have hle' : ¬ (len * sz > 2 ^ 24) := by have := Nat.le_of_ble_eq_true hle; omega
  simp only [execOp, hop]
  rw [hx]
  simp [Instr.buildSlice, ht, hs, hz, hle', h0, hf, newRow]
  rw [Oper.upon_value, ho, act_put]
  exact hK

theorem obslice {t e : TypeId} {len sz : Nat} {parts : Array (Nat × Operand)} {ps : Array (Nat × Value)} {z : Value} (cs : List Value) (hS : Sep w0 R w) (hop : o.op = .buildSlice t len parts) (ho : o.dst = some d) (ht : ∀ w, (underlying t).run P w = .ok (.slice e) w) (hs : ∀ w, (sizeOf e).run P w = .ok sz w) (hz : ∀ w, (zeroValue e).run P w = .ok z w)
    (hx : (parts.map fun (i, x) => (i, (act n f).eval x)) = ps) (hle : Nat.ble (len * sz) 16777216 = true) (h0 : len * sz ≠ 0) (hf : Instr.fill (fun i => some (i * sz, sz)) ((Array.range (len * sz)).map (z.cells[· % z.cells.size]!)) ps.toList = some cs.toArray)
    (hK : ∀ g w', Sep w0 (.blk g cs e :: R) w' → K (act n (upd f d (.slice (some ⟨g, 0, none⟩) len len))) w') : OW P o (act n f) w K Q :=
  obsliceN cs hop ho ht hs hz hx hle h0 hf (hK _ _ (hS.alloc cs e))
end

theorem fill2 {u v a b c d : Value} : Instr.fill (fun i => some (i * 2, 2)) ((Array.range (2 * 2)).map ((Value.agg #[u, v]).cells[· % (Value.agg #[u, v]).cells.size]!)) #[(0, .agg #[a, b]), (1, .agg #[c, d])].toList = some [a, b, c, d].toArray := by
  simp [Instr.fill, Value.cells, Array.range]
  apply Array.ext
  · simp
  · intro i h1 h2
    have h3 : i = 0 ∨ i = 1 ∨ i = 2 ∨ i = 3 := by simp at h2; omega
    rcases h3 with rfl | rfl | rfl | rfl <;> simp
theorem fill2_1 {u0 u1 a0_0 a0_1 : Value} : Instr.fill (fun i => some (i * 2, 2)) ((Array.range (1 * 2)).map ((Value.agg #[u0, u1]).cells[· % (Value.agg #[u0, u1]).cells.size]!)) #[(0, .agg #[a0_0, a0_1])].toList = some [a0_0, a0_1].toArray := by
  simp [Instr.fill, Value.cells, Array.range]
  apply Array.ext
  · simp
  · intro i h1 h2
    have h3 : i = 0 ∨ i = 1 := by simp at h2; omega
    rcases h3 with rfl | rfl <;> simp
theorem fill4_1 {u0 u1 u2 u3 a0_0 a0_1 a0_2 a0_3 : Value} : Instr.fill (fun i => some (i * 4, 4)) ((Array.range (1 * 4)).map ((Value.agg #[u0, u1, u2, u3]).cells[· % (Value.agg #[u0, u1, u2, u3]).cells.size]!)) #[(0, .agg #[a0_0, a0_1, a0_2, a0_3])].toList = some [a0_0, a0_1, a0_2, a0_3].toArray := by
  simp [Instr.fill, Value.cells, Array.range]
  apply Array.ext
  · simp
  · intro i h1 h2
    have h3 : i = 0 ∨ i = 1 ∨ i = 2 ∨ i = 3 := by simp at h2; omega
    rcases h3 with rfl | rfl | rfl | rfl <;> simp
theorem fill4_2 {u0 u1 u2 u3 a0_0 a0_1 a0_2 a0_3 a1_0 a1_1 a1_2 a1_3 : Value} : Instr.fill (fun i => some (i * 4, 4)) ((Array.range (2 * 4)).map ((Value.agg #[u0, u1, u2, u3]).cells[· % (Value.agg #[u0, u1, u2, u3]).cells.size]!)) #[(0, .agg #[a0_0, a0_1, a0_2, a0_3]), (1, .agg #[a1_0, a1_1, a1_2, a1_3])].toList = some [a0_0, a0_1, a0_2, a0_3, a1_0, a1_1, a1_2, a1_3].toArray := by
  simp [Instr.fill, Value.cells, Array.range]
  apply Array.ext
  · simp
  · intro i h1 h2
    have h3 : i = 0 ∨ i = 1 ∨ i = 2 ∨ i = 3 ∨ i = 4 ∨ i = 5 ∨ i = 6 ∨ i = 7 := by simp at h2; omega
    rcases h3 with rfl | rfl | rfl | rfl | rfl | rfl | rfl | rfl <;> simp
theorem Wd.lcm {x y z : Int} {k l m : Nat} (hx : Wd x k) (hy : Wd y l) (hz : Hid ((Int.lcm x y : Int) = z)) (h : k + l ≤ m) : Wd z m := by
  have hz' := hz.out; subst hz'
  unfold Wd at *
  rw [Int.natAbs_natCast]
  have h1 : Int.lcm x y ≤ x.natAbs * y.natAbs := by
    unfold Int.lcm Nat.lcm
    exact Nat.div_le_self _ _
  exact llv_le h1 (llv_mul hx hy h)
theorem wzGcd_two {w : World} {g : Nat} {t : TypeId} {b b2 : Bool} {p q : Option Addr} {n m c d : Nat} {x y z : Int} (hg : w.heap[g]? = some (.cells [.bool b, .slice p n c, .bool b2, .slice q m d].toArray t)) (hx : Zr w b p n c x 67108864) (hy : Zr w b2 q m d y 67108864) {k l : Nat} (_ : Wd x k) (_ : Wd y l) (hz : Hid ((Int.gcd x y : Int) = z)) :
    Calls Try.prog 89 #[.slice (some ⟨g, 0, none⟩) 2 2] w (Ret (Zt z) w) := by
  refine wzGcd (Zs.two hg hx hy) ?_
  show _ = _
  rw [← hz.out]
  simp [facc, gcdZ, Int.gcd]
theorem infoInt : (Try.prog.info? 25).map (fun i => (i.zero, i.size, i.bytes)) = some (some (.agg #[.bool false, .slice none 0 0]), 2, 32) := by kernel_rfl
theorem infoRat : (Try.prog.info? 27).map (fun i => (i.zero, i.size, i.bytes)) = some (some (.agg #[.bool false, .slice none 0 0, .bool false, .slice none 0 0]), 4, 64) := by kernel_rfl

def Cpm (b : Bool) (n : Nat) (xs : List Nat) : Tell := fun v r => ∃ p c, v = .agg #[.bool b, .slice p n c] ∧ r = [.rowm p n c xs]
theorem Cpt.m {b : Bool} {n : Nat} {xs : List Nat} {w : World} (e : Ending) (w' : World) (h : Ret (Cpt b n xs) w e w') : Ret (Cpm b n xs) w e w' := by
  obtain ⟨_, _, rfl, ⟨p, c, rfl, rfl⟩, hN⟩ := h
  refine ⟨_, _, rfl, ⟨p, c, rfl, rfl⟩, New.one hN.below ?_ (fun g hg => hN.high (.row p n c xs) List.mem_cons_self g hg)⟩
  exact (show Fr 0 w' p n c xs from hN.holds (.row p n c xs) List.mem_cons_self)
theorem Ret.mono {T T' : Tell} {w : World} (h : ∀ v r, T v r → T' v r) (e : Ending) (w' : World) (hr : Ret T w e w') : Ret T' w e w' := by
  obtain ⟨v, r, h1, h2, h3⟩ := hr; exact ⟨v, r, h1, h v r h2, h3⟩

end Go.Proofs.Ytoinfkimlhhmpaa
