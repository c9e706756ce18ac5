
/-
  The walk of similelaw01.lives: the document's examples.
-/
import Derived.Test.YtgemncfpehmdeaaDoorBB
set_option linter.unusedVariables false
set_option linter.unusedSimpArgs false
namespace Go.Proofs.YtgemncfpehmdeaaDoor
open Go.RowKit

theorem lives_q : lim (val [0, 0, 1] / val [10]) = [2576980377, 429496729] := by
  have h : val [0, 0, 1] / val [10] = val [2576980377, 429496729] := by simp [val_three, val_single, val_pair]
  rw [h]
  exact lim_of_val (lims_pair (by omega) (by omega)) (by simp [tl, nd])
theorem lives_r : lim (val [0, 0, 1] % val [10]) = [6] := by
  have h : val [0, 0, 1] % val [10] = val [6] := by simp [val_three, val_single]
  rw [h]
  exact lim_of_val (lims_single (by omega)) (by simp [tl, nd])
theorem lives_l : blen (val [0, 1]) = 33 := by
  rw [show val [0, 1] = 4294967296 by simp [val_pair]]
  have h1 : (4294967296 : Nat).log2 = 32 := Nat.log2_two_pow (n := 32)
  unfold blen
  rw [if_neg (by omega), h1]
theorem lives_ll : ll (val [10]) = 1 := by rw [val_single]; exact ll_eq (k := 0) (by simp) (by simp)
theorem lives_le : val [10] ≤ val [0, 0, 1] := by simp [val_three, val_single]
theorem lives_ne : val [10] ≠ 0 := by simp [val_single]

set_option maxHeartbeats 2000000 in
theorem lives_any {w : World} : Calls Tryd.prog 19 #[] w (RetB w true) := by
  have h1 : Sl (w.alloc (.cells ([0, 0, 1].map fun x : Nat => Value.int .u32 (x : Int)).toArray 31)) (some ⟨w.heap.size, 0, none⟩) 3 3 [0, 0, 1] := Sl.lit w [0, 0, 1] (lims_three (by omega) (by omega) (by omega))
  have hb1 : Below w.heap.size w (w.alloc (.cells ([0, 0, 1].map fun x : Nat => Value.int .u32 (x : Int)).toArray 31)) := (Below.refl _ _).alloc (Nat.le_refl _) _
  go_enter Tryd.func19, Tryd.ntmps19
  go_wp2_with fail
  have hsz : (w.alloc (.cells ([0, 0, 1].map fun x : Nat => Value.int .u32 (x : Int)).toArray 31)).heap.size = w.heap.size + 1 := by simp
  have h2 : Sl ((w.alloc (.cells ([0, 0, 1].map fun x : Nat => Value.int .u32 (x : Int)).toArray 31)).alloc (.cells ([10].map fun x : Nat => Value.int .u32 (x : Int)).toArray 31)) (some ⟨w.heap.size + 1, 0, none⟩) 1 1 [10] := by rw [← hsz]; exact Sl.lit _ [10] (lims_single (by omega))
  have hb2 : Below (w.alloc (.cells ([0, 0, 1].map fun x : Nat => Value.int .u32 (x : Int)).toArray 31)).heap.size (w.alloc (.cells ([0, 0, 1].map fun x : Nat => Value.int .u32 (x : Int)).toArray 31)) ((w.alloc (.cells ([0, 0, 1].map fun x : Nat => Value.int .u32 (x : Int)).toArray 31)).alloc (.cells ([10].map fun x : Nat => Value.int .u32 (x : Int)).toArray 31)) := (Below.refl _ _).alloc (Nat.le_refl _) _
  have h12 := h1.below hb2 (Nat.le_refl _)
  have hb12 := hb1.trans (hb2.mono hb1.size)
  refine (div_one h12 h2 (by omega) (by omega) lives_ne lives_ll lives_le).mono ?_
  rintro e w3 ⟨p3, n3, c3, p4, n4, c4, rfl, hf3, hf4, hb3⟩
  rw [lives_q] at hf3
  rw [lives_r] at hf4
  have hb13 := hb12.trans (hb3.mono hb12.size)
  clear hb12 hb3 h12 hb2 h2 hsz h1 hb1
  go_wp2_with fail
  have h3 : Sl (w3.alloc (.cells ([2576980377, 429496729].map fun x : Nat => Value.int .u32 (x : Int)).toArray 31)) (some ⟨w3.heap.size, 0, none⟩) 2 2 [2576980377, 429496729] := Sl.lit w3 _ (lims_pair (by omega) (by omega))
  have hb34 : Below w3.heap.size w3 (w3.alloc (.cells ([2576980377, 429496729].map fun x : Nat => Value.int .u32 (x : Int)).toArray 31)) := (Below.refl _ _).alloc (Nat.le_refl _) _
  refine (same_yes (hf3.below hb34 (Nat.le_refl _)).sl h3).mono ?_
  rintro e w4 ⟨rfl, hb4⟩
  have hb44 := hb34.trans (hb4.mono hb34.size)
  have hf44 := hf4.below hb44 (Nat.le_refl _)
  have hb14 := hb13.trans (hb44.mono hb13.size)
  clear h3 hb34 hb44 hb4 hf3 hf4 hb13
  go_wp2_with fail
  have h5 : Sl (w4.alloc (.cells ([6].map fun x : Nat => Value.int .u32 (x : Int)).toArray 31)) (some ⟨w4.heap.size, 0, none⟩) 1 1 [6] := Sl.lit w4 _ (lims_single (by omega))
  have hb45 : Below w4.heap.size w4 (w4.alloc (.cells ([6].map fun x : Nat => Value.int .u32 (x : Int)).toArray 31)) := (Below.refl _ _).alloc (Nat.le_refl _) _
  refine (same_yes (hf44.below hb45 (Nat.le_refl _)).sl h5).mono ?_
  rintro e w5 ⟨rfl, hb5⟩
  have hb15 := hb14.trans ((hb45.trans (hb5.mono hb45.size)).mono hb14.size)
  clear h5 hb45 hb5 hf44 hb14
  go_wp2_with fail
  have h6 : Sl (w5.alloc (.cells ([0, 1].map fun x : Nat => Value.int .u32 (x : Int)).toArray 31)) (some ⟨w5.heap.size, 0, none⟩) 2 2 [0, 1] := Sl.lit w5 _ (lims_pair (by omega) (by omega))
  refine (len_any h6 (by omega)).mono ?_
  rw [lives_l]
  rintro e w6 ⟨rfl, rfl⟩
  go_wp2_with fail
  go_ret
  exact ⟨rfl, hb15.alloc hb15.size _⟩

end Go.Proofs.YtgemncfpehmdeaaDoor
