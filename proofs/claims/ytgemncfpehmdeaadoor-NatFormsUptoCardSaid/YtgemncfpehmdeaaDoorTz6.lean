
/-
  Bits of a number: negative places; the trail; how many ones. Plain.
-/
import Derived.Test.YtgemncfpehmdeaaDoorTz4
import Derived.Test.YtgemncfpehmdeaaDoorTz5
import Derived.Test.YtgemncfpehmdeaaDoorRange4
set_option linter.unusedVariables false
set_option linter.unusedSimpArgs false
namespace Go.Proofs.YtgemncfpehmdeaaDoor
open Go.RowKit

theorem nd_val {xs : List Nat} (h : Lims xs) (i : Nat) : nd (lim (val xs)) i = nd xs i := by
  rw [← nrm_eq h, nd_take]
  split
  · rfl
  · rename_i hi
    rcases Nat.lt_or_ge i xs.length with hl | hl
    · exact (tl_zero xs xs.length i (by omega) hl).symm
    · exact (nd_lt_len hl).symm
theorem bt_val {xs : List Nat} (h : Lims xs) (k : Nat) : bt (lim (val xs)) k = bt xs k := by unfold bt; rw [nd_val h]
theorem testBit_bt (x b : Nat) : (x.testBit b = true) ↔ x / 2 ^ b % 2 = 1 := by
  rw [Nat.testBit_eq_decide_div_mod_eq]; simp
theorem bt_mem {xs : List Nat} (h : Lims xs) {q : Nat} (hq : q ∈ onesFrom 0 (lim (val xs))) : bt xs q = 1 := by
  obtain ⟨j, b, hj, hb, rfl, ht⟩ := onesFrom_mem hq
  rw [← bt_val h]
  unfold bt
  rw [show (32 * (0 + j) + b) / 32 = j by omega, show (32 * (0 + j) + b) % 32 = b by omega]
  exact (testBit_bt _ _).1 ht
theorem mem_lt {L : List Nat} {q : Nat} (hq : q ∈ onesFrom 0 L) : q < 32 * L.length := by
  obtain ⟨j, b, hj, hb, rfl, ht⟩ := onesFrom_mem hq
  omega
/-- The last one, or -1. -/
def lastI (pre : List Nat) : Int := (pre.getLast?.map (fun q => (q : Int))).getD (-1)
theorem lastI_app (pre : List Nat) (q : Nat) : lastI (pre ++ [q]) = (q : Int) := by unfold lastI; simp
theorem lastI_lt {pre xs : List Nat} {q : Nat} (hs : xs.Pairwise (· < ·)) (h : pre ++ [q] <+: xs) : lastI pre < (q : Int) := by
  have h1 : (pre ++ [q]).Pairwise (· < ·) := hs.sublist h.sublist
  unfold lastI
  cases e : pre.getLast? with
  | none => simp; omega
  | some x =>
    have hx : x ∈ pre := List.mem_of_getLast? e
    have := (List.pairwise_append.1 h1).2.2 x hx q List.mem_cons_self
    simp; omega
/-- How many ones. -/
def ones (xs : List Nat) : Nat := (xs.map fun x => (obs x).length).sum
theorem onesFrom_len : ∀ (xs : List Nat) (i : Nat), (onesFrom i xs).length = ones xs
  | [], _ => rfl
  | x :: xs, i => by
    show ((obs x).map (32 * i + ·) ++ onesFrom (i + 1) xs).length = _
    rw [List.length_append, List.length_map, onesFrom_len xs (i + 1)]
    simp [ones]
theorem ones_zero : ∀ (xs : List Nat), (∀ i, i < xs.length → nd xs i = 0) → ones xs = 0
  | [], _ => rfl
  | x :: xs, h => by
    have h0 : x = 0 := h 0 (by simp)
    subst h0
    have h1 := ones_zero xs (fun i hi => by have := h (i + 1) (by simp; omega); rwa [nd_cons_succ] at this)
    unfold ones at h1 ⊢
    rw [List.map_cons, List.sum_cons, h1, obs_zero]; rfl
theorem ones_app (xs ys : List Nat) : ones (xs ++ ys) = ones xs + ones ys := by unfold ones; simp
theorem ones_val {xs : List Nat} (h : Lims xs) : ones (lim (val xs)) = ones xs := by
  have e : xs = lim (val xs) ++ xs.drop (tl xs xs.length) := by rw [← nrm_eq h, List.take_append_drop]
  have h2 := congrArg ones e
  rw [ones_app, ones_zero (xs.drop (tl xs xs.length)) (fun i hi => by
    rw [nd_drop]
    exact tl_zero xs xs.length _ (by omega) (by simp at hi; omega))] at h2
  omega
theorem ones_take {xs : List Nat} {i : Nat} (h : i < xs.length) : ones (xs.take (i + 1)) = ones (xs.take i) + (obs (nd xs i)).length := by
  rw [List.take_add_one, ones_app, nd_get h]
  simp [h, ones]
theorem obs_le (x : Nat) : (obs x).length ≤ 32 := by
  unfold obs
  have := List.length_filter_le (fun j => x.testBit j) (List.range 32)
  simpa using this
theorem ones_le : ∀ (xs : List Nat), ones xs ≤ 32 * xs.length
  | [] => Nat.le_refl _
  | x :: xs => by
    have h1 := ones_le xs
    have h2 := obs_le x
    unfold ones at h1 ⊢
    rw [List.map_cons, List.sum_cons, List.length_cons]
    omega
/-- The lowest limb that is not 0. -/
theorem first_limb (xs : List Nat) : (∀ j, nd xs j = 0) ∨ ∃ i, i < xs.length ∧ nd xs i ≠ 0 ∧ ∀ j, j < i → nd xs j = 0 := by
  by_cases h : ∃ i, i < xs.length ∧ nd xs i ≠ 0
  · obtain ⟨i, hi⟩ := h
    obtain ⟨m, hm, hle⟩ := least (p := fun i => i < xs.length ∧ nd xs i ≠ 0) i hi
    refine .inr ⟨m, hm.1, hm.2, fun j hj => ?_⟩
    by_cases e : nd xs j = 0
    · exact e
    · exact absurd (hle j ⟨by omega, e⟩) (by omega)
  · refine .inl fun j => ?_
    rcases Nat.lt_or_ge j xs.length with hl | hl
    · by_cases e : nd xs j = 0
      · exact e
      · exact absurd ⟨j, hl, e⟩ h
    · exact nd_lt_len hl
theorem trail_ex {xs : List Nat} (hl : Lims xs) (hn : xs.length ≤ 2097152) : ∃ T : Nat,
    (∀ (w : World) (p : Option Addr) (n c : Nat), Sl w p n c xs → Tab w → Calls Tryd.prog 15 #[.slice p n c] w (Ret (Is (.int .i64 ((T : Nat) : Int))) w)) ∧
    (∀ (w : World) (p : Option Addr) (n c : Nat), Sl w p n c xs → Calls Tryd.prog 16 #[.slice p n c] w (Ret (Is (.int .i64 ((T : Nat) : Int))) w)) := by
  rcases first_limb xs with h | ⟨i, hi, hne, h0⟩
  · refine ⟨0, fun w p n c hx ht => wntrail0 hx (by rw [← hx.len]; exact hn) (fun j _ => h j), fun w p n c hx => wqtrail0 hx (by rw [← hx.len]; exact hn) (fun j _ => ?_)⟩
    unfold bt; rw [h]; simp
  · obtain ⟨k, m, hkm⟩ := odd_part (nd xs i) (by omega)
    obtain ⟨hk32, _, _⟩ := tz_facts hkm (hl.all i)
    have hkp := Nat.two_pow_pos k
    refine ⟨32 * i + k, fun w p n c hx ht => wntrail hx (by rw [← hx.len]; exact hn) ht h0 (by rw [← hx.len]; exact hi) hkm, fun w p n c hx => wqtrail hx (by rw [← hx.len]; exact hn) ?_ (by rw [← hx.len]; omega) (fun j hj => ?_)⟩
    · unfold bt
      rw [show (32 * i + k) / 32 = i by omega, show (32 * i + k) % 32 = k by omega, hkm, Nat.mul_div_cancel_left _ hkp]
      omega
    · unfold bt
      rcases Nat.lt_or_ge (j / 32) i with hlt | hge
      · rw [h0 _ hlt]; simp
      · have e : j / 32 = i := by omega
        rw [e, hkm]
        obtain ⟨d, hd⟩ : ∃ d, k = j % 32 + d + 1 := ⟨k - j % 32 - 1, by omega⟩
        rw [hd, Nat.pow_succ, Nat.pow_add, Nat.mul_assoc, Nat.mul_assoc, Nat.mul_div_cancel_left _ (Nat.two_pow_pos _), Nat.mul_left_comm]
        simp

set_option maxRecDepth 100000 in
set_option maxHeartbeats 16000000 in
theorem wnbitN {p : Option Addr} {n c : Nat} {i : Int} {w : World} (hi : i < 0) :
    Calls Tryd.prog 13 #[.slice p n c, .int .i64 i] w (Ret (Is (.int .u64 0)) w) := by
  have hS := Sep.init w
  refine went Tryd.func13 rfl (n := 24) rfl rfl ?_
  refine wseq ?_
  refine wreg ?_
  refine wl rfl (oassign (v := .int .u64 0) rfl rfl (evc (v := .int .u64 0)) ?_)
  refine wnil ?_
  refine thenN ?_
  refine wseq ?_
  refine wseq ?_
  refine wreg ?_
  refine wl rfl (omove (v := .int .i64 i) rfl rfl (ev (v := .int .i64 i) rfl rfl) ?_)
  refine wl rfl (obin (u := .int .i64 i) (v := .int .i64 0) (z := .bool true) rfl rfl (ev (v := .int .i64 i) rfl rfl) (evc (v := .int .i64 0)) (bin_lss (decide_eq_true (by omega))) ?_)
  refine wl rfl (omove (v := .bool true) rfl rfl (ev (v := .bool true) rfl rfl) ?_)
  refine wlOff (e := 7) (d := 8) (b' := true) rfl rfl rfl rfl rfl rfl ?_
  refine wlOff (e := 7) (d := 9) (b' := true) rfl rfl rfl rfl rfl rfl ?_
  refine wlOff (e := 7) (d := 10) (b' := true) rfl rfl rfl rfl rfl rfl ?_
  refine wlOff (e := 7) (d := 11) (b' := true) rfl rfl rfl rfl rfl rfl ?_
  refine wlOff (e := 7) (d := 12) (b' := true) rfl rfl rfl rfl rfl rfl ?_
  refine wl rfl (opick (b := true) (v := .bool true) rfl rfl (ev (v := .bool true) rfl rfl) (evc (v := .bool true)) ?_)
  refine wnil ?_
  refine thenN ?_
  refine wT (ev (v := .bool true) rfl rfl) ?_
  refine wseq ?_
  refine wreg ?_
  refine wl rfl (oassign (v := .int .u64 0) rfl rfl (evc (v := .int .u64 0)) ?_)
  refine wnil ?_
  refine thenN ?_
  refine wleave ?_
  refine thenR ?_
  refine wret1 Tryd.results13 (tellT (v := .int .u64 0) rfl rfl) ?_
  exact ⟨_, _, rfl, isI, hS.new0⟩

set_option maxRecDepth 100000 in
set_option maxHeartbeats 16000000 in
theorem wqbitN {p : Option Addr} {n c : Nat} {i : Int} {w : World} (hi : i < 0) :
    Calls Tryd.prog 14 #[.slice p n c, .int .i64 i] w (Ret (Is (.int .u64 0)) w) := by
  have hS := Sep.init w
  refine went Tryd.func14 rfl (n := 16) rfl rfl ?_
  refine wseq ?_
  refine wreg ?_
  refine wl rfl (oassign (v := .int .u64 0) rfl rfl (evc (v := .int .u64 0)) ?_)
  refine wnil ?_
  refine thenN ?_
  refine wseq ?_
  refine wseq ?_
  refine wreg ?_
  refine wl rfl (omove (v := .int .i64 i) rfl rfl (ev (v := .int .i64 i) rfl rfl) ?_)
  refine wl rfl (obin (u := .int .i64 i) (v := .int .i64 0) (z := .bool true) rfl rfl (ev (v := .int .i64 i) rfl rfl) (evc (v := .int .i64 0)) (bin_lss (decide_eq_true (by omega))) ?_)
  refine wnil ?_
  refine thenN ?_
  refine wT (ev (v := .bool true) rfl rfl) ?_
  refine wseq ?_
  refine wreg ?_
  refine wl rfl (oassign (v := .int .u64 0) rfl rfl (evc (v := .int .u64 0)) ?_)
  refine wnil ?_
  refine thenN ?_
  refine wleave ?_
  refine thenR ?_
  refine wret1 Tryd.results14 (tellT (v := .int .u64 0) rfl rfl) ?_
  exact ⟨_, _, rfl, isI, hS.new0⟩

/-- One contract for all places. -/
def btI (xs : List Nat) (i : Int) : Nat := if i < 0 then 0 else bt xs i.toNat
theorem wnbitI {p : Option Addr} {n c : Nat} {i : Int} {xs : List Nat} {w : World} (hx : Sl w p n c xs) (hi : i ≤ 9223372036854775807) :
    Calls Tryd.prog 13 #[.slice p n c, .int .i64 i] w (Ret (Is (.int .u64 ((btI xs i : Nat) : Int))) w) := by
  unfold btI
  split
  · exact wnbitN (by assumption)
  · obtain ⟨k, rfl⟩ : ∃ k : Nat, i = k := ⟨i.toNat, by omega⟩
    rw [Int.toNat_natCast]
    exact wnbit hx (by omega)
theorem wqbitI {p : Option Addr} {n c : Nat} {i : Int} {xs : List Nat} {w : World} (hx : Sl w p n c xs) (hi : i ≤ 9223372036854775807) :
    Calls Tryd.prog 14 #[.slice p n c, .int .i64 i] w (Ret (Is (.int .u64 ((btI xs i : Nat) : Int))) w) := by
  unfold btI
  split
  · exact wqbitN (by assumption)
  · obtain ⟨k, rfl⟩ : ∃ k : Nat, i = k := ⟨i.toNat, by omega⟩
    rw [Int.toNat_natCast]
    exact wqbit hx (by omega)

end Go.Proofs.YtgemncfpehmdeaaDoor
