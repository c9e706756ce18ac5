
/-
  The walk of nat.Mul.
-/
import Derived.Test.YtlnilkghbbbhbaaNatD
namespace Go.Proofs.Ytlnilkghbbbhbaa
open Go.RowKit

/-- Behind i rows of the product. -/
def MulAt (w : World) (L m : Nat) (xs ys : List Nat) (i : Nat) (wr : World) : Prop :=
  ∃ zs, Fr w.heap.size wr (some ⟨w.heap.size, 0, none⟩) L L zs ∧ Below w.heap.size w wr ∧ Hid (sm (nd zs) (i + m) = sm (nd xs) i * val ys ∧ ∀ j, i + m ≤ j → nd zs j = 0)

/-- Within a row, behind k of its limbs: c is what is carried. -/
def MulIn (w : World) (L m : Nat) (xs ys : List Nat) (i k c : Nat) (wr : World) : Prop :=
  ∃ zs, Fr w.heap.size wr (some ⟨w.heap.size, 0, none⟩) L L zs ∧ Below w.heap.size w wr ∧
    Hid (∃ z0 : Nat → Nat, (∀ j, i + k ≤ j → nd zs j = z0 j) ∧ (∀ j, i + m ≤ j → z0 j = 0) ∧ sm z0 (i + m) = sm (nd xs) i * val ys ∧ sm (nd zs) (i + k) + c * 4294967296 ^ (i + k) = sm z0 (i + k) + nd xs i * sm (nd ys) k * 4294967296 ^ i)

theorem mulIn_start {w wr : World} {L m i : Nat} {xs ys : List Nat} (h : MulAt w L m xs ys i wr) : MulIn w L m xs ys i 0 0 wr := by
  obtain ⟨zs, hf, hb, h⟩ := h
  refine ⟨zs, hf, hb, nd zs, fun _ _ => rfl, h.out.2, h.out.1, ?_⟩
  simp [sm]

theorem mulIn_next {w wr : World} {L m i k c : Nat} {xs ys zs : List Nat} (hL : i + k < L) (hf : Fr w.heap.size wr (some ⟨w.heap.size, 0, none⟩) L L zs) (hb : Below w.heap.size w wr)
    (h : Hid (∃ z0 : Nat → Nat, (∀ j, i + k ≤ j → nd zs j = z0 j) ∧ (∀ j, i + m ≤ j → z0 j = 0) ∧ sm z0 (i + m) = sm (nd xs) i * val ys ∧ sm (nd zs) (i + k) + c * 4294967296 ^ (i + k) = sm z0 (i + k) + nd xs i * sm (nd ys) k * 4294967296 ^ i)) :
    MulIn w L m xs ys i (k + 1) ((nd xs i * nd ys k + nd zs (i + k) + c) / 4294967296) (wr.setCell ⟨w.heap.size, i + k, none⟩ (.int .u32 (((nd xs i * nd ys k + nd zs (i + k) + c) % 4294967296 : Nat) : Int))) := by
  obtain ⟨z0, h1, h2, h3, h4⟩ := h.out
  refine ⟨zs.set (i + k) ((nd xs i * nd ys k + nd zs (i + k) + c) % 4294967296), hf.set _ (Nat.mod_lt _ (by omega)), hb.setCell (p := ⟨w.heap.size, i + k, none⟩) (Nat.le_refl _) _, z0, ?_, h2, h3, ?_⟩
  · intro j hj
    rw [nd_set _ _ _ _ (by rw [hf.len]; exact hL), if_neg (by omega)]
    exact h1 j (by omega)
  · have := mul_step (x := nd xs i) (y := nd ys k) hL hf.len h4
    rw [← Nat.add_assoc, this, h1 (i + k) (Nat.le_refl _)]
    rfl

theorem mulIn_end {w wr : World} {L m i c : Nat} {xs ys zs : List Nat} (hm : ys.length = m) (hL : i + m < L) (hc : c < 4294967296) (hf : Fr w.heap.size wr (some ⟨w.heap.size, 0, none⟩) L L zs) (hb : Below w.heap.size w wr)
    (h : Hid (∃ z0 : Nat → Nat, (∀ j, i + m ≤ j → nd zs j = z0 j) ∧ (∀ j, i + m ≤ j → z0 j = 0) ∧ sm z0 (i + m) = sm (nd xs) i * val ys ∧ sm (nd zs) (i + m) + c * 4294967296 ^ (i + m) = sm z0 (i + m) + nd xs i * sm (nd ys) m * 4294967296 ^ i)) :
    MulAt w L m xs ys (i + 1) (wr.setCell ⟨w.heap.size, i + m, none⟩ (.int .u32 ((c : Nat) : Int))) := by
  obtain ⟨z0, h1, h2, h3, h4⟩ := h.out
  refine ⟨zs.set (i + m) c, hf.set _ hc, hb.setCell (p := ⟨w.heap.size, i + m, none⟩) (Nat.le_refl _) _, ?_, ?_⟩
  · have e : sm (nd ys) m = val ys := by rw [← hm]; rfl
    rw [e, h3] at h4
    rw [show i + 1 + m = i + m + 1 from by omega]
    exact mul_last hL hf.len h4
  · intro j hj
    rw [nd_set _ _ _ _ (by rw [hf.len]; exact hL), if_neg (by omega), h1 j (by omega)]
    exact h2 j (by omega)

set_option maxHeartbeats 2000000 in
theorem mul_any {p q : Option Addr} {n m c d : Nat} {xs ys : List Nat} {w : World} (hx : Sl w p n c xs) (hy : Sl w q m d ys) (hn : n ≤ 4398046511104) (hm : m ≤ 4398046511104) :
    Calls Try.prog 65 #[.slice p n c, .slice q m d] w (RetN w (lim (val xs * val ys))) := by
  go_enter Try.func65, Try.ntmps65
  go_wp2_with fail
  refine (trim_any hx).mono ?_
  rintro e w1 ⟨n1, rfl, hx1, hn1, rfl⟩
  go_wp2_with fail
  refine (trim_any hy).mono ?_
  rintro e w1 ⟨m1, rfl, hy1, hm1, rfl⟩
  have HX : Hid (val (lim (val xs)) = val xs) := val_lim _
  have HY : Hid (val (lim (val ys)) = val ys) := val_lim _
  generalize lim (val xs) = us at *
  generalize lim (val ys) = vs at *
  have HXL := Lib.hid hx1.len
  have HYL := Lib.hid hy1.len
  rcases Nat.eq_zero_or_pos n1 with rfl | hn0
  · go_wp2_with fail
    go_ret
    have e : val xs * val ys = 0 := by rw [← HX.out, List.eq_nil_of_length_eq_zero HXL.out, val_nil, Nat.zero_mul]
    rw [e]
    exact ⟨_, _, _, rfl, Fr.nil _ _, Below.refl _ _⟩
  have hz1 : ((n1 : Int) == 0) = false := by rw [beq_eq_false_iff_ne]; omega
  rcases Nat.eq_zero_or_pos m1 with rfl | hm0
  · go_wp2_with fail
    go_ret
    have e : val xs * val ys = 0 := by rw [← HY.out, List.eq_nil_of_length_eq_zero HYL.out, val_nil, Nat.mul_zero]
    rw [e]
    exact ⟨_, _, _, rfl, Fr.nil _ _, Below.refl _ _⟩
  have hz2 : ((m1 : Int) == 0) = false := by rw [beq_eq_false_iff_ne]; omega
  obtain ⟨L, hL1⟩ : ∃ L, L = n1 + m1 := ⟨_, rfl⟩
  have HL := Lib.hid hL1
  have hLb : L ≤ 8796093022208 := by omega
  have hL2 : n1 + m1 ≤ L := by omega
  have hL3 : ((n1 : Int) + (m1 : Int)) = (L : Int) := by omega
  clear hL1
  go_wp2_with (at_make; refine wp_make32 _ rfl _ _ _ rfl Try.underlying23 _ _ _ _ L rfl rfl rfl rfl (by omega) w.heap.size w (Below.refl _ _) (Nat.le_refl _) ?_; intro w1 hf1 hb1 hb0 hsz1)
  clear hL3 hz1 hz2
  have H0 : MulAt w L m1 us vs 0 w1 := ⟨_, hf1, hb1, by show _ ∧ _; exact ⟨by rw [sm_zero (fun i _ => nd_replicate _ _)]; simp [sm], fun j _ => nd_replicate _ _⟩⟩
  clear hf1 hb1 hb0 hsz1
  go_loopw [32] (fun v wr => ∃ i : Nat, i ≤ n1 ∧ v = .int .i64 i ∧ MulAt w L m1 us vs i wr) (fun v _ => n1 - (intOf v).toNat)
  case atStart => exact ⟨0, by omega, rfl, H0⟩
  case round =>
    clear H0
    obtain ⟨i, hi, rfl, HE⟩ := hrel
    by_cases hiL : i < n1
    · have HI := mulIn_start HE
      have hbr : Below w.heap.size w wr := by obtain ⟨zs, _, hb, _⟩ := HE; exact hb
      clear HE
      obtain ⟨b1, o1, rfl, hxc⟩ := (hx1.below hbr (Nat.le_refl _)).cell i hiL
      have hx2 := hx1.lim1 i
      go_wp2_with fail
      obtain ⟨wo, rfl⟩ : ∃ wo : World, wo = wr := ⟨_, rfl⟩
      clear hxc hbr
      go_loopw [8, 39] (fun cv v wr => ∃ k c : Nat, k ≤ m1 ∧ c < 4294967296 ∧ cv = .int .u64 c ∧ v = .int .i64 k ∧ MulIn w L m1 us vs i k c wr) (fun _ v _ => m1 - (intOf v).toNat)
      case atStart => exact ⟨0, 0, by omega, by omega, rfl, rfl, HI⟩
      case round =>
        clear HI
        obtain ⟨k, cc, hk, hcc, rfl, rfl, zs, hfz, hbz, HH⟩ := hrel
        by_cases hkm : k < m1
        · obtain ⟨b2, o2, rfl, hyc⟩ := (hy1.below hbz (Nat.le_refl _)).cell k hkm
          have hy2 := hy1.lim1 k
          have hzc := hfz.cellAt (i := i + k) (by omega)
          have hzf := hfz.frozenAt (i + k)
          have hz2 := hfz.sl.lim1 (i + k)
          have hxy := mul_bd hx2 hy2
          have hxy2 : (nd us i : Int) * (nd vs k : Int) ≤ 18446744065119617025 := by
            rw [← Int.natCast_mul]; omega
          have hxy3 : 0 ≤ (nd us i : Int) * (nd vs k : Int) := by
            rw [← Int.natCast_mul]; omega
          go_wp2_with fail
          refine ⟨⟨k + 1, (nd us i * nd vs k + nd zs (i + k) + cc) / 4294967296, by omega, by omega, rfl, by go_num, mulIn_next (by omega) hfz hbz HH⟩, by simp [intOf]; omega⟩
        · obtain rfl : k = m1 := by omega
          have hzc := hfz.cellAt (i := i + k) (by omega)
          have hzf := hfz.frozenAt (i + k)
          go_wp2_with fail
          exact ⟨⟨i + 1, by omega, by go_num, mulIn_end HYL.out (by omega) hcc hfz hbz HH⟩, by simp [intOf]; omega⟩
    · obtain rfl : i = n1 := by omega
      obtain ⟨zs, hf, hb, HH⟩ := HE
      go_wp2_with fail
      refine (own_any hf.sl (by omega)).mono ?_
      rintro e w2 ⟨p2, n2, c2, rfl, hf2, hb2⟩
      go_wp2_with fail
      go_ret
      have e : val zs = val xs * val ys := by
        have h1 := HH.out.1
        rw [← HL.out] at h1
        rw [← HX.out, ← HY.out, ← val_le (xs := zs) (k := L) (by rw [hf.len]; omega), h1]
        congr 1
        exact val_le (by rw [HXL.out]; omega)
      rw [e] at hf2
      exact ⟨_, _, _, rfl, hf2.mono hb.size, hb.trans (hb2.mono hb.size)⟩

end Go.Proofs.Ytlnilkghbbbhbaa
