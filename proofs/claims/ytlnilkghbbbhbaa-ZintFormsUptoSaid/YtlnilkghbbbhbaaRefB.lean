
/-
  The walks of simileref01: Cmp, Add, Sub, Small, shift.
-/
import Derived.Test.YtlnilkghbbbhbaaRefA
namespace Go.Proofs.Ytlnilkghbbbhbaa
open Go.RowKit

theorem radd_end {Z A C s M : Nat} (h : Z + s * 4294967296 ^ (M + 1) = A + C) (hA : A < 4294967296 ^ M) (hC : C < 4294967296 ^ M) : Z = A + C := by
  rw [Nat.pow_succ] at h
  rcases Nat.eq_zero_or_pos s with rfl | h0
  · omega
  · have : 1 * (4294967296 ^ M * 4294967296) ≤ s * (4294967296 ^ M * 4294967296) := Nat.mul_le_mul_right _ h0
    omega

set_option maxHeartbeats 1000000 in
theorem rcmp_lt {p q : Option Addr} {n m c d : Nat} {xs ys : List Nat} {w : World} (hx : Sl w p n c xs) (hy : Sl w q m d ys) (h : n < m) :
    Calls Try.prog 62 #[.slice p n c, .slice q m d] w fun e w' => e = .returned (.int .i64 (cmpN (val xs) (val ys))) ∧ w = w' := by
  have hcap := hx.cap
  have hle := hx.le
  have hcap2 := hy.cap
  have hle2 := hy.le
  unfold maxLen at hcap hcap2
  obtain ⟨z, hz⟩ : ∃ z, z = cmpN (val xs) (val ys) := ⟨_, rfl⟩
  rw [← hz]
  have HZ := Lib.hid hz
  clear hz
  have HX := Lib.hid hx.lims
  have HY := Lib.hid hy.lims
  have HXL := Lib.hid hx.len
  have HYL := Lib.hid hy.len
  have hd : decide (n < m) = true := by simp; omega
  go_enter Try.func62, Try.ntmps62
  go_wp2_with fail
  go_loop [6] (fun v => ∃ k : Nat, k ≤ m ∧ v = .int .i64 ((k : Int) - 1) ∧ Hid (∀ j, k ≤ j → nd xs j = nd ys j)) (fun v => (intOf v + 1).toNat)
  case atStart =>
    refine ⟨m, by omega, rfl, fun j hj => ?_⟩
    rw [nd_lt_len (by rw [HXL.out]; omega), nd_lt_len (by rw [HYL.out]; omega)]
  case round =>
    obtain ⟨k, hk, rfl, HJ⟩ := hrel
    rcases k with _ | j
    · go_wp2_with fail
      go_ret
      exact ⟨by rw [HZ.out, cmpN_eq (val_eq_of fun j => HJ.out j (Nat.zero_le _))]; rfl, rfl⟩
    · have ej : ((j + 1 : Nat) : Int) - 1 = (j : Int) := by omega
      rw [ej]
      clear ej
      have hX := hx.lim1 j
      have hY := hy.lim1 j
      go_wp2_with fail
      refine (limb_any rfl hx (by omega)).mono ?_
      rintro e w1 ⟨rfl, rfl⟩
      go_wp2_with fail
      refine (limb_any rfl hy (by omega)).mono ?_
      rintro e w1 ⟨rfl, rfl⟩
      rcases Nat.lt_trichotomy (nd xs j) (nd ys j) with hlt | heq | hgt
      · go_wp2_with fail
        go_ret
        exact ⟨by rw [HZ.out, cmpN_lt (val_lt_of HX.out (fun i hi => HJ.out i (by omega)) hlt)]; rfl, rfl⟩
      · have HE := Lib.hid heq
        have h1 : ¬ (nd xs j < nd ys j) := by omega
        have h2 : ¬ (nd ys j < nd xs j) := by omega
        clear heq
        go_wp2_with fail
        refine (limb_any rfl hx (by omega)).mono ?_
        rintro e w1 ⟨rfl, rfl⟩
        go_wp2_with fail
        refine (limb_any rfl hy (by omega)).mono ?_
        rintro e w1 ⟨rfl, rfl⟩
        go_wp2_with fail
        refine ⟨⟨j, by omega, rfl, fun i hi => ?_⟩, by simp [intOf]⟩
        by_cases e : i = j
        · subst e; exact HE.out
        · exact HJ.out i (by omega)
      · go_wp2_with fail
        refine (limb_any rfl hx (by omega)).mono ?_
        rintro e w1 ⟨rfl, rfl⟩
        go_wp2_with fail
        refine (limb_any rfl hy (by omega)).mono ?_
        rintro e w1 ⟨rfl, rfl⟩
        go_wp2_with fail
        go_ret
        exact ⟨by rw [HZ.out, cmpN_gt (val_lt_of HY.out (fun i hi => (HJ.out i (by omega)).symm) hgt)]; rfl, rfl⟩

set_option maxHeartbeats 1000000 in
theorem rcmp_ge {p q : Option Addr} {n m c d : Nat} {xs ys : List Nat} {w : World} (hx : Sl w p n c xs) (hy : Sl w q m d ys) (h : m ≤ n) :
    Calls Try.prog 62 #[.slice p n c, .slice q m d] w fun e w' => e = .returned (.int .i64 (cmpN (val xs) (val ys))) ∧ w = w' := by
  have hcap := hx.cap
  have hle := hx.le
  have hcap2 := hy.cap
  have hle2 := hy.le
  unfold maxLen at hcap hcap2
  obtain ⟨z, hz⟩ : ∃ z, z = cmpN (val xs) (val ys) := ⟨_, rfl⟩
  rw [← hz]
  have HZ := Lib.hid hz
  clear hz
  have HX := Lib.hid hx.lims
  have HY := Lib.hid hy.lims
  have HXL := Lib.hid hx.len
  have HYL := Lib.hid hy.len
  have hd : decide (n < m) = false := by simp; omega
  go_enter Try.func62, Try.ntmps62
  go_wp2_with fail
  go_loop [6] (fun v => ∃ k : Nat, k ≤ n ∧ v = .int .i64 ((k : Int) - 1) ∧ Hid (∀ j, k ≤ j → nd xs j = nd ys j)) (fun v => (intOf v + 1).toNat)
  case atStart =>
    refine ⟨n, by omega, rfl, fun j hj => ?_⟩
    rw [nd_lt_len (by rw [HXL.out]; omega), nd_lt_len (by rw [HYL.out]; omega)]
  case round =>
    obtain ⟨k, hk, rfl, HJ⟩ := hrel
    rcases k with _ | j
    · go_wp2_with fail
      go_ret
      exact ⟨by rw [HZ.out, cmpN_eq (val_eq_of fun j => HJ.out j (Nat.zero_le _))]; rfl, rfl⟩
    · have ej : ((j + 1 : Nat) : Int) - 1 = (j : Int) := by omega
      rw [ej]
      clear ej
      have hX := hx.lim1 j
      have hY := hy.lim1 j
      go_wp2_with fail
      refine (limb_any rfl hx (by omega)).mono ?_
      rintro e w1 ⟨rfl, rfl⟩
      go_wp2_with fail
      refine (limb_any rfl hy (by omega)).mono ?_
      rintro e w1 ⟨rfl, rfl⟩
      rcases Nat.lt_trichotomy (nd xs j) (nd ys j) with hlt | heq | hgt
      · go_wp2_with fail
        go_ret
        exact ⟨by rw [HZ.out, cmpN_lt (val_lt_of HX.out (fun i hi => HJ.out i (by omega)) hlt)]; rfl, rfl⟩
      · have HE := Lib.hid heq
        have h1 : ¬ (nd xs j < nd ys j) := by omega
        have h2 : ¬ (nd ys j < nd xs j) := by omega
        clear heq
        go_wp2_with fail
        refine (limb_any rfl hx (by omega)).mono ?_
        rintro e w1 ⟨rfl, rfl⟩
        go_wp2_with fail
        refine (limb_any rfl hy (by omega)).mono ?_
        rintro e w1 ⟨rfl, rfl⟩
        go_wp2_with fail
        refine ⟨⟨j, by omega, rfl, fun i hi => ?_⟩, by simp [intOf]⟩
        by_cases e : i = j
        · subst e; exact HE.out
        · exact HJ.out i (by omega)
      · go_wp2_with fail
        refine (limb_any rfl hx (by omega)).mono ?_
        rintro e w1 ⟨rfl, rfl⟩
        go_wp2_with fail
        refine (limb_any rfl hy (by omega)).mono ?_
        rintro e w1 ⟨rfl, rfl⟩
        go_wp2_with fail
        go_ret
        exact ⟨by rw [HZ.out, cmpN_gt (val_lt_of HY.out (fun i hi => (HJ.out i (by omega)).symm) hgt)]; rfl, rfl⟩

set_option maxHeartbeats 1000000 in
theorem radd_lt {p q : Option Addr} {n m c d : Nat} {xs ys : List Nat} {w : World} (hx : Sl w p n c xs) (hy : Sl w q m d ys) (hn : n ≤ 8796093022208) (hm : m ≤ 8796093022208) (h : n < m) :
    Calls Try.prog 61 #[.slice p n c, .slice q m d] w (RetN w (lim (val xs + val ys))) := by
  have HXL := Lib.hid hx.len
  have HYL := Lib.hid hy.len
  have HX := Lib.hid hx.lims
  have HY := Lib.hid hy.lims
  have hd : decide (n < m) = true := by simp; omega
  go_enter Try.func61, Try.ntmps61
  go_wp2_with (at_make; refine wp_make32 _ rfl _ _ _ rfl Try.underlying23 _ _ _ _ (m + 1) rfl rfl rfl rfl (by omega) w.heap.size w (Below.refl _ _) (Nat.le_refl _) ?_; intro w1 hf1 hb1 hb2 hsz1)
  clear hb1 hsz1
  go_loopw [7, 23] (fun cv v wr => ∃ k s : Nat, k ≤ m + 1 ∧ v = .int .i64 (k : Int) ∧ s ≤ 1 ∧ cv = .int .u64 s ∧ ∃ zs, Fr w.heap.size wr (some ⟨w.heap.size, 0, none⟩) (m + 1) (m + 1) zs ∧ Below w.heap.size w wr ∧ Hid (sm (nd zs) k + s * 4294967296 ^ k = sm (nd xs) k + sm (nd ys) k)) (fun _ v _ => m + 1 - (intOf v).toNat)
  case atStart => exact ⟨0, 0, by omega, rfl, by omega, rfl, _, hf1, hb2, rfl⟩
  case round =>
    clear hf1 hb2
    obtain ⟨k, s, hk, rfl, hs, rfl, zs, hf, hb, HH⟩ := hrel
    by_cases hkL : k < m + 1
    · have hX := hx.lim1 k
      have hY := hy.lim1 k
      have hzc := hf.cellAt hkL
      have hzf := hf.frozenAt k
      have hx2 := hx.below hb (Nat.le_refl _)
      have hy2 := hy.below hb (Nat.le_refl _)
      go_wp2_with fail
      refine (limb_any rfl hx2 (by omega)).mono ?_
      rintro e w2 ⟨rfl, rfl⟩
      go_wp2_with fail
      refine (limb_any rfl hy2 (by omega)).mono ?_
      rintro e w2 ⟨rfl, rfl⟩
      go_wp2_with fail
      refine ⟨⟨k + 1, (nd xs k + nd ys k + s) / 4294967296, by omega, by go_num, by omega, rfl, _, hf.set k (v := (nd xs k + nd ys k + s) % 4294967296) (Nat.mod_lt _ (by omega)), hb.setCell (p := ⟨w.heap.size, k, none⟩) (Nat.le_refl _) _, add_step hkL hf.len HH.out⟩, by simp [intOf]; omega⟩
    · obtain rfl : k = m + 1 := by omega
      go_wp2_with fail
      refine (rnorm_any hf.sl (by omega)).mono ?_
      rintro e w2 ⟨p2, n2, c2, rfl, hf2, hb2⟩
      go_wp2_with fail
      go_ret
      have e : val zs = val xs + val ys := by
        have h1 := HH.out
        rw [val_le (xs := xs) (by rw [HXL.out]; omega), val_le (xs := ys) (by rw [HYL.out]; omega), val_le (xs := zs) (by rw [hf.len]; exact Nat.le_refl _)] at h1
        exact radd_end h1 (by have := val_lt HX.out; rw [HXL.out] at this; exact Nat.lt_of_lt_of_le this (pow_le (by omega))) (by have := val_lt HY.out; rw [HYL.out] at this; exact Nat.lt_of_lt_of_le this (pow_le (by omega)))
      rw [e] at hf2
      exact ⟨_, _, _, rfl, hf2.mono hb.size, hb.trans (hb2.mono hb.size)⟩

set_option maxHeartbeats 1000000 in
theorem radd_ge {p q : Option Addr} {n m c d : Nat} {xs ys : List Nat} {w : World} (hx : Sl w p n c xs) (hy : Sl w q m d ys) (hn : n ≤ 8796093022208) (_hm : m ≤ 8796093022208) (h : m ≤ n) :
    Calls Try.prog 61 #[.slice p n c, .slice q m d] w (RetN w (lim (val xs + val ys))) := by
  have HXL := Lib.hid hx.len
  have HYL := Lib.hid hy.len
  have HX := Lib.hid hx.lims
  have HY := Lib.hid hy.lims
  have hd : decide (n < m) = false := by simp; omega
  go_enter Try.func61, Try.ntmps61
  go_wp2_with (at_make; refine wp_make32 _ rfl _ _ _ rfl Try.underlying23 _ _ _ _ (n + 1) rfl rfl rfl rfl (by omega) w.heap.size w (Below.refl _ _) (Nat.le_refl _) ?_; intro w1 hf1 hb1 hb2 hsz1)
  clear hb1 hsz1
  go_loopw [7, 23] (fun cv v wr => ∃ k s : Nat, k ≤ n + 1 ∧ v = .int .i64 (k : Int) ∧ s ≤ 1 ∧ cv = .int .u64 s ∧ ∃ zs, Fr w.heap.size wr (some ⟨w.heap.size, 0, none⟩) (n + 1) (n + 1) zs ∧ Below w.heap.size w wr ∧ Hid (sm (nd zs) k + s * 4294967296 ^ k = sm (nd xs) k + sm (nd ys) k)) (fun _ v _ => n + 1 - (intOf v).toNat)
  case atStart => exact ⟨0, 0, by omega, rfl, by omega, rfl, _, hf1, hb2, rfl⟩
  case round =>
    clear hf1 hb2
    obtain ⟨k, s, hk, rfl, hs, rfl, zs, hf, hb, HH⟩ := hrel
    by_cases hkL : k < n + 1
    · have hX := hx.lim1 k
      have hY := hy.lim1 k
      have hzc := hf.cellAt hkL
      have hzf := hf.frozenAt k
      have hx2 := hx.below hb (Nat.le_refl _)
      have hy2 := hy.below hb (Nat.le_refl _)
      go_wp2_with fail
      refine (limb_any rfl hx2 (by omega)).mono ?_
      rintro e w2 ⟨rfl, rfl⟩
      go_wp2_with fail
      refine (limb_any rfl hy2 (by omega)).mono ?_
      rintro e w2 ⟨rfl, rfl⟩
      go_wp2_with fail
      refine ⟨⟨k + 1, (nd xs k + nd ys k + s) / 4294967296, by omega, by go_num, by omega, rfl, _, hf.set k (v := (nd xs k + nd ys k + s) % 4294967296) (Nat.mod_lt _ (by omega)), hb.setCell (p := ⟨w.heap.size, k, none⟩) (Nat.le_refl _) _, add_step hkL hf.len HH.out⟩, by simp [intOf]; omega⟩
    · obtain rfl : k = n + 1 := by omega
      go_wp2_with fail
      refine (rnorm_any hf.sl (by omega)).mono ?_
      rintro e w2 ⟨p2, n2, c2, rfl, hf2, hb2⟩
      go_wp2_with fail
      go_ret
      have e : val zs = val xs + val ys := by
        have h1 := HH.out
        rw [val_le (xs := xs) (by rw [HXL.out]; omega), val_le (xs := ys) (by rw [HYL.out]; omega), val_le (xs := zs) (by rw [hf.len]; exact Nat.le_refl _)] at h1
        exact radd_end h1 (by have := val_lt HX.out; rw [HXL.out] at this; exact Nat.lt_of_lt_of_le this (pow_le (by omega))) (by have := val_lt HY.out; rw [HYL.out] at this; exact Nat.lt_of_lt_of_le this (pow_le (by omega)))
      rw [e] at hf2
      exact ⟨_, _, _, rfl, hf2.mono hb.size, hb.trans (hb2.mono hb.size)⟩

theorem rcmp_any {p q : Option Addr} {n m c d : Nat} {xs ys : List Nat} {w : World} (hx : Sl w p n c xs) (hy : Sl w q m d ys) :
    Calls Try.prog 62 #[.slice p n c, .slice q m d] w fun e w' => e = .returned (.int .i64 (cmpN (val xs) (val ys))) ∧ w = w' := by
  rcases Nat.lt_or_ge n m with h | h
  · exact rcmp_lt hx hy h
  · exact rcmp_ge hx hy h

theorem radd_any {p q : Option Addr} {n m c d : Nat} {xs ys : List Nat} {w : World} (hx : Sl w p n c xs) (hy : Sl w q m d ys) (hn : n ≤ 8796093022208) (hm : m ≤ 8796093022208) :
    Calls Try.prog 61 #[.slice p n c, .slice q m d] w (RetN w (lim (val xs + val ys))) := by
  rcases Nat.lt_or_ge n m with h | h
  · exact radd_lt hx hy hn hm h
  · exact radd_ge hx hy hn hm h

theorem rsub_num {x y b : Nat} (hx : x < 4294967296) (hy : y < 4294967296) (hb : b ≤ 1) : (4294967296 + x - y - b) % 4294967296 + y + b = x + 4294967296 * (1 - (4294967296 + x - y - b) / 4294967296) := by omega

set_option maxHeartbeats 1000000 in
theorem rsub_any {p q : Option Addr} {n m c d : Nat} {xs ys : List Nat} {w : World} (hx : Sl w p n c xs) (hy : Sl w q m d ys) (hn : n ≤ 8796093022208) (hle : val ys ≤ val xs) :
    Calls Try.prog 63 #[.slice p n c, .slice q m d] w (RetN w (lim (val xs - val ys))) := by
  have HXL := Lib.hid hx.len
  have HX := Lib.hid hx.lims
  have HY := Lib.hid hy.lims
  have HLE := Lib.hid hle
  clear hle
  go_enter Try.func63, Try.ntmps63
  go_wp2_with (at_make; refine wp_make32 _ rfl _ _ _ rfl Try.underlying23 _ _ _ _ n rfl rfl rfl rfl (by omega) w.heap.size w (Below.refl _ _) (Nat.le_refl _) ?_; intro w1 hf1 hb1 hb2 hsz1)
  clear hb1 hsz1
  go_loopw [6, 14] (fun cv v wr => ∃ k s : Nat, k ≤ n ∧ v = .int .i64 (k : Int) ∧ s ≤ 1 ∧ cv = .int .u64 s ∧ ∃ zs, Fr w.heap.size wr (some ⟨w.heap.size, 0, none⟩) n n zs ∧ Below w.heap.size w wr ∧ Hid (sm (nd zs) k + sm (nd ys) k = sm (nd xs) k + s * 4294967296 ^ k)) (fun _ v _ => n - (intOf v).toNat)
  case atStart => exact ⟨0, 0, by omega, rfl, by omega, rfl, _, hf1, hb2, rfl⟩
  case round =>
    clear hf1 hb2
    obtain ⟨k, s, hk, rfl, hs, rfl, zs, hf, hb, HH⟩ := hrel
    by_cases hkL : k < n
    · have hX := hx.lim1 k
      have hY := hy.lim1 k
      have hzc := hf.cellAt hkL
      have hzf := hf.frozenAt k
      have hx2 := hx.below hb (Nat.le_refl _)
      have hy2 := hy.below hb (Nat.le_refl _)
      have HD := Lib.hid (rsub_num hX hY hs)
      have hq : (4294967296 + nd xs k - nd ys k - s) / 4294967296 ≤ 1 := by omega
      go_wp2_with fail
      refine (limb_any rfl hx2 (by omega)).mono ?_
      rintro e w2 ⟨rfl, rfl⟩
      go_wp2_with fail
      refine (limb_any rfl hy2 (by omega)).mono ?_
      rintro e w2 ⟨rfl, rfl⟩
      go_wp2_with fail
      have e1 : (4294967296 + (nd xs k : Int) - (nd ys k : Int) - (s : Int)) % 4294967296 = (((4294967296 + nd xs k - nd ys k - s) % 4294967296 : Nat) : Int) := by omega
      have e2 : 1 - (4294967296 + (nd xs k : Int) - (nd ys k : Int) - (s : Int)) / 4294967296 = ((1 - (4294967296 + nd xs k - nd ys k - s) / 4294967296 : Nat) : Int) := by omega
      rw [e1, e2]
      refine ⟨⟨k + 1, 1 - (4294967296 + nd xs k - nd ys k - s) / 4294967296, by omega, by go_num, by omega, rfl, _, hf.set k (v := (4294967296 + nd xs k - nd ys k - s) % 4294967296) (Nat.mod_lt _ (by omega)), hb.setCell (p := ⟨w.heap.size, k, none⟩) (Nat.le_refl _) _, sub_step hkL hf.len HH.out HD.out⟩, by simp [intOf]; omega⟩
    · obtain rfl : k = n := by omega
      go_wp2_with fail
      refine (rnorm_any hf.sl (by omega)).mono ?_
      rintro e w2 ⟨p2, n2, c2, rfl, hf2, hb2⟩
      go_wp2_with fail
      go_ret
      have e : val zs = val xs - val ys := by
        have h1 := HH.out
        have h2 := val_lt HX.out
        rw [HXL.out] at h2
        rw [val_le (xs := xs) (by rw [HXL.out]; omega), val_le (xs := zs) (by rw [hf.len]; exact Nat.le_refl _), sm_mod HY.out, Nat.mod_eq_of_lt (Nat.lt_of_le_of_lt HLE.out h2)] at h1
        exact less_val hf.lims (by rw [hf.len]; exact h1) hs HLE.out
      rw [e] at hf2
      exact ⟨_, _, _, rfl, hf2.mono hb.size, hb.trans (hb2.mono hb.size)⟩

theorem small_step {zs : List Nat} {k L x y c A : Nat} (hk : k < L) (hl : zs.length = L) (h : sm (nd zs) k + c * 4294967296 ^ k = A * y) :
    sm (nd (zs.set k ((x * y + c) % 4294967296))) (k + 1) + (x * y + c) / 4294967296 * 4294967296 ^ (k + 1) = (A + x * 4294967296 ^ k) * y := by
  have h1 : sm (nd (zs.set k ((x * y + c) % 4294967296))) k = sm (nd zs) k :=
    sm_congr fun i hi => by rw [nd_set _ _ _ _ (by omega), if_neg (by omega)]
  show sm _ k + nd _ k * _ + _ = _
  rw [h1, nd_set _ _ _ _ (by omega), if_pos rfl, Nat.pow_succ]
  have h2 := Nat.mod_add_div (x * y + c) 4294967296
  generalize hP : (4294967296 : Nat) ^ k = P at *
  generalize hT : x * y + c = T at *
  have h3 : (T % 4294967296 + 4294967296 * (T / 4294967296)) * P = T * P := by rw [h2]
  have h4 : T / 4294967296 * (P * 4294967296) = 4294967296 * (T / 4294967296) * P := by rw [Nat.mul_comm P, ← Nat.mul_assoc, Nat.mul_comm (T / 4294967296)]
  have h5 : T * P = x * y * P + c * P := by rw [← hT, Nat.add_mul]
  have h6 : x * P * y = x * y * P := by rw [Nat.mul_assoc, Nat.mul_comm P, Nat.mul_assoc]
  rw [Nat.add_mul] at h3
  rw [Nat.add_mul]
  omega

set_option maxHeartbeats 1000000 in
theorem rsmall_any {p : Option Addr} {n c y : Nat} {xs : List Nat} {w : World} {Y : Int} (hY : Y = (y : Int)) (hx : Sl w p n c xs) (hy : y < 4294967296) (hn : n ≤ 8796093022208) :
    Calls Try.prog 95 #[.slice p n c, .int .u32 Y] w (RetN w (lim (val xs * y))) := by
  subst hY
  have HXL := Lib.hid hx.len
  have HX := Lib.hid hx.lims
  go_enter Try.func95, Try.ntmps95
  go_wp2_with (at_make; refine wp_make32 _ rfl _ _ _ rfl Try.underlying23 _ _ _ _ (n + 1) rfl rfl rfl rfl (by omega) w.heap.size w (Below.refl _ _) (Nat.le_refl _) ?_; intro w1 hf1 hb1 hb2 hsz1)
  clear hb1 hsz1
  go_loopw [6, 15] (fun cv v wr => ∃ k s : Nat, k ≤ n + 1 ∧ v = .int .i64 (k : Int) ∧ s < 4294967296 ∧ cv = .int .u64 s ∧ ∃ zs, Fr w.heap.size wr (some ⟨w.heap.size, 0, none⟩) (n + 1) (n + 1) zs ∧ Below w.heap.size w wr ∧ Hid (sm (nd zs) k + s * 4294967296 ^ k = sm (nd xs) k * y)) (fun _ v _ => n + 1 - (intOf v).toNat)
  case atStart => exact ⟨0, 0, by omega, rfl, by omega, rfl, _, hf1, hb2, by show _ = _; simp [sm]⟩
  case round =>
    clear hf1 hb2
    obtain ⟨k, s, hk, rfl, hs, rfl, zs, hf, hb, HH⟩ := hrel
    by_cases hkL : k < n + 1
    · have hX := hx.lim1 k
      have hzc := hf.cellAt hkL
      have hzf := hf.frozenAt k
      have hx2 := hx.below hb (Nat.le_refl _)
      have hxy : nd xs k * y ≤ 18446744065119617025 := by
        have h1 : nd xs k * y ≤ 4294967295 * 4294967295 := Nat.mul_le_mul (by omega) (by omega)
        omega
      have hxy2 : (nd xs k : Int) * (y : Int) ≤ 18446744065119617025 := by
        rw [← Int.natCast_mul]; omega
      have hxy3 : 0 ≤ (nd xs k : Int) * (y : Int) := by
        rw [← Int.natCast_mul]; omega
      go_wp2_with fail
      refine (limb_any rfl hx2 (by omega)).mono ?_
      rintro e w2 ⟨rfl, rfl⟩
      go_wp2_with fail
      refine ⟨⟨k + 1, (nd xs k * y + s) / 4294967296, by omega, by go_num, by omega, rfl, _, hf.set k (v := (nd xs k * y + s) % 4294967296) (Nat.mod_lt _ (by omega)), hb.setCell (p := ⟨w.heap.size, k, none⟩) (Nat.le_refl _) _, small_step hkL hf.len HH.out⟩, by simp [intOf]; omega⟩
    · obtain rfl : k = n + 1 := by omega
      go_wp2_with fail
      refine (rnorm_any hf.sl (by omega)).mono ?_
      rintro e w2 ⟨p2, n2, c2, rfl, hf2, hb2⟩
      go_wp2_with fail
      go_ret
      have e : val zs = val xs * y := by
        have h1 := HH.out
        rw [val_le (xs := xs) (by rw [HXL.out]; omega), val_le (xs := zs) (by rw [hf.len]; exact Nat.le_refl _)] at h1
        have h2 := val_lt HX.out
        rw [HXL.out] at h2
        have h3 : val xs * y < 4294967296 ^ (n + 1) := by
          rw [Nat.pow_succ]
          have h4 : val xs * y ≤ val xs * 4294967296 := Nat.mul_le_mul_left _ (by omega)
          omega
        rcases Nat.eq_zero_or_pos s with rfl | h0
        · omega
        · have : 1 * 4294967296 ^ (n + 1) ≤ s * 4294967296 ^ (n + 1) := Nat.mul_le_mul_right _ h0
          omega
      rw [e] at hf2
      exact ⟨_, _, _, rfl, hf2.mono hb.size, hb.trans (hb2.mono hb.size)⟩

set_option maxHeartbeats 400000 in
theorem rshift_any {p : Option Addr} {n c y : Nat} {xs : List Nat} {w : World} {Y : Int} (hY : Y = (y : Int)) (hx : Sl w p n c xs) (hy : y < 4294967296) (hn : n ≤ 8796093022208) :
    Calls Try.prog 94 #[.slice p n c, .int .u32 Y] w (RetN w (lim (y + 4294967296 * val xs))) := by
  subst hY
  have HV : Hid (val ([y] ++ xs) = y + 4294967296 * val xs) := val_cons y xs
  have hf0 := Fr.lit (B := w.heap.size) w [y] (lims_single hy) (Nat.le_refl _)
  have hb0 := (Below.refl w.heap.size w).alloc (Nat.le_refl _) (.cells ([y].map fun x : Nat => Value.int .u32 (x : Int)).toArray 29)
  have hx0 := hx.below hb0 (Nat.le_refl _)
  go_enter Try.func94, Try.ntmps94
  go_wp2_with (at_builtin; refine wp_appendAny _ rfl _ _ _ rfl Try.underlying23 w.heap.size _ 1 _ [y] rfl hf0 _ n _ xs rfl hx0 (by omega) hb0 (Nat.le_refl _) (by simp) ?_; intro p4 c4 w4 hf4 hg4 hb4)
  refine (rnorm_any hf4.sl (by omega)).mono ?_
  rw [HV.out]
  rintro e w2 ⟨p2, n2, c2, rfl, hf2, hb2⟩
  go_wp2_with fail
  go_ret
  exact ⟨_, _, _, rfl, hf2.mono hb4.size, hb4.trans (hb2.mono hb4.size)⟩

end Go.Proofs.Ytlnilkghbbbhbaa
