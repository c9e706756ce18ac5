
/-
  The walks of nat.Cmp, nat.Sub, nat.Of, nat.Norm.
-/
import Derived.Test.YtlnilkghbbbhbaaNatC2
import Derived.Test.YtlnilkghbbbhbaaNum2
import Derived.Deep.QuietTactic
import Derived.BigQuiet
namespace Go.Proofs.Ytlnilkghbbbhbaa
open Go.RowKit


set_option maxHeartbeats 1000000 in
theorem cmp_any {p q : Option Addr} {n m c d : Nat} {xs ys : List Nat} {w : World} (hx : Sl w p n c xs) (hy : Sl w q m d ys) :
    Calls Try.prog 74 #[.slice p n c, .slice q m d] w (RetInt w (cmpN (val xs) (val ys))) := by
  go_enter Try.func74, Try.ntmps74
  go_wp2_with fail
  refine (trim_any hx).mono ?_
  rintro e w1 ⟨n1, rfl, hx1, hn1, rfl⟩
  go_wp2_with fail
  refine (trim_any hy).mono ?_
  rintro e w1 ⟨m1, rfl, hy1, hm1, rfl⟩
  have hxl := hx1.len
  have hyl := hy1.len
  rw [length_lim] at hxl hyl
  have HXL := Lib.hid hxl
  have HYL := Lib.hid hyl
  have hc1 := hx1.cap
  have hc2 := hy1.cap
  have hl1 := hx1.le
  have hl2 := hy1.le
  unfold maxLen at hc1 hc2
  clear hxl hyl
  rcases Nat.lt_trichotomy n1 m1 with hlt | heq | hgt
  · have hz : ((n1 : Int) != (m1 : Int)) = true := by rw [bne_iff_ne]; omega
    go_wp2_with fail
    go_ret
    exact ⟨by rw [cmpN_lt (ll_lt (by rw [HXL.out, HYL.out]; exact hlt))]; rfl, Below.refl _ _⟩
  · subst heq
    go_wp2_with fail
    go_loopw [5] (fun v wr => ∃ k : Nat, k ≤ n1 ∧ v = .int .i64 ((k : Int) - 1) ∧ Below w.heap.size w wr ∧ Hid (∀ j, k ≤ j → nd (lim (val xs)) j = nd (lim (val ys)) j)) (fun v _ => (intOf v + 1).toNat)
    case atStart =>
      refine ⟨n1, by omega, rfl, Below.refl _ _, fun j hj => ?_⟩
      rw [nd_lt_len (by rw [hx1.len]; exact hj), nd_lt_len (by rw [hy1.len]; exact hj)]
    case round =>
      obtain ⟨k, hk, rfl, hb, HJ⟩ := hrel
      rcases k with _ | j
      · go_wp2_with fail
        go_ret
        exact ⟨by rw [cmpN_eq (lim_eq_of (by rw [HXL.out, HYL.out]) (fun j => HJ.out j (Nat.zero_le _)))]; rfl, hb⟩
      · have ej : ((j + 1 : Nat) : Int) - 1 = (j : Int) := by omega
        rw [ej]
        clear ej
        obtain ⟨b1, o1, rfl, hxc⟩ := (hx1.below hb (Nat.le_refl _)).cell j (by omega)
        obtain ⟨b2, o2, rfl, hyc⟩ := (hy1.below hb (Nat.le_refl _)).cell j (by omega)
        generalize hX : nd (lim (val xs)) j = X at *
        generalize hY : nd (lim (val ys)) j = Y at *
        have HX := Lib.hid hX
        have HY := Lib.hid hY
        clear hX hY
        have hi1 : (j : Int) < (n1 : Int) := by omega
        by_cases he : X = Y
        · subst he
          go_wp2_with fail
          go_quiet (fail)
          go_wp2_with fail
          refine ⟨⟨j, by omega, rfl, hb.trans (below_drewN (Below.refl _ _) _), fun i hi => ?_⟩, by simp [intOf]⟩
          by_cases e : i = j
          · subst e; rw [HX.out, HY.out]
          · exact HJ.out i (by omega)
        · have hz : ((X : Int) != (Y : Int)) = true := by rw [bne_iff_ne]; omega
          go_wp2_with fail
          go_quiet (fail)
          go_wp2_with fail
          go_quiet (fail)
          by_cases hlt : X < Y
          · go_wp2_with fail
            go_ret
            exact ⟨by rw [cmpN_lt (lim_lt_of (i := j) (by rw [HXL.out, HYL.out]) (fun i hi => HJ.out i (by omega)) (by rw [HXL.out]; omega) (by rw [HX.out, HY.out]; exact hlt))]; rfl, hb.trans (below_drewN (below_drewN (Below.refl _ _) _) _)⟩
          · go_wp2_with fail
            go_ret
            exact ⟨by rw [cmpN_gt (lim_lt_of (i := j) (by rw [HXL.out, HYL.out]) (fun i hi => (HJ.out i (by omega)).symm) (by rw [HYL.out]; omega) (by rw [HX.out, HY.out]; omega))]; rfl, hb.trans (below_drewN (below_drewN (Below.refl _ _) _) _)⟩
  · have hz : ((n1 : Int) != (m1 : Int)) = true := by rw [bne_iff_ne]; omega
    go_wp2_with fail
    go_ret
    exact ⟨by rw [cmpN_gt (ll_lt (by rw [HXL.out, HYL.out]; exact hgt))]; rfl, Below.refl _ _⟩


set_option maxHeartbeats 400000 in
theorem sub_no {p q : Option Addr} {n m c d : Nat} {xs ys : List Nat} {w : World} (hx : Sl w p n c xs) (hy : Sl w q m d ys) (hlt : val xs < val ys) :
    Calls Try.prog 91 #[.slice p n c, .slice q m d] w (RetNE w [] 10) := by
  have hc := cmpN_lt hlt
  go_enter Try.func91, Try.ntmps91
  go_wp2_with fail
  refine (cmp_any hx hy).mono ?_
  rw [hc]
  clear hc
  rintro e w1 ⟨rfl, hb⟩
  go_wp2_with fail
  go_ret2
  exact ⟨_, _, _, rfl, Fr.nil _ _, hb⟩

set_option maxHeartbeats 400000 in
theorem sub_yes {p q : Option Addr} {n m c d : Nat} {xs ys : List Nat} {w : World} (hx : Sl w p n c xs) (hy : Sl w q m d ys) (hn : n ≤ 8796093022208) (hm : m ≤ 8796093022208) (hle : val ys ≤ val xs) :
    Calls Try.prog 91 #[.slice p n c, .slice q m d] w (RetNE w (lim (val xs - val ys)) 0) := by
  have hc : 0 ≤ cmpN (val xs) (val ys) := by unfold cmpN; rw [if_neg (by omega)]; split <;> omega
  generalize hz : cmpN (val xs) (val ys) = z at *
  have HZ := Lib.hid hz
  clear hz
  go_enter Try.func91, Try.ntmps91
  go_wp2_with fail
  refine (cmp_any hx hy).mono ?_
  rw [HZ.out]
  rintro e w1 ⟨rfl, hb⟩
  go_wp2_with fail
  refine (less_any (hx.below hb (Nat.le_refl _)) (hy.below hb (Nat.le_refl _)) hn hm hle).mono ?_
  rintro e w2 ⟨p2, n2, c2, rfl, hf2, hb2⟩
  go_wp2_with fail
  go_ret2
  exact ⟨_, _, _, rfl, hf2.mono hb.size, hb.trans (hb2.mono hb.size)⟩

set_option maxHeartbeats 400000 in
theorem of_any {N : Nat} {X : Int} {w : World} (hX : X = (N : Int)) (hN : N < 18446744073709551616) :
    Calls Try.prog 71 #[.int .u64 X] w (RetN w (lim N)) := by
  subst hX
  have hs := Sl.lit w [N % 4294967296, N / 4294967296] (lims_pair (Nat.mod_lt _ (by omega)) (by omega))
  have hv : val [N % 4294967296, N / 4294967296] = N := by rw [val_pair]; omega
  have HV := Lib.hid hv
  clear hv
  go_enter Try.func71, Try.ntmps71
  go_wp2_with fail
  refine (own_any hs (by simp)).mono ?_
  rw [HV.out]
  rintro e w2 ⟨p2, n2, c2, rfl, hf2, hb2⟩
  go_wp2_with fail
  go_ret
  have hb1 := (Below.refl w.heap.size w).alloc (Nat.le_refl _) (.cells ([N % 4294967296, N / 4294967296].map fun x : Nat => Value.int .u32 (x : Int)).toArray 29)
  exact ⟨_, _, _, rfl, hf2.mono hb1.size, hb1.trans (hb2.mono hb1.size)⟩

set_option maxHeartbeats 400000 in
theorem norm_any {p : Option Addr} {n c : Nat} {xs : List Nat} {w : World} (hs : Sl w p n c xs) (hb : n ≤ 17592186044416) :
    Calls Try.prog 70 #[.slice p n c] w (RetN w (lim (val xs))) := by
  go_enter Try.func70, Try.ntmps70
  go_wp2_with fail
  refine (own_any hs hb).mono ?_
  rintro e w2 ⟨p2, n2, c2, rfl, hf2, hb2⟩
  go_wp2_with fail
  go_ret
  exact ⟨_, _, _, rfl, hf2, hb2⟩

end Go.Proofs.Ytlnilkghbbbhbaa
