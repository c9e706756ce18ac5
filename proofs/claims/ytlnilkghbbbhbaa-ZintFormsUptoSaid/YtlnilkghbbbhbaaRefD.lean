
/-
  The walks of simileref01: Div.
-/
import Derived.Test.YtlnilkghbbbhbaaRefC
namespace Go.Proofs.Ytlnilkghbbbhbaa
open Go.RowKit

theorem rcmp_le {a b : Nat} (h : a ≤ b) : cmpN a b ≤ 0 := by unfold cmpN; split <;> (try split) <;> omega
theorem rcmp_gt {a b : Nat} (h : b < a) : 0 < cmpN a b := by unfold cmpN; rw [if_neg (by omega), if_neg (by omega)]; omega

theorem div_step {X D C : Nat} (hX : X < 4294967296) (hC : 0 < C) :
    (X + 4294967296 * D) / C = 4294967296 * (D / C) + (X + 4294967296 * (D % C)) / C ∧ (X + 4294967296 * D) % C = (X + 4294967296 * (D % C)) % C ∧ (X + 4294967296 * (D % C)) / C < 4294967296 := by
  have h := Nat.div_add_mod D C
  have e : X + 4294967296 * D = X + 4294967296 * (D % C) + C * (4294967296 * (D / C)) := by
    rw [Nat.mul_left_comm]; omega
  have hm := Nat.mod_lt D hC
  refine ⟨?_, ?_, ?_⟩
  · rw [e, Nat.add_mul_div_left _ _ hC, Nat.add_comm]
  · rw [e, Nat.add_mul_mod_self_left]
  · rw [Nat.div_lt_iff_lt_mul hC]
    have : 4294967296 * (D % C + 1) ≤ 4294967296 * C := Nat.mul_le_mul_left _ hm
    omega

theorem bit_or {dd i Q : Nat} (hi : i < 32) (hdd : dd < 4294967296) (hd : dd = Q / 2 ^ (i + 1) * 2 ^ (i + 1)) : bits BinOp.or IntKind.u32 (dd : Int) (2 ^ i % 4294967296) = ((dd + 2 ^ i : Nat) : Int) := by
  have hp : 2 ^ i < 4294967296 := by rw [show (4294967296 : Nat) = 2 ^ 32 from rfl]; exact Nat.pow_lt_pow_right (by omega) hi
  have e : (2 : Int) ^ i % 4294967296 = ((2 ^ i : Nat) : Int) := by
    have : (2 : Int) ^ i = ((2 ^ i : Nat) : Int) := by rw [Int.natCast_pow]; rfl
    rw [this]; exact Int.emod_eq_of_lt (Int.natCast_nonneg _) (Int.ofNat_lt.2 hp)
  rw [e, u32_or_nat _ _ hdd hp, nat_join (i + 1) _ _ (by rw [hd, Nat.mul_mod_left]) (Nat.pow_lt_pow_right (by omega) (by omega))]

theorem bit_up {dd i Q : Nat} (hd : dd = Q / 2 ^ (i + 1) * 2 ^ (i + 1)) :
    (dd + 2 ^ i ≤ Q → dd + 2 ^ i = Q / 2 ^ i * 2 ^ i) ∧ (Q < dd + 2 ^ i → dd = Q / 2 ^ i * 2 ^ i) := by
  rw [Nat.pow_succ] at hd
  have h1 : Q / (2 ^ i * 2) = Q / 2 ^ i / 2 := (Nat.div_div_eq_div_mul _ _ _).symm
  rw [h1] at hd
  have h2 := Nat.div_add_mod Q (2 ^ i)
  have h3 := Nat.mod_lt Q (Nat.two_pow_pos i)
  generalize Q / 2 ^ i = T at *
  generalize 2 ^ i = P at *
  generalize Q % P = r at *
  have h4 : dd = T / 2 * 2 * P := by rw [hd, Nat.mul_assoc, Nat.mul_comm 2]
  have h5 : P * T = T * P := Nat.mul_comm _ _
  rcases Nat.mod_two_eq_zero_or_one T with h | h
  · have e : T = T / 2 * 2 := by omega
    rw [← e] at h4
    exact ⟨fun _ => by omega, fun _ => by omega⟩
  · have e : T = T / 2 * 2 + 1 := by omega
    have e2 : T * P = T / 2 * 2 * P + P := by
      have := congrArg (· * P) e
      simp only [Nat.add_mul, Nat.one_mul] at this
      exact this
    exact ⟨fun _ => by omega, fun _ => by omega⟩

def RetDD (w : World) (Q R : Nat) (e : Ending) (w' : World) : Prop :=
  ∃ p n c q m d, e = .returned (.tuple #[.slice p n c, .slice q m d]) ∧ Fr w.heap.size w' p n c (lim Q) ∧ Fr w.heap.size w' q m d (lim R) ∧ Below w.heap.size w w'

theorem ll_bd {N M k : Nat} (h : N ≤ M) (hM : ll M ≤ k) : ll N ≤ k := Nat.le_trans (ll_mono h) hM

/-- What the outer loop of Div keeps. -/
def DivAt (w2 : World) (n1 C : Nat) (us : List Nat) (k : Nat) (o : Value) (wr : World) : Prop :=
  ∃ p3 n3 c3 zs, o = .slice p3 n3 c3 ∧ Fr w2.heap.size wr p3 n3 c3 (lim (val (us.drop k) % C)) ∧ Fr w2.heap.size wr (some ⟨w2.heap.size, 0, none⟩) n1 n1 zs ∧ Below w2.heap.size w2 wr ∧ Hid ((∀ i, i < k → nd zs i = 0) ∧ val (zs.drop k) = val (us.drop k) / C)

theorem divAt_skip {w2 w4 : World} {n1 C X j n4 c4 : Nat} {us zs : List Nat} {p4 : Option Addr} (hj : j < n1) (hu : us.length = n1) (hXX : nd us j = X) (hX : X < 4294967296) (hC : 0 < C)
    (hf4 : Fr w2.heap.size w4 p4 n4 c4 (lim (X + 4294967296 * (val (us.drop (j + 1)) % C)))) (hf3 : Fr w2.heap.size w4 (some ⟨w2.heap.size, 0, none⟩) n1 n1 zs) (hb : Below w2.heap.size w2 w4)
    (h : Hid ((∀ i, i < j + 1 → nd zs i = 0) ∧ val (zs.drop (j + 1)) = val (us.drop (j + 1)) / C)) (hlt : X + 4294967296 * (val (us.drop (j + 1)) % C) < C) : DivAt w2 n1 C us j (.slice p4 n4 c4) w4 := by
  obtain ⟨d1, d2, _⟩ := div_step (D := val (us.drop (j + 1))) hX hC
  have e : val (us.drop j) = X + 4294967296 * val (us.drop (j + 1)) := by rw [val_drop_succ (by omega), hXX]
  refine ⟨p4, n4, c4, zs, rfl, ?_, hf3, hb, fun i hi => h.out.1 i (by omega), ?_⟩
  · rw [e, d2, Nat.mod_eq_of_lt hlt]; exact hf4
  · rw [e, d1, val_drop_succ (by rw [hf3.len]; exact hj), h.out.1 j (by omega), h.out.2, Nat.div_eq_of_lt hlt]; omega

theorem divAt_set {w2 w5 w6 : World} {n1 C X j n4 c4 D : Nat} {us zs : List Nat} {p4 : Option Addr} (hj : j < n1) (hu : us.length = n1) (hXX : nd us j = X) (hX : X < 4294967296) (hC : 0 < C)
    (hf3 : Fr w2.heap.size w5 (some ⟨w2.heap.size, 0, none⟩) n1 n1 zs) (hb : Below w2.heap.size w2 w5)
    (h : Hid ((∀ i, i < j + 1 → nd zs i = 0) ∧ val (zs.drop (j + 1)) = val (us.drop (j + 1)) / C)) (hD : D = (X + 4294967296 * (val (us.drop (j + 1)) % C)) / C)
    (hb6 : Below (w5.setCell ⟨w2.heap.size, j, none⟩ (.int .u32 (D : Int))).heap.size (w5.setCell ⟨w2.heap.size, j, none⟩ (.int .u32 (D : Int))) w6)
    (hf6 : Fr w2.heap.size w6 p4 n4 c4 (lim ((X + 4294967296 * (val (us.drop (j + 1)) % C)) - C * D))) : DivAt w2 n1 C us j (.slice p4 n4 c4) w6 := by
  obtain ⟨d1, d2, d3⟩ := div_step (D := val (us.drop (j + 1))) hX hC
  have e : val (us.drop j) = X + 4294967296 * val (us.drop (j + 1)) := by rw [val_drop_succ (by omega), hXX]
  have hDl : D < 4294967296 := by rw [hD]; exact d3
  have hj2 : j < zs.length := by rw [hf3.len]; exact hj
  have hs := hf3.set j hDl
  have hb5 := hb.setCell (p := ⟨w2.heap.size, j, none⟩) (Nat.le_refl _) (.int .u32 (D : Int))
  refine ⟨p4, n4, c4, zs.set j D, rfl, ?_, hs.below hb6 (Nat.le_refl _), hb5.trans (hb6.mono hb5.size), ?_, ?_⟩
  · have e2 := Nat.div_add_mod (X + 4294967296 * (val (us.drop (j + 1)) % C)) C
    rw [e, d2]
    rw [hD] at hf6
    have e3 : X + 4294967296 * (val (us.drop (j + 1)) % C) - C * ((X + 4294967296 * (val (us.drop (j + 1)) % C)) / C) = (X + 4294967296 * (val (us.drop (j + 1)) % C)) % C := by omega
    rw [e3] at hf6
    exact hf6
  · intro i hi
    rw [nd_set _ _ _ _ hj2, if_neg (by omega)]
    exact h.out.1 i (by omega)
  · rw [e, d1, val_drop_set hj2, h.out.2, ← hD]; omega

set_option maxHeartbeats 4000000 in
theorem rdiv_any {p q : Option Addr} {n m c d : Nat} {xs ys : List Nat} {w : World} (hx : Sl w p n c xs) (hy : Sl w q m d ys) (hn : n ≤ 1099511627776) (hm : m ≤ 1099511627776) (h0 : val ys ≠ 0) :
    Calls Try.prog 78 #[.slice p n c, .slice q m d] w (RetDD w (val xs / val ys) (val xs % val ys)) := by
  go_enter Try.func78, Try.ntmps78
  go_wp2_with fail
  refine (rnorm_any hx (by omega)).mono ?_
  rintro e w1 ⟨p1, n1, c1, rfl, hf1, hb1⟩
  go_wp2_with fail
  refine (rnorm_any (hy.below hb1 (Nat.le_refl _)) (by omega)).mono ?_
  rintro e w2 ⟨q1, m1, d1, rfl, hg2, hb2⟩
  have hx2 := (hf1.below hb2 (Nat.le_refl _)).sl
  have hy2 := hg2.sl
  have hbw := hb1.trans (hb2.mono hb1.size)
  have hn1 : n1 ≤ 1099511627776 := by rw [hx2.lln, ← tl_ll hx.lims, hx.len]; exact Nat.le_trans (tl_le _ _) hn
  have hm1 : m1 ≤ 1099511627776 := by rw [hy2.lln, ← tl_ll hy.lims, hy.len]; exact Nat.le_trans (tl_le _ _) hm
  have HM : Hid (ll (val ys) = m1) := hy2.lln.symm
  clear hf1 hg2 hb1 hb2
  have HA : Hid (val (lim (val xs)) = val xs) := val_lim _
  have HC : Hid (val (lim (val ys)) = val ys) := val_lim _
  generalize lim (val xs) = us at *
  generalize lim (val ys) = vs at *
  generalize val xs = A at *
  generalize val ys = C at *
  have hC : 0 < C := by omega
  clear h0
  go_wp2_with (at_make; refine wp_make32 _ rfl _ _ _ rfl Try.underlying23 _ _ _ _ n1 rfl rfl rfl rfl (by omega) w2.heap.size w2 (Below.refl _ _) (Nat.le_refl _) ?_; intro w3 hf3 hb3 hb4 hsz3)
  have H0 : DivAt w2 n1 C us n1 (.slice none 0 0) w3 := ⟨_, _, _, _, rfl, by rw [val_drop_len (by rw [hx2.len]; exact Nat.le_refl _), Nat.zero_mod]; exact Fr.nil _ _, hf3, hb4, fun i _ => nd_replicate _ _, by rw [val_drop_len (xs := List.replicate n1 0) (by simp), val_drop_len (by rw [hx2.len]; exact Nat.le_refl _), Nat.zero_div]⟩
  clear hf3 hb3 hb4 hsz3
  go_loopw [7, 8] (fun o v wr => ∃ k : Nat, k ≤ n1 ∧ v = .int .i64 ((k : Int) - 1) ∧ DivAt w2 n1 C us k o wr) (fun _ v _ => (intOf v + 1).toNat)
  case atStart => exact ⟨n1, Nat.le_refl _, rfl, H0⟩
  case round =>
    clear H0
    obtain ⟨k, hk, rfl, p3, n3, c3, zs, rfl, hs3, hf3, hb3, HH⟩ := hrel
    rcases k with _ | j
    · go_wp2_with fail
      refine (rnorm_any hf3.sl (by omega)).mono ?_
      have e : val zs = A / C := by have := HH.out.2; simp only [List.drop_zero] at this; rw [this, HA.out]
      rw [e]
      rintro e w4 ⟨p4, n4, c4, rfl, hf4, hb4⟩
      go_wp2_with fail
      go_ret2
      have e2 : val (us.drop 0) = A := by rw [List.drop_zero, HA.out]
      rw [e2] at hs3
      have hbr := hbw.trans (hb3.mono hbw.size)
      exact ⟨_, _, _, _, _, _, rfl, hf4.mono hbr.size, (hs3.below hb4 (Nat.le_refl _)).mono hbw.size, hbr.trans (hb4.mono hbr.size)⟩
    · have ej : ((j + 1 : Nat) : Int) - 1 = (j : Int) := by omega
      rw [ej]
      clear ej
      obtain ⟨b2, o2, rfl, hxc⟩ := (hx2.below hb3 (Nat.le_refl _)).cell j (by omega)
      have hX := hx2.lim1 j
      have HL := Lib.hid hx2.len
      generalize hXX : nd us j = X at *
      have HXX := Lib.hid hXX
      clear hXX
      have hn3 : n3 ≤ m1 := by
        rw [hs3.sl.lln, ← HM.out]
        exact ll_mono (Nat.le_of_lt (Nat.mod_lt _ hC))
      go_wp2_with fail
      refine (rshift_any rfl hs3.sl hX (by omega)).mono ?_
      rintro e w4 ⟨p4, n4, c4, rfl, hf4, hb4⟩
      have hn4 : n4 ≤ m1 + 1 := shift_bd hf4.sl hs3.sl hX (by omega)
      rw [val_lim] at hf4
      have hb24 := hb3.trans (hb4.mono hb3.size)
      have hy4 := hy2.below hb24 (Nat.le_refl _)
      have hf34 := hf3.below hb4 (Nat.le_refl _)
      have hf44 := hf4.mono hb3.size
      go_wp2_with fail
      refine (rcmp_any hf4.sl hy4).mono ?_
      rw [val_lim, HC.out]
      obtain ⟨R, hR⟩ : ∃ R, R = X + 4294967296 * (val (us.drop (j + 1)) % C) := ⟨_, rfl⟩
      rw [← hR]
      have HR := Lib.hid hR
      rcases Nat.lt_or_ge R C with hlt | hge
      · have hlt2 := hlt
        rw [hR] at hlt2
        clear hR
        rw [cmpN_lt hlt]
        rintro e w5 ⟨rfl, rfl⟩
        go_wp2_with fail
        exact ⟨⟨j, by omega, rfl, divAt_skip (by omega) HL.out HXX.out hX hC hf44 hf34 hb24 HH hlt2⟩, by simp [intOf]⟩
      · rw [← hR] at hf4 hf44
        have hQ : R / C < 4294967296 := by rw [hR]; exact (div_step hX hC).2.2
        clear hR
        have hcg : 0 ≤ cmpN R C := by unfold cmpN; rw [if_neg (by omega)]; split <;> omega
        generalize cmpN R C = z at *
        have hz : decide (z < 0) = false := by simp; omega
        rintro e w5 ⟨rfl, rfl⟩
        go_wp2_with fail
        obtain ⟨wo, rfl⟩ : ∃ wo : World, wo = w4 := ⟨_, rfl⟩
        obtain ⟨Q, hQQ⟩ : ∃ Q, Q = R / C := ⟨_, rfl⟩
        rw [← hQQ] at hQ
        have HQ := Lib.hid hQQ
        clear hQQ
        go_loopw [9, 10] (fun dv kv wr => ∃ i dd : Nat, i ≤ 32 ∧ kv = .int .i64 ((i : Int) - 1) ∧ dd ≤ Q ∧ dv = .int .u32 (dd : Int) ∧ Below wo.heap.size wo wr ∧ Hid (dd = Q / 2 ^ i * 2 ^ i)) (fun _ v _ => (intOf v + 1).toNat)
        case atStart => exact ⟨32, 0, by omega, rfl, by omega, rfl, Below.refl _ _, by show _ = _; rw [Nat.div_eq_of_lt (show Q < 2 ^ 32 from hQ), Nat.zero_mul]⟩
        case round =>
          obtain ⟨i, dd, hi, rfl, hdd, rfl, hbi, HD⟩ := hrel
          rcases i with _ | i
          · have hdq : dd = Q := by have := HD.out; simpa using this
            subst hdq
            have hf5 := hf34.below hbi (Nat.le_refl _)
            have hzc := hf5.cellAt (i := j) (by omega)
            have hzf := hf5.frozenAt j
            have hf45 := hf44.below hbi (Nat.le_refl _)
            have hb25 := hb24.trans (hbi.mono hb24.size)
            go_wp2_with fail
            have hs6 := (Below.refl w2.heap.size wr).setCell (p := ⟨w2.heap.size, j, none⟩) (Nat.le_refl _) (.int .u32 (dd : Int))
            have hy6 := hy2.below (hb25.trans hs6) (Nat.le_refl _)
            refine (rsmall_any rfl hy6 hQ (by omega)).mono ?_
            rw [HC.out]
            rintro e w7 ⟨p7, n7, c7, rfl, hf7, hb7⟩
            have hsl4 : Sl (wr.setCell ⟨w2.heap.size, j, none⟩ (.int .u32 (dd : Int))) p4 n4 c4 (lim R) := by
              rcases Nat.eq_zero_or_pos n4 with h4 | h4
              · refine ⟨hf45.len, hf45.sl.le, hf45.sl.cap, hf45.lims, hf45.sl.isnil, fun i hi => by omega⟩
              · obtain ⟨g4, hg4, hg5, hg6⟩ := hf4.pos h4
                refine (hf45.setOther (a := ⟨w2.heap.size, j, none⟩) ?_ _).sl
                intro g hg
                rw [hg4] at hg
                simp only [Option.some.injEq, Addr.mk.injEq, and_true] at hg
                subst hg
                have h1 := hf3.block.2
                show g4 ≠ w2.heap.size
                omega
            have hsl7 := hsl4.below hb7 (Nat.le_refl _)
            have hle : C * dd ≤ R := by rw [HQ.out]; exact Nat.mul_div_le _ _
            go_wp2_with fail
            refine (rsub_any hsl7 hf7.sl (by omega) (by rw [val_lim, val_lim]; exact hle)).mono ?_
            rw [val_lim, val_lim]
            rintro e w8 ⟨p8, n8, c8, rfl, hf8, hb8⟩
            go_wp2_with fail
            have hb78 := hb7.trans (hb8.mono hb7.size)
            refine ⟨⟨j, by omega, rfl, ?_⟩, by simp [intOf]⟩
            have hbs : w2.heap.size ≤ w7.heap.size := Nat.le_trans (hb25.trans hs6).size hb7.size
            exact divAt_set (by omega) HL.out HXX.out hX hC hf5 hb25 HH (by rw [HQ.out, HR.out]) hb78 (by rw [← HR.out]; exact hf8.mono hbs)
          · have ei : ((i + 1 : Nat) : Int) - 1 = (i : Int) := by omega
            rw [ei]
            clear ei
            have hor := bit_or (show i < 32 by omega) (show dd < 4294967296 by omega) HD.out
            have HUP := Lib.hid (bit_up HD.out)
            have hdi : dd + 2 ^ i < 4294967296 := by
              have h1 := HD.out
              have h2 : 2 ^ (i + 1) ≤ 2 ^ 32 := Nat.pow_le_pow_right (by omega) (by omega)
              have h3 : dd + 2 ^ (i + 1) ≤ 4294967296 := by
                have h5 : (4294967296 : Nat) = 2 ^ (i + 1) * 2 ^ (31 - i) := by rw [← Nat.pow_add, show i + 1 + (31 - i) = 32 by omega]
                have h6 : Q / 2 ^ (i + 1) < 2 ^ (31 - i) := by
                  rw [Nat.div_lt_iff_lt_mul (Nat.two_pow_pos _), Nat.mul_comm, ← h5]; exact hQ
                have h7 : (Q / 2 ^ (i + 1) + 1) * 2 ^ (i + 1) ≤ 2 ^ (31 - i) * 2 ^ (i + 1) := Nat.mul_le_mul_right _ h6
                rw [Nat.mul_comm (2 ^ (31 - i)), ← h5, Nat.add_mul, ← h1] at h7
                omega
              have h4 : 2 ^ (i + 1) = 2 * 2 ^ i := by rw [Nat.pow_succ, Nat.mul_comm]
              have := Nat.two_pow_pos i
              omega
            generalize hP : 2 ^ i = P at *
            have HP := Lib.hid hP
            clear hP
            go_wp2_with fail
            refine (rsmall_any (y := dd + P) rfl (hy4.below hbi (Nat.le_refl _)) hdi (by omega)).mono ?_
            rw [HC.out]
            rintro e w7 ⟨p7, n7, c7, rfl, hf7, hb7⟩
            go_wp2_with fail
            refine (rcmp_any hf7.sl ((hf4.sl.below hbi (Nat.le_refl _)).below hb7 (Nat.le_refl _))).mono ?_
            rw [val_lim, val_lim]
            have hb77 := hbi.trans (hb7.mono hbi.size)
            rcases Nat.lt_or_ge R (C * (dd + P)) with hgt | hle
            · have hzz := rcmp_gt hgt
              generalize cmpN (C * (dd + P)) R = zz at *
              rintro e w8 ⟨rfl, rfl⟩
              go_wp2_with fail
              refine ⟨⟨i, dd, by omega, rfl, hdd, rfl, hb77, ?_⟩, by simp [intOf]⟩
              show dd = Q / 2 ^ i * 2 ^ i
              rw [HP.out]
              refine HUP.out.2 (Nat.lt_of_le_of_lt (Nat.le_of_eq HQ.out) ?_)
              exact Nat.div_lt_of_lt_mul hgt
            · have hzz := rcmp_le hle
              generalize cmpN (C * (dd + P)) R = zz at *
              rintro e w8 ⟨rfl, rfl⟩
              have hq2 : dd + P ≤ Q := by
                rw [HQ.out, Nat.le_div_iff_mul_le hC, Nat.mul_comm]; exact hle
              go_wp2_with fail
              exact ⟨⟨i, dd + P, by omega, rfl, hq2, rfl, hb77, by show dd + P = Q / 2 ^ i * 2 ^ i; rw [HP.out]; exact HUP.out.1 hq2⟩, by simp [intOf]⟩

end Go.Proofs.Ytlnilkghbbbhbaa
