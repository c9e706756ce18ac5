
/-
  The walk of nat.less: the closure that borrows.
-/
import Derived.Test.YtlnilkghbbbhbaaNatC
import Derived.Laws.BitsAllLaws
namespace Go.Proofs.Ytlnilkghbbbhbaa
open Go.RowKit

theorem top31 (n : Nat) (h : n < 4294967296) : n / 2147483648 = (n.testBit 31).toNat := by
  rw [Nat.testBit_eq_decide_div_mod_eq]
  have : n / 2 ^ 31 < 2 := by rw [show (2 : Nat) ^ 31 = 2147483648 from rfl]; omega
  rw [show (2147483648 : Nat) = 2 ^ 31 from rfl]
  by_cases e : n / 2 ^ 31 % 2 = 1
  · rw [decide_eq_true e]; show _ = 1; omega
  · rw [decide_eq_false e]; show _ = 0; omega

theorem bit31 (n : Nat) (h : n < 4294967296) : n.testBit 31 = decide (2147483648 ≤ n) := by
  rw [Nat.testBit_eq_decide_div_mod_eq]
  rw [show (2 : Nat) ^ 31 = 2147483648 from rfl]
  by_cases e : 2147483648 ≤ n
  · rw [decide_eq_true e, decide_eq_true (by omega)]
  · rw [decide_eq_false e, decide_eq_false (by omega)]

/-- The borrow of a difference, out of its bits. -/
theorem borrow_bits (x y d s : Nat) (hx : x < 4294967296) (hy : y < 4294967296) (hd : d < 4294967296) (hs : s ≤ 1) {b : Nat} (hb : b ≤ 1) (he : d + y + s = x + 4294967296 * b) :
    bits BinOp.or IntKind.u32 (bits BinOp.and IntKind.u32 (bits BinOp.xor IntKind.u32 IntKind.u32.max (x : Int)) (y : Int))
      (bits BinOp.and IntKind.u32 (bits BinOp.xor IntKind.u32 IntKind.u32.max (bits BinOp.xor IntKind.u32 (x : Int) (y : Int))) (d : Int)) / 2147483648 = ((b : Nat) : Int) := by
  have hmax : IntKind.u32.max = ((4294967295 : Nat) : Int) := rfl
  have e32 : (4294967296 : Nat) = 2 ^ 32 := rfl
  have h1 : 4294967295 ^^^ x < 4294967296 := by rw [e32]; exact Nat.xor_lt_two_pow (by omega) hx
  have h2 : x ^^^ y < 4294967296 := by rw [e32]; exact Nat.xor_lt_two_pow hx hy
  have h3 : 4294967295 ^^^ (x ^^^ y) < 4294967296 := by rw [e32]; exact Nat.xor_lt_two_pow (by omega) h2
  have h4 : (4294967295 ^^^ x) &&& y < 4294967296 := Nat.lt_of_le_of_lt Nat.and_le_right hy
  have h5 : (4294967295 ^^^ (x ^^^ y)) &&& d < 4294967296 := Nat.lt_of_le_of_lt Nat.and_le_right hd
  have h6 : ((4294967295 ^^^ x) &&& y) ||| ((4294967295 ^^^ (x ^^^ y)) &&& d) < 4294967296 := by rw [e32]; exact Nat.or_lt_two_pow h4 h5
  rw [hmax, u32_xor_nat _ _ (by omega) hx, u32_xor_nat _ _ hx hy, u32_xor_nat _ _ (by omega) h2, u32_and_nat _ _ h1 hy, u32_and_nat _ _ h3 hd, u32_or_nat _ _ h4 h5]
  rw [show (2147483648 : Int) = ((2147483648 : Nat) : Int) from rfl, ← Int.natCast_ediv, top31 _ h6]
  congr 1
  simp only [Nat.testBit_or, Nat.testBit_and, Nat.testBit_xor]
  rw [bit31 x hx, bit31 y hy, bit31 d hd, bit31 4294967295 (by omega)]
  by_cases c1 : 2147483648 ≤ x <;> by_cases c2 : 2147483648 ≤ y <;> by_cases c3 : 2147483648 ≤ d <;> simp [c1, c2, c3] <;> omega

def RetSub1 (cb x y s : Nat) (w : World) (e : Ending) (w' : World) : Prop :=
  ∃ d b, e = .returned (.int .u32 ((d : Nat) : Int)) ∧ w.setCell ⟨cb, 0, none⟩ (.int .u32 ((b : Nat) : Int)) = w' ∧ d < 4294967296 ∧ b ≤ 1 ∧ Hid (d + y + s = x + 4294967296 * b)

set_option maxHeartbeats 400000 in
theorem sub1_any {x y s : Nat} {cb : Nat} {w : World} {X Y : Int} (hX : X = (x : Int)) (hY : Y = (y : Int)) (hx : x < 4294967296) (hy : y < 4294967296) (hs : s ≤ 1)
    (hc : w.cell? ⟨cb, 0, none⟩ = some (.int .u32 (s : Int))) (hf : w.frozen? ⟨cb, 0, none⟩ = false) :
    Calls Try.prog 112 #[.int .u32 X, .int .u32 Y, .pointer (some ⟨cb, 0, none⟩)] w (RetSub1 cb x y s w) := by
  subst hX
  subst hY
  obtain ⟨b, hb⟩ : ∃ b, b = (if x < y + s then 1 else 0) := ⟨_, rfl⟩
  obtain ⟨d, hd⟩ : ∃ d, d = x + 4294967296 * b - y - s := ⟨_, rfl⟩
  have hb1 : b ≤ 1 := by rw [hb]; split <;> omega
  have hd1 : d < 4294967296 := by rw [hd, hb]; split <;> omega
  have he : d + y + s = x + 4294967296 * b := by rw [hd, hb]; split <;> omega
  have hbits := borrow_bits x y d s hx hy hd1 hs hb1 he
  have HB := Lib.hid hbits
  have HE := Lib.hid he
  have HD : Hid (((x : Int) - y - s) % 4294967296 = (d : Int)) := by show _ = _; omega
  clear hb hd he hbits
  go_enter Try.func112, Try.ntmps112
  go_wp2_with fail
  go_in
  go_wp2_with fail
  rw [HD.out, HB.out]
  go_ret
  exact ⟨d, b, rfl, rfl, hd1, hb1, HE.out⟩
/-- What each leaves: the row of the sums and the carry. -/
def RetEachS (w0 : World) (M : Nat) (T : Nat × Nat) (e : Ending) (w' : World) : Prop :=
  ∃ g L ys s, e = .returned (.slice (some ⟨g, 0, none⟩) L (L + 1)) ∧ Fr (w0.heap.size + 1) w' (some ⟨g, 0, none⟩) L (L + 1) ys ∧ L ≤ M ∧ Below w0.heap.size w0 w' ∧ w0.heap.size + 1 < w'.heap.size ∧
    w'.cell? ⟨w0.heap.size, 0, none⟩ = some (.int .u32 ((s : Nat) : Int)) ∧ w'.frozen? ⟨w0.heap.size, 0, none⟩ = false ∧ s ≤ 1 ∧ Hid (val ys + T.2 = T.1 + s * 4294967296 ^ ys.length)

/-- What holds at the head of each's loop behind k rounds. -/
def EachAtS (w0 w : World) (L : Nat) (xs ys : List Nat) (k : Nat) (wr : World) : Prop :=
  ∃ zs s, Fr w.heap.size wr (some ⟨w.heap.size, 0, none⟩) L (L + 1) zs ∧ Below w0.heap.size w0 wr ∧ wr.heap.size = w.heap.size + 1 ∧
    wr.cell? ⟨w0.heap.size, 0, none⟩ = some (.int .u32 ((s : Nat) : Int)) ∧ wr.frozen? ⟨w0.heap.size, 0, none⟩ = false ∧ s ≤ 1 ∧ sm (nd zs) k + sm (nd ys) k = sm (nd xs) k + s * 4294967296 ^ k

theorem each_nextS {w0 w wr : World} {L k x y s d b : Nat} {xs ys zs : List Nat} (hcb : w0.heap.size < w.heap.size) (hk : k < L)
    (hfz : Fr w.heap.size wr (some ⟨w.heap.size, 0, none⟩) L (L + 1) zs) (hb : Below w0.heap.size w0 wr) (hsz : wr.heap.size = w.heap.size + 1)
    (hc : wr.cell? ⟨w0.heap.size, 0, none⟩ = some (.int .u32 ((s : Nat) : Int))) (hf : wr.frozen? ⟨w0.heap.size, 0, none⟩ = false) (he : sm (nd zs) k + sm (nd ys) k = sm (nd xs) k + s * 4294967296 ^ k)
    (hx : x = nd xs k) (hy : y = nd ys k) (hd : d + y + s = x + 4294967296 * b) (hd2 : d < 4294967296) (hb2 : b ≤ 1) :
    EachAtS w0 w L xs ys (k + 1) ((wr.setCell ⟨w0.heap.size, 0, none⟩ (.int .u32 ((b : Nat) : Int))).setCell ⟨w.heap.size, k, none⟩ (.int .u32 ((d : Nat) : Int))) := by
  have h1 : ((wr.setCell ⟨w0.heap.size, 0, none⟩ (.int .u32 ((b : Nat) : Int))).setCell ⟨w.heap.size, k, none⟩ (.int .u32 ((d : Nat) : Int))).cell? ⟨w0.heap.size, 0, none⟩ = some (.int .u32 ((b : Nat) : Int)) := by
    rw [World.cell?_of_block (w := wr.setCell ⟨w0.heap.size, 0, none⟩ (.int .u32 ((b : Nat) : Int))) (Below.heap_setCell _ _ _ _ (by simp; omega))]
    exact World.cell?_setCell_same' _ _ _ (by rw [hc]; rfl)
  refine ⟨zs.set k d, b, Fr.set (hfz.setOther (a := ⟨w0.heap.size, 0, none⟩) (by intro g hg; simp at hg; subst hg; simp; omega) _) k hd2, ?_, ?_, h1, ?_, hb2, ?_⟩
  · exact (hb.setCell (p := ⟨w0.heap.size, 0, none⟩) (Nat.le_refl _) _).setCell (p := ⟨w.heap.size, k, none⟩) (by simp; omega) _
  · simpa using hsz
  · rw [World.frozen?_setCell, World.frozen?_setCell]; exact hf
  · have := sub_step (x := x) (y := y) hk hfz.len he hd
    rw [hx, hy] at this
    exact this

set_option maxHeartbeats 1000000 in
theorem eachSub_any {p q : Option Addr} {n m c d : Nat} {xs ys : List Nat} {w0 w : World} (hx : Sl w0 p n c xs) (hy : Sl w0 q m d ys) {M : Nat} (hn : n ≤ M) (hm : m ≤ M) (hM : M ≤ 17592186044416)
    (hb0 : Below w0.heap.size w0 w) (hcb : w0.heap.size < w.heap.size) (hc : w.cell? ⟨w0.heap.size, 0, none⟩ = some (.int .u32 0)) (hf : w.frozen? ⟨w0.heap.size, 0, none⟩ = false) :
    Calls Try.prog 86 #[.slice p n c, .slice q m d, .func (.func 112) #[] #[.pointer (some ⟨w0.heap.size, 0, none⟩)]] w (RetEachS w0 M (val xs, val ys)) := by
  have hmx := run_nmax n m
  have hL := nmax_le n m
  have hL3 := nmax_or n m
  have hL2 := nmax_bd hn hm
  have HX : Hid (sm (nd xs) (nmax n m) = val xs) := val_le (by rw [hx.len]; omega)
  have HY : Hid (sm (nd ys) (nmax n m) = val ys) := val_le (by rw [hy.len]; omega)
  go_enter Try.func86, Try.ntmps86
  generalize nmax n m = L at *
  go_wp2_with (at_make; refine wp_make32c _ rfl _ _ _ rfl Try.underlying23 _ _ _ _ L (L + 1) rfl rfl rfl rfl (Nat.le_succ _) (by omega) w.heap.size w (Below.refl _ _) (Nat.le_refl _) ?_; intro w1 hf1 hb1 hb2 hsz1)
  clear hmx
  have hcell1 := (below_cell hb1).1 w0.heap.size 0 (by omega)
  have hfroz1 := (below_cell hb1).2 w0.heap.size 0 (by omega)
  rw [hc] at hcell1
  rw [hf] at hfroz1
  have H0 : EachAtS w0 w L xs ys 0 w1 := ⟨_, 0, hf1, hb0.trans (hb1.mono (by omega)), hsz1, hcell1, hfroz1, by omega, rfl⟩
  clear hcell1 hfroz1 hf1 hb1 hb2 hsz1 hc hf
  go_loopw [23] (fun v wr => ∃ k : Nat, k ≤ L ∧ v = .int .i64 k ∧ EachAtS w0 w L xs ys k wr) (fun v _ => L - (intOf v).toNat)
  case atStart => exact ⟨0, by omega, rfl, H0⟩
  case round =>
    clear H0
    obtain ⟨k, hk, rfl, HE⟩ := hrel
    by_cases hkL : k < L
    · obtain ⟨zs, s, hfz, hbr, hszr, hcr, hfr, hs1, he⟩ := HE
      have HH := Lib.hid he
      clear he
      have hzc := hfz.cellAt hkL
      have hzf := hfz.frozenAt k
      have hx1 := hx.lim1 k
      have hy1 := hy.lim1 k
      have hne1 : w.heap.size ≠ w0.heap.size := by omega
      have hne2 : w0.heap.size ≠ w.heap.size := by omega
      have HS := Lib.hid hszr
      clear hszr
      rcases Nat.lt_or_ge k n with hkn | hkn
      all_goals rcases Nat.lt_or_ge k m with hkm | hkm
      · obtain ⟨b1, o1, rfl, hxc⟩ := (hx.below hbr (Nat.le_refl _)).cell k hkn
        obtain ⟨b2, o2, rfl, hyc⟩ := (hy.below hbr (Nat.le_refl _)).cell k hkm
        go_wp2_with (go_at_call 112; refine (sub1_any (x := nd xs k) (y := nd ys k) rfl rfl hx1 hy1 hs1 hcr hfr).mono ?_; rintro e w' ⟨dd, bb, rfl, rfl, hd, hb, HD⟩)
        exact ⟨⟨k + 1, by omega, by go_num, each_nextS hcb hkL hfz hbr HS.out hcr hfr HH.out rfl rfl HD.out hd hb⟩, by simp [intOf]; omega⟩
      · obtain ⟨b1, o1, rfl, hxc⟩ := (hx.below hbr (Nat.le_refl _)).cell k hkn
        obtain ⟨z, hz1, hz2⟩ : ∃ z, z = nd ys k ∧ (0 : Int) = ((z : Nat) : Int) := ⟨_, rfl, by rw [nd_lt_len (by rw [hy.len]; exact hkm)]; rfl⟩
        have HZ1 := Lib.hid hz1
        have HZ2 := Lib.hid hz2
        have hz3 : z < 4294967296 := by omega
        clear hz1 hz2
        go_wp2_with (go_at_call 112; refine (sub1_any (x := nd xs k) (y := z) rfl HZ2.out hx1 hz3 hs1 hcr hfr).mono ?_; rintro e w' ⟨dd, bb, rfl, rfl, hd, hb, HD⟩)
        exact ⟨⟨k + 1, by omega, by go_num, each_nextS hcb hkL hfz hbr HS.out hcr hfr HH.out rfl HZ1.out HD.out hd hb⟩, by simp [intOf]; omega⟩
      · obtain ⟨b2, o2, rfl, hyc⟩ := (hy.below hbr (Nat.le_refl _)).cell k hkm
        obtain ⟨z, hz1, hz2⟩ : ∃ z, z = nd xs k ∧ (0 : Int) = ((z : Nat) : Int) := ⟨_, rfl, by rw [nd_lt_len (by rw [hx.len]; exact hkn)]; rfl⟩
        have HZ1 := Lib.hid hz1
        have HZ2 := Lib.hid hz2
        have hz3 : z < 4294967296 := by omega
        clear hz1 hz2
        go_wp2_with (go_at_call 112; refine (sub1_any (x := z) (y := nd ys k) HZ2.out rfl hz3 hy1 hs1 hcr hfr).mono ?_; rintro e w' ⟨dd, bb, rfl, rfl, hd, hb, HD⟩)
        exact ⟨⟨k + 1, by omega, by go_num, each_nextS hcb hkL hfz hbr HS.out hcr hfr HH.out HZ1.out rfl HD.out hd hb⟩, by simp [intOf]; omega⟩
      · omega
    · obtain rfl : k = L := by omega
      go_wp2_with fail
      go_ret
      obtain ⟨zs, s, hfz, hbr, hszr, hcr, hfr, hs1, he⟩ := HE
      exact ⟨_, k, zs, s, rfl, hfz.mono (by omega), hL2, hbr, by omega, hcr, hfr, hs1, by show val zs + val ys = val xs + s * 4294967296 ^ zs.length; rw [hfz.len, ← val_le (xs := zs) (k := k) (by rw [hfz.len]; omega), ← HX.out, ← HY.out, he]⟩


set_option maxHeartbeats 1000000 in
theorem less_any {p q : Option Addr} {n m c d : Nat} {xs ys : List Nat} {w : World} (hx : Sl w p n c xs) (hy : Sl w q m d ys) (hn : n ≤ 8796093022208) (hm : m ≤ 8796093022208) (hle : val ys ≤ val xs) :
    Calls Try.prog 105 #[.slice p n c, .slice q m d] w (RetN w (lim (val xs - val ys))) := by
  go_enter Try.func105, Try.ntmps105
  go_wp2_with fail
  have hbw := (Below.refl w.heap.size w).alloc (Nat.le_refl _) (.cells #[.int .u32 0] 29)
  refine (trim_any (hx.below hbw (Nat.le_refl _))).mono ?_
  rintro e w1 ⟨n1, rfl, hx1, hn1, rfl⟩
  go_wp2_with fail
  refine (trim_any (hy.below hbw (Nat.le_refl _))).mono ?_
  rintro e w1 ⟨m1, rfl, hy1, hm1, rfl⟩
  go_wp2_with fail
  have hx2 := hx1.back hx hbw hn1
  have hy2 := hy1.back hy hbw hm1
  refine (eachSub_any hx2 hy2 (M := 8796093022208) (by omega) (by omega) (by omega) hbw (by simp) (by simp [World.cell?_alloc_new]) (by simp)).mono ?_
  rintro e w2 ⟨g, L, zs, s, rfl, hf2, hL, hb2, hsz2, hc2, hfr2, hs2, he2⟩
  go_wp2_with fail
  refine (own_any hf2.sl (by omega)).mono ?_
  rintro e w5 ⟨p5, n5, c5, rfl, hf5, hb5⟩
  go_wp2_with fail
  go_ret
  have e5 : val zs = val xs - val ys := by
    have := he2.out
    simp only [val_lim] at this
    exact less_val hf2.lims this hs2 hle
  rw [e5] at hf5
  exact ⟨p5, n5, c5, rfl, hf5.mono (by omega), hb2.trans (hb5.mono (by omega))⟩

end Go.Proofs.Ytlnilkghbbbhbaa
