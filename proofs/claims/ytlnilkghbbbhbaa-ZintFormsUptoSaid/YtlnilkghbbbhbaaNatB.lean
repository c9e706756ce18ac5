
/-
  The walks of nat.each with the two closures, nat.Add, nat.less.
-/
import Derived.Test.YtlnilkghbbbhbaaNatA
import Derived.Test.YtlnilkghbbbhbaaNum2
namespace Go.Proofs.Ytlnilkghbbbhbaa
open Go.RowKit

set_option maxHeartbeats 400000 in
theorem add1_any {x y s : Nat} {cb : Nat} {w : World} {X Y : Int} (hX : X = (x : Int)) (hY : Y = (y : Int)) (hx : x < 4294967296) (hy : y < 4294967296) (hs : s ≤ 1)
    (hc : w.cell? ⟨cb, 0, none⟩ = some (.int .u32 (s : Int))) (hf : w.frozen? ⟨cb, 0, none⟩ = false) :
    Calls Try.prog 88 #[.int .u32 X, .int .u32 Y, .pointer (some ⟨cb, 0, none⟩)] w
      fun e w' => e = .returned (.int .u32 (((x + y + s) % 4294967296 : Nat) : Int)) ∧ w.setCell ⟨cb, 0, none⟩ (.int .u32 (((x + y + s) / 4294967296 : Nat) : Int)) = w' := by
  subst hX
  subst hY
  go_enter Try.func88, Try.ntmps88
  go_wp2
  go_ret
  exact ⟨rfl, rfl⟩

/-- What each leaves: the row of the sums and the carry. -/
def RetEach (w0 : World) (M : Nat) (T : Nat) (e : Ending) (w' : World) : Prop :=
  ∃ g L ys s, e = .returned (.slice (some ⟨g, 0, none⟩) L (L + 1)) ∧ Fr (w0.heap.size + 1) w' (some ⟨g, 0, none⟩) L (L + 1) ys ∧ L ≤ M ∧ Below w0.heap.size w0 w' ∧ w0.heap.size + 1 < w'.heap.size ∧
    w'.cell? ⟨w0.heap.size, 0, none⟩ = some (.int .u32 ((s : Nat) : Int)) ∧ w'.frozen? ⟨w0.heap.size, 0, none⟩ = false ∧ s ≤ 1 ∧ Hid (val ys + s * 4294967296 ^ ys.length = T)

/-- What holds at the head of each's loop behind k rounds. -/
def EachAt (w0 w : World) (L : Nat) (xs ys : List Nat) (k : Nat) (wr : World) : Prop :=
  ∃ zs s, Fr w.heap.size wr (some ⟨w.heap.size, 0, none⟩) L (L + 1) zs ∧ Below w0.heap.size w0 wr ∧ wr.heap.size = w.heap.size + 1 ∧
    wr.cell? ⟨w0.heap.size, 0, none⟩ = some (.int .u32 ((s : Nat) : Int)) ∧ wr.frozen? ⟨w0.heap.size, 0, none⟩ = false ∧ s ≤ 1 ∧ sm (nd zs) k + s * 4294967296 ^ k = sm (nd xs) k + sm (nd ys) k

theorem each_next {w0 w wr : World} {L k x y s : Nat} {xs ys zs : List Nat} (hcb : w0.heap.size < w.heap.size) (hk : k < L)
    (hfz : Fr w.heap.size wr (some ⟨w.heap.size, 0, none⟩) L (L + 1) zs) (hb : Below w0.heap.size w0 wr) (hsz : wr.heap.size = w.heap.size + 1)
    (hc : wr.cell? ⟨w0.heap.size, 0, none⟩ = some (.int .u32 ((s : Nat) : Int))) (hf : wr.frozen? ⟨w0.heap.size, 0, none⟩ = false) (hs : s ≤ 1) (he : sm (nd zs) k + s * 4294967296 ^ k = sm (nd xs) k + sm (nd ys) k)
    (hx : x = nd xs k) (hy : y = nd ys k) (hx2 : x < 4294967296) (hy2 : y < 4294967296) :
    EachAt w0 w L xs ys (k + 1) ((wr.setCell ⟨w0.heap.size, 0, none⟩ (.int .u32 (((x + y + s) / 4294967296 : Nat) : Int))).setCell ⟨w.heap.size, k, none⟩ (.int .u32 (((x + y + s) % 4294967296 : Nat) : Int))) := by
  have h1 : ((wr.setCell ⟨w0.heap.size, 0, none⟩ (.int .u32 (((x + y + s) / 4294967296 : Nat) : Int))).setCell ⟨w.heap.size, k, none⟩ (.int .u32 (((x + y + s) % 4294967296 : Nat) : Int))).cell? ⟨w0.heap.size, 0, none⟩ = some (.int .u32 (((x + y + s) / 4294967296 : Nat) : Int)) := by
    rw [World.cell?_of_block (w := wr.setCell ⟨w0.heap.size, 0, none⟩ (.int .u32 (((x + y + s) / 4294967296 : Nat) : Int))) (Below.heap_setCell _ _ _ _ (by simp; omega))]
    exact World.cell?_setCell_same' _ _ _ (by rw [hc]; rfl)
  refine ⟨zs.set k ((x + y + s) % 4294967296), (x + y + s) / 4294967296, Fr.set (hfz.setOther (a := ⟨w0.heap.size, 0, none⟩) (by intro g hg; simp at hg; subst hg; simp; omega) _) k (by omega), ?_, ?_, h1, ?_, by omega, ?_⟩
  · exact (hb.setCell (p := ⟨w0.heap.size, 0, none⟩) (Nat.le_refl _) _).setCell (p := ⟨w.heap.size, k, none⟩) (by simp; omega) _
  · simpa using hsz
  · rw [World.frozen?_setCell, World.frozen?_setCell]; exact hf
  · have := add_step (x := x) (y := y) hk hfz.len he
    rw [this]
    rw [hx, hy]
    rfl

set_option maxHeartbeats 1000000 in
theorem eachAdd_any {p q : Option Addr} {n m c d : Nat} {xs ys : List Nat} {w0 w : World} (hx : Sl w0 p n c xs) (hy : Sl w0 q m d ys) {M : Nat} (hn : n ≤ M) (hm : m ≤ M) (hM : M ≤ 17592186044416)
    (hb0 : Below w0.heap.size w0 w) (hcb : w0.heap.size < w.heap.size) (hc : w.cell? ⟨w0.heap.size, 0, none⟩ = some (.int .u32 0)) (hf : w.frozen? ⟨w0.heap.size, 0, none⟩ = false) :
    Calls Try.prog 86 #[.slice p n c, .slice q m d, .func (.func 88) #[] #[.pointer (some ⟨w0.heap.size, 0, none⟩)]] w (RetEach w0 M (val xs + val ys)) := by
  have hmx := run_nmax n m
  have hL := nmax_le n m
  have hL3 := nmax_or n m
  have hL2 := nmax_bd hn hm
  have HX : Hid (sm (nd xs) (nmax n m) = val xs) := val_le (by rw [hx.len]; omega)
  have HY : Hid (sm (nd ys) (nmax n m) = val ys) := val_le (by rw [hy.len]; omega)
  go_enter Try.func86, Try.ntmps86
  generalize nmax n m = L at *
  go_wp2_with (at_make; refine wp_make32c _ rfl _ _ _ rfl Try.underlying23 _ _ _ _ L (L + 1) rfl rfl rfl rfl (Nat.le_succ _) (by omega) w.heap.size w (Below.refl _ _) (Nat.le_refl _) ?_; intro w1 hf1 hb1 hb2 hsz1)
  clear hmx
  have hcell1 := (below_cell hb1).1 w0.heap.size 0 (by omega)
  have hfroz1 := (below_cell hb1).2 w0.heap.size 0 (by omega)
  rw [hc] at hcell1
  rw [hf] at hfroz1
  have H0 : EachAt w0 w L xs ys 0 w1 := ⟨_, 0, hf1, hb0.trans (hb1.mono (by omega)), hsz1, hcell1, hfroz1, by omega, rfl⟩
  clear hcell1 hfroz1 hf1 hb1 hb2 hsz1 hc hf
  go_loopw [23] (fun v wr => ∃ k : Nat, k ≤ L ∧ v = .int .i64 k ∧ EachAt w0 w L xs ys k wr) (fun v _ => L - (intOf v).toNat)
  case atStart => exact ⟨0, by omega, rfl, H0⟩
  case round =>
    clear H0
    obtain ⟨k, hk, rfl, HE⟩ := hrel
    by_cases hkL : k < L
    · obtain ⟨zs, s, hfz, hbr, hszr, hcr, hfr, hs1, he⟩ := HE
      have HH := Lib.hid he
      clear he
      have hzc := hfz.cellAt hkL
      have hzf := hfz.frozenAt k
      have hx1 := hx.lim1 k
      have hy1 := hy.lim1 k
      have hne1 : w.heap.size ≠ w0.heap.size := by omega
      have hne2 : w0.heap.size ≠ w.heap.size := by omega
      have HS := Lib.hid hszr
      clear hszr
      rcases Nat.lt_or_ge k n with hkn | hkn
      all_goals rcases Nat.lt_or_ge k m with hkm | hkm
      · obtain ⟨b1, o1, rfl, hxc⟩ := (hx.below hbr (Nat.le_refl _)).cell k hkn
        obtain ⟨b2, o2, rfl, hyc⟩ := (hy.below hbr (Nat.le_refl _)).cell k hkm
        go_wp2_with (go_at_call 88; refine (add1_any (x := nd xs k) (y := nd ys k) rfl rfl hx1 hy1 hs1 hcr hfr).mono ?_; rintro e w' ⟨rfl, rfl⟩)
        exact ⟨⟨k + 1, by omega, by go_num, each_next hcb hkL hfz hbr HS.out hcr hfr hs1 HH.out rfl rfl hx1 hy1⟩, by simp [intOf]; omega⟩
      · obtain ⟨b1, o1, rfl, hxc⟩ := (hx.below hbr (Nat.le_refl _)).cell k hkn
        obtain ⟨z, hz1, hz2⟩ : ∃ z, z = nd ys k ∧ (0 : Int) = ((z : Nat) : Int) := ⟨_, rfl, by rw [nd_lt_len (by rw [hy.len]; exact hkm)]; rfl⟩
        have HZ1 := Lib.hid hz1
        have HZ2 := Lib.hid hz2
        have hz3 : z < 4294967296 := by omega
        clear hz1 hz2
        go_wp2_with (go_at_call 88; refine (add1_any (x := nd xs k) (y := z) rfl HZ2.out hx1 hz3 hs1 hcr hfr).mono ?_; rintro e w' ⟨rfl, rfl⟩)
        exact ⟨⟨k + 1, by omega, by go_num, each_next hcb hkL hfz hbr HS.out hcr hfr hs1 HH.out rfl HZ1.out hx1 hz3⟩, by simp [intOf]; omega⟩
      · obtain ⟨b2, o2, rfl, hyc⟩ := (hy.below hbr (Nat.le_refl _)).cell k hkm
        obtain ⟨z, hz1, hz2⟩ : ∃ z, z = nd xs k ∧ (0 : Int) = ((z : Nat) : Int) := ⟨_, rfl, by rw [nd_lt_len (by rw [hx.len]; exact hkn)]; rfl⟩
        have HZ1 := Lib.hid hz1
        have HZ2 := Lib.hid hz2
        have hz3 : z < 4294967296 := by omega
        clear hz1 hz2
        go_wp2_with (go_at_call 88; refine (add1_any (x := z) (y := nd ys k) HZ2.out rfl hz3 hy1 hs1 hcr hfr).mono ?_; rintro e w' ⟨rfl, rfl⟩)
        exact ⟨⟨k + 1, by omega, by go_num, each_next hcb hkL hfz hbr HS.out hcr hfr hs1 HH.out HZ1.out rfl hz3 hy1⟩, by simp [intOf]; omega⟩
      · omega
    · obtain rfl : k = L := by omega
      go_wp2_with fail
      go_ret
      obtain ⟨zs, s, hfz, hbr, hszr, hcr, hfr, hs1, he⟩ := HE
      exact ⟨_, k, zs, s, rfl, hfz.mono (by omega), hL2, hbr, by omega, hcr, hfr, hs1, by show val zs + s * 4294967296 ^ zs.length = _; rw [hfz.len, ← val_le (xs := zs) (k := k) (by rw [hfz.len]; omega), he, HX.out, HY.out]⟩

end Go.Proofs.Ytlnilkghbbbhbaa
