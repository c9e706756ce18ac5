
/-
  The walks of nat.Add, nat.less, nat.Cmp, nat.Sub.
-/
import Derived.Test.YtlnilkghbbbhbaaNatB
namespace Go.Proofs.Ytlnilkghbbbhbaa
open Go.RowKit

set_option maxHeartbeats 1000000 in
theorem add_any {p q : Option Addr} {n m c d : Nat} {xs ys : List Nat} {w : World} (hx : Sl w p n c xs) (hy : Sl w q m d ys) (hn : n ≤ 8796093022208) (hm : m ≤ 8796093022208) :
    Calls Try.prog 59 #[.slice p n c, .slice q m d] w (RetN w (lim (val xs + val ys))) := by
  go_enter Try.func59, Try.ntmps59
  go_wp2_with fail
  have hbw := (Below.refl w.heap.size w).alloc (Nat.le_refl _) (.cells #[.int .u32 0] 29)
  refine (trim_any (hx.below hbw (Nat.le_refl _))).mono ?_
  rintro e w1 ⟨n1, rfl, hx1, hn1, rfl⟩
  go_wp2_with fail
  refine (trim_any (hy.below hbw (Nat.le_refl _))).mono ?_
  rintro e w1 ⟨m1, rfl, hy1, hm1, rfl⟩
  go_wp2_with fail
  have hx2 := hx1.back hx hbw hn1
  have hy2 := hy1.back hy hbw hm1
  refine (eachAdd_any hx2 hy2 (M := 8796093022208) (by omega) (by omega) (by omega) hbw (by simp) (by simp [World.cell?_alloc_new]) (by simp)).mono ?_
  rintro e w2 ⟨g, L, zs, s, rfl, hf2, hL, hb2, hsz2, hc2, hfr2, hs2, he2⟩
  have hs3 : s < 4294967296 := by omega
  have hf3 := hf2.below ((Below.refl w2.heap.size w2).alloc (Nat.le_refl _) (.cells #[.int .u32 (s : Int)] 29)) (Nat.le_refl _)
  have hb3 := hb2.alloc (by omega) (.cells #[.int .u32 (s : Int)] 29)
  have hy3 := Sl.single w2 s hs3
  go_wp2_with (at_builtin; refine wp_append32 _ rfl _ _ _ rfl Try.underlying23 (w.heap.size + 1) _ L _ zs rfl hf3 _ 1 _ [s] rfl hy3 (by omega) hb3 (by omega) (by simp; omega) ?_; intro p4 c4 w4 hf4 hg4 hb4)
  refine (own_any hf4.sl (by omega)).mono ?_
  rintro e w5 ⟨p5, n5, c5, rfl, hf5, hb5⟩
  go_wp2_with fail
  go_ret
  have e5 : val (zs ++ [s]) = val xs + val ys := by rw [val_append, val_single, Nat.mul_comm, he2.out, val_lim, val_lim]
  rw [e5] at hf5
  exact ⟨p5, n5, c5, rfl, hf5.mono hb4.size, hb4.trans (hb5.mono hb4.size)⟩
end Go.Proofs.Ytlnilkghbbbhbaa
