/-
  The walk of similelaw01.NatDivides.
-/
import Derived.Test.YtgemncfpehmdeaaNatJ
import Derived.Test.YtgemncfpehmdeaaRefG
namespace Go.Proofs.Ytgemncfpehmdeaa
open Go.RowKit

set_option maxHeartbeats 8000000 in
theorem divides_zero {p q : Option Addr} {n m c d : Nat} {xs ys : List Nat} {w : World} (hx : Sl w p n c xs) (hy : Sl w q m d ys) (hn : n ≤ 1048576) (hm : m ≤ 1048576) (hcase : val ys = 0) :
    Calls Try.prog 4 #[.slice p n c, .slice q m d] w (RetB w true) := by
  have HC := Lib.hid hcase
  clear hcase
  have hb : Below w.heap.size w w := Below.refl _ _
  go_enter Try.func4, Try.ntmps4
  go_wp2_with fail
  refine (lend_any hx (by omega)).mono ?_
  rintro e w1 ⟨gw, rfl, hfw, hlp, hb1⟩
  replace hx := hx.below hb1 (Nat.le_refl _)
  replace hy := hy.below hb1 (Nat.le_refl _)
  replace hb := hb.trans (hb1.mono hb.size)
  clear hb1
  go_wp2_with fail
  refine (lend_any hy (by omega)).mono ?_
  rintro e w2 ⟨gv, rfl, hfv, hlq, hb2⟩
  replace hx := hx.below hb2 (Nat.le_refl _)
  replace hy := hy.below hb2 (Nat.le_refl _)
  replace hfw := hfw.below hb2 (Nat.le_refl _)
  replace hlp := hlp.below hb2 (Nat.le_refl _)
  replace hb := hb.trans (hb2.mono hb.size)
  clear hb2
  go_wp2_with fail
  refine (div_zero hlp hlq HC.out).mono ?_
  rintro e w3 ⟨pq, nq, cq, pr, nr, cr, rfl, hq, hr, hb3⟩
  replace hx := hx.below hb3 (Nat.le_refl _)
  replace hy := hy.below hb3 (Nat.le_refl _)
  replace hfw := hfw.below hb3 (Nat.le_refl _)
  replace hlp := hlp.below hb3 (Nat.le_refl _)
  replace hfv := hfv.below hb3 (Nat.le_refl _)
  replace hlq := hlq.below hb3 (Nat.le_refl _)
  replace hb := hb.trans (hb3.mono hb.size)
  clear hb3
  obtain rfl : nq = 0 := hq.sl.lln
  obtain rfl : nr = 0 := hr.sl.lln
  clear hq hr
  go_wp2_with fail
  refine (gcd_any hlp hlq (by omega) (by omega)).mono ?_
  rintro e w4 ⟨pg, ng, cg, rfl, hg, hb4⟩
  clear hlp hlq
  replace hx := hx.below hb4 (Nat.le_refl _)
  replace hy := hy.below hb4 (Nat.le_refl _)
  replace hfw := hfw.below hb4 (Nat.le_refl _)
  replace hfv := hfv.below hb4 (Nat.le_refl _)
  replace hb := hb.trans (hb4.mono hb.size)
  clear hb4
  go_wp2_with fail
  refine (rgcd_any hx hy (by omega) (by omega)).mono ?_
  rintro e w5 ⟨pk, nk, ck, rfl, hk, hb5⟩
  replace hx := hx.below hb5 (Nat.le_refl _)
  replace hy := hy.below hb5 (Nat.le_refl _)
  replace hfw := hfw.below hb5 (Nat.le_refl _)
  replace hfv := hfv.below hb5 (Nat.le_refl _)
  replace hg := hg.below hb5 (Nat.le_refl _)
  replace hb := hb.trans (hb5.mono hb.size)
  clear hb5
  go_wp2_with fail
  refine (same_yes hg.sl hk.sl).mono ?_
  rintro e w6 ⟨rfl, hb6⟩
  clear hg hk
  replace hx := hx.below hb6 (Nat.le_refl _)
  replace hy := hy.below hb6 (Nat.le_refl _)
  replace hfw := hfw.below hb6 (Nat.le_refl _)
  replace hfv := hfv.below hb6 (Nat.le_refl _)
  replace hb := hb.trans (hb6.mono hb.size)
  clear hb6
  go_wp2_with fail
  refine (kept_any hfw.sl hx (by omega)).mono ?_
  rintro e w7 ⟨rfl, hb7⟩
  clear hx hfw
  replace hy := hy.below hb7 (Nat.le_refl _)
  replace hfv := hfv.below hb7 (Nat.le_refl _)
  replace hb := hb.trans (hb7.mono hb.size)
  clear hb7
  go_wp2_with fail
  refine (kept_any hfv.sl hy (by omega)).mono ?_
  rintro e w8 ⟨rfl, hb8⟩
  clear hfv
  replace hy := hy.below hb8 (Nat.le_refl _)
  replace hb := hb.trans (hb8.mono hb.size)
  clear hb8
  go_wp2_with fail
  refine (zero_yes hy HC.out).mono ?_
  rintro e w9 ⟨rfl, hb9⟩
  clear hy
  replace hb := hb.trans (hb9.mono hb.size)
  clear hb9
  go_wp2_with fail
  refine (lives_any).mono ?_
  rintro e w10 ⟨rfl, hb10⟩
  replace hb := hb.trans (hb10.mono hb.size)
  clear hb10
  go_wp2_with fail
  go_ret
  exact ⟨rfl, hb⟩

set_option maxHeartbeats 8000000 in
theorem divides_ok {p q : Option Addr} {n m c d : Nat} {xs ys : List Nat} {w : World} (hx : Sl w p n c xs) (hy : Sl w q m d ys) (hn : n ≤ 1048576) (hm : m ≤ 1048576) (hcase : val ys ≠ 0) :
    Calls Try.prog 4 #[.slice p n c, .slice q m d] w (RetB w true) := by
  have HC := Lib.hid hcase
  clear hcase
  have hb : Below w.heap.size w w := Below.refl _ _
  go_enter Try.func4, Try.ntmps4
  go_wp2_with fail
  refine (lend_any hx (by omega)).mono ?_
  rintro e w1 ⟨gw, rfl, hfw, hlp, hb1⟩
  replace hx := hx.below hb1 (Nat.le_refl _)
  replace hy := hy.below hb1 (Nat.le_refl _)
  replace hb := hb.trans (hb1.mono hb.size)
  clear hb1
  go_wp2_with fail
  refine (lend_any hy (by omega)).mono ?_
  rintro e w2 ⟨gv, rfl, hfv, hlq, hb2⟩
  replace hx := hx.below hb2 (Nat.le_refl _)
  replace hy := hy.below hb2 (Nat.le_refl _)
  replace hfw := hfw.below hb2 (Nat.le_refl _)
  replace hlp := hlp.below hb2 (Nat.le_refl _)
  replace hb := hb.trans (hb2.mono hb.size)
  clear hb2
  go_wp2_with fail
  refine (div_any hlp hlq (by omega) (by omega) HC.out).mono ?_
  rintro e w3 ⟨pq, nq, cq, pr, nr, cr, rfl, hq, hr, hb3⟩
  replace hx := hx.below hb3 (Nat.le_refl _)
  replace hy := hy.below hb3 (Nat.le_refl _)
  replace hfw := hfw.below hb3 (Nat.le_refl _)
  replace hlp := hlp.below hb3 (Nat.le_refl _)
  replace hfv := hfv.below hb3 (Nat.le_refl _)
  replace hlq := hlq.below hb3 (Nat.le_refl _)
  replace hb := hb.trans (hb3.mono hb.size)
  clear hb3
  go_wp2_with fail
  refine (gcd_any hlp hlq (by omega) (by omega)).mono ?_
  rintro e w4 ⟨pg, ng, cg, rfl, hg, hb4⟩
  clear hlp hlq
  replace hx := hx.below hb4 (Nat.le_refl _)
  replace hy := hy.below hb4 (Nat.le_refl _)
  replace hfw := hfw.below hb4 (Nat.le_refl _)
  replace hfv := hfv.below hb4 (Nat.le_refl _)
  replace hq := hq.below hb4 (Nat.le_refl _)
  replace hr := hr.below hb4 (Nat.le_refl _)
  replace hb := hb.trans (hb4.mono hb.size)
  clear hb4
  go_wp2_with fail
  refine (rgcd_any hx hy (by omega) (by omega)).mono ?_
  rintro e w5 ⟨pk, nk, ck, rfl, hk, hb5⟩
  replace hx := hx.below hb5 (Nat.le_refl _)
  replace hy := hy.below hb5 (Nat.le_refl _)
  replace hfw := hfw.below hb5 (Nat.le_refl _)
  replace hfv := hfv.below hb5 (Nat.le_refl _)
  replace hq := hq.below hb5 (Nat.le_refl _)
  replace hr := hr.below hb5 (Nat.le_refl _)
  replace hg := hg.below hb5 (Nat.le_refl _)
  replace hb := hb.trans (hb5.mono hb.size)
  clear hb5
  go_wp2_with fail
  refine (same_yes hg.sl hk.sl).mono ?_
  rintro e w6 ⟨rfl, hb6⟩
  clear hg hk
  replace hx := hx.below hb6 (Nat.le_refl _)
  replace hy := hy.below hb6 (Nat.le_refl _)
  replace hfw := hfw.below hb6 (Nat.le_refl _)
  replace hfv := hfv.below hb6 (Nat.le_refl _)
  replace hq := hq.below hb6 (Nat.le_refl _)
  replace hr := hr.below hb6 (Nat.le_refl _)
  replace hb := hb.trans (hb6.mono hb.size)
  clear hb6
  go_wp2_with fail
  refine (kept_any hfw.sl hx (by omega)).mono ?_
  rintro e w7 ⟨rfl, hb7⟩
  clear hfw
  replace hx := hx.below hb7 (Nat.le_refl _)
  replace hy := hy.below hb7 (Nat.le_refl _)
  replace hfv := hfv.below hb7 (Nat.le_refl _)
  replace hq := hq.below hb7 (Nat.le_refl _)
  replace hr := hr.below hb7 (Nat.le_refl _)
  replace hb := hb.trans (hb7.mono hb.size)
  clear hb7
  go_wp2_with fail
  refine (kept_any hfv.sl hy (by omega)).mono ?_
  rintro e w8 ⟨rfl, hb8⟩
  clear hfv
  replace hx := hx.below hb8 (Nat.le_refl _)
  replace hy := hy.below hb8 (Nat.le_refl _)
  replace hq := hq.below hb8 (Nat.le_refl _)
  replace hr := hr.below hb8 (Nat.le_refl _)
  replace hb := hb.trans (hb8.mono hb.size)
  clear hb8
  go_wp2_with fail
  refine (zero_no hy HC.out).mono ?_
  rintro e w9 ⟨rfl, hb9⟩
  replace hx := hx.below hb9 (Nat.le_refl _)
  replace hy := hy.below hb9 (Nat.le_refl _)
  replace hq := hq.below hb9 (Nat.le_refl _)
  replace hr := hr.below hb9 (Nat.le_refl _)
  replace hb := hb.trans (hb9.mono hb.size)
  clear hb9
  go_wp2_with fail
  refine (rdiv_any hx hy (by omega) (by omega) HC.out).mono ?_
  rintro e w10 ⟨pa, na, ca, pz, nz, cz, rfl, ha, hz, hb10⟩
  clear hx hy
  replace hq := hq.below hb10 (Nat.le_refl _)
  replace hr := hr.below hb10 (Nat.le_refl _)
  replace hb := hb.trans (hb10.mono hb.size)
  clear hb10
  go_wp2_with fail
  refine (same_yes hq.sl ha.sl).mono ?_
  rintro e w11 ⟨rfl, hb11⟩
  clear hq ha
  replace hr := hr.below hb11 (Nat.le_refl _)
  replace hz := hz.below hb11 (Nat.le_refl _)
  replace hb := hb.trans (hb11.mono hb.size)
  clear hb11
  go_wp2_with fail
  refine (same_yes hr.sl hz.sl).mono ?_
  rintro e w12 ⟨rfl, hb12⟩
  clear hr hz
  replace hb := hb.trans (hb12.mono hb.size)
  clear hb12
  go_wp2_with fail
  refine (lives_any).mono ?_
  rintro e w13 ⟨rfl, hb13⟩
  replace hb := hb.trans (hb13.mono hb.size)
  clear hb13
  go_wp2_with fail
  go_ret
  exact ⟨rfl, hb⟩

/-- The law, of any two numbers of at most so many limbs. -/
theorem divides_any {p q : Option Addr} {n m c d : Nat} {xs ys : List Nat} {w : World} (hx : Sl w p n c xs) (hy : Sl w q m d ys) (hn : n ≤ 1048576) (hm : m ≤ 1048576) :
    Calls Try.prog 4 #[.slice p n c, .slice q m d] w (RetB w true) := by
  by_cases h : val ys = 0
  · exact divides_zero hx hy hn hm h
  · exact divides_ok hx hy hn hm h

end Go.Proofs.Ytgemncfpehmdeaa
