
/-
  The walk of similelaw03.ZintCommon.
-/
import Derived.Test.YtlnilkghbbbhbaaZCopy
import Derived.Test.YtlnilkghbbbhbaaZComA
import Derived.Test.YtlnilkghbbbhbaaZSameAll
set_option linter.unusedVariables false
set_option linter.unusedSimpArgs false
namespace Go.Proofs.Ytlnilkghbbbhbaa
open Go.RowKit

theorem pre_sum (L : List (Bool × List Nat)) (i : Nat) : ((L.take i).map fun e => e.2.length).sum ≤ (L.map fun e => e.2.length + 1).sum := by
  induction L generalizing i with
  | nil => simp
  | cons x l ih =>
    cases i with
    | zero => simp
    | succ i =>
      simp only [List.take_succ_cons, List.map_cons, List.sum_cons]
      have := ih i
      omega
theorem take_get (L : List (Bool × List Nat)) (i : Nat) {e : Bool × List Nat} (h : L[i]? = some e) : ((L.take (i + 1)).map fun e => e.2.length).sum = ((L.take i).map fun e => e.2.length).sum + e.2.length := by
  rw [List.take_add_one, h]
  simp
theorem ZL.wdAt {w : World} {p : Option Addr} {m K : Nat} {L : List (Bool × List Nat)} (h : ZL w p m L K) {i : Nat} {e : Bool × List Nat} (he : L[i]? = some e) : Wd (zvr e) e.2.length := by
  obtain ⟨g, off, q, n, k, hp, h1, h2, h3, h4⟩ := h.2.2 i e he
  have hz : Zr w e.1 q n k (zvr e) e.2.length := ⟨_, h3, rfl, by rw [h3.len]; exact Nat.le_refl _⟩
  exact hz.wd
theorem ZL.some {w : World} {p : Option Addr} {m K : Nat} {L : List (Bool × List Nat)} (h : ZL w p m L K) {i : Nat} (hi : i < m) : ∃ e, L[i]? = some e ∧ (L.map zvr)[i]? = some (zvr e) := by
  have hl : i < L.length := by rw [← h.1]; exact hi
  exact ⟨L[i], List.getElem?_eq_getElem hl, by rw [List.getElem?_map, List.getElem?_eq_getElem hl]; rfl⟩
theorem facc_prod_wd {w : World} {p : Option Addr} {m K : Nat} {L : List (Bool × List Nat)} (h : ZL w p m L K) : ∀ i, i ≤ m → Wd (facc (· * ·) 1 (L.map zvr) i) (2 + ((L.take i).map fun e => e.2.length).sum) := by
  intro i
  induction i with
  | zero => intro _; exact (Wd.i64 (z := 1) (by omega) (by omega)).mono (by omega)
  | succ i ih =>
    intro hi
    obtain ⟨e, he, hz⟩ := h.some (i := i) (by omega)
    rw [facc_succ hz, take_get L i he]
    exact Wd.mul (ih (by omega)) (h.wdAt he) rfl (by omega)
theorem facc_lcm_wd {w : World} {p : Option Addr} {m K : Nat} {L : List (Bool × List Nat)} (h : ZL w p m L K) : ∀ i, i ≤ m → Wd (facc lcmZ 1 (L.map zvr) i) (2 + ((L.take i).map fun e => e.2.length).sum) := by
  intro i
  induction i with
  | zero => intro _; exact (Wd.i64 (z := 1) (by omega) (by omega)).mono (by omega)
  | succ i ih =>
    intro hi
    obtain ⟨e, he, hz⟩ := h.some (i := i) (by omega)
    rw [facc_succ hz, take_get L i he]
    exact Wd.lcm (ih (by omega)) (h.wdAt he) rfl (by omega)

set_option maxRecDepth 100000 in
set_option maxHeartbeats 16000000 in
theorem zcommon_any {w : World} {pl : Option Addr} {m cl : Nat} {L : List (Bool × List Nat)} (hx : ZL w pl m L 67108864) (hb : (L.map fun e => e.2.length + 1).sum ≤ 1048576) :
    Calls Try.prog 7 #[.slice pl m cl] w (Ret (Is (.bool true)) w) := by
  have hG : ∀ i, i ≤ m → Wd (facc gcdZ 0 (L.map zvr) i) 1073741824 := fun i hi => (facc_gcd_wd hx.zs i hi).mono (by omega)
  have hA : ∀ i, i ≤ m → Wd (facc (· + ·) 0 (L.map zvr) i) 1073741824 := fun i hi => (facc_sum_wd hx.zs i hi).mono (by have := hx.2.1; omega)
  have hWP : ∀ i, i ≤ m → Wd (facc (· * ·) 1 (L.map zvr) i) 1073741824 := fun i hi => (facc_prod_wd hx i hi).mono (by have := pre_sum L i; omega)
  have hWL : ∀ i, i ≤ m → Wd (facc lcmZ 1 (L.map zvr) i) 1073741824 := fun i hi => (facc_lcm_wd hx i hi).mono (by have := pre_sum L i; omega)
  have hS := Sep.init w
  refine went Try.func7 rfl (n := 42) rfl rfl ?_
  refine wseq ?_
  refine wreg ?_
  refine wl rfl (oassign (v := .bool false) rfl rfl (evc (v := .bool false)) ?_)
  refine wnil ?_
  refine thenN ?_
  refine wseq ?_
  refine wreg ?_
  refine wl rfl (omove (v := .slice pl m cl) rfl rfl (ev (v := .slice pl m cl) rfl rfl) ?_)
  refine wl rfl (ocall rfl rfl Try.call44 rfl (wqCopyAll (hx.at hS)) (args1 (ev rfl rfl)) ?_)
  rintro _ w1 ⟨_, _, rfl, ⟨gL, esL, hzL, rfl, rfl⟩, hN⟩
  refine ⟨_, rfl, ?_⟩
  replace hS := hS.news hN; clear hN
  refine wl rfl (oassign (v := .slice (some ⟨gL, 0, none⟩) m m) rfl rfl (ev (v := .slice (some ⟨gL, 0, none⟩) m m) rfl rfl) ?_)
  refine wnil ?_
  refine thenN ?_
  refine wseq ?_
  refine wreg ?_
  refine wl rfl (omove (v := .slice (some ⟨gL, 0, none⟩) m m) rfl rfl (ev (v := .slice (some ⟨gL, 0, none⟩) m m) rfl rfl) ?_)
  obtain ⟨z1, hz1⟩ : ∃ z : Int, Hid (facc gcdZ 0 (L.map zvr) m = z) := ⟨_, rfl⟩
  have hk1 : Wd z1 1073741824 := hz1.out ▸ (hG m (Nat.le_refl _))
  refine wl rfl (ocall rfl rfl Try.call45 rfl (wzGcd ((hS.zl 0 rfl hzL hx.1 hx.2.1 hx.bd).zs) hz1) (args1 (ev rfl rfl)) ?_)
  rintro _ w2 ⟨_, _, rfl, ⟨p1, n1, c1, rfl, rfl⟩, hN⟩
  refine ⟨_, rfl, ?_⟩
  replace hS := hS.news hN; clear hN
  refine wl rfl (omove (v := .slice pl m cl) rfl rfl (ev (v := .slice pl m cl) rfl rfl) ?_)
  obtain ⟨z2, hz2⟩ : ∃ z : Int, Hid (facc gcdZ 0 (L.map zvr) m = z) := ⟨_, rfl⟩
  have hk2 : Wd z2 1073741824 := hz2.out ▸ (hG m (Nat.le_refl _))
  refine wl rfl (ocall rfl rfl Try.call46 rfl (wqGcdAll ((hx.at hS).zs) hz2) (args1 (ev rfl rfl)) ?_)
  rintro _ w3 ⟨_, _, rfl, ⟨p2, n2, c2, rfl, rfl⟩, hN⟩
  refine ⟨_, rfl, ?_⟩
  replace hS := hS.news hN; clear hN
  refine wl rfl (ocall rfl rfl Try.call13 rfl (wlsame (x := z1) (y := z2) (hS.sl 1 rfl) (hS.sl 0 rfl) ((hz1.out.symm).trans (hz2.out.symm).symm)) (args2 (ev rfl rfl) (ev rfl rfl)) ?_)
  rintro _ w4 ⟨_, _, rfl, ⟨rfl, rfl⟩, hN⟩
  refine ⟨_, rfl, ?_⟩
  replace hS := hS.news hN; clear hN
  refine wl rfl (omove (v := .bool true) rfl rfl (ev (v := .bool true) rfl rfl) ?_)
  refine wlOn (e := 12) rfl rfl rfl rfl (omove (v := .slice (some ⟨gL, 0, none⟩) m m) rfl rfl (ev (v := .slice (some ⟨gL, 0, none⟩) m m) rfl rfl) ?_)
  obtain ⟨z3, hz3⟩ : ∃ z : Int, Hid (facc lcmZ 1 (L.map zvr) m = z) := ⟨_, rfl⟩
  have hk3 : Wd z3 1073741824 := hz3.out ▸ (hWL m (Nat.le_refl _))
  refine wlOn (e := 12) rfl rfl rfl rfl (ocall rfl rfl Try.call47 rfl (wzLcm ((hS.zl 2 rfl hzL hx.1 hx.2.1 hx.bd).zs) hWL hz3) (args1 (ev rfl rfl)) ?_)
  rintro _ w5 ⟨_, _, rfl, ⟨p3, n3, c3, rfl, rfl⟩, hN⟩
  refine ⟨_, rfl, ?_⟩
  replace hS := hS.news hN; clear hN
  refine wlOn (e := 12) rfl rfl rfl rfl (omove (v := .slice pl m cl) rfl rfl (ev (v := .slice pl m cl) rfl rfl) ?_)
  obtain ⟨z4, hz4⟩ : ∃ z : Int, Hid (facc lcmZ 1 (L.map zvr) m = z) := ⟨_, rfl⟩
  have hk4 : Wd z4 1073741824 := hz4.out ▸ (hWL m (Nat.le_refl _))
  refine wlOn (e := 12) rfl rfl rfl rfl (ocall rfl rfl Try.call48 rfl (wqLcm ((hx.at hS).zs) hWL hz4) (args1 (ev rfl rfl)) ?_)
  rintro _ w6 ⟨_, _, rfl, ⟨p4, n4, c4, rfl, rfl⟩, hN⟩
  refine ⟨_, rfl, ?_⟩
  replace hS := hS.news hN; clear hN
  refine wlOn (e := 12) rfl rfl rfl rfl (ocall rfl rfl Try.call13 rfl (wlsame (x := z3) (y := z4) (hS.sl 1 rfl) (hS.sl 0 rfl) ((hz3.out.symm).trans (hz4.out.symm).symm)) (args2 (ev rfl rfl) (ev rfl rfl)) ?_)
  rintro _ w7 ⟨_, _, rfl, ⟨rfl, rfl⟩, hN⟩
  refine ⟨_, rfl, ?_⟩
  replace hS := hS.news hN; clear hN
  refine wl rfl (opick (b := true) (v := .bool true) rfl rfl (ev (v := .bool true) rfl rfl) (ev (v := .bool true) rfl rfl) ?_)
  refine wl rfl (omove (v := .bool true) rfl rfl (ev (v := .bool true) rfl rfl) ?_)
  refine wlOn (e := 19) rfl rfl rfl rfl (omove (v := .slice (some ⟨gL, 0, none⟩) m m) rfl rfl (ev (v := .slice (some ⟨gL, 0, none⟩) m m) rfl rfl) ?_)
  obtain ⟨z5, hz5⟩ : ∃ z : Int, Hid (facc (· + ·) 0 (L.map zvr) m = z) := ⟨_, rfl⟩
  have hk5 : Wd z5 1073741824 := hz5.out ▸ (hA m (Nat.le_refl _))
  refine wlOn (e := 19) rfl rfl rfl rfl (ocall rfl rfl Try.call49 rfl (wzSum ((hS.zl 4 rfl hzL hx.1 hx.2.1 hx.bd).zs) hz5) (args1 (ev rfl rfl)) ?_)
  rintro _ w8 ⟨_, _, rfl, ⟨p5, n5, c5, rfl, rfl⟩, hN⟩
  refine ⟨_, rfl, ?_⟩
  replace hS := hS.news hN; clear hN
  refine wlOn (e := 19) rfl rfl rfl rfl (omove (v := .slice pl m cl) rfl rfl (ev (v := .slice pl m cl) rfl rfl) ?_)
  obtain ⟨z6, hz6⟩ : ∃ z : Int, Hid (facc (· + ·) 0 (L.map zvr) m = z) := ⟨_, rfl⟩
  have hk6 : Wd z6 1073741824 := hz6.out ▸ (hA m (Nat.le_refl _))
  refine wlOn (e := 19) rfl rfl rfl rfl (ocall rfl rfl Try.call50 rfl (wqSum ((hx.at hS).zs) hz6) (args1 (ev rfl rfl)) ?_)
  rintro _ w9 ⟨_, _, rfl, ⟨p6, n6, c6, rfl, rfl⟩, hN⟩
  refine ⟨_, rfl, ?_⟩
  replace hS := hS.news hN; clear hN
  refine wlOn (e := 19) rfl rfl rfl rfl (ocall rfl rfl Try.call13 rfl (wlsame (x := z5) (y := z6) (hS.sl 1 rfl) (hS.sl 0 rfl) ((hz5.out.symm).trans (hz6.out.symm).symm)) (args2 (ev rfl rfl) (ev rfl rfl)) ?_)
  rintro _ w10 ⟨_, _, rfl, ⟨rfl, rfl⟩, hN⟩
  refine ⟨_, rfl, ?_⟩
  replace hS := hS.news hN; clear hN
  refine wl rfl (opick (b := true) (v := .bool true) rfl rfl (ev (v := .bool true) rfl rfl) (ev (v := .bool true) rfl rfl) ?_)
  refine wl rfl (omove (v := .bool true) rfl rfl (ev (v := .bool true) rfl rfl) ?_)
  refine wlOn (e := 26) rfl rfl rfl rfl (omove (v := .slice (some ⟨gL, 0, none⟩) m m) rfl rfl (ev (v := .slice (some ⟨gL, 0, none⟩) m m) rfl rfl) ?_)
  obtain ⟨z7, hz7⟩ : ∃ z : Int, Hid (facc (· * ·) 1 (L.map zvr) m = z) := ⟨_, rfl⟩
  have hk7 : Wd z7 1073741824 := hz7.out ▸ (hWP m (Nat.le_refl _))
  refine wlOn (e := 26) rfl rfl rfl rfl (ocall rfl rfl Try.call51 rfl (wzProduct ((hS.zl 6 rfl hzL hx.1 hx.2.1 hx.bd).zs) hWP hz7) (args1 (ev rfl rfl)) ?_)
  rintro _ w11 ⟨_, _, rfl, ⟨p7, n7, c7, rfl, rfl⟩, hN⟩
  refine ⟨_, rfl, ?_⟩
  replace hS := hS.news hN; clear hN
  refine wlOn (e := 26) rfl rfl rfl rfl (omove (v := .slice pl m cl) rfl rfl (ev (v := .slice pl m cl) rfl rfl) ?_)
  obtain ⟨z8, hz8⟩ : ∃ z : Int, Hid (facc (· * ·) 1 (L.map zvr) m = z) := ⟨_, rfl⟩
  have hk8 : Wd z8 1073741824 := hz8.out ▸ (hWP m (Nat.le_refl _))
  refine wlOn (e := 26) rfl rfl rfl rfl (ocall rfl rfl Try.call52 rfl (wqProduct ((hx.at hS).zs) hWP hz8) (args1 (ev rfl rfl)) ?_)
  rintro _ w12 ⟨_, _, rfl, ⟨p8, n8, c8, rfl, rfl⟩, hN⟩
  refine ⟨_, rfl, ?_⟩
  replace hS := hS.news hN; clear hN
  refine wlOn (e := 26) rfl rfl rfl rfl (ocall rfl rfl Try.call13 rfl (wlsame (x := z7) (y := z8) (hS.sl 1 rfl) (hS.sl 0 rfl) ((hz7.out.symm).trans (hz8.out.symm).symm)) (args2 (ev rfl rfl) (ev rfl rfl)) ?_)
  rintro _ w13 ⟨_, _, rfl, ⟨rfl, rfl⟩, hN⟩
  refine ⟨_, rfl, ?_⟩
  replace hS := hS.news hN; clear hN
  refine wl rfl (opick (b := true) (v := .bool true) rfl rfl (ev (v := .bool true) rfl rfl) (ev (v := .bool true) rfl rfl) ?_)
  refine wl rfl (oassign (v := .bool true) rfl rfl (ev (v := .bool true) rfl rfl) ?_)
  refine wnil ?_
  refine thenN ?_
  refine wseq ?_
  refine wreg ?_
  refine wl rfl (omove (v := .bool true) rfl rfl (ev (v := .bool true) rfl rfl) ?_)
  refine wl rfl (omove (v := .bool true) rfl rfl (ev (v := .bool true) rfl rfl) ?_)
  refine wlOn (e := 34) rfl rfl rfl rfl (omove (v := .slice (some ⟨gL, 0, none⟩) m m) rfl rfl (ev (v := .slice (some ⟨gL, 0, none⟩) m m) rfl rfl) ?_)
  refine wlOn (e := 34) rfl rfl rfl rfl (omove (v := .slice pl m cl) rfl rfl (ev (v := .slice pl m cl) rfl rfl) ?_)
  refine wlOn (e := 34) rfl rfl rfl rfl (ocall rfl rfl Try.call53 rfl (wqSameAll (hS.zl 8 rfl hzL hx.1 hx.2.1 hx.bd) (hx.at hS)) (args2 (ev rfl rfl) (ev rfl rfl)) ?_)
  rintro _ w14 ⟨_, _, rfl, ⟨rfl, rfl⟩, hN⟩
  refine ⟨_, rfl, ?_⟩
  replace hS := hS.news hN; clear hN
  refine wl rfl (opick (b := true) (v := .bool true) rfl rfl (ev (v := .bool true) rfl rfl) (ev (v := .bool true) rfl rfl) ?_)
  refine wl rfl (omove (v := .bool true) rfl rfl (ev (v := .bool true) rfl rfl) ?_)
  refine wlOn (e := 39) rfl rfl rfl rfl (ocall rfl rfl Try.call19 rfl (wllives) (args0 ) ?_)
  rintro _ w15 ⟨_, _, rfl, ⟨rfl, rfl⟩, hN⟩
  refine ⟨_, rfl, ?_⟩
  replace hS := hS.news hN; clear hN
  refine wl rfl (opick (b := true) (v := .bool true) rfl rfl (ev (v := .bool true) rfl rfl) (ev (v := .bool true) rfl rfl) ?_)
  refine wl rfl (oassign (v := .bool true) rfl rfl (ev (v := .bool true) rfl rfl) ?_)
  refine wnil ?_
  refine thenN ?_
  refine wleave ?_
  refine wret1 Try.results7 (tellT (v := .bool true) rfl rfl) ?_
  exact ⟨_, _, rfl, isI, hS.new0⟩

theorem zcommon_law {w : World} {pl : Option Addr} {m cl : Nat} {L : List (Bool × List Nat)} (hx : ZL w pl m L 67108864) (hb : (L.map fun e => e.2.length + 1).sum ≤ 1048576) :
    Calls Try.prog 7 #[.slice pl m cl] w (RetB w true) := (zcommon_any hx hb).mono Ret.b

end Go.Proofs.Ytlnilkghbbbhbaa
