
/-
  The walk of similelaw05.RatCommon.
-/
import Derived.Test.YtoinfkimlhhmpaaRCommon2
import Derived.Test.YtoinfkimlhhmpaaRHeight
import Derived.Test.YtoinfkimlhhmpaaRatLaws0
set_option linter.unusedVariables false
set_option linter.unusedSimpArgs false
namespace Go.Proofs.Ytoinfkimlhhmpaa
open Go.RowKit

theorem rl_sum (L : List RawR) (i : Nat) : ((L.take i).map fun e => e.2.2.length).sum ≤ (L.map fun e => e.1.2.length + e.2.2.length + 1).sum := by
  induction L generalizing i with
  | nil => simp
  | cons x l ih =>
    cases i with
    | zero => simp
    | succ i =>
      simp only [List.take_succ_cons, List.map_cons, List.sum_cons]
      have := ih i
      omega
theorem rl_take (L : List RawR) (i : Nat) {e : RawR} (h : L[i]? = some e) : ((L.take (i + 1)).map fun e => e.2.2.length).sum = ((L.take i).map fun e => e.2.2.length).sum + e.2.2.length := by
  rw [List.take_add_one, h]
  simp
theorem RL.wdAt {w : World} {p : Option Addr} {m K : Nat} {L : List RawR} (h : RL w p m L K) {i : Nat} {e : RawR} (he : L[i]? = some e) : Wd (zvr e.2) e.2.2.length := by
  obtain ⟨g, off, q, n, k, q2, n2, k2, hp, h1, h2, h3, h4⟩ := h.2.2 i e he
  have hz : Zr w e.2.1 q2 n2 k2 (zvr e.2) e.2.2.length := ⟨_, h3, rfl, by rw [h3.len]; exact Nat.le_refl _⟩
  exact hz.wd
theorem rl_lcm_wd {w : World} {p : Option Addr} {m K : Nat} {L : List RawR} (h : RL w p m L K) : ∀ i, i ≤ m → Wd (facc lcmZ 1 (dens (lows (L.map rvr))) i) (2 + ((L.take i).map fun e => e.2.2.length).sum) := by
  intro i
  induction i with
  | zero => intro _; exact (Wd.i64 (z := 1) (by omega) (by omega)).mono (by omega)
  | succ i ih =>
    intro hi
    have hl : i < L.length := by rw [← h.1]; omega
    have he := List.getElem?_eq_getElem hl
    have hm : (L.map rvr)[i]? = some (rvr L[i]) := by rw [List.getElem?_map, he]; rfl
    rw [facc_succ (dens_at (low_at hm)), rl_take L i he]
    exact Wd.lcm (ih (by omega)) ((h.wdAt he).rd rfl) rfl (by omega)
theorem cnum_wd {w : World} {p : Option Addr} {m K : Nat} {L : List (Int × Int)} (h : Rs w p m L K) {den : Int} {k : Nat} (hd : Wd den k) (j : Nat) : Wd (cnum (lows L) den j) (K + k + 2) := by
  unfold cnum
  rcases hz : (lows L)[j]? with _ | e
  · exact (Wd.i64 (z := 0) (by omega) (by omega)).mono (by omega)
  · have := (wd_low h.wd e (List.mem_of_getElem? hz)).1
    exact (Wd.mul (m := K + k) this (Wd.tdiv hd rfl) rfl (by omega)).mono (by omega)

theorem RL.mono {w : World} {p : Option Addr} {m K K' : Nat} {L : List RawR} (h : RL w p m L K) (hK : K ≤ K') : RL w p m L K' := by
  refine ⟨h.1, h.2.1, fun i z hi => ?_⟩
  obtain ⟨g, off, q, n, k, q2, n2, k2, hp, h1, h2, h3, h4, h5⟩ := h.2.2 i z hi
  exact ⟨g, off, q, n, k, q2, n2, k2, hp, h1, h2, h3, by omega, by omega⟩
set_option maxRecDepth 100000 in
set_option maxHeartbeats 16000000 in
theorem rcommon_any {w : World} {pl : Option Addr} {m cl : Nat} {L : List RawR} (hx : RL w pl m L 1048576) (hbk : (L.map fun e => e.1.2.length + e.2.2.length + 1).sum ≤ 1048576) :
    Calls Try.prog 4 #[.slice pl m cl] w (Ret (Is (.bool true)) w) := by
  have hW : ∀ i, i ≤ m → Wd (facc lcmZ 1 (dens (lows (L.map rvr))) i) 4194304 := fun i hi => (rl_lcm_wd hx i hi).mono (by have := rl_sum L i; omega)
  have hNW : ∀ j, j < m → Wd (cnum (lows (L.map rvr)) (facc lcmZ 1 (dens (lows (L.map rvr))) m) j) 67108864 := fun j _ => (cnum_wd hx.rs (hW m (Nat.le_refl _)) j).mono (by omega)
  have hS := Sep.init w
  refine went Try.func4 rfl (n := 84) rfl rfl ?_
  refine wseq ?_
  refine wreg ?_
  refine wl rfl (oassign (v := .bool false) rfl rfl (evc (v := .bool false)) ?_)
  refine wnil ?_
  refine thenN ?_
  refine wseq ?_
  refine wreg ?_
  refine wl rfl (omove (v := .slice pl m cl) rfl rfl (ev (v := .slice pl m cl) rfl rfl) ?_)
  refine wl rfl (ocall rfl rfl Try.call17 rfl (wsCopyAll ((hx.at hS).mono (by omega))) (args1 (ev rfl rfl)) ?_)
  rintro _ w1 ⟨_, _, rfl, ⟨gL, esL, hzL, rfl, rfl⟩, hN⟩
  refine ⟨_, rfl, ?_⟩
  replace hS := hS.news hN; clear hN
  refine wl rfl (oassign (v := .slice (some ⟨gL, 0, none⟩) m m) rfl rfl (ev (v := .slice (some ⟨gL, 0, none⟩) m m) rfl rfl) ?_)
  refine wnil ?_
  refine thenN ?_
  refine wseq ?_
  refine wreg ?_
  refine wl rfl (omove (v := .slice (some ⟨gL, 0, none⟩) m m) rfl rfl (ev (v := .slice (some ⟨gL, 0, none⟩) m m) rfl rfl) ?_)
  by_cases hb : ∃ e ∈ L.map rvr, e.2 = 0
  ·
    refine wl rfl (ocall rfl rfl Try.call18 rfl (wrcommon0 ((hS.rl 0 rfl hzL hx.1 hx.2.1 hx.bd).rs.mono (by omega)) hb) (args1 (ev rfl rfl)) ?_)
    rintro _ w2 ⟨_, _, rfl, ⟨rfl, rfl⟩, hN⟩
    refine ⟨_, rfl, ?_⟩
    replace hS := hS.news hN; clear hN
    refine wl rfl (omove (v := .tuple #[.agg #[.bool false, .slice none 0 0], .slice none 0 0, .int .i64 6]) rfl rfl (ev (v := .tuple #[.agg #[.bool false, .slice none 0 0], .slice none 0 0, .int .i64 6]) rfl rfl) ?_)
    refine wl rfl (oextract (vs := [.agg #[.bool false, .slice none 0 0], .slice none 0 0, .int .i64 6]) (v := .agg #[.bool false, .slice none 0 0]) rfl rfl (ev (v := .tuple #[.agg #[.bool false, .slice none 0 0], .slice none 0 0, .int .i64 6]) rfl rfl) rfl ?_)
    refine wl rfl (oextract (vs := [.agg #[.bool false, .slice none 0 0], .slice none 0 0, .int .i64 6]) (v := .slice none 0 0) rfl rfl (ev (v := .tuple #[.agg #[.bool false, .slice none 0 0], .slice none 0 0, .int .i64 6]) rfl rfl) rfl ?_)
    refine wl rfl (oextract (vs := [.agg #[.bool false, .slice none 0 0], .slice none 0 0, .int .i64 6]) (v := .int .i64 6) rfl rfl (ev (v := .tuple #[.agg #[.bool false, .slice none 0 0], .slice none 0 0, .int .i64 6]) rfl rfl) rfl ?_)
    refine wl rfl (oalloc [.bool false, .slice none 0 0] hS rfl rfl Try.zeroValue25 rfl ?_)
    clear hS; intro g3 w4 hS
    refine wl rfl (ostore [.bool false, .slice none 0 0] [.bool false, .slice none 0 0] Try.sizeOf25 hS 0 rfl rfl (ev rfl rfl) (ev (v := .agg #[.bool false, .slice none 0 0]) rfl rfl) rfl rfl rfl rfl rfl rfl ?_)
    clear hS; intro w5 hS
    refine wl rfl (oassign (v := .slice none 0 0) rfl rfl (ev (v := .slice none 0 0) rfl rfl) ?_)
    refine wl rfl (oassign (v := .int .i64 6) rfl rfl (ev (v := .int .i64 6) rfl rfl) ?_)
    refine wnil ?_
    refine thenN ?_
    refine wseq ?_
    refine wreg ?_
    refine wl rfl (omove (v := .slice (some ⟨gL, 0, none⟩) m m) rfl rfl (ev (v := .slice (some ⟨gL, 0, none⟩) m m) rfl rfl) ?_)
    refine wl rfl (ocall rfl rfl Try.call19 rfl (wrheight0 ((hS.rl 1 rfl hzL hx.1 hx.2.1 hx.bd).rs.mono (by omega)) hb) (args1 (ev rfl rfl)) ?_)
    rintro _ w6 ⟨_, _, rfl, ⟨rfl, rfl⟩, hN⟩
    refine ⟨_, rfl, ?_⟩
    replace hS := hS.news hN; clear hN
    refine wl rfl (omove (v := .tuple #[.int .i64 0, .int .i64 6]) rfl rfl (ev (v := .tuple #[.int .i64 0, .int .i64 6]) rfl rfl) ?_)
    refine wl rfl (oextract (vs := [.int .i64 0, .int .i64 6]) (v := .int .i64 0) rfl rfl (ev (v := .tuple #[.int .i64 0, .int .i64 6]) rfl rfl) rfl ?_)
    refine wl rfl (oextract (vs := [.int .i64 0, .int .i64 6]) (v := .int .i64 6) rfl rfl (ev (v := .tuple #[.int .i64 0, .int .i64 6]) rfl rfl) rfl ?_)
    refine wl rfl (oassign (v := .int .i64 0) rfl rfl (ev (v := .int .i64 0) rfl rfl) ?_)
    refine wl rfl (oassign (v := .int .i64 6) rfl rfl (ev (v := .int .i64 6) rfl rfl) ?_)
    refine wnil ?_
    refine thenN ?_
    refine wseq ?_
    refine wseq ?_
    refine wreg ?_
    refine wl rfl (omove (v := .slice (some ⟨gL, 0, none⟩) m m) rfl rfl (ev (v := .slice (some ⟨gL, 0, none⟩) m m) rfl rfl) ?_)
    refine wl rfl (omove (v := .slice pl m cl) rfl rfl (ev (v := .slice pl m cl) rfl rfl) ?_)
    refine wl rfl (ocall rfl rfl Try.call20 rfl (wsSameAll ((hS.rl 1 rfl hzL hx.1 hx.2.1 hx.bd).mono (by omega)) ((hx.at hS).mono (by omega))) (args2 (ev rfl rfl) (ev rfl rfl)) ?_)
    rintro _ w7 ⟨_, _, rfl, ⟨rfl, rfl⟩, hN⟩
    refine ⟨_, rfl, ?_⟩
    replace hS := hS.news hN; clear hN
    refine wl rfl (onot (b := true) rfl rfl (ev (v := .bool true) rfl rfl) ?_)
    refine wnil ?_
    refine thenN ?_
    refine wF (ev (v := .bool false) rfl rfl) ?_
    refine wskip ?_
    refine thenN ?_
    refine wseq ?_
    refine wseq ?_
    refine wreg ?_
    refine wl rfl (omove (v := .slice pl m cl) rfl rfl (ev (v := .slice pl m cl) rfl rfl) ?_)
    refine wl rfl (ocall rfl rfl Try.call21 rfl (wsAllMay0 ((hx.at hS).rs.mono (by omega)) hb) (args1 (ev rfl rfl)) ?_)
    rintro _ w8 ⟨_, _, rfl, ⟨rfl, rfl⟩, hN⟩
    refine ⟨_, rfl, ?_⟩
    replace hS := hS.news hN; clear hN
    refine wl rfl (onot (b := false) rfl rfl (ev (v := .bool false) rfl rfl) ?_)
    refine wnil ?_
    refine thenN ?_
    refine wT (ev (v := .bool true) rfl rfl) ?_
    refine wseq ?_
    refine wreg ?_
    refine wl rfl (omove (v := .int .i64 6) rfl rfl (ev (v := .int .i64 6) rfl rfl) ?_)
    refine wl rfl (obin (u := .int .i64 6) (v := .int .i64 6) (z := .bool true) rfl rfl (ev (v := .int .i64 6) rfl rfl) (evc (v := .int .i64 6)) (bin_eql (by decide)) ?_)
    refine wl rfl (omove (v := .bool true) rfl rfl (ev (v := .bool true) rfl rfl) ?_)
    refine wlOn (e := 33) rfl rfl rfl rfl (omove (v := .int .i64 6) rfl rfl (ev (v := .int .i64 6) rfl rfl) ?_)
    refine wlOn (e := 33) rfl rfl rfl rfl (obin (u := .int .i64 6) (v := .int .i64 6) (z := .bool true) rfl rfl (ev (v := .int .i64 6) rfl rfl) (evc (v := .int .i64 6)) (bin_eql (by decide)) ?_)
    refine wl rfl (opick (b := true) (v := .bool true) rfl rfl (ev (v := .bool true) rfl rfl) (ev (v := .bool true) rfl rfl) ?_)
    refine wl rfl (omove (v := .bool true) rfl rfl (ev (v := .bool true) rfl rfl) ?_)
    refine wlOn (e := 37) rfl rfl rfl rfl (oload (vs := [.bool false, .slice none 0 0]) aggZ hS 0 rfl rfl (ev rfl rfl) rfl rfl rfl ?_)
    refine wlOn (e := 37) rfl rfl rfl rfl (obuild (ps := #[]) (v := .agg #[.bool false, .slice none 0 0]) rfl rfl (parts0) (fun w => by simp [go_sem, Instr.build, Instr.fill]) ?_)
    refine wlOn (e := 37) rfl rfl rfl rfl (ocall rfl rfl Try.call22 rfl (wqsame (x := 0) (y := 0) (Sl.nil _) (Sl.nil _) (rfl)) (args2 (ev rfl rfl) (ev rfl rfl)) ?_)
    rintro _ w9 ⟨_, _, rfl, ⟨rfl, rfl⟩, hN⟩
    refine ⟨_, rfl, ?_⟩
    replace hS := hS.news hN; clear hN
    refine wl rfl (opick (b := true) (v := .bool true) rfl rfl (ev (v := .bool true) rfl rfl) (ev (v := .bool true) rfl rfl) ?_)
    refine wl rfl (omove (v := .bool true) rfl rfl (ev (v := .bool true) rfl rfl) ?_)
    refine wlOn (e := 42) rfl rfl rfl rfl (omove (v := .slice none 0 0) rfl rfl (ev (v := .slice none 0 0) rfl rfl) ?_)
    refine wlOn (e := 42) rfl rfl rfl rfl (olen rfl rfl rfl Try.runUnderlying40 (p := none) (k := 0) (m := 0) (ev (v := .slice none 0 0) rfl rfl) ?_)
    refine wlOn (e := 42) rfl rfl rfl rfl (obin (u := .int .i64 (((0 : Nat) : Int))) (v := .int .i64 0) (z := .bool true) rfl rfl (ev (v := .int .i64 (((0 : Nat) : Int))) rfl rfl) (evc (v := .int .i64 0)) (bin_eql (eqT rfl)) ?_)
    refine wl rfl (opick (b := true) (v := .bool true) rfl rfl (ev (v := .bool true) rfl rfl) (ev (v := .bool true) rfl rfl) ?_)
    refine wl rfl (omove (v := .bool true) rfl rfl (ev (v := .bool true) rfl rfl) ?_)
    refine wlOn (e := 47) rfl rfl rfl rfl (omove (v := .int .i64 0) rfl rfl (ev (v := .int .i64 0) rfl rfl) ?_)
    refine wlOn (e := 47) rfl rfl rfl rfl (obin (u := .int .i64 0) (v := .int .i64 0) (z := .bool true) rfl rfl (ev (v := .int .i64 0) rfl rfl) (evc (v := .int .i64 0)) (bin_eql (by decide)) ?_)
    refine wl rfl (opick (b := true) (v := .bool true) rfl rfl (ev (v := .bool true) rfl rfl) (ev (v := .bool true) rfl rfl) ?_)
    refine wl rfl (omove (v := .bool true) rfl rfl (ev (v := .bool true) rfl rfl) ?_)
    refine wlOn (e := 51) rfl rfl rfl rfl (ocall rfl rfl Try.call15 rfl (wllives5) (args0 ) ?_)
    rintro _ w10 ⟨_, _, rfl, ⟨rfl, rfl⟩, hN⟩
    refine ⟨_, rfl, ?_⟩
    replace hS := hS.news hN; clear hN
    refine wl rfl (opick (b := true) (v := .bool true) rfl rfl (ev (v := .bool true) rfl rfl) (ev (v := .bool true) rfl rfl) ?_)
    refine wl rfl (oassign (v := .bool true) rfl rfl (ev (v := .bool true) rfl rfl) ?_)
    refine wnil ?_
    refine thenN ?_
    refine wleave ?_
    refine thenR ?_
    refine wret1 Try.results4 (tellT (v := .bool true) rfl rfl) ?_
    exact ⟨_, _, rfl, isI, hS.new0⟩
  ·
    have hall : ∀ e ∈ L.map rvr, e.2 ≠ 0 := fun e he h0 => hb ⟨e, he, h0⟩
    refine wl rfl (ocall rfl rfl Try.call18 rfl (wrcommon ((hS.rl 0 rfl hzL hx.1 hx.2.1 hx.bd).rs.mono (by omega)) hall hW) (args1 (ev rfl rfl)) ?_)
    rintro _ w2 ⟨_, _, rfl, ⟨pra, nra, cra, qA, dA, esA, hnA, rfl, rfl⟩, hN⟩
    refine ⟨_, rfl, ?_⟩
    replace hS := hS.news hN; clear hN
    refine wl rfl (omove (v := .tuple #[.agg #[.bool (ng ((facc lcmZ 1 (dens (lows (L.map rvr))) m))), .slice pra nra cra], .slice qA m dA, .int .i64 0]) rfl rfl (ev (v := .tuple #[.agg #[.bool (ng ((facc lcmZ 1 (dens (lows (L.map rvr))) m))), .slice pra nra cra], .slice qA m dA, .int .i64 0]) rfl rfl) ?_)
    refine wl rfl (oextract (vs := [.agg #[.bool (ng ((facc lcmZ 1 (dens (lows (L.map rvr))) m))), .slice pra nra cra], .slice qA m dA, .int .i64 0]) (v := .agg #[.bool (ng ((facc lcmZ 1 (dens (lows (L.map rvr))) m))), .slice pra nra cra]) rfl rfl (ev (v := .tuple #[.agg #[.bool (ng ((facc lcmZ 1 (dens (lows (L.map rvr))) m))), .slice pra nra cra], .slice qA m dA, .int .i64 0]) rfl rfl) rfl ?_)
    refine wl rfl (oextract (vs := [.agg #[.bool (ng ((facc lcmZ 1 (dens (lows (L.map rvr))) m))), .slice pra nra cra], .slice qA m dA, .int .i64 0]) (v := .slice qA m dA) rfl rfl (ev (v := .tuple #[.agg #[.bool (ng ((facc lcmZ 1 (dens (lows (L.map rvr))) m))), .slice pra nra cra], .slice qA m dA, .int .i64 0]) rfl rfl) rfl ?_)
    refine wl rfl (oextract (vs := [.agg #[.bool (ng ((facc lcmZ 1 (dens (lows (L.map rvr))) m))), .slice pra nra cra], .slice qA m dA, .int .i64 0]) (v := .int .i64 0) rfl rfl (ev (v := .tuple #[.agg #[.bool (ng ((facc lcmZ 1 (dens (lows (L.map rvr))) m))), .slice pra nra cra], .slice qA m dA, .int .i64 0]) rfl rfl) rfl ?_)
    refine wl rfl (oalloc [.bool false, .slice none 0 0] hS rfl rfl Try.zeroValue25 rfl ?_)
    clear hS; intro g3 w4 hS
    refine wl rfl (ostore [.bool (ng ((facc lcmZ 1 (dens (lows (L.map rvr))) m))), .slice pra nra cra] [.bool (ng ((facc lcmZ 1 (dens (lows (L.map rvr))) m))), .slice pra nra cra] Try.sizeOf25 hS 0 rfl rfl (ev rfl rfl) (ev (v := .agg #[.bool (ng ((facc lcmZ 1 (dens (lows (L.map rvr))) m))), .slice pra nra cra]) rfl rfl) rfl rfl rfl rfl rfl rfl ?_)
    clear hS; intro w5 hS
    refine wl rfl (oassign (v := .slice qA m dA) rfl rfl (ev (v := .slice qA m dA) rfl rfl) ?_)
    refine wl rfl (oassign (v := .int .i64 0) rfl rfl (ev (v := .int .i64 0) rfl rfl) ?_)
    refine wnil ?_
    refine thenN ?_
    refine wseq ?_
    refine wreg ?_
    refine wl rfl (omove (v := .slice (some ⟨gL, 0, none⟩) m m) rfl rfl (ev (v := .slice (some ⟨gL, 0, none⟩) m m) rfl rfl) ?_)
    refine wl rfl (ocall rfl rfl Try.call19 rfl (wrheight ((hS.rl 3 rfl hzL hx.1 hx.2.1 hx.bd).rs.mono (by omega)) hall) (args1 (ev rfl rfl)) ?_)
    rintro _ w6 ⟨_, _, rfl, ⟨rfl, rfl⟩, hN⟩
    refine ⟨_, rfl, ?_⟩
    replace hS := hS.news hN; clear hN
    refine wl rfl (omove (v := .tuple #[.int .i64 (((hgt (lows (L.map rvr)) m : Nat) : Int)), .int .i64 0]) rfl rfl (ev (v := .tuple #[.int .i64 (((hgt (lows (L.map rvr)) m : Nat) : Int)), .int .i64 0]) rfl rfl) ?_)
    refine wl rfl (oextract (vs := [.int .i64 (((hgt (lows (L.map rvr)) m : Nat) : Int)), .int .i64 0]) (v := .int .i64 (((hgt (lows (L.map rvr)) m : Nat) : Int))) rfl rfl (ev (v := .tuple #[.int .i64 (((hgt (lows (L.map rvr)) m : Nat) : Int)), .int .i64 0]) rfl rfl) rfl ?_)
    refine wl rfl (oextract (vs := [.int .i64 (((hgt (lows (L.map rvr)) m : Nat) : Int)), .int .i64 0]) (v := .int .i64 0) rfl rfl (ev (v := .tuple #[.int .i64 (((hgt (lows (L.map rvr)) m : Nat) : Int)), .int .i64 0]) rfl rfl) rfl ?_)
    refine wl rfl (oassign (v := .int .i64 (((hgt (lows (L.map rvr)) m : Nat) : Int))) rfl rfl (ev (v := .int .i64 (((hgt (lows (L.map rvr)) m : Nat) : Int))) rfl rfl) ?_)
    refine wl rfl (oassign (v := .int .i64 0) rfl rfl (ev (v := .int .i64 0) rfl rfl) ?_)
    refine wnil ?_
    refine thenN ?_
    refine wseq ?_
    refine wseq ?_
    refine wreg ?_
    refine wl rfl (omove (v := .slice (some ⟨gL, 0, none⟩) m m) rfl rfl (ev (v := .slice (some ⟨gL, 0, none⟩) m m) rfl rfl) ?_)
    refine wl rfl (omove (v := .slice pl m cl) rfl rfl (ev (v := .slice pl m cl) rfl rfl) ?_)
    refine wl rfl (ocall rfl rfl Try.call20 rfl (wsSameAll ((hS.rl 3 rfl hzL hx.1 hx.2.1 hx.bd).mono (by omega)) ((hx.at hS).mono (by omega))) (args2 (ev rfl rfl) (ev rfl rfl)) ?_)
    rintro _ w7 ⟨_, _, rfl, ⟨rfl, rfl⟩, hN⟩
    refine ⟨_, rfl, ?_⟩
    replace hS := hS.news hN; clear hN
    refine wl rfl (onot (b := true) rfl rfl (ev (v := .bool true) rfl rfl) ?_)
    refine wnil ?_
    refine thenN ?_
    refine wF (ev (v := .bool false) rfl rfl) ?_
    refine wskip ?_
    refine thenN ?_
    refine wseq ?_
    refine wseq ?_
    refine wreg ?_
    refine wl rfl (omove (v := .slice pl m cl) rfl rfl (ev (v := .slice pl m cl) rfl rfl) ?_)
    refine wl rfl (ocall rfl rfl Try.call21 rfl (wsAllMay ((hx.at hS).rs.mono (by omega)) hall) (args1 (ev rfl rfl)) ?_)
    rintro _ w8 ⟨_, _, rfl, ⟨rfl, rfl⟩, hN⟩
    refine ⟨_, rfl, ?_⟩
    replace hS := hS.news hN; clear hN
    refine wl rfl (onot (b := true) rfl rfl (ev (v := .bool true) rfl rfl) ?_)
    refine wnil ?_
    refine thenN ?_
    refine wF (ev (v := .bool false) rfl rfl) ?_
    refine wskip ?_
    refine thenN ?_
    refine wseq ?_
    refine wreg ?_
    refine wl rfl (omove (v := .slice pl m cl) rfl rfl (ev (v := .slice pl m cl) rfl rfl) ?_)
    refine wl rfl (ocall rfl rfl Try.call23 rfl (wqcommon ((hx.at hS).rs.mono (by omega)) hall hW) (args1 (ev rfl rfl)) ?_)
    rintro _ w9 ⟨_, _, rfl, ⟨prb, nrb, crb, qB, dB, esB, hnB, rfl, rfl⟩, hN⟩
    refine ⟨_, rfl, ?_⟩
    replace hS := hS.news hN; clear hN
    refine wl rfl (omove (v := .tuple #[.agg #[.bool (ng ((facc lcmZ 1 (dens (lows (L.map rvr))) m))), .slice prb nrb crb], .slice qB m dB]) rfl rfl (ev (v := .tuple #[.agg #[.bool (ng ((facc lcmZ 1 (dens (lows (L.map rvr))) m))), .slice prb nrb crb], .slice qB m dB]) rfl rfl) ?_)
    refine wl rfl (oextract (vs := [.agg #[.bool (ng ((facc lcmZ 1 (dens (lows (L.map rvr))) m))), .slice prb nrb crb], .slice qB m dB]) (v := .agg #[.bool (ng ((facc lcmZ 1 (dens (lows (L.map rvr))) m))), .slice prb nrb crb]) rfl rfl (ev (v := .tuple #[.agg #[.bool (ng ((facc lcmZ 1 (dens (lows (L.map rvr))) m))), .slice prb nrb crb], .slice qB m dB]) rfl rfl) rfl ?_)
    refine wl rfl (oextract (vs := [.agg #[.bool (ng ((facc lcmZ 1 (dens (lows (L.map rvr))) m))), .slice prb nrb crb], .slice qB m dB]) (v := .slice qB m dB) rfl rfl (ev (v := .tuple #[.agg #[.bool (ng ((facc lcmZ 1 (dens (lows (L.map rvr))) m))), .slice prb nrb crb], .slice qB m dB]) rfl rfl) rfl ?_)
    refine wl rfl (oalloc [.bool false, .slice none 0 0] hS rfl rfl Try.zeroValue25 rfl ?_)
    clear hS; intro g10 w11 hS
    refine wl rfl (ostore [.bool (ng ((facc lcmZ 1 (dens (lows (L.map rvr))) m))), .slice prb nrb crb] [.bool (ng ((facc lcmZ 1 (dens (lows (L.map rvr))) m))), .slice prb nrb crb] Try.sizeOf25 hS 0 rfl rfl (ev rfl rfl) (ev (v := .agg #[.bool (ng ((facc lcmZ 1 (dens (lows (L.map rvr))) m))), .slice prb nrb crb]) rfl rfl) rfl rfl rfl rfl rfl rfl ?_)
    clear hS; intro w12 hS
    refine wl rfl (oassign (v := .slice qB m dB) rfl rfl (ev (v := .slice qB m dB) rfl rfl) ?_)
    refine wnil ?_
    refine thenN ?_
    refine wseq ?_
    refine wreg ?_
    refine wl rfl (omove (v := .int .i64 0) rfl rfl (ev (v := .int .i64 0) rfl rfl) ?_)
    refine wl rfl (obin (u := .int .i64 0) (v := .int .i64 0) (z := .bool true) rfl rfl (ev (v := .int .i64 0) rfl rfl) (evc (v := .int .i64 0)) (bin_eql (by decide)) ?_)
    refine wl rfl (omove (v := .bool true) rfl rfl (ev (v := .bool true) rfl rfl) ?_)
    refine wlOn (e := 61) rfl rfl rfl rfl (omove (v := .int .i64 0) rfl rfl (ev (v := .int .i64 0) rfl rfl) ?_)
    refine wlOn (e := 61) rfl rfl rfl rfl (obin (u := .int .i64 0) (v := .int .i64 0) (z := .bool true) rfl rfl (ev (v := .int .i64 0) rfl rfl) (evc (v := .int .i64 0)) (bin_eql (by decide)) ?_)
    refine wl rfl (opick (b := true) (v := .bool true) rfl rfl (ev (v := .bool true) rfl rfl) (ev (v := .bool true) rfl rfl) ?_)
    refine wl rfl (omove (v := .bool true) rfl rfl (ev (v := .bool true) rfl rfl) ?_)
    refine wlOn (e := 65) rfl rfl rfl rfl (oload (vs := [.bool (ng ((facc lcmZ 1 (dens (lows (L.map rvr))) m))), .slice pra nra cra]) aggZ hS 3 rfl rfl (ev rfl rfl) rfl rfl rfl ?_)
    refine wlOn (e := 65) rfl rfl rfl rfl (oload (vs := [.bool (ng ((facc lcmZ 1 (dens (lows (L.map rvr))) m))), .slice prb nrb crb]) aggZ hS 0 rfl rfl (ev rfl rfl) rfl rfl rfl ?_)
    refine wlOn (e := 65) rfl rfl rfl rfl (ocall rfl rfl Try.call22 rfl (wqsame (x := (facc lcmZ 1 (dens (lows (L.map rvr))) m)) (y := (facc lcmZ 1 (dens (lows (L.map rvr))) m)) (hS.sl 4 rfl) (hS.sl 1 rfl) (rfl)) (args2 (ev rfl rfl) (ev rfl rfl)) ?_)
    rintro _ w13 ⟨_, _, rfl, ⟨rfl, rfl⟩, hN⟩
    refine ⟨_, rfl, ?_⟩
    replace hS := hS.news hN; clear hN
    refine wl rfl (opick (b := true) (v := .bool true) rfl rfl (ev (v := .bool true) rfl rfl) (ev (v := .bool true) rfl rfl) ?_)
    refine wl rfl (omove (v := .bool true) rfl rfl (ev (v := .bool true) rfl rfl) ?_)
    refine wlOn (e := 70) rfl rfl rfl rfl (omove (v := .slice qA m dA) rfl rfl (ev (v := .slice qA m dA) rfl rfl) ?_)
    refine wlOn (e := 70) rfl rfl rfl rfl (omove (v := .slice qB m dB) rfl rfl (ev (v := .slice qB m dB) rfl rfl) ?_)
    refine wlOn (e := 70) rfl rfl rfl rfl (ocall rfl rfl Try.call24 rfl (wqSameAll (hS.nl 5 rfl hnA hx.2.1 hNW) (hS.nl 2 rfl hnB hx.2.1 hNW)) (args2 (ev rfl rfl) (ev rfl rfl)) ?_)
    rintro _ w14 ⟨_, _, rfl, ⟨rfl, rfl⟩, hN⟩
    refine ⟨_, rfl, ?_⟩
    replace hS := hS.news hN; clear hN
    refine wl rfl (opick (b := true) (v := .bool true) rfl rfl (ev (v := .bool true) rfl rfl) (ev (v := .bool true) rfl rfl) ?_)
    refine wl rfl (omove (v := .bool true) rfl rfl (ev (v := .bool true) rfl rfl) ?_)
    refine wlOn (e := 75) rfl rfl rfl rfl (omove (v := .int .i64 (((hgt (lows (L.map rvr)) m : Nat) : Int))) rfl rfl (ev (v := .int .i64 (((hgt (lows (L.map rvr)) m : Nat) : Int))) rfl rfl) ?_)
    refine wlOn (e := 75) rfl rfl rfl rfl (omove (v := .slice pl m cl) rfl rfl (ev (v := .slice pl m cl) rfl rfl) ?_)
    refine wlOn (e := 75) rfl rfl rfl rfl (ocall rfl rfl Try.call25 rfl (wsheight ((hx.at hS).rs.mono (by omega)) hall) (args1 (ev rfl rfl)) ?_)
    rintro _ w15 ⟨_, _, rfl, ⟨rfl, rfl⟩, hN⟩
    refine ⟨_, rfl, ?_⟩
    replace hS := hS.news hN; clear hN
    refine wlOn (e := 75) rfl rfl rfl rfl (obin (u := .int .i64 (((hgt (lows (L.map rvr)) m : Nat) : Int))) (v := .int .i64 (((hgt (lows (L.map rvr)) m : Nat) : Int))) (z := .bool true) rfl rfl (ev (v := .int .i64 (((hgt (lows (L.map rvr)) m : Nat) : Int))) rfl rfl) (ev (v := .int .i64 (((hgt (lows (L.map rvr)) m : Nat) : Int))) rfl rfl) (bin_eql (eqT rfl)) ?_)
    refine wl rfl (opick (b := true) (v := .bool true) rfl rfl (ev (v := .bool true) rfl rfl) (ev (v := .bool true) rfl rfl) ?_)
    refine wl rfl (omove (v := .bool true) rfl rfl (ev (v := .bool true) rfl rfl) ?_)
    refine wlOn (e := 81) rfl rfl rfl rfl (ocall rfl rfl Try.call15 rfl (wllives5) (args0 ) ?_)
    rintro _ w16 ⟨_, _, rfl, ⟨rfl, rfl⟩, hN⟩
    refine ⟨_, rfl, ?_⟩
    replace hS := hS.news hN; clear hN
    refine wl rfl (opick (b := true) (v := .bool true) rfl rfl (ev (v := .bool true) rfl rfl) (ev (v := .bool true) rfl rfl) ?_)
    refine wl rfl (oassign (v := .bool true) rfl rfl (ev (v := .bool true) rfl rfl) ?_)
    refine wnil ?_
    refine thenN ?_
    refine wleave ?_
    refine wret1 Try.results4 (tellT (v := .bool true) rfl rfl) ?_
    exact ⟨_, _, rfl, isI, hS.new0⟩

theorem rcommon_law {w : World} {pl : Option Addr} {m cl : Nat} {L : List RawR} (hx : RL w pl m L 1048576) (hb : (L.map fun e => e.1.2.length + e.2.2.length + 1).sum ≤ 1048576) :
    Calls Try.prog 4 #[.slice pl m cl] w (RetB w true) := (rcommon_any hx hb).mono Ret.b

end Go.Proofs.Ytoinfkimlhhmpaa
