
/-
  The walk of similelaw06.CrtRecons.
-/
import Derived.Test.YtjbcjlbbipohjaaGreatDoorCrtF4
import Derived.Test.YtjbcjlbbipohjaaGreatDoorLT
set_option linter.unusedVariables false
set_option linter.unusedSimpArgs false
set_option maxRecDepth 100000
set_option maxHeartbeats 16000000
namespace Go.Proofs.YtjbcjlbbipohjaaGreatDoor
open Go.RowKit
theorem wfrecon {pv pm pb : Option Addr} {nv cv nm cm nb cb v m b : Nat} {w : World} (hv : Nr w pv nv cv v 2097152) (hm : Nr w pm nm cm m 2097152) (hb : Nr w pb nb cb b 2097152) (h0 : rce v m b = 0) : Calls Tryz.prog 16 #[.slice pv nv cv, .slice pm nm cm, .slice pb nb cb] w (Ret (RRt (rcx v m b) (rcy v m b) 0) w) :=
  (wfreconT hv hm hb).mono fun e w' hr => Ret.mono (fun v' r h => h.elim (fun h => by obtain ⟨_, p, n, c, q, k, d, h1, h2⟩ := h; exact ⟨p, n, c, q, k, d, h1, h2⟩) (fun h => absurd h0 h.1)) e w' hr
theorem wfreconE {pv pm pb : Option Addr} {nv cv nm cm nb cb v m b : Nat} {w : World} (hv : Nr w pv nv cv v 2097152) (hm : Nr w pm nm cm m 2097152) (hb : Nr w pb nb cb b 2097152) (h0 : rce v m b ≠ 0) : Calls Tryz.prog 16 #[.slice pv nv cv, .slice pm nm cm, .slice pb nb cb] w (Ret (Is (.tuple #[.agg #[.bool false, .slice none 0 0, .bool false, .slice none 0 0], .int .i64 ((rce v m b : Nat) : Int)])) w) :=
  (wfreconT hv hm hb).mono fun e w' hr => Ret.mono (fun v' r h => h.elim (fun h => absurd h.1 h0) (fun h => h.2)) e w' hr
theorem crtRecons_walk0 {pv pm pb : Option Addr} {nv cv nm cm nb cb v m b : Nat} {w : World} (ht : Tb w) (hv : Nr w pv nv cv v 2097152) (hm : Nr w pm nm cm m 2097152) (hb : Nr w pb nb cb b 2097152)  :
  Calls Tryz.prog 4 #[.slice pv nv cv, .slice pm nm cm, .slice pb nb cb] w (Ret (Is (.bool true)) w) := by
 have hS := Sep.init w
 refine went Tryz.func4 rfl (n := 59) rfl rfl ?_
 refine wseq (wreg (wl rfl (oassign (v := .bool false) rfl rfl evc ?_)))
 refine wnil (thenN (wseq (wreg (wl rfl (omove (v := .slice pv nv cv) rfl rfl (ev rfl rfl) ?_)))))
 refine wl rfl (omove (v := .slice pm nm cm) rfl rfl (ev rfl rfl) ?_)
 refine wl rfl (omove (v := .slice pb nb cb) rfl rfl (ev rfl rfl) ?_)
 by_cases h0 : rce v m b = 0
 ·
  refine wl rfl (ocall rfl rfl Tryz.call15 rfl (wcrecon (hv.at hS) (hm.at hS) (hb.at hS) h0) (args3 (ev rfl rfl) (ev rfl rfl) (ev rfl rfl)) ?_)
  rintro _ w1 ⟨_, _, rfl, ⟨pra, nra, cra, prb, nrb, crb, rfl, rfl⟩, hN⟩
  refine ⟨_, rfl, ?_⟩
  replace hS := hS.news hN; clear hN
  refine wl rfl (omove (v := .tuple #[.agg #[.bool (ng (rcx v m b)), .slice pra nra cra, .bool (ng (rcy v m b)), .slice prb nrb crb], .int .i64 0]) rfl rfl (ev rfl rfl) ?_)
  refine wl rfl (oextract (vs := [.agg #[.bool (ng (rcx v m b)), .slice pra nra cra, .bool (ng (rcy v m b)), .slice prb nrb crb], .int .i64 0]) (v := .agg #[.bool (ng (rcx v m b)), .slice pra nra cra, .bool (ng (rcy v m b)), .slice prb nrb crb]) rfl rfl (ev rfl rfl) rfl ?_)
  refine wl rfl (oextract (vs := [.agg #[.bool (ng (rcx v m b)), .slice pra nra cra, .bool (ng (rcy v m b)), .slice prb nrb crb], .int .i64 0]) (v := .int .i64 0) rfl rfl (ev rfl rfl) rfl ?_)
  refine wl rfl (oalloc [.bool false, .slice none 0 0, .bool false, .slice none 0 0] hS rfl rfl Tryz.zeroValue30 rfl ?_)
  clear hS; intro g2 w3 hS
  refine wl rfl (ostore [.bool (ng (rcx v m b)), .slice pra nra cra, .bool (ng (rcy v m b)), .slice prb nrb crb] [.bool (ng (rcx v m b)), .slice pra nra cra, .bool (ng (rcy v m b)), .slice prb nrb crb] Tryz.sizeOf30 hS 0 rfl rfl (ev rfl rfl) (ev (v := .agg #[.bool (ng (rcx v m b)), .slice pra nra cra, .bool (ng (rcy v m b)), .slice prb nrb crb]) rfl rfl) rfl rfl rfl rfl rfl rfl ?_)
  clear hS; intro w4 hS
  refine wl rfl (oassign (v := .int .i64 0) rfl rfl (ev rfl rfl) ?_)
  refine wnil (thenN (wseq (wreg (wl rfl (omove (v := .slice pv nv cv) rfl rfl (ev rfl rfl) ?_)))))
  refine wl rfl (omove (v := .slice pm nm cm) rfl rfl (ev rfl rfl) ?_)
  refine wl rfl (omove (v := .slice pb nb cb) rfl rfl (ev rfl rfl) ?_)
  refine wl rfl (ocall rfl rfl Tryz.call16 rfl (wfrecon (hv.at hS) (hm.at hS) (hb.at hS) h0) (args3 (ev rfl rfl) (ev rfl rfl) (ev rfl rfl)) ?_)
  rintro _ w5 ⟨_, _, rfl, ⟨pya, nya, cya, pyb, nyb, cyb, rfl, rfl⟩, hN⟩
  refine ⟨_, rfl, ?_⟩
  replace hS := hS.news hN; clear hN
  refine wl rfl (omove (v := .tuple #[.agg #[.bool (ng (rcx v m b)), .slice pya nya cya, .bool (ng (rcy v m b)), .slice pyb nyb cyb], .int .i64 0]) rfl rfl (ev rfl rfl) ?_)
  refine wl rfl (oextract (vs := [.agg #[.bool (ng (rcx v m b)), .slice pya nya cya, .bool (ng (rcy v m b)), .slice pyb nyb cyb], .int .i64 0]) (v := .agg #[.bool (ng (rcx v m b)), .slice pya nya cya, .bool (ng (rcy v m b)), .slice pyb nyb cyb]) rfl rfl (ev rfl rfl) rfl ?_)
  refine wl rfl (oextract (vs := [.agg #[.bool (ng (rcx v m b)), .slice pya nya cya, .bool (ng (rcy v m b)), .slice pyb nyb cyb], .int .i64 0]) (v := .int .i64 0) rfl rfl (ev rfl rfl) rfl ?_)
  refine wl rfl (oalloc [.bool false, .slice none 0 0, .bool false, .slice none 0 0] hS rfl rfl Tryz.zeroValue30 rfl ?_)
  clear hS; intro g6 w7 hS
  refine wl rfl (ostore [.bool (ng (rcx v m b)), .slice pya nya cya, .bool (ng (rcy v m b)), .slice pyb nyb cyb] [.bool (ng (rcx v m b)), .slice pya nya cya, .bool (ng (rcy v m b)), .slice pyb nyb cyb] Tryz.sizeOf30 hS 0 rfl rfl (ev rfl rfl) (ev (v := .agg #[.bool (ng (rcx v m b)), .slice pya nya cya, .bool (ng (rcy v m b)), .slice pyb nyb cyb]) rfl rfl) rfl rfl rfl rfl rfl rfl ?_)
  clear hS; intro w8 hS
  refine wl rfl (oassign (v := .int .i64 0) rfl rfl (ev rfl rfl) ?_)
  refine wnil (thenN (wseq (wseq (wreg (wl rfl (omove (v := .int .i64 0) rfl rfl (ev rfl rfl) ?_))))))
  refine wl rfl (obin (u := .int .i64 0) (v := .int .i64 0) (z := .bool false) rfl rfl (ev rfl rfl) evc (bin_neq (by decide)) ?_)
  refine wnil (thenN ?_)
  refine wF (ev rfl rfl) ?_
  refine wskip (thenN (wseq (wreg (wl rfl (omove (v := .int .i64 0) rfl rfl (ev rfl rfl) ?_)))))
  refine wl rfl (ocall rfl rfl Tryz.call13 rfl (wlnum6) (args1 (ev rfl rfl)) ?_)
  rintro _ w9 ⟨_, _, rfl, ⟨rfl, rfl⟩, hN⟩
  refine ⟨_, rfl, ?_⟩
  replace hS := hS.news hN; clear hN
  refine wl rfl (obin (u := .int .i64 0) (v := .int .i64 0) (z := .bool true) rfl rfl (ev rfl rfl) evc (bin_eql (by decide)) ?_)
  refine wl rfl (omove (v := .bool true) rfl rfl (ev rfl rfl) ?_)
  refine wlOn (e := 51) rfl rfl rfl rfl (oload (vs := [.bool (ng (rcx v m b)), .slice pra nra cra, .bool (ng (rcy v m b)), .slice prb nrb crb]) aggR hS 3 rfl rfl (ev rfl rfl) rfl rfl rfl ?_)
  refine wlOn (e := 51) rfl rfl rfl rfl (oload (vs := [.bool (ng (rcx v m b)), .slice pya nya cya, .bool (ng (rcy v m b)), .slice pyb nyb cyb]) aggR hS 0 rfl rfl (ev rfl rfl) rfl rfl rfl ?_)
  refine wlOn (e := 51) rfl rfl rfl rfl (ocall rfl rfl Tryz.call17 rfl (wssame (x := rcx v m b) (y := rcy v m b) (u := rcx v m b) (v := rcy v m b) (hS.sl 4 rfl) (hS.sl 5 rfl) (hS.slm 1 rfl) (hS.slm 2 rfl) (rfl) (rfl)) (args2 (ev rfl rfl) (ev rfl rfl)) ?_)
  rintro _ w10 ⟨_, _, rfl, ⟨rfl, rfl⟩, hN⟩
  refine ⟨_, rfl, ?_⟩
  replace hS := hS.news hN; clear hN
  refine wl rfl (opick (b := true) (v := .bool true) rfl rfl (ev rfl rfl) (ev rfl rfl) ?_)
  refine wl rfl (omove (v := .bool true) rfl rfl (ev rfl rfl) ?_)
  refine wlOn (e := 56) rfl rfl rfl rfl (ocall rfl rfl Tryz.call14 rfl (wlawake6 (ht.at hS)) (args0 ) ?_)
  rintro _ w11 ⟨_, _, rfl, ⟨rfl, rfl⟩, hN⟩
  refine ⟨_, rfl, ?_⟩
  replace hS := hS.news hN; clear hN
  refine wl rfl (opick (b := true) (v := .bool true) rfl rfl (ev rfl rfl) (ev rfl rfl) ?_)
  refine wl rfl (oassign (v := .bool true) rfl rfl (ev rfl rfl) ?_)
  refine wnil (thenN ?_)
  refine wleave ?_
  refine wret1 Tryz.results4 (tellT (v := .bool true) rfl rfl) ?_
  exact ⟨_, _, rfl, isI, hS.new0⟩
 ·
  refine wl rfl (ocall rfl rfl Tryz.call15 rfl (wcreconE (hv.at hS) (hm.at hS) (hb.at hS) h0) (args3 (ev rfl rfl) (ev rfl rfl) (ev rfl rfl)) ?_)
  rintro _ w1 ⟨_, _, rfl, ⟨rfl, rfl⟩, hN⟩
  refine ⟨_, rfl, ?_⟩
  replace hS := hS.news hN; clear hN
  refine wl rfl (omove (v := .tuple #[.agg #[.bool false, .slice none 0 0, .bool false, .slice none 0 0], .int .i64 (((rce v m b : Nat) : Int))]) rfl rfl (ev rfl rfl) ?_)
  refine wl rfl (oextract (vs := [.agg #[.bool false, .slice none 0 0, .bool false, .slice none 0 0], .int .i64 (((rce v m b : Nat) : Int))]) (v := .agg #[.bool false, .slice none 0 0, .bool false, .slice none 0 0]) rfl rfl (ev rfl rfl) rfl ?_)
  refine wl rfl (oextract (vs := [.agg #[.bool false, .slice none 0 0, .bool false, .slice none 0 0], .int .i64 (((rce v m b : Nat) : Int))]) (v := .int .i64 (((rce v m b : Nat) : Int))) rfl rfl (ev rfl rfl) rfl ?_)
  refine wl rfl (oalloc [.bool false, .slice none 0 0, .bool false, .slice none 0 0] hS rfl rfl Tryz.zeroValue30 rfl ?_)
  clear hS; intro g2 w3 hS
  refine wl rfl (ostore [.bool false, .slice none 0 0, .bool false, .slice none 0 0] [.bool false, .slice none 0 0, .bool false, .slice none 0 0] Tryz.sizeOf30 hS 0 rfl rfl (ev rfl rfl) (ev (v := .agg #[.bool false, .slice none 0 0, .bool false, .slice none 0 0]) rfl rfl) rfl rfl rfl rfl rfl rfl ?_)
  clear hS; intro w4 hS
  refine wl rfl (oassign (v := .int .i64 (((rce v m b : Nat) : Int))) rfl rfl (ev rfl rfl) ?_)
  refine wnil (thenN (wseq (wreg (wl rfl (omove (v := .slice pv nv cv) rfl rfl (ev rfl rfl) ?_)))))
  refine wl rfl (omove (v := .slice pm nm cm) rfl rfl (ev rfl rfl) ?_)
  refine wl rfl (omove (v := .slice pb nb cb) rfl rfl (ev rfl rfl) ?_)
  refine wl rfl (ocall rfl rfl Tryz.call16 rfl (wfreconE (hv.at hS) (hm.at hS) (hb.at hS) h0) (args3 (ev rfl rfl) (ev rfl rfl) (ev rfl rfl)) ?_)
  rintro _ w5 ⟨_, _, rfl, ⟨rfl, rfl⟩, hN⟩
  refine ⟨_, rfl, ?_⟩
  replace hS := hS.news hN; clear hN
  refine wl rfl (omove (v := .tuple #[.agg #[.bool false, .slice none 0 0, .bool false, .slice none 0 0], .int .i64 (((rce v m b : Nat) : Int))]) rfl rfl (ev rfl rfl) ?_)
  refine wl rfl (oextract (vs := [.agg #[.bool false, .slice none 0 0, .bool false, .slice none 0 0], .int .i64 (((rce v m b : Nat) : Int))]) (v := .agg #[.bool false, .slice none 0 0, .bool false, .slice none 0 0]) rfl rfl (ev rfl rfl) rfl ?_)
  refine wl rfl (oextract (vs := [.agg #[.bool false, .slice none 0 0, .bool false, .slice none 0 0], .int .i64 (((rce v m b : Nat) : Int))]) (v := .int .i64 (((rce v m b : Nat) : Int))) rfl rfl (ev rfl rfl) rfl ?_)
  refine wl rfl (oalloc [.bool false, .slice none 0 0, .bool false, .slice none 0 0] hS rfl rfl Tryz.zeroValue30 rfl ?_)
  clear hS; intro g6 w7 hS
  refine wl rfl (ostore [.bool false, .slice none 0 0, .bool false, .slice none 0 0] [.bool false, .slice none 0 0, .bool false, .slice none 0 0] Tryz.sizeOf30 hS 0 rfl rfl (ev rfl rfl) (ev (v := .agg #[.bool false, .slice none 0 0, .bool false, .slice none 0 0]) rfl rfl) rfl rfl rfl rfl rfl rfl ?_)
  clear hS; intro w8 hS
  refine wl rfl (oassign (v := .int .i64 (((rce v m b : Nat) : Int))) rfl rfl (ev rfl rfl) ?_)
  refine wnil (thenN (wseq (wseq (wreg (wl rfl (omove (v := .int .i64 (((rce v m b : Nat) : Int))) rfl rfl (ev rfl rfl) ?_))))))
  refine wl rfl (obin (u := .int .i64 (((rce v m b : Nat) : Int))) (v := .int .i64 0) (z := .bool true) rfl rfl (ev rfl rfl) evc (bin_neq (neT (by omega))) ?_)
  refine wnil (thenN ?_)
  refine wT (ev rfl rfl) ?_
  refine wseq (wreg (wl rfl (omove (v := .int .i64 (((rce v m b : Nat) : Int))) rfl rfl (ev rfl rfl) ?_)))
  refine wl rfl (ocall rfl rfl Tryz.call13 rfl (wlnum6) (args1 (ev rfl rfl)) ?_)
  rintro _ w9 ⟨_, _, rfl, ⟨rfl, rfl⟩, hN⟩
  refine ⟨_, rfl, ?_⟩
  replace hS := hS.news hN; clear hN
  refine wl rfl (omove (v := .int .i64 (((rce v m b : Nat) : Int))) rfl rfl (ev rfl rfl) ?_)
  refine wl rfl (obin (u := .int .i64 (((rce v m b : Nat) : Int))) (v := .int .i64 (((rce v m b : Nat) : Int))) (z := .bool true) rfl rfl (ev rfl rfl) (ev rfl rfl) (bin_eql (eqT rfl)) ?_)
  refine wl rfl (omove (v := .bool true) rfl rfl (ev rfl rfl) ?_)
  refine wlOn (e := 31) rfl rfl rfl rfl (ofieldAddr (g := g2) (off := 0) 0 rfl rfl (ev rfl rfl) Tryz.runUnderlying30 rfl Tryz.sizeOf28 rfl ?_)
  refine wlOn (e := 31) rfl rfl rfl rfl (ofieldAddr (g := g2) (off := 0) 1 rfl rfl (ev rfl rfl) Tryz.runUnderlying28 rfl Tryz.sizeOf26 rfl ?_)
  refine wlOn (e := 31) rfl rfl rfl rfl (oload1 (v := .slice none 0 0) oneN hS 1 rfl rfl (ev rfl rfl) rfl rfl ?_)
  refine wlOn (e := 31) rfl rfl rfl rfl (olen rfl rfl rfl Tryz.runUnderlying26 (p := none) (k := 0) (m := 0) (ev rfl rfl) ?_)
  refine wlOn (e := 31) rfl rfl rfl rfl (obin (u := .int .i64 (((0 : Nat) : Int))) (v := .int .i64 0) (z := .bool true) rfl rfl (ev rfl rfl) evc (bin_eql (eqT (by omega))) ?_)
  refine wl rfl (opick (b := true) (v := .bool true) rfl rfl (ev rfl rfl) (ev rfl rfl) ?_)
  refine wl rfl (omove (v := .bool true) rfl rfl (ev rfl rfl) ?_)
  refine wlOn (e := 38) rfl rfl rfl rfl (ofieldAddr (g := g2) (off := 0) 2 rfl rfl (ev rfl rfl) Tryz.runUnderlying30 rfl Tryz.sizeOf28 rfl ?_)
  refine wlOn (e := 38) rfl rfl rfl rfl (ofieldAddr (g := g2) (off := 2) 3 rfl rfl (ev rfl rfl) Tryz.runUnderlying28 rfl Tryz.sizeOf26 rfl ?_)
  refine wlOn (e := 38) rfl rfl rfl rfl (oload1 (v := .slice none 0 0) oneN hS 1 rfl rfl (ev rfl rfl) rfl rfl ?_)
  refine wlOn (e := 38) rfl rfl rfl rfl (olen rfl rfl rfl Tryz.runUnderlying26 (p := none) (k := 0) (m := 0) (ev rfl rfl) ?_)
  refine wlOn (e := 38) rfl rfl rfl rfl (obin (u := .int .i64 (((0 : Nat) : Int))) (v := .int .i64 0) (z := .bool true) rfl rfl (ev rfl rfl) evc (bin_eql (eqT (by omega))) ?_)
  refine wl rfl (opick (b := true) (v := .bool true) rfl rfl (ev rfl rfl) (ev rfl rfl) ?_)
  refine wl rfl (omove (v := .bool true) rfl rfl (ev rfl rfl) ?_)
  refine wlOn (e := 45) rfl rfl rfl rfl (ocall rfl rfl Tryz.call14 rfl (wlawake6 (ht.at hS)) (args0 ) ?_)
  rintro _ w10 ⟨_, _, rfl, ⟨rfl, rfl⟩, hN⟩
  refine ⟨_, rfl, ?_⟩
  replace hS := hS.news hN; clear hN
  refine wl rfl (opick (b := true) (v := .bool true) rfl rfl (ev rfl rfl) (ev rfl rfl) ?_)
  refine wl rfl (oassign (v := .bool true) rfl rfl (ev rfl rfl) ?_)
  refine wnil (thenN ?_)
  refine wleave ?_
  refine thenR ?_
  refine wret1 Tryz.results4 (tellT (v := .bool true) rfl rfl) ?_
  exact ⟨_, _, rfl, isI, hS.new0⟩
theorem crtRecons_walk {pv pm pb : Option Addr} {nv cv nm cm nb cb : Nat} {xv xm xb : List Nat} {w : World} (hxv : Sl w pv nv cv xv) (hxm : Sl w pm nm cm xm) (hxb : Sl w pb nb cb xb) (h1 : Tab w) (h2 : Bases w) (b1 : nv ≤ 2097152) (b2 : nm ≤ 2097152) (b3 : nb ≤ 2097152) : Calls Tryz.prog 4 #[.slice pv nv cv, .slice pm nm cm, .slice pb nb cb] w (RetB w true) := Ret.bool (crtRecons_walk0 ⟨h1, h2⟩ ⟨xv, hxv, rfl, b1⟩ ⟨xm, hxm, rfl, b2⟩ ⟨xb, hxb, rfl, b3⟩)
end Go.Proofs.YtjbcjlbbipohjaaGreatDoor
