
/-
  The walk of similelaw06.CrtNames.
-/
import Derived.Test.YtjbcjlbbipohjaaGreatDoorCrt4
import Derived.Test.YtjbcjlbbipohjaaGreatDoorLT
set_option linter.unusedVariables false
set_option linter.unusedSimpArgs false
namespace Go.Proofs.YtjbcjlbbipohjaaGreatDoor
open Go.RowKit

set_option maxRecDepth 100000 in
set_option maxHeartbeats 16000000 in
theorem crtNames_walk0  {w : World} (ht : Tb w) :
    Calls Tryz.prog 3 #[] w (Ret (Is (.bool true)) w) := by
  have hS := Sep.init w
  refine went Tryz.func3 rfl (n := 18) rfl rfl ?_
  refine wseq ?_
  refine wreg ?_
  refine wl rfl (oassign (v := .bool false) rfl rfl (evc (v := .bool false)) ?_)
  refine wnil ?_
  refine thenN ?_
  refine wseq ?_
  refine wreg ?_
  refine wl rfl (ocall rfl rfl Tryz.call13 rfl (wlnum6) (args1 evc) ?_)
  rintro _ w1 ⟨_, _, rfl, ⟨rfl, rfl⟩, hN⟩
  refine ⟨_, rfl, ?_⟩
  replace hS := hS.news hN; clear hN
  refine wl rfl (obin (u := .int .i64 8) (v := .int .i64 8) (z := .bool true) rfl rfl (ev (v := .int .i64 8) rfl rfl) (evc (v := .int .i64 8)) (bin_eql (by decide)) ?_)
  refine wl rfl (omove (v := .bool true) rfl rfl (ev (v := .bool true) rfl rfl) ?_)
  refine wlOn (e := 3) rfl rfl rfl rfl (ocall rfl rfl Tryz.call13 rfl (wlnum6) (args1 evc) ?_)
  rintro _ w2 ⟨_, _, rfl, ⟨rfl, rfl⟩, hN⟩
  refine ⟨_, rfl, ?_⟩
  replace hS := hS.news hN; clear hN
  refine wlOn (e := 3) rfl rfl rfl rfl (obin (u := .int .i64 60) (v := .int .i64 60) (z := .bool true) rfl rfl (ev (v := .int .i64 60) rfl rfl) (evc (v := .int .i64 60)) (bin_eql (by decide)) ?_)
  refine wl rfl (opick (b := true) (v := .bool true) rfl rfl (ev (v := .bool true) rfl rfl) (ev (v := .bool true) rfl rfl) ?_)
  refine wl rfl (omove (v := .bool true) rfl rfl (ev (v := .bool true) rfl rfl) ?_)
  refine wlOn (e := 7) rfl rfl rfl rfl (ocall rfl rfl Tryz.call13 rfl (wlnum6) (args1 evc) ?_)
  rintro _ w3 ⟨_, _, rfl, ⟨rfl, rfl⟩, hN⟩
  refine ⟨_, rfl, ?_⟩
  replace hS := hS.news hN; clear hN
  refine wlOn (e := 7) rfl rfl rfl rfl (obin (u := .int .i64 61) (v := .int .i64 61) (z := .bool true) rfl rfl (ev (v := .int .i64 61) rfl rfl) (evc (v := .int .i64 61)) (bin_eql (by decide)) ?_)
  refine wl rfl (opick (b := true) (v := .bool true) rfl rfl (ev (v := .bool true) rfl rfl) (ev (v := .bool true) rfl rfl) ?_)
  refine wl rfl (omove (v := .bool true) rfl rfl (ev (v := .bool true) rfl rfl) ?_)
  refine wlOn (e := 11) rfl rfl rfl rfl (ocall rfl rfl Tryz.call13 rfl (wlnum6) (args1 evc) ?_)
  rintro _ w4 ⟨_, _, rfl, ⟨rfl, rfl⟩, hN⟩
  refine ⟨_, rfl, ?_⟩
  replace hS := hS.news hN; clear hN
  refine wlOn (e := 11) rfl rfl rfl rfl (obin (u := .int .i64 40) (v := .int .i64 40) (z := .bool true) rfl rfl (ev (v := .int .i64 40) rfl rfl) (evc (v := .int .i64 40)) (bin_eql (by decide)) ?_)
  refine wl rfl (opick (b := true) (v := .bool true) rfl rfl (ev (v := .bool true) rfl rfl) (ev (v := .bool true) rfl rfl) ?_)
  refine wl rfl (omove (v := .bool true) rfl rfl (ev (v := .bool true) rfl rfl) ?_)
  refine wlOn (e := 15) rfl rfl rfl rfl (ocall rfl rfl Tryz.call14 rfl (wlawake6 (ht.at hS)) (args0 ) ?_)
  rintro _ w5 ⟨_, _, rfl, ⟨rfl, rfl⟩, hN⟩
  refine ⟨_, rfl, ?_⟩
  replace hS := hS.news hN; clear hN
  refine wl rfl (opick (b := true) (v := .bool true) rfl rfl (ev (v := .bool true) rfl rfl) (ev (v := .bool true) rfl rfl) ?_)
  refine wl rfl (oassign (v := .bool true) rfl rfl (ev (v := .bool true) rfl rfl) ?_)
  refine wnil ?_
  refine thenN ?_
  refine wleave ?_
  refine wret1 Tryz.results3 (tellT (v := .bool true) rfl rfl) ?_
  exact ⟨_, _, rfl, isI, hS.new0⟩

theorem crtNames_walk {w : World} (h1 : Tab w) (h2 : Bases w) : Calls Tryz.prog 3 #[] w (RetB w true) := Ret.bool (crtNames_walk0 ⟨h1, h2⟩)
end Go.Proofs.YtjbcjlbbipohjaaGreatDoor
