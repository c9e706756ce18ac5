
/-
  The walk of similelaw10.ModmatNames.
-/
import Derived.Test.YtndilfigdbenoaaDoorMm7
import Derived.Test.YtndilfigdbenoaaDoorLT
set_option linter.unusedVariables false
set_option linter.unusedSimpArgs false
set_option maxRecDepth 100000
set_option maxHeartbeats 16000000
namespace Go.Proofs.YtndilfigdbenoaaDoor
open Go.RowKit
theorem modmatNames_walk0 {w : World} (ht : Tb w) :
  Calls Tryd.prog 3 #[] w (Ret (Is (.bool true)) w) := by
 have hS := Sep.init w
 refine went Tryd.func3 rfl (n := 16) rfl rfl ?_
 refine wseq (wreg (wl rfl (oassign (v := .bool false) rfl rfl evc ?_)))
 refine wnil (thenN (wseq (wreg (wl rfl (ocall rfl rfl Tryd.call11 rfl (wxnum) (args1 evc) ?_)))))
 rintro _ w1 ⟨_, _, rfl, ⟨rfl, rfl⟩, hN⟩
 refine ⟨_, rfl, ?_⟩
 replace hS := hS.news hN; clear hN
 refine wl rfl (obin (u := .int .i64 2) (v := .int .i64 2) (z := .bool true) rfl rfl (ev rfl rfl) evc (bin_eql (by decide)) ?_)
 refine wl rfl (omove (v := .bool true) rfl rfl (ev rfl rfl) ?_)
 refine wlOn (e := 3) rfl rfl rfl rfl (ocall rfl rfl Tryd.call11 rfl (wxnum) (args1 evc) ?_)
 rintro _ w2 ⟨_, _, rfl, ⟨rfl, rfl⟩, hN⟩
 refine ⟨_, rfl, ?_⟩
 replace hS := hS.news hN; clear hN
 refine wlOn (e := 3) rfl rfl rfl rfl (obin (u := .int .i64 3) (v := .int .i64 3) (z := .bool true) rfl rfl (ev rfl rfl) evc (bin_eql (by decide)) ?_)
 refine wl rfl (opick (b := true) (v := .bool true) rfl rfl (ev rfl rfl) (ev rfl rfl) ?_)
 refine wl rfl (omove (v := .bool true) rfl rfl (ev rfl rfl) ?_)
 refine wlOn (e := 7) rfl rfl rfl rfl (ocall rfl rfl Tryd.call11 rfl (wxnum) (args1 evc) ?_)
 rintro _ w3 ⟨_, _, rfl, ⟨rfl, rfl⟩, hN⟩
 refine ⟨_, rfl, ?_⟩
 replace hS := hS.news hN; clear hN
 refine wlOn (e := 7) rfl rfl rfl rfl (obin (u := .int .i64 7) (v := .int .i64 7) (z := .bool true) rfl rfl (ev rfl rfl) evc (bin_eql (by decide)) ?_)
 refine wl rfl (opick (b := true) (v := .bool true) rfl rfl (ev rfl rfl) (ev rfl rfl) ?_)
 refine wl rfl (omove (v := .bool true) rfl rfl (ev rfl rfl) ?_)
 refine wl rfl (opick (b := true) (v := .bool true) rfl rfl (ev rfl rfl) evc ?_)
 refine wl rfl (omove (v := .bool true) rfl rfl (ev rfl rfl) ?_)
 refine wlOn (e := 13) rfl rfl rfl rfl (ocall rfl rfl Tryd.call12 rfl (wxawake (ht.at hS)) (args0 ) ?_)
 rintro _ w4 ⟨_, _, rfl, ⟨rfl, rfl⟩, hN⟩
 refine ⟨_, rfl, ?_⟩
 replace hS := hS.news hN; clear hN
 refine wl rfl (opick (b := true) (v := .bool true) rfl rfl (ev rfl rfl) (ev rfl rfl) ?_)
 refine wl rfl (oassign (v := .bool true) rfl rfl (ev rfl rfl) ?_)
 refine wnil (thenN ?_)
 refine wleave ?_
 refine wret1 Tryd.results3 (tellT (v := .bool true) rfl rfl) ?_
 exact ⟨_, _, rfl, isI, hS.new0⟩
theorem modmatNames_walk {w : World} (h1 : Tab w) (h2 : Bases w) : Calls Tryd.prog 3 #[] w (RetB w true) := Ret.bool (modmatNames_walk0 ⟨h1, h2⟩)
end Go.Proofs.YtndilfigdbenoaaDoor
