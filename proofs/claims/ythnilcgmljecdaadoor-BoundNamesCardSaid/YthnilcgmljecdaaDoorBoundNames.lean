
/-
  The walk of similelaw22.BoundNames.
-/
import Derived.Test.YthnilcgmljecdaaDoorB2
import Derived.Test.YthnilcgmljecdaaDoorLT
set_option linter.unusedVariables false
set_option linter.unusedSimpArgs false
set_option maxRecDepth 100000
set_option maxHeartbeats 16000000
namespace Go.Proofs.YthnilcgmljecdaaDoor
open Go.RowKit
theorem boundNames_walk0 {w:World} (ht:Tb w) :
  Calls Tryd.prog 3 #[] w (Ret (Is (.bool true)) w):=by
 have hS:=Sep.init w
 refine went Tryd.func3 rfl (n:=14) rfl rfl ?_
 refine wseq (wreg (wl rfl (oassign (v:=.bool false) rfl rfl evc ?_)))
 refine wnil (thenN (wseq (wreg (wl rfl (ocall rfl rfl Tryd.call9 rfl (wbnum) (args1 evc) ?_)))))
 rintro _ w1 ⟨_,_,rfl,⟨rfl,rfl⟩,hN⟩
 refine ⟨_,rfl,?_⟩
 replace hS:=hS.news hN; clear hN
 refine wl rfl (obin (u:=.int .i64 5) (v:=.int .i64 5) (z:=.bool true) rfl rfl (ev rfl rfl) evc (bin_eql (by decide)) ?_)
 refine wl rfl (omove (v:=.bool true) rfl rfl (ev rfl rfl) ?_)
 refine wlOn (e:=3) rfl rfl rfl rfl (ocall rfl rfl Tryd.call9 rfl (wbnum) (args1 evc) ?_)
 rintro _ w2 ⟨_,_,rfl,⟨rfl,rfl⟩,hN⟩
 refine ⟨_,rfl,?_⟩
 replace hS:=hS.news hN; clear hN
 refine wlOn (e:=3) rfl rfl rfl rfl (obin (u:=.int .i64 60) (v:=.int .i64 60) (z:=.bool true) rfl rfl (ev rfl rfl) evc (bin_eql (by decide)) ?_)
 refine wl rfl (opick (b:=true) (v:=.bool true) rfl rfl (ev rfl rfl) (ev rfl rfl) ?_)
 refine wl rfl (omove (v:=.bool true) rfl rfl (ev rfl rfl) ?_)
 refine wl rfl (opick (b:=true) (v:=.bool true) rfl rfl (ev rfl rfl) evc ?_)
 refine wl rfl (omove (v:=.bool true) rfl rfl (ev rfl rfl) ?_)
 refine wl rfl (opick (b:=true) (v:=.bool true) rfl rfl (ev rfl rfl) evc ?_)
 refine wl rfl (omove (v:=.bool true) rfl rfl (ev rfl rfl) ?_)
 refine wlOn (e:=11) rfl rfl rfl rfl (ocall rfl rfl Tryd.call10 rfl (wbawake (ht.at hS)) (args0 ) ?_)
 rintro _ w3 ⟨_,_,rfl,⟨rfl,rfl⟩,hN⟩
 refine ⟨_,rfl,?_⟩
 replace hS:=hS.news hN; clear hN
 refine wl rfl (opick (b:=true) (v:=.bool true) rfl rfl (ev rfl rfl) (ev rfl rfl) ?_)
 refine wl rfl (oassign (v:=.bool true) rfl rfl (ev rfl rfl) ?_)
 refine wnil (thenN ?_)
 refine wleave ?_
 refine wret1 Tryd.results3 (tellT (v:=.bool true) rfl rfl) ?_
 exact ⟨_,_,rfl,isI,hS.new0⟩
theorem boundNames_walk {w:World} (h1:Tab w) (h2:Bases w):Calls Tryd.prog 3 #[] w (RetB w true):=Ret.bool (boundNames_walk0 ⟨h1,h2⟩)
end Go.Proofs.YthnilcgmljecdaaDoor
