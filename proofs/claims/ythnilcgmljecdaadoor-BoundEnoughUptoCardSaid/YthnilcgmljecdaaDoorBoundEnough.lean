
/-
  The walk of similelaw22.BoundEnough.
-/
import Derived.Test.YthnilcgmljecdaaDoorB3
import Derived.Test.YthnilcgmljecdaaDoorLT
set_option linter.unusedVariables false
set_option linter.unusedSimpArgs false
set_option maxRecDepth 100000
set_option maxHeartbeats 16000000
namespace Go.Proofs.YthnilcgmljecdaaDoor
open Go.RowKit
theorem boundEnough_walk0 {b0:Bool} {pb pp:Option Addr} {nb cb np cp:Nat} {z0:Int} {xs:List Nat} {w:World} (ht:Tb w) (hb:Zr w b0 pb nb cb z0 1048580) (hx:Sl w pp np cp xs) (hn:np ≤ 1048576) :
  Calls Tryd.prog 6 #[.agg #[.bool b0,.slice pb nb cb],.slice pp np cp] w (Ret (Is (.bool true)) w):=by
 have hS:=Sep.init w
 refine went Tryd.func6 rfl (n:=42) rfl rfl ?_
 refine wseq (wreg (wl rfl (obox [.bool b0,.slice pb nb cb] hS rfl rfl (ev (v:=.agg #[.bool b0,.slice pb nb cb]) rfl rfl) rfl ?_)))
 clear hS; intro g1 w2 hS
 refine wl rfl (oassign (v:=.bool false) rfl rfl evc ?_)
 refine wnil (thenN (wseq (wreg (wl rfl (oload (vs:=[.bool b0,.slice pb nb cb]) aggZ hS 0 rfl rfl (ev rfl rfl) rfl rfl rfl ?_)))))
 refine wl rfl (omove (v:=.slice pp np cp) rfl rfl (ev rfl rfl) ?_)
 refine wl rfl (ocall rfl rfl Tryd.call20 rfl (wbenough (ht.at hS) (hb.at hS) (hx.below hS.below (Nat.le_refl _)) hn) (args2 (ev rfl rfl) (ev rfl rfl)) ?_)
 rintro _ w3 ⟨_,_,rfl,⟨rfl,rfl⟩,hN⟩
 refine ⟨_,rfl,?_⟩
 replace hS:=hS.news hN; clear hN
 refine wl rfl (omove (v:=.tuple #[.bool (enX z0 xs),.bool (enY z0 xs),.int .i64 (enE z0 xs)]) rfl rfl (ev rfl rfl) ?_)
 refine wl rfl (oextract (vs:=[.bool (enX z0 xs),.bool (enY z0 xs),.int .i64 (enE z0 xs)]) (v:=.bool (enX z0 xs)) rfl rfl (ev rfl rfl) rfl ?_)
 refine wl rfl (oextract (vs:=[.bool (enX z0 xs),.bool (enY z0 xs),.int .i64 (enE z0 xs)]) (v:=.bool (enY z0 xs)) rfl rfl (ev rfl rfl) rfl ?_)
 refine wl rfl (oextract (vs:=[.bool (enX z0 xs),.bool (enY z0 xs),.int .i64 (enE z0 xs)]) (v:=.int .i64 (enE z0 xs)) rfl rfl (ev rfl rfl) rfl ?_)
 refine wl rfl (oassign (v:=.bool (enX z0 xs)) rfl rfl (ev rfl rfl) ?_)
 refine wl rfl (oassign (v:=.bool (enY z0 xs)) rfl rfl (ev rfl rfl) ?_)
 refine wl rfl (oassign (v:=.int .i64 (enE z0 xs)) rfl rfl (ev rfl rfl) ?_)
 refine wnil (thenN (wseq (wreg (wl rfl (oload (vs:=[.bool b0,.slice pb nb cb]) aggZ hS 0 rfl rfl (ev rfl rfl) rfl rfl rfl ?_)))))
 refine wl rfl (omove (v:=.slice pp np cp) rfl rfl (ev rfl rfl) ?_)
 refine wl rfl (ocall rfl rfl Tryd.call21 rfl (wqenough (ht.at hS) (hb.at hS) (hx.below hS.below (Nat.le_refl _)) hn) (args2 (ev rfl rfl) (ev rfl rfl)) ?_)
 rintro _ w4 ⟨_,_,rfl,⟨rfl,rfl⟩,hN⟩
 refine ⟨_,rfl,?_⟩
 replace hS:=hS.news hN; clear hN
 refine wl rfl (omove (v:=.tuple #[.bool (enX z0 xs),.bool (enY z0 xs),.int .i64 (enE z0 xs)]) rfl rfl (ev rfl rfl) ?_)
 refine wl rfl (oextract (vs:=[.bool (enX z0 xs),.bool (enY z0 xs),.int .i64 (enE z0 xs)]) (v:=.bool (enX z0 xs)) rfl rfl (ev rfl rfl) rfl ?_)
 refine wl rfl (oextract (vs:=[.bool (enX z0 xs),.bool (enY z0 xs),.int .i64 (enE z0 xs)]) (v:=.bool (enY z0 xs)) rfl rfl (ev rfl rfl) rfl ?_)
 refine wl rfl (oextract (vs:=[.bool (enX z0 xs),.bool (enY z0 xs),.int .i64 (enE z0 xs)]) (v:=.int .i64 (enE z0 xs)) rfl rfl (ev rfl rfl) rfl ?_)
 refine wl rfl (oassign (v:=.bool (enX z0 xs)) rfl rfl (ev rfl rfl) ?_)
 refine wl rfl (oassign (v:=.bool (enY z0 xs)) rfl rfl (ev rfl rfl) ?_)
 refine wl rfl (oassign (v:=.int .i64 (enE z0 xs)) rfl rfl (ev rfl rfl) ?_)
 refine wnil (thenN (wseq (wreg (wl rfl (omove (v:=.bool (enX z0 xs)) rfl rfl (ev rfl rfl) ?_)))))
 refine wl rfl (omove (v:=.bool (enX z0 xs)) rfl rfl (ev rfl rfl) ?_)
 refine wl rfl (obin (u:=.bool (enX z0 xs)) (v:=.bool (enX z0 xs)) (z:=.bool true) rfl rfl (ev rfl rfl) (ev rfl rfl) (bin_eqlB Tryd.underlying4 (beq_self_eq_true _)) ?_)
 refine wl rfl (omove (v:=.bool true) rfl rfl (ev rfl rfl) ?_)
 refine wlOn (e:=28) rfl rfl rfl rfl (omove (v:=.bool (enY z0 xs)) rfl rfl (ev rfl rfl) ?_)
 refine wlOn (e:=28) rfl rfl rfl rfl (omove (v:=.bool (enY z0 xs)) rfl rfl (ev rfl rfl) ?_)
 refine wlOn (e:=28) rfl rfl rfl rfl (obin (u:=.bool (enY z0 xs)) (v:=.bool (enY z0 xs)) (z:=.bool true) rfl rfl (ev rfl rfl) (ev rfl rfl) (bin_eqlB Tryd.underlying4 (beq_self_eq_true _)) ?_)
 refine wl rfl (opick (b:=true) (v:=.bool true) rfl rfl (ev rfl rfl) (ev rfl rfl) ?_)
 refine wl rfl (omove (v:=.bool true) rfl rfl (ev rfl rfl) ?_)
 refine wlOn (e:=33) rfl rfl rfl rfl (omove (v:=.int .i64 (enE z0 xs)) rfl rfl (ev rfl rfl) ?_)
 refine wlOn (e:=33) rfl rfl rfl rfl (ocall rfl rfl Tryd.call9 rfl (wbnum) (args1 (ev rfl rfl)) ?_)
 rintro _ w5 ⟨_,_,rfl,⟨rfl,rfl⟩,hN⟩
 refine ⟨_,rfl,?_⟩
 replace hS:=hS.news hN; clear hN
 refine wlOn (e:=33) rfl rfl rfl rfl (omove (v:=.int .i64 (enE z0 xs)) rfl rfl (ev rfl rfl) ?_)
 refine wlOn (e:=33) rfl rfl rfl rfl (obin (u:=.int .i64 (enE z0 xs)) (v:=.int .i64 (enE z0 xs)) (z:=.bool true) rfl rfl (ev rfl rfl) (ev rfl rfl) (bin_eql (eqT rfl)) ?_)
 refine wl rfl (opick (b:=true) (v:=.bool true) rfl rfl (ev rfl rfl) (ev rfl rfl) ?_)
 refine wl rfl (omove (v:=.bool true) rfl rfl (ev rfl rfl) ?_)
 refine wlOn (e:=39) rfl rfl rfl rfl (ocall rfl rfl Tryd.call10 rfl (wbawake (ht.at hS)) (args0 ) ?_)
 rintro _ w6 ⟨_,_,rfl,⟨rfl,rfl⟩,hN⟩
 refine ⟨_,rfl,?_⟩
 replace hS:=hS.news hN; clear hN
 refine wl rfl (opick (b:=true) (v:=.bool true) rfl rfl (ev rfl rfl) (ev rfl rfl) ?_)
 refine wl rfl (oassign (v:=.bool true) rfl rfl (ev rfl rfl) ?_)
 refine wnil (thenN ?_)
 refine wleave ?_
 refine wret1 Tryd.results6 (tellT (v:=.bool true) rfl rfl) ?_
 exact ⟨_,_,rfl,isI,hS.new0⟩
theorem boundEnough_walk {b0:Bool} {pb pp:Option Addr} {nb cb np cp:Nat} {ys xs:List Nat} {w:World} (hb:Sl w pb nb cb ys) (hx:Sl w pp np cp xs) (h1:Tab w) (h2:Bases w) (b1:nb ≤ 1048576) (b2:np ≤ 1048576):Calls Tryd.prog 6 #[.agg #[.bool b0,.slice pb nb cb],.slice pp np cp] w (RetB w true):=Ret.bool (boundEnough_walk0 ⟨h1,h2⟩ ⟨ys,hb,rfl,by omega⟩ hx b2)
end Go.Proofs.YthnilcgmljecdaaDoor
