
/-
  The walk of similelaw21.HessAsks.
-/
import Derived.Test.YtcfcdbeemhjhgaaDoorQF
import Derived.Test.YtcfcdbeemhjhgaaDoorH6
import Derived.Test.YtcfcdbeemhjhgaaDoorMmOpen
import Derived.Test.YtcfcdbeemhjhgaaDoorLT
set_option linter.unusedVariables false
set_option linter.unusedSimpArgs false
set_option maxRecDepth 100000
set_option maxHeartbeats 16000000
namespace Go.Proofs.YtcfcdbeemhjhgaaDoor
open Go.RowKit
theorem hessAsks_e {pm:Option Addr} {nm cm p:Nat} {M:List (List Nat)} {w:World} (ht:Tb w) (hm:MS w pm nm M) (hp2:p < 4294967296) (hs:SmallM M) {e:Nat} (hc:HFa p M e) (he:e ≠ 0) :
  Calls Tryd.prog 3 #[.slice pm nm cm,.int .u32 ((p:Nat):Int)] w (Ret (Is (.bool true)) w):=by
 have hml:=hm.1
 have hb1:nm ≤ 2097152:=by have:=hs.1; omega
 have hS:=Sep.init w
 refine went Tryd.func3 rfl (n:=77) rfl rfl ?_
 refine wsr (wavc ?_)
 refine wn2 (wmv (v:=.slice pm nm cm) rfl rfl ?_)
 refine wcl Tryd.call7 (wlcopied (hm.at hS) hs) (ar1 (ev rfl rfl)) hS ?_
 clear hS; rintro _ _ w1 ⟨pG,cG,QG,hQG,rfl,rfl⟩ hS
 refine wav (v:=.slice pG nm cG) rfl rfl ?_
 refine wn2 (wmv (v:=.slice pG nm cG) rfl rfl ?_)
 refine wmv (v:=.int .u32 (p:Int)) rfl rfl ?_
 refine wcl Tryd.call8 (whIsE (ht.at hS) (show MS _ _ _ M from hQG ▸ (hS.ms 0 rfl (by simp only [maxLen]; omega))) hp2 hb1 hs.2 hc he) (ar2 (ev rfl rfl) (ev rfl rfl)) hS ?_
 clear hS; rintro _ _ w2 ⟨rfl,rfl⟩ hS
 refine wmv (v:=.tuple #[.bool false,.int .i64 (e:Int)]) rfl rfl ?_
 refine wl rfl (oEx (vs:=[.bool false,.int .i64 (e:Int)]) (v:=.bool false) rfl rfl (ev rfl rfl) rfl ?_)
 refine wl rfl (oEx (vs:=[.bool false,.int .i64 (e:Int)]) (v:=.int .i64 (e:Int)) rfl rfl (ev rfl rfl) rfl ?_)
 refine wav (v:=.bool false) rfl rfl ?_
 refine wav (v:=.int .i64 (e:Int)) rfl rfl ?_
 refine wn2 (wmv (v:=.slice pG nm cG) rfl rfl ?_)
 refine wmv (v:=.int .u32 (p:Int)) rfl rfl ?_
 refine wcl Tryd.call9 (whCharE (ht.at hS) (show MS _ _ _ M from hQG ▸ (hS.ms 0 rfl (by simp only [maxLen]; omega))) hp2 hb1 hs.2 hc he) (ar2 (ev rfl rfl) (ev rfl rfl)) hS ?_
 clear hS; rintro _ _ w3 ⟨rfl,rfl⟩ hS
 refine wmv (v:=.tuple #[.slice none 0 0,.int .i64 (e:Int)]) rfl rfl ?_
 refine wl rfl (oEx (vs:=[.slice none 0 0,.int .i64 (e:Int)]) (v:=.slice none 0 0) rfl rfl (ev rfl rfl) rfl ?_)
 refine wl rfl (oEx (vs:=[.slice none 0 0,.int .i64 (e:Int)]) (v:=.int .i64 (e:Int)) rfl rfl (ev rfl rfl) rfl ?_)
 refine wav (v:=.slice none 0 0) rfl rfl ?_
 refine wav (v:=.int .i64 (e:Int)) rfl rfl ?_
 refine wn2 (wmv (v:=.slice pm nm cm) rfl rfl ?_)
 refine wmv (v:=.int .u32 (p:Int)) rfl rfl ?_
 refine wcl Tryd.call10 (wqfits (hm.at hS) hp2 (by omega) hc) (ar2 (ev rfl rfl) (ev rfl rfl)) hS ?_
 clear hS; rintro _ _ w4 ⟨rfl,rfl⟩ hS
 refine wav (v:=.int .i64 (e:Int)) rfl rfl ?_
 refine wn1 (wSq (wsr (wmv (v:=.slice pG nm cG) rfl rfl ?_)))
 refine wmv (v:=.slice pm nm cm) rfl rfl ?_
 refine wcl Tryd.call11 (wqsame (show MS _ _ _ M from hQG ▸ (hS.ms 0 rfl (by simp only [maxLen]; omega))) (hm.at hS) (⟨by omega,hs.2⟩)) (ar2 (ev rfl rfl) (ev rfl rfl)) hS ?_
 clear hS; rintro _ _ w5 ⟨rfl,rfl⟩ hS
 refine wl rfl (onot (b:=true) rfl rfl (ev rfl rfl) ?_)
 refine wn1 ?_
 refine wF (ev rfl rfl) ?_
 refine wSk (tNo (wSq (wsr (wmv (v:=.int .i64 (e:Int)) rfl rfl ?_))))
 refine wbc (u:=.int .i64 (e:Int)) (v:=.int .i64 0) (z:=.bool true) rfl rfl (bNe (neT (by omega))) ?_
 refine wn1 ?_
 refine wT (ev rfl rfl) ?_
 refine wsr (wmv (v:=.int .i64 (e:Int)) rfl rfl ?_)
 refine wmv (v:=.int .i64 (e:Int)) rfl rfl ?_
 refine wbt (u:=.int .i64 (e:Int)) (v:=.int .i64 (e:Int)) (z:=.bool true) rfl rfl rfl rfl (bEq (eqT rfl)) ?_
 refine wmv (v:=.bool true) rfl rfl ?_
 refine wlOn (e:=37) rfl rfl rfl rfl (omove (v:=.int .i64 (e:Int)) rfl rfl (ev rfl rfl) ?_)
 refine wlOn (e:=37) rfl rfl rfl rfl (omove (v:=.int .i64 (e:Int)) rfl rfl (ev rfl rfl) ?_)
 refine wlOn (e:=37) rfl rfl rfl rfl (obin (u:=.int .i64 (e:Int)) (v:=.int .i64 (e:Int)) (z:=.bool true) rfl rfl (ev rfl rfl) (ev rfl rfl) (bEq (eqT rfl)) ?_)
 refine wl rfl (opick (b:=true) (v:=.bool true) rfl rfl (ev rfl rfl) (ev rfl rfl) ?_)
 refine wmv (v:=.bool true) rfl rfl ?_
 refine wlOn (e:=42) rfl rfl rfl rfl (omove (v:=.bool false) rfl rfl (ev rfl rfl) ?_)
 refine wlOn (e:=42) rfl rfl rfl rfl (onot (b:=false) rfl rfl (ev rfl rfl) ?_)
 refine wl rfl (opick (b:=true) (v:=.bool true) rfl rfl (ev rfl rfl) (ev rfl rfl) ?_)
 refine wmv (v:=.bool true) rfl rfl ?_
 refine wlOn (e:=46) rfl rfl rfl rfl (omove (v:=.slice none 0 0) rfl rfl (ev rfl rfl) ?_)
 refine wlOn (e:=46) rfl rfl rfl rfl (olen rfl rfl rfl Tryd.runUnderlying30 (p:=none) (k:=0) (m:=0) (ev rfl rfl) ?_)
 refine wlOn (e:=46) rfl rfl rfl rfl (obin (u:=.int .i64 ((0:Nat):Int)) (v:=.int .i64 0) (z:=.bool true) rfl rfl (ev rfl rfl) evc (bEq (eqT rfl)) ?_)
 refine wl rfl (opick (b:=true) (v:=.bool true) rfl rfl (ev rfl rfl) (ev rfl rfl) ?_)
 refine wmv (v:=.bool true) rfl rfl ?_
 refine wlOn (e:=51) rfl rfl rfl rfl (oCl rfl rfl Tryd.call12 rfl (wllives (ht.at hS)) (args0 ) ?_)
 rintro _ w6 ⟨_,_,rfl,⟨rfl,rfl⟩,hN⟩
 refine ⟨_,rfl,?_⟩
 replace hS:=hS.news hN; clear hN
 refine wl rfl (opick (b:=true) (v:=.bool true) rfl rfl (ev rfl rfl) (ev rfl rfl) ?_)
 refine wav (v:=.bool true) rfl rfl ?_
 refine wn1 ?_
 refine wLv ?_
 refine thenR ?_
 refine wr1 Tryd.results3 (tlT (v:=.bool true) rfl rfl) ?_
 exact ⟨_,_,rfl,isI,hS.new0⟩
theorem hessAsks_ok1 {pm:Option Addr} {nm cm p:Nat} {M:List (List Nat)} {w:World} (ht:Tb w) (hm:MS w pm nm M) (hp2:p < 4294967296) (hs:SmallM M) (hp:MR.Pr p) (hr:RectM M) (h0:nm ≠ 0) (hq:M.length = colsM M) (hbig:nm ≤ 24) (hz:isH p M) :
  Calls Tryd.prog 3 #[.slice pm nm cm,.int .u32 ((p:Nat):Int)] w (Ret (Is (.bool true)) w):=by
 have hml:=hm.1
 have hb1:nm ≤ 2097152:=by have:=hs.1; omega
 have hp0:0 < p:=by have:=hp.1; omega
 have hrr:∀ r ∈ M,r.length = nm:=fun r h => by rw [hr r h]; omega
 have hS:=Sep.init w
 refine went Tryd.func3 rfl (n:=77) rfl rfl ?_
 refine wsr (wavc ?_)
 refine wn2 (wmv (v:=.slice pm nm cm) rfl rfl ?_)
 refine wcl Tryd.call7 (wlcopied (hm.at hS) hs) (ar1 (ev rfl rfl)) hS ?_
 clear hS; rintro _ _ w1 ⟨pG,cG,QG,hQG,rfl,rfl⟩ hS
 refine wav (v:=.slice pG nm cG) rfl rfl ?_
 refine wn2 (wmv (v:=.slice pG nm cG) rfl rfl ?_)
 refine wmv (v:=.int .u32 (p:Int)) rfl rfl ?_
 refine wcl Tryd.call8 (whIs1 (ht.at hS) (show MS _ _ _ M from hQG ▸ (hS.ms 0 rfl (by simp only [maxLen]; omega))) hp2 hb1 hs.2 hp hr h0 hq hbig hz) (ar2 (ev rfl rfl) (ev rfl rfl)) hS ?_
 clear hS; rintro _ _ w2 ⟨rfl,rfl⟩ hS
 refine wmv (v:=.tuple #[.bool true,.int .i64 0]) rfl rfl ?_
 refine wl rfl (oEx (vs:=[.bool true,.int .i64 0]) (v:=.bool true) rfl rfl (ev rfl rfl) rfl ?_)
 refine wl rfl (oEx (vs:=[.bool true,.int .i64 0]) (v:=.int .i64 0) rfl rfl (ev rfl rfl) rfl ?_)
 refine wav (v:=.bool true) rfl rfl ?_
 refine wav (v:=.int .i64 0) rfl rfl ?_
 refine wn2 (wmv (v:=.slice pG nm cG) rfl rfl ?_)
 refine wmv (v:=.int .u32 (p:Int)) rfl rfl ?_
 refine wcl Tryd.call9 (whChar (ht.at hS) (show MS _ _ _ M from hQG ▸ (hS.ms 0 rfl (by simp only [maxLen]; omega))) hp2 hb1 hs.2 hp hr h0 hq hbig) (ar2 (ev rfl rfl) (ev rfl rfl)) hS ?_
 clear hS; rintro _ _ w3 ⟨pc,cc,rfl,rfl⟩ hS
 refine wmv (v:=.tuple #[.slice pc (((charL p M)).length) cc,.int .i64 0]) rfl rfl ?_
 refine wl rfl (oEx (vs:=[.slice pc (((charL p M)).length) cc,.int .i64 0]) (v:=.slice pc (((charL p M)).length) cc) rfl rfl (ev rfl rfl) rfl ?_)
 refine wl rfl (oEx (vs:=[.slice pc (((charL p M)).length) cc,.int .i64 0]) (v:=.int .i64 0) rfl rfl (ev rfl rfl) rfl ?_)
 refine wav (v:=.slice pc (((charL p M)).length) cc) rfl rfl ?_
 refine wav (v:=.int .i64 0) rfl rfl ?_
 refine wn2 (wmv (v:=.slice pm nm cm) rfl rfl ?_)
 refine wmv (v:=.int .u32 (p:Int)) rfl rfl ?_
 refine wcl Tryd.call10 (wqfits (hm.at hS) hp2 (by omega) (HFa.ok hp hr (by omega) hq (by omega))) (ar2 (ev rfl rfl) (ev rfl rfl)) hS ?_
 clear hS; rintro _ _ w4 ⟨rfl,rfl⟩ hS
 refine wav (v:=.int .i64 ((0:Nat):Int)) rfl rfl ?_
 refine wn1 (wSq (wsr (wmv (v:=.slice pG nm cG) rfl rfl ?_)))
 refine wmv (v:=.slice pm nm cm) rfl rfl ?_
 refine wcl Tryd.call11 (wqsame (show MS _ _ _ M from hQG ▸ (hS.ms 1 rfl (by simp only [maxLen]; omega))) (hm.at hS) (⟨by omega,hs.2⟩)) (ar2 (ev rfl rfl) (ev rfl rfl)) hS ?_
 clear hS; rintro _ _ w5 ⟨rfl,rfl⟩ hS
 refine wl rfl (onot (b:=true) rfl rfl (ev rfl rfl) ?_)
 refine wn1 ?_
 refine wF (ev rfl rfl) ?_
 refine wSk (tNo (wSq (wsr (wmv (v:=.int .i64 ((0:Nat):Int)) rfl rfl ?_))))
 refine wbc (u:=.int .i64 ((0:Nat):Int)) (v:=.int .i64 0) (z:=.bool false) rfl rfl (bNe (neF rfl)) ?_
 refine wn1 ?_
 refine wF (ev rfl rfl) ?_
 refine wSk (tNo (wsr (wmv (v:=.int .i64 0) rfl rfl ?_)))
 refine wbc (u:=.int .i64 0) (v:=.int .i64 0) (z:=.bool true) rfl rfl (bEq (by decide)) ?_
 refine wmv (v:=.bool true) rfl rfl ?_
 refine wlOn (e:=56) rfl rfl rfl rfl (omove (v:=.int .i64 0) rfl rfl (ev rfl rfl) ?_)
 refine wlOn (e:=56) rfl rfl rfl rfl (obin (u:=.int .i64 0) (v:=.int .i64 0) (z:=.bool true) rfl rfl (ev rfl rfl) evc (bEq (by decide)) ?_)
 refine wl rfl (opick (b:=true) (v:=.bool true) rfl rfl (ev rfl rfl) (ev rfl rfl) ?_)
 refine wmv (v:=.bool true) rfl rfl ?_
 refine wlOn (e:=60) rfl rfl rfl rfl (omove (v:=.bool true) rfl rfl (ev rfl rfl) ?_)
 refine wlOn (e:=60) rfl rfl rfl rfl (omove (v:=.slice pm nm cm) rfl rfl (ev rfl rfl) ?_)
 refine wlOn (e:=60) rfl rfl rfl rfl (omove (v:=.int .u32 (p:Int)) rfl rfl (ev rfl rfl) ?_)
 refine wlOn (e:=60) rfl rfl rfl rfl (oCl rfl rfl Tryd.call13 rfl (wqis1 (hm.at hS) hp0 hp2 (by omega) hrr (fun i k h1 h2 => hz i k h1 (by omega))) (ar2 (ev rfl rfl) (ev rfl rfl)) ?_)
 rintro _ w6 ⟨_,_,rfl,⟨rfl,rfl⟩,hN⟩
 refine ⟨_,rfl,?_⟩
 replace hS:=hS.news hN; clear hN
 refine wlOn (e:=60) rfl rfl rfl rfl (obin (u:=.bool true) (v:=.bool true) (z:=.bool true) rfl rfl (ev rfl rfl) (ev rfl rfl) (bin_eqlB Tryd.underlying4 (rfl)) ?_)
 refine wl rfl (opick (b:=true) (v:=.bool true) rfl rfl (ev rfl rfl) (ev rfl rfl) ?_)
 refine wmv (v:=.bool true) rfl rfl ?_
 refine wlOn (e:=67) rfl rfl rfl rfl (omove (v:=.slice pc (((charL p M)).length) cc) rfl rfl (ev rfl rfl) ?_)
 refine wlOn (e:=67) rfl rfl rfl rfl (omove (v:=.slice pm nm cm) rfl rfl (ev rfl rfl) ?_)
 refine wlOn (e:=67) rfl rfl rfl rfl (omove (v:=.int .u32 (p:Int)) rfl rfl (ev rfl rfl) ?_)
 refine wlOn (e:=67) rfl rfl rfl rfl (oCl rfl rfl Tryd.call15 rfl (wqchar (hm.at hS) hp2 hp hr h0 hq hbig) (ar2 (ev rfl rfl) (ev rfl rfl)) ?_)
 rintro _ w7 ⟨_,_,rfl,⟨pd,cd,rfl,rfl⟩,hN⟩
 refine ⟨_,rfl,?_⟩
 replace hS:=hS.news hN; clear hN
 refine wlOn (e:=67) rfl rfl rfl rfl (oCl rfl rfl Tryd.call14 rfl (wqwords (hS.slo 1 rfl) (hS.slm 0 rfl) (by rw [charL_len hp.1]; omega)) (ar2 (ev rfl rfl) (ev rfl rfl)) ?_)
 rintro _ w8 ⟨_,_,rfl,⟨rfl,rfl⟩,hN⟩
 refine ⟨_,rfl,?_⟩
 replace hS:=hS.news hN; clear hN
 refine wl rfl (opick (b:=true) (v:=.bool true) rfl rfl (ev rfl rfl) (ev rfl rfl) ?_)
 refine wmv (v:=.bool true) rfl rfl ?_
 refine wlOn (e:=74) rfl rfl rfl rfl (oCl rfl rfl Tryd.call12 rfl (wllives (ht.at hS)) (args0 ) ?_)
 rintro _ w9 ⟨_,_,rfl,⟨rfl,rfl⟩,hN⟩
 refine ⟨_,rfl,?_⟩
 replace hS:=hS.news hN; clear hN
 refine wl rfl (opick (b:=true) (v:=.bool true) rfl rfl (ev rfl rfl) (ev rfl rfl) ?_)
 refine wav (v:=.bool true) rfl rfl ?_
 refine wn1 ?_
 refine wLv ?_
 refine wr1 Tryd.results3 (tlT (v:=.bool true) rfl rfl) ?_
 exact ⟨_,_,rfl,isI,hS.new0⟩
theorem hessAsks_ok0 {pm:Option Addr} {nm cm p:Nat} {M:List (List Nat)} {w:World} (ht:Tb w) (hm:MS w pm nm M) (hp2:p < 4294967296) (hs:SmallM M) (hp:MR.Pr p) (hr:RectM M) (h0:nm ≠ 0) (hq:M.length = colsM M) (hbig:nm ≤ 24) (hz:¬ isH p M) :
  Calls Tryd.prog 3 #[.slice pm nm cm,.int .u32 ((p:Nat):Int)] w (Ret (Is (.bool true)) w):=by
 have hml:=hm.1
 have hb1:nm ≤ 2097152:=by have:=hs.1; omega
 have hp0:0 < p:=by have:=hp.1; omega
 have hrr:∀ r ∈ M,r.length = nm:=fun r h => by rw [hr r h]; omega
 have hS:=Sep.init w
 refine went Tryd.func3 rfl (n:=77) rfl rfl ?_
 refine wsr (wavc ?_)
 refine wn2 (wmv (v:=.slice pm nm cm) rfl rfl ?_)
 refine wcl Tryd.call7 (wlcopied (hm.at hS) hs) (ar1 (ev rfl rfl)) hS ?_
 clear hS; rintro _ _ w1 ⟨pG,cG,QG,hQG,rfl,rfl⟩ hS
 refine wav (v:=.slice pG nm cG) rfl rfl ?_
 refine wn2 (wmv (v:=.slice pG nm cG) rfl rfl ?_)
 refine wmv (v:=.int .u32 (p:Int)) rfl rfl ?_
 refine wcl Tryd.call8 (whIs0 (ht.at hS) (show MS _ _ _ M from hQG ▸ (hS.ms 0 rfl (by simp only [maxLen]; omega))) hp2 hb1 hs.2 hp hr h0 hq hbig hz) (ar2 (ev rfl rfl) (ev rfl rfl)) hS ?_
 clear hS; rintro _ _ w2 ⟨rfl,rfl⟩ hS
 refine wmv (v:=.tuple #[.bool false,.int .i64 0]) rfl rfl ?_
 refine wl rfl (oEx (vs:=[.bool false,.int .i64 0]) (v:=.bool false) rfl rfl (ev rfl rfl) rfl ?_)
 refine wl rfl (oEx (vs:=[.bool false,.int .i64 0]) (v:=.int .i64 0) rfl rfl (ev rfl rfl) rfl ?_)
 refine wav (v:=.bool false) rfl rfl ?_
 refine wav (v:=.int .i64 0) rfl rfl ?_
 refine wn2 (wmv (v:=.slice pG nm cG) rfl rfl ?_)
 refine wmv (v:=.int .u32 (p:Int)) rfl rfl ?_
 refine wcl Tryd.call9 (whChar (ht.at hS) (show MS _ _ _ M from hQG ▸ (hS.ms 0 rfl (by simp only [maxLen]; omega))) hp2 hb1 hs.2 hp hr h0 hq hbig) (ar2 (ev rfl rfl) (ev rfl rfl)) hS ?_
 clear hS; rintro _ _ w3 ⟨pc,cc,rfl,rfl⟩ hS
 refine wmv (v:=.tuple #[.slice pc (((charL p M)).length) cc,.int .i64 0]) rfl rfl ?_
 refine wl rfl (oEx (vs:=[.slice pc (((charL p M)).length) cc,.int .i64 0]) (v:=.slice pc (((charL p M)).length) cc) rfl rfl (ev rfl rfl) rfl ?_)
 refine wl rfl (oEx (vs:=[.slice pc (((charL p M)).length) cc,.int .i64 0]) (v:=.int .i64 0) rfl rfl (ev rfl rfl) rfl ?_)
 refine wav (v:=.slice pc (((charL p M)).length) cc) rfl rfl ?_
 refine wav (v:=.int .i64 0) rfl rfl ?_
 refine wn2 (wmv (v:=.slice pm nm cm) rfl rfl ?_)
 refine wmv (v:=.int .u32 (p:Int)) rfl rfl ?_
 refine wcl Tryd.call10 (wqfits (hm.at hS) hp2 (by omega) (HFa.ok hp hr (by omega) hq (by omega))) (ar2 (ev rfl rfl) (ev rfl rfl)) hS ?_
 clear hS; rintro _ _ w4 ⟨rfl,rfl⟩ hS
 refine wav (v:=.int .i64 ((0:Nat):Int)) rfl rfl ?_
 refine wn1 (wSq (wsr (wmv (v:=.slice pG nm cG) rfl rfl ?_)))
 refine wmv (v:=.slice pm nm cm) rfl rfl ?_
 refine wcl Tryd.call11 (wqsame (show MS _ _ _ M from hQG ▸ (hS.ms 1 rfl (by simp only [maxLen]; omega))) (hm.at hS) (⟨by omega,hs.2⟩)) (ar2 (ev rfl rfl) (ev rfl rfl)) hS ?_
 clear hS; rintro _ _ w5 ⟨rfl,rfl⟩ hS
 refine wl rfl (onot (b:=true) rfl rfl (ev rfl rfl) ?_)
 refine wn1 ?_
 refine wF (ev rfl rfl) ?_
 refine wSk (tNo (wSq (wsr (wmv (v:=.int .i64 ((0:Nat):Int)) rfl rfl ?_))))
 refine wbc (u:=.int .i64 ((0:Nat):Int)) (v:=.int .i64 0) (z:=.bool false) rfl rfl (bNe (neF rfl)) ?_
 refine wn1 ?_
 refine wF (ev rfl rfl) ?_
 refine wSk (tNo (wsr (wmv (v:=.int .i64 0) rfl rfl ?_)))
 refine wbc (u:=.int .i64 0) (v:=.int .i64 0) (z:=.bool true) rfl rfl (bEq (by decide)) ?_
 refine wmv (v:=.bool true) rfl rfl ?_
 refine wlOn (e:=56) rfl rfl rfl rfl (omove (v:=.int .i64 0) rfl rfl (ev rfl rfl) ?_)
 refine wlOn (e:=56) rfl rfl rfl rfl (obin (u:=.int .i64 0) (v:=.int .i64 0) (z:=.bool true) rfl rfl (ev rfl rfl) evc (bEq (by decide)) ?_)
 refine wl rfl (opick (b:=true) (v:=.bool true) rfl rfl (ev rfl rfl) (ev rfl rfl) ?_)
 refine wmv (v:=.bool true) rfl rfl ?_
 refine wlOn (e:=60) rfl rfl rfl rfl (omove (v:=.bool false) rfl rfl (ev rfl rfl) ?_)
 refine wlOn (e:=60) rfl rfl rfl rfl (omove (v:=.slice pm nm cm) rfl rfl (ev rfl rfl) ?_)
 refine wlOn (e:=60) rfl rfl rfl rfl (omove (v:=.int .u32 (p:Int)) rfl rfl (ev rfl rfl) ?_)
 refine wlOn (e:=60) rfl rfl rfl rfl (oCl rfl rfl Tryd.call13 rfl (wqis0 (hm.at hS) hp0 hp2 (by omega) hrr hz) (ar2 (ev rfl rfl) (ev rfl rfl)) ?_)
 rintro _ w6 ⟨_,_,rfl,⟨rfl,rfl⟩,hN⟩
 refine ⟨_,rfl,?_⟩
 replace hS:=hS.news hN; clear hN
 refine wlOn (e:=60) rfl rfl rfl rfl (obin (u:=.bool false) (v:=.bool false) (z:=.bool true) rfl rfl (ev rfl rfl) (ev rfl rfl) (bin_eqlB Tryd.underlying4 (rfl)) ?_)
 refine wl rfl (opick (b:=true) (v:=.bool true) rfl rfl (ev rfl rfl) (ev rfl rfl) ?_)
 refine wmv (v:=.bool true) rfl rfl ?_
 refine wlOn (e:=67) rfl rfl rfl rfl (omove (v:=.slice pc (((charL p M)).length) cc) rfl rfl (ev rfl rfl) ?_)
 refine wlOn (e:=67) rfl rfl rfl rfl (omove (v:=.slice pm nm cm) rfl rfl (ev rfl rfl) ?_)
 refine wlOn (e:=67) rfl rfl rfl rfl (omove (v:=.int .u32 (p:Int)) rfl rfl (ev rfl rfl) ?_)
 refine wlOn (e:=67) rfl rfl rfl rfl (oCl rfl rfl Tryd.call15 rfl (wqchar (hm.at hS) hp2 hp hr h0 hq hbig) (ar2 (ev rfl rfl) (ev rfl rfl)) ?_)
 rintro _ w7 ⟨_,_,rfl,⟨pd,cd,rfl,rfl⟩,hN⟩
 refine ⟨_,rfl,?_⟩
 replace hS:=hS.news hN; clear hN
 refine wlOn (e:=67) rfl rfl rfl rfl (oCl rfl rfl Tryd.call14 rfl (wqwords (hS.slo 1 rfl) (hS.slm 0 rfl) (by rw [charL_len hp.1]; omega)) (ar2 (ev rfl rfl) (ev rfl rfl)) ?_)
 rintro _ w8 ⟨_,_,rfl,⟨rfl,rfl⟩,hN⟩
 refine ⟨_,rfl,?_⟩
 replace hS:=hS.news hN; clear hN
 refine wl rfl (opick (b:=true) (v:=.bool true) rfl rfl (ev rfl rfl) (ev rfl rfl) ?_)
 refine wmv (v:=.bool true) rfl rfl ?_
 refine wlOn (e:=74) rfl rfl rfl rfl (oCl rfl rfl Tryd.call12 rfl (wllives (ht.at hS)) (args0 ) ?_)
 rintro _ w9 ⟨_,_,rfl,⟨rfl,rfl⟩,hN⟩
 refine ⟨_,rfl,?_⟩
 replace hS:=hS.news hN; clear hN
 refine wl rfl (opick (b:=true) (v:=.bool true) rfl rfl (ev rfl rfl) (ev rfl rfl) ?_)
 refine wav (v:=.bool true) rfl rfl ?_
 refine wn1 ?_
 refine wLv ?_
 refine wr1 Tryd.results3 (tlT (v:=.bool true) rfl rfl) ?_
 exact ⟨_,_,rfl,isI,hS.new0⟩
theorem hessAsks_walk {pm:Option Addr} {nm cm:Nat} {s:Int} {M:List (List Nat)} {w:World} (hm:MS w pm nm M) (hs:SmallM M) (h1:Tab w) (h2:Bases w) (b1:0 ≤ s ∧ s ≤ 4294967295):Calls Tryd.prog 3 #[.slice pm nm cm,.int .u32 s] w (RetB w true):=by
 obtain ⟨p,rfl⟩:=Int.eq_ofNat_of_zero_le b1.1
 have hp2:p < 4294967296:=by omega
 have ht:Tb w:=⟨h1,h2⟩
 have hml:=hm.1
 obtain ⟨e,hc⟩:=HFa.ex p M
 by_cases he:e = 0
 ·subst he
  obtain ⟨hp,hr,h0,hq,hb⟩:=hc.zero
  by_cases hz:isH p M
  ·exact Ret.bool (hessAsks_ok1 ht hm hp2 hs hp hr (by omega) hq (by omega) hz)
  exact Ret.bool (hessAsks_ok0 ht hm hp2 hs hp hr (by omega) hq (by omega) hz)
 exact Ret.bool (hessAsks_e ht hm hp2 hs hc he)
end Go.Proofs.YtcfcdbeemhjhgaaDoor
