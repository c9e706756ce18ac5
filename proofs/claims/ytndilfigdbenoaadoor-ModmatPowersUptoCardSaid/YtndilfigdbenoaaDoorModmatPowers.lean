
/-
  The walk of similelaw10.ModmatPowers.
-/
import Derived.Test.YtndilfigdbenoaaDoorM9
import Derived.Test.YtndilfigdbenoaaDoorMmOpen
import Derived.Test.YtndilfigdbenoaaDoorLT
set_option linter.unusedVariables false
set_option linter.unusedSimpArgs false
set_option maxRecDepth 100000
set_option maxHeartbeats 16000000
namespace Go.Proofs.YtndilfigdbenoaaDoor
open Go.RowKit
theorem modmatPowers_40 {pm : Option Addr} {nm cm p e0 : Nat} {M : List (List Nat)} {w : World} (ht : Tb w) (hm : MS w pm nm M) (hp2 : p < 4294967296) (hs : SmallM M) (hp : ¬ MR.Pr p) :
  Calls Tryd.prog 8 #[.slice pm nm cm, .int .u64 ((e0 : Nat) : Int), .int .u32 ((p : Nat) : Int)] w (Ret (Is (.bool true)) w) := by
 have hS := Sep.init w
 refine went Tryd.func8 rfl (n := 99) rfl rfl ?_
 refine wseq (wreg (wl rfl (oassign (v := .bool false) rfl rfl evc ?_)))
 refine wnil (thenN (wseq (wreg (wl rfl (omove (v := .slice pm nm cm) rfl rfl (ev rfl rfl) ?_)))))
 refine wl rfl (omove (v := .int .u64 (e0 : Int)) rfl rfl (ev rfl rfl) ?_)
 refine wl rfl (omove (v := .int .u32 (p : Int)) rfl rfl (ev rfl rfl) ?_)
 refine wl rfl (ocall rfl rfl Tryd.call25 rfl (wxpow40 (ht.at hS) (hm.at hS) hp2 hs hp) (args3 (ev rfl rfl) (ev rfl rfl) (ev rfl rfl)) ?_)
 rintro _ w1 ⟨_, _, rfl, ⟨rfl, rfl⟩, hN⟩
 refine ⟨_, rfl, ?_⟩
 replace hS := hS.news hN; clear hN
 refine wl rfl (omove (v := .tuple #[.slice none 0 0, .int .i64 40]) rfl rfl (ev rfl rfl) ?_)
 refine wl rfl (oextract (vs := [.slice none 0 0, .int .i64 40]) (v := .slice none 0 0) rfl rfl (ev rfl rfl) rfl ?_)
 refine wl rfl (oextract (vs := [.slice none 0 0, .int .i64 40]) (v := .int .i64 40) rfl rfl (ev rfl rfl) rfl ?_)
 refine wl rfl (oassign (v := .slice none 0 0) rfl rfl (ev rfl rfl) ?_)
 refine wl rfl (oassign (v := .int .i64 40) rfl rfl (ev rfl rfl) ?_)
 refine wnil (thenN (wseq (wreg (wl rfl (omove (v := .slice pm nm cm) rfl rfl (ev rfl rfl) ?_)))))
 refine wl rfl (omove (v := .int .u32 (p : Int)) rfl rfl (ev rfl rfl) ?_)
 refine wl rfl (ocall rfl rfl Tryd.call26 rfl (wxtrace40 (ht.at hS) (hm.at hS) hp2 hs hp) (args2 (ev rfl rfl) (ev rfl rfl)) ?_)
 rintro _ w2 ⟨_, _, rfl, ⟨rfl, rfl⟩, hN⟩
 refine ⟨_, rfl, ?_⟩
 replace hS := hS.news hN; clear hN
 refine wl rfl (omove (v := .tuple #[.int .u32 0, .int .i64 40]) rfl rfl (ev rfl rfl) ?_)
 refine wl rfl (oextract (vs := [.int .u32 0, .int .i64 40]) (v := .int .u32 0) rfl rfl (ev rfl rfl) rfl ?_)
 refine wl rfl (oextract (vs := [.int .u32 0, .int .i64 40]) (v := .int .i64 40) rfl rfl (ev rfl rfl) rfl ?_)
 refine wl rfl (oassign (v := .int .u32 0) rfl rfl (ev rfl rfl) ?_)
 refine wl rfl (oassign (v := .int .i64 40) rfl rfl (ev rfl rfl) ?_)
 refine wnil (thenN (wseq (wreg (wl rfl (omove (v := .slice pm nm cm) rfl rfl (ev rfl rfl) ?_)))))
 refine wl rfl (omove (v := .int .u32 (p : Int)) rfl rfl (ev rfl rfl) ?_)
 refine wl rfl (ocall rfl rfl Tryd.call22 rfl (wxdet40 (ht.at hS) (hm.at hS) hp2 hs hp) (args2 (ev rfl rfl) (ev rfl rfl)) ?_)
 rintro _ w3 ⟨_, _, rfl, ⟨rfl, rfl⟩, hN⟩
 refine ⟨_, rfl, ?_⟩
 replace hS := hS.news hN; clear hN
 refine wl rfl (omove (v := .tuple #[.int .u32 0, .int .i64 40]) rfl rfl (ev rfl rfl) ?_)
 refine wl rfl (oextract (vs := [.int .u32 0, .int .i64 40]) (v := .int .u32 0) rfl rfl (ev rfl rfl) rfl ?_)
 refine wl rfl (oextract (vs := [.int .u32 0, .int .i64 40]) (v := .int .i64 40) rfl rfl (ev rfl rfl) rfl ?_)
 refine wl rfl (oassign (v := .int .u32 0) rfl rfl (ev rfl rfl) ?_)
 refine wl rfl (oassign (v := .int .i64 40) rfl rfl (ev rfl rfl) ?_)
 refine wnil (thenN (wseq (wreg (wl rfl (omove (v := .int .u32 (p : Int)) rfl rfl (ev rfl rfl) ?_)))))
 refine wl rfl (omove (v := .slice pm nm cm) rfl rfl (ev rfl rfl) ?_)
 refine wl rfl (ocall rfl rfl Tryd.call14 rfl (wlsquare40 (hm.at hS) hp2 (hp)) (args2 (ev rfl rfl) (ev rfl rfl)) ?_)
 rintro _ w4 ⟨_, _, rfl, ⟨rfl, rfl⟩, hN⟩
 refine ⟨_, rfl, ?_⟩
 replace hS := hS.news hN; clear hN
 refine wl rfl (oassign (v := .int .i64 40) rfl rfl (ev rfl rfl) ?_)
 refine wnil (thenN (wseq (wseq (wreg (wl rfl (omove (v := .int .i64 40) rfl rfl (ev rfl rfl) ?_))))))
 refine wl rfl (obin (u := .int .i64 40) (v := .int .i64 0) (z := .bool true) rfl rfl (ev rfl rfl) evc (bin_neq (by decide)) ?_)
 refine wnil (thenN ?_)
 refine wT (ev rfl rfl) ?_
 refine wseq (wreg (wl rfl (omove (v := .slice none 0 0) rfl rfl (ev rfl rfl) ?_)))
 refine wl rfl (omove (v := .int .i64 40) rfl rfl (ev rfl rfl) ?_)
 refine wl rfl (omove (v := .int .i64 40) rfl rfl (ev rfl rfl) ?_)
 refine wl rfl (ocall rfl rfl Tryd.call15 rfl (wltoldE (by decide)) (args4 (ev rfl rfl) (ev rfl rfl) evc (ev rfl rfl)) ?_)
 rintro _ w5 ⟨_, _, rfl, ⟨rfl, rfl⟩, hN⟩
 refine ⟨_, rfl, ?_⟩
 replace hS := hS.news hN; clear hN
 refine wl rfl (omove (v := .bool true) rfl rfl (ev rfl rfl) ?_)
 refine wlOn (e := 44) rfl rfl rfl rfl (omove (v := .int .u32 0) rfl rfl (ev rfl rfl) ?_)
 refine wlOn (e := 44) rfl rfl rfl rfl (omove (v := .int .i64 40) rfl rfl (ev rfl rfl) ?_)
 refine wlOn (e := 44) rfl rfl rfl rfl (omove (v := .int .i64 40) rfl rfl (ev rfl rfl) ?_)
 refine wlOn (e := 44) rfl rfl rfl rfl (ocall rfl rfl Tryd.call27 rfl (wlnumberE (by decide)) (args4 (ev rfl rfl) (ev rfl rfl) evc (ev rfl rfl)) ?_)
 rintro _ w6 ⟨_, _, rfl, ⟨rfl, rfl⟩, hN⟩
 refine ⟨_, rfl, ?_⟩
 replace hS := hS.news hN; clear hN
 refine wl rfl (opick (b := true) (v := .bool true) rfl rfl (ev rfl rfl) (ev rfl rfl) ?_)
 refine wl rfl (omove (v := .bool true) rfl rfl (ev rfl rfl) ?_)
 refine wlOn (e := 50) rfl rfl rfl rfl (omove (v := .int .u32 0) rfl rfl (ev rfl rfl) ?_)
 refine wlOn (e := 50) rfl rfl rfl rfl (omove (v := .int .i64 40) rfl rfl (ev rfl rfl) ?_)
 refine wlOn (e := 50) rfl rfl rfl rfl (omove (v := .int .i64 40) rfl rfl (ev rfl rfl) ?_)
 refine wlOn (e := 50) rfl rfl rfl rfl (ocall rfl rfl Tryd.call27 rfl (wlnumberE (by decide)) (args4 (ev rfl rfl) (ev rfl rfl) evc (ev rfl rfl)) ?_)
 rintro _ w7 ⟨_, _, rfl, ⟨rfl, rfl⟩, hN⟩
 refine ⟨_, rfl, ?_⟩
 replace hS := hS.news hN; clear hN
 refine wl rfl (opick (b := true) (v := .bool true) rfl rfl (ev rfl rfl) (ev rfl rfl) ?_)
 refine wl rfl (omove (v := .bool true) rfl rfl (ev rfl rfl) ?_)
 refine wlOn (e := 56) rfl rfl rfl rfl (ocall rfl rfl Tryd.call12 rfl (wxawake (ht.at hS)) (args0 ) ?_)
 rintro _ w8 ⟨_, _, rfl, ⟨rfl, rfl⟩, hN⟩
 refine ⟨_, rfl, ?_⟩
 replace hS := hS.news hN; clear hN
 refine wl rfl (opick (b := true) (v := .bool true) rfl rfl (ev rfl rfl) (ev rfl rfl) ?_)
 refine wl rfl (oassign (v := .bool true) rfl rfl (ev rfl rfl) ?_)
 refine wnil (thenN ?_)
 refine wleave ?_
 refine thenR ?_
 refine wret1 Tryd.results8 (tellT (v := .bool true) rfl rfl) ?_
 exact ⟨_, _, rfl, isI, hS.new0⟩
theorem modmatPowers_2 {pm : Option Addr} {nm cm p e0 : Nat} {M : List (List Nat)} {w : World} (ht : Tb w) (hm : MS w pm nm M) (hp2 : p < 4294967296) (hs : SmallM M) (hp : MR.Pr p) (hr : ¬ RectM M) :
  Calls Tryd.prog 8 #[.slice pm nm cm, .int .u64 ((e0 : Nat) : Int), .int .u32 ((p : Nat) : Int)] w (Ret (Is (.bool true)) w) := by
 have hS := Sep.init w
 refine went Tryd.func8 rfl (n := 99) rfl rfl ?_
 refine wseq (wreg (wl rfl (oassign (v := .bool false) rfl rfl evc ?_)))
 refine wnil (thenN (wseq (wreg (wl rfl (omove (v := .slice pm nm cm) rfl rfl (ev rfl rfl) ?_)))))
 refine wl rfl (omove (v := .int .u64 (e0 : Int)) rfl rfl (ev rfl rfl) ?_)
 refine wl rfl (omove (v := .int .u32 (p : Int)) rfl rfl (ev rfl rfl) ?_)
 refine wl rfl (ocall rfl rfl Tryd.call25 rfl (wxpow2 (ht.at hS) (hm.at hS) hp2 hs hp hr) (args3 (ev rfl rfl) (ev rfl rfl) (ev rfl rfl)) ?_)
 rintro _ w1 ⟨_, _, rfl, ⟨rfl, rfl⟩, hN⟩
 refine ⟨_, rfl, ?_⟩
 replace hS := hS.news hN; clear hN
 refine wl rfl (omove (v := .tuple #[.slice none 0 0, .int .i64 2]) rfl rfl (ev rfl rfl) ?_)
 refine wl rfl (oextract (vs := [.slice none 0 0, .int .i64 2]) (v := .slice none 0 0) rfl rfl (ev rfl rfl) rfl ?_)
 refine wl rfl (oextract (vs := [.slice none 0 0, .int .i64 2]) (v := .int .i64 2) rfl rfl (ev rfl rfl) rfl ?_)
 refine wl rfl (oassign (v := .slice none 0 0) rfl rfl (ev rfl rfl) ?_)
 refine wl rfl (oassign (v := .int .i64 2) rfl rfl (ev rfl rfl) ?_)
 refine wnil (thenN (wseq (wreg (wl rfl (omove (v := .slice pm nm cm) rfl rfl (ev rfl rfl) ?_)))))
 refine wl rfl (omove (v := .int .u32 (p : Int)) rfl rfl (ev rfl rfl) ?_)
 refine wl rfl (ocall rfl rfl Tryd.call26 rfl (wxtrace2 (ht.at hS) (hm.at hS) hp2 hs hp hr) (args2 (ev rfl rfl) (ev rfl rfl)) ?_)
 rintro _ w2 ⟨_, _, rfl, ⟨rfl, rfl⟩, hN⟩
 refine ⟨_, rfl, ?_⟩
 replace hS := hS.news hN; clear hN
 refine wl rfl (omove (v := .tuple #[.int .u32 0, .int .i64 2]) rfl rfl (ev rfl rfl) ?_)
 refine wl rfl (oextract (vs := [.int .u32 0, .int .i64 2]) (v := .int .u32 0) rfl rfl (ev rfl rfl) rfl ?_)
 refine wl rfl (oextract (vs := [.int .u32 0, .int .i64 2]) (v := .int .i64 2) rfl rfl (ev rfl rfl) rfl ?_)
 refine wl rfl (oassign (v := .int .u32 0) rfl rfl (ev rfl rfl) ?_)
 refine wl rfl (oassign (v := .int .i64 2) rfl rfl (ev rfl rfl) ?_)
 refine wnil (thenN (wseq (wreg (wl rfl (omove (v := .slice pm nm cm) rfl rfl (ev rfl rfl) ?_)))))
 refine wl rfl (omove (v := .int .u32 (p : Int)) rfl rfl (ev rfl rfl) ?_)
 refine wl rfl (ocall rfl rfl Tryd.call22 rfl (wxdet2 (ht.at hS) (hm.at hS) hp2 hs hp hr) (args2 (ev rfl rfl) (ev rfl rfl)) ?_)
 rintro _ w3 ⟨_, _, rfl, ⟨rfl, rfl⟩, hN⟩
 refine ⟨_, rfl, ?_⟩
 replace hS := hS.news hN; clear hN
 refine wl rfl (omove (v := .tuple #[.int .u32 0, .int .i64 2]) rfl rfl (ev rfl rfl) ?_)
 refine wl rfl (oextract (vs := [.int .u32 0, .int .i64 2]) (v := .int .u32 0) rfl rfl (ev rfl rfl) rfl ?_)
 refine wl rfl (oextract (vs := [.int .u32 0, .int .i64 2]) (v := .int .i64 2) rfl rfl (ev rfl rfl) rfl ?_)
 refine wl rfl (oassign (v := .int .u32 0) rfl rfl (ev rfl rfl) ?_)
 refine wl rfl (oassign (v := .int .i64 2) rfl rfl (ev rfl rfl) ?_)
 refine wnil (thenN (wseq (wreg (wl rfl (omove (v := .int .u32 (p : Int)) rfl rfl (ev rfl rfl) ?_)))))
 refine wl rfl (omove (v := .slice pm nm cm) rfl rfl (ev rfl rfl) ?_)
 refine wl rfl (ocall rfl rfl Tryd.call14 rfl (wlsquare2 (hm.at hS) hp2 (hp) (hr)) (args2 (ev rfl rfl) (ev rfl rfl)) ?_)
 rintro _ w4 ⟨_, _, rfl, ⟨rfl, rfl⟩, hN⟩
 refine ⟨_, rfl, ?_⟩
 replace hS := hS.news hN; clear hN
 refine wl rfl (oassign (v := .int .i64 2) rfl rfl (ev rfl rfl) ?_)
 refine wnil (thenN (wseq (wseq (wreg (wl rfl (omove (v := .int .i64 2) rfl rfl (ev rfl rfl) ?_))))))
 refine wl rfl (obin (u := .int .i64 2) (v := .int .i64 0) (z := .bool true) rfl rfl (ev rfl rfl) evc (bin_neq (by decide)) ?_)
 refine wnil (thenN ?_)
 refine wT (ev rfl rfl) ?_
 refine wseq (wreg (wl rfl (omove (v := .slice none 0 0) rfl rfl (ev rfl rfl) ?_)))
 refine wl rfl (omove (v := .int .i64 2) rfl rfl (ev rfl rfl) ?_)
 refine wl rfl (omove (v := .int .i64 2) rfl rfl (ev rfl rfl) ?_)
 refine wl rfl (ocall rfl rfl Tryd.call15 rfl (wltoldE (by decide)) (args4 (ev rfl rfl) (ev rfl rfl) evc (ev rfl rfl)) ?_)
 rintro _ w5 ⟨_, _, rfl, ⟨rfl, rfl⟩, hN⟩
 refine ⟨_, rfl, ?_⟩
 replace hS := hS.news hN; clear hN
 refine wl rfl (omove (v := .bool true) rfl rfl (ev rfl rfl) ?_)
 refine wlOn (e := 44) rfl rfl rfl rfl (omove (v := .int .u32 0) rfl rfl (ev rfl rfl) ?_)
 refine wlOn (e := 44) rfl rfl rfl rfl (omove (v := .int .i64 2) rfl rfl (ev rfl rfl) ?_)
 refine wlOn (e := 44) rfl rfl rfl rfl (omove (v := .int .i64 2) rfl rfl (ev rfl rfl) ?_)
 refine wlOn (e := 44) rfl rfl rfl rfl (ocall rfl rfl Tryd.call27 rfl (wlnumberE (by decide)) (args4 (ev rfl rfl) (ev rfl rfl) evc (ev rfl rfl)) ?_)
 rintro _ w6 ⟨_, _, rfl, ⟨rfl, rfl⟩, hN⟩
 refine ⟨_, rfl, ?_⟩
 replace hS := hS.news hN; clear hN
 refine wl rfl (opick (b := true) (v := .bool true) rfl rfl (ev rfl rfl) (ev rfl rfl) ?_)
 refine wl rfl (omove (v := .bool true) rfl rfl (ev rfl rfl) ?_)
 refine wlOn (e := 50) rfl rfl rfl rfl (omove (v := .int .u32 0) rfl rfl (ev rfl rfl) ?_)
 refine wlOn (e := 50) rfl rfl rfl rfl (omove (v := .int .i64 2) rfl rfl (ev rfl rfl) ?_)
 refine wlOn (e := 50) rfl rfl rfl rfl (omove (v := .int .i64 2) rfl rfl (ev rfl rfl) ?_)
 refine wlOn (e := 50) rfl rfl rfl rfl (ocall rfl rfl Tryd.call27 rfl (wlnumberE (by decide)) (args4 (ev rfl rfl) (ev rfl rfl) evc (ev rfl rfl)) ?_)
 rintro _ w7 ⟨_, _, rfl, ⟨rfl, rfl⟩, hN⟩
 refine ⟨_, rfl, ?_⟩
 replace hS := hS.news hN; clear hN
 refine wl rfl (opick (b := true) (v := .bool true) rfl rfl (ev rfl rfl) (ev rfl rfl) ?_)
 refine wl rfl (omove (v := .bool true) rfl rfl (ev rfl rfl) ?_)
 refine wlOn (e := 56) rfl rfl rfl rfl (ocall rfl rfl Tryd.call12 rfl (wxawake (ht.at hS)) (args0 ) ?_)
 rintro _ w8 ⟨_, _, rfl, ⟨rfl, rfl⟩, hN⟩
 refine ⟨_, rfl, ?_⟩
 replace hS := hS.news hN; clear hN
 refine wl rfl (opick (b := true) (v := .bool true) rfl rfl (ev rfl rfl) (ev rfl rfl) ?_)
 refine wl rfl (oassign (v := .bool true) rfl rfl (ev rfl rfl) ?_)
 refine wnil (thenN ?_)
 refine wleave ?_
 refine thenR ?_
 refine wret1 Tryd.results8 (tellT (v := .bool true) rfl rfl) ?_
 exact ⟨_, _, rfl, isI, hS.new0⟩
theorem modmatPowers_3 {pm : Option Addr} {nm cm p e0 : Nat} {M : List (List Nat)} {w : World} (ht : Tb w) (hm : MS w pm nm M) (hp2 : p < 4294967296) (hs : SmallM M) (hp : MR.Pr p) (hr : RectM M) (hq : ¬ (M.length ≠ 0 ∧ M.length = colsM M)) :
  Calls Tryd.prog 8 #[.slice pm nm cm, .int .u64 ((e0 : Nat) : Int), .int .u32 ((p : Nat) : Int)] w (Ret (Is (.bool true)) w) := by
 have hS := Sep.init w
 refine went Tryd.func8 rfl (n := 99) rfl rfl ?_
 refine wseq (wreg (wl rfl (oassign (v := .bool false) rfl rfl evc ?_)))
 refine wnil (thenN (wseq (wreg (wl rfl (omove (v := .slice pm nm cm) rfl rfl (ev rfl rfl) ?_)))))
 refine wl rfl (omove (v := .int .u64 (e0 : Int)) rfl rfl (ev rfl rfl) ?_)
 refine wl rfl (omove (v := .int .u32 (p : Int)) rfl rfl (ev rfl rfl) ?_)
 refine wl rfl (ocall rfl rfl Tryd.call25 rfl (wxpow3 (ht.at hS) (hm.at hS) hp2 hs hp hr hq) (args3 (ev rfl rfl) (ev rfl rfl) (ev rfl rfl)) ?_)
 rintro _ w1 ⟨_, _, rfl, ⟨rfl, rfl⟩, hN⟩
 refine ⟨_, rfl, ?_⟩
 replace hS := hS.news hN; clear hN
 refine wl rfl (omove (v := .tuple #[.slice none 0 0, .int .i64 3]) rfl rfl (ev rfl rfl) ?_)
 refine wl rfl (oextract (vs := [.slice none 0 0, .int .i64 3]) (v := .slice none 0 0) rfl rfl (ev rfl rfl) rfl ?_)
 refine wl rfl (oextract (vs := [.slice none 0 0, .int .i64 3]) (v := .int .i64 3) rfl rfl (ev rfl rfl) rfl ?_)
 refine wl rfl (oassign (v := .slice none 0 0) rfl rfl (ev rfl rfl) ?_)
 refine wl rfl (oassign (v := .int .i64 3) rfl rfl (ev rfl rfl) ?_)
 refine wnil (thenN (wseq (wreg (wl rfl (omove (v := .slice pm nm cm) rfl rfl (ev rfl rfl) ?_)))))
 refine wl rfl (omove (v := .int .u32 (p : Int)) rfl rfl (ev rfl rfl) ?_)
 refine wl rfl (ocall rfl rfl Tryd.call26 rfl (wxtrace3 (ht.at hS) (hm.at hS) hp2 hs hp hr hq) (args2 (ev rfl rfl) (ev rfl rfl)) ?_)
 rintro _ w2 ⟨_, _, rfl, ⟨rfl, rfl⟩, hN⟩
 refine ⟨_, rfl, ?_⟩
 replace hS := hS.news hN; clear hN
 refine wl rfl (omove (v := .tuple #[.int .u32 0, .int .i64 3]) rfl rfl (ev rfl rfl) ?_)
 refine wl rfl (oextract (vs := [.int .u32 0, .int .i64 3]) (v := .int .u32 0) rfl rfl (ev rfl rfl) rfl ?_)
 refine wl rfl (oextract (vs := [.int .u32 0, .int .i64 3]) (v := .int .i64 3) rfl rfl (ev rfl rfl) rfl ?_)
 refine wl rfl (oassign (v := .int .u32 0) rfl rfl (ev rfl rfl) ?_)
 refine wl rfl (oassign (v := .int .i64 3) rfl rfl (ev rfl rfl) ?_)
 refine wnil (thenN (wseq (wreg (wl rfl (omove (v := .slice pm nm cm) rfl rfl (ev rfl rfl) ?_)))))
 refine wl rfl (omove (v := .int .u32 (p : Int)) rfl rfl (ev rfl rfl) ?_)
 refine wl rfl (ocall rfl rfl Tryd.call22 rfl (wxdet3 (ht.at hS) (hm.at hS) hp2 hs hp hr hq) (args2 (ev rfl rfl) (ev rfl rfl)) ?_)
 rintro _ w3 ⟨_, _, rfl, ⟨rfl, rfl⟩, hN⟩
 refine ⟨_, rfl, ?_⟩
 replace hS := hS.news hN; clear hN
 refine wl rfl (omove (v := .tuple #[.int .u32 0, .int .i64 3]) rfl rfl (ev rfl rfl) ?_)
 refine wl rfl (oextract (vs := [.int .u32 0, .int .i64 3]) (v := .int .u32 0) rfl rfl (ev rfl rfl) rfl ?_)
 refine wl rfl (oextract (vs := [.int .u32 0, .int .i64 3]) (v := .int .i64 3) rfl rfl (ev rfl rfl) rfl ?_)
 refine wl rfl (oassign (v := .int .u32 0) rfl rfl (ev rfl rfl) ?_)
 refine wl rfl (oassign (v := .int .i64 3) rfl rfl (ev rfl rfl) ?_)
 refine wnil (thenN (wseq (wreg (wl rfl (omove (v := .int .u32 (p : Int)) rfl rfl (ev rfl rfl) ?_)))))
 refine wl rfl (omove (v := .slice pm nm cm) rfl rfl (ev rfl rfl) ?_)
 refine wl rfl (ocall rfl rfl Tryd.call14 rfl (wlsquare3 (hm.at hS) hp2 (hp) (hr) (hq)) (args2 (ev rfl rfl) (ev rfl rfl)) ?_)
 rintro _ w4 ⟨_, _, rfl, ⟨rfl, rfl⟩, hN⟩
 refine ⟨_, rfl, ?_⟩
 replace hS := hS.news hN; clear hN
 refine wl rfl (oassign (v := .int .i64 3) rfl rfl (ev rfl rfl) ?_)
 refine wnil (thenN (wseq (wseq (wreg (wl rfl (omove (v := .int .i64 3) rfl rfl (ev rfl rfl) ?_))))))
 refine wl rfl (obin (u := .int .i64 3) (v := .int .i64 0) (z := .bool true) rfl rfl (ev rfl rfl) evc (bin_neq (by decide)) ?_)
 refine wnil (thenN ?_)
 refine wT (ev rfl rfl) ?_
 refine wseq (wreg (wl rfl (omove (v := .slice none 0 0) rfl rfl (ev rfl rfl) ?_)))
 refine wl rfl (omove (v := .int .i64 3) rfl rfl (ev rfl rfl) ?_)
 refine wl rfl (omove (v := .int .i64 3) rfl rfl (ev rfl rfl) ?_)
 refine wl rfl (ocall rfl rfl Tryd.call15 rfl (wltoldE (by decide)) (args4 (ev rfl rfl) (ev rfl rfl) evc (ev rfl rfl)) ?_)
 rintro _ w5 ⟨_, _, rfl, ⟨rfl, rfl⟩, hN⟩
 refine ⟨_, rfl, ?_⟩
 replace hS := hS.news hN; clear hN
 refine wl rfl (omove (v := .bool true) rfl rfl (ev rfl rfl) ?_)
 refine wlOn (e := 44) rfl rfl rfl rfl (omove (v := .int .u32 0) rfl rfl (ev rfl rfl) ?_)
 refine wlOn (e := 44) rfl rfl rfl rfl (omove (v := .int .i64 3) rfl rfl (ev rfl rfl) ?_)
 refine wlOn (e := 44) rfl rfl rfl rfl (omove (v := .int .i64 3) rfl rfl (ev rfl rfl) ?_)
 refine wlOn (e := 44) rfl rfl rfl rfl (ocall rfl rfl Tryd.call27 rfl (wlnumberE (by decide)) (args4 (ev rfl rfl) (ev rfl rfl) evc (ev rfl rfl)) ?_)
 rintro _ w6 ⟨_, _, rfl, ⟨rfl, rfl⟩, hN⟩
 refine ⟨_, rfl, ?_⟩
 replace hS := hS.news hN; clear hN
 refine wl rfl (opick (b := true) (v := .bool true) rfl rfl (ev rfl rfl) (ev rfl rfl) ?_)
 refine wl rfl (omove (v := .bool true) rfl rfl (ev rfl rfl) ?_)
 refine wlOn (e := 50) rfl rfl rfl rfl (omove (v := .int .u32 0) rfl rfl (ev rfl rfl) ?_)
 refine wlOn (e := 50) rfl rfl rfl rfl (omove (v := .int .i64 3) rfl rfl (ev rfl rfl) ?_)
 refine wlOn (e := 50) rfl rfl rfl rfl (omove (v := .int .i64 3) rfl rfl (ev rfl rfl) ?_)
 refine wlOn (e := 50) rfl rfl rfl rfl (ocall rfl rfl Tryd.call27 rfl (wlnumberE (by decide)) (args4 (ev rfl rfl) (ev rfl rfl) evc (ev rfl rfl)) ?_)
 rintro _ w7 ⟨_, _, rfl, ⟨rfl, rfl⟩, hN⟩
 refine ⟨_, rfl, ?_⟩
 replace hS := hS.news hN; clear hN
 refine wl rfl (opick (b := true) (v := .bool true) rfl rfl (ev rfl rfl) (ev rfl rfl) ?_)
 refine wl rfl (omove (v := .bool true) rfl rfl (ev rfl rfl) ?_)
 refine wlOn (e := 56) rfl rfl rfl rfl (ocall rfl rfl Tryd.call12 rfl (wxawake (ht.at hS)) (args0 ) ?_)
 rintro _ w8 ⟨_, _, rfl, ⟨rfl, rfl⟩, hN⟩
 refine ⟨_, rfl, ?_⟩
 replace hS := hS.news hN; clear hN
 refine wl rfl (opick (b := true) (v := .bool true) rfl rfl (ev rfl rfl) (ev rfl rfl) ?_)
 refine wl rfl (oassign (v := .bool true) rfl rfl (ev rfl rfl) ?_)
 refine wnil (thenN ?_)
 refine wleave ?_
 refine thenR ?_
 refine wret1 Tryd.results8 (tellT (v := .bool true) rfl rfl) ?_
 exact ⟨_, _, rfl, isI, hS.new0⟩
theorem modmatPowers_ok {pm : Option Addr} {nm cm p e0 : Nat} {M : List (List Nat)} {w : World} (ht : Tb w) (hm : MS w pm nm M) (hp2 : p < 4294967296) (hs : SmallM M) (hp : MR.Pr p) (hr : RectM M) (h0 : M.length ≠ 0) (hq : M.length = colsM M) (he0 : e0 < 18446744073709551616) :
  Calls Tryd.prog 8 #[.slice pm nm cm, .int .u64 ((e0 : Nat) : Int), .int .u32 ((p : Nat) : Int)] w (Ret (Is (.bool true)) w) := by
 obtain rfl := hm.1
 have hp1 : 1 < p := by have := hp.1; omega
 have hp0 : 0 < p := by omega
 have hcb := hs.cols
 have hM9 : Sq p (colsM M) (modM p M) := ⟨hr.shp hp0, by rw [modM_len]; exact hq⟩
 obtain ⟨W, hW⟩ : ∃ W, powG p (colsM M) (idM (colsM M)) (modM p M) e0 = W := ⟨_, rfl⟩
 have hWs : Sq p (colsM M) W := by rw [← hW]; exact powG_len hp0 _ (Sq.one hp1) hM9
 have hWl := hWs.2
 have hW2 : powG p M.length (idM M.length) (modM p M) e0 = W := by rw [hq]; exact hW
 obtain ⟨d, hd⟩ : ∃ d, detTo p (modM p M) (colsM M) = d := ⟨_, rfl⟩
 have hd2 : detTo p (modM p M) M.length = d := by rw [hq]; exact hd
 have hS := Sep.init w
 refine went Tryd.func8 rfl (n := 99) rfl rfl ?_
 refine wseq (wreg (wl rfl (oassign (v := .bool false) rfl rfl evc ?_)))
 refine wnil (thenN (wseq (wreg (wl rfl (omove (v := .slice pm M.length cm) rfl rfl (ev rfl rfl) ?_)))))
 refine wl rfl (omove (v := .int .u64 (e0 : Int)) rfl rfl (ev rfl rfl) ?_)
 refine wl rfl (omove (v := .int .u32 (p : Int)) rfl rfl (ev rfl rfl) ?_)
 refine wl rfl (ocall rfl rfl Tryd.call25 rfl ((show Calls _ _ _ _ (Ret (MmE W 0) _) from by have h9 := wxpow (cm := cm) (ht.at hS) (hm.at hS) hp2 hs hp hr h0 hq he0; rwa [hW] at h9)) (args3 (ev rfl rfl) (ev rfl rfl) (ev rfl rfl)) ?_)
 rintro _ w1 ⟨_, _, rfl, ⟨pV, cV, QV, hQV, rfl, rfl⟩, hN⟩
 refine ⟨_, rfl, ?_⟩
 replace hS := hS.news hN; clear hN
 refine wl rfl (omove (v := .tuple #[.slice pV W.length cV, .int .i64 0]) rfl rfl (ev rfl rfl) ?_)
 refine wl rfl (oextract (vs := [.slice pV W.length cV, .int .i64 0]) (v := .slice pV W.length cV) rfl rfl (ev rfl rfl) rfl ?_)
 refine wl rfl (oextract (vs := [.slice pV W.length cV, .int .i64 0]) (v := .int .i64 0) rfl rfl (ev rfl rfl) rfl ?_)
 refine wl rfl (oassign (v := .slice pV W.length cV) rfl rfl (ev rfl rfl) ?_)
 refine wl rfl (oassign (v := .int .i64 0) rfl rfl (ev rfl rfl) ?_)
 refine wnil (thenN (wseq (wreg (wl rfl (omove (v := .slice pm M.length cm) rfl rfl (ev rfl rfl) ?_)))))
 refine wl rfl (omove (v := .int .u32 (p : Int)) rfl rfl (ev rfl rfl) ?_)
 refine wl rfl (ocall rfl rfl Tryd.call26 rfl (wxtrace (cm := cm) (ht.at hS) (hm.at hS) hp2 hs hp hr h0 hq) (args2 (ev rfl rfl) (ev rfl rfl)) ?_)
 rintro _ w2 ⟨_, _, rfl, ⟨rfl, rfl⟩, hN⟩
 refine ⟨_, rfl, ?_⟩
 replace hS := hS.news hN; clear hN
 refine wl rfl (omove (v := .tuple #[.int .u32 (((trTo p M M.length : Nat) : Int)), .int .i64 0]) rfl rfl (ev rfl rfl) ?_)
 refine wl rfl (oextract (vs := [.int .u32 (((trTo p M M.length : Nat) : Int)), .int .i64 0]) (v := .int .u32 (((trTo p M M.length : Nat) : Int))) rfl rfl (ev rfl rfl) rfl ?_)
 refine wl rfl (oextract (vs := [.int .u32 (((trTo p M M.length : Nat) : Int)), .int .i64 0]) (v := .int .i64 0) rfl rfl (ev rfl rfl) rfl ?_)
 refine wl rfl (oassign (v := .int .u32 (((trTo p M M.length : Nat) : Int))) rfl rfl (ev rfl rfl) ?_)
 refine wl rfl (oassign (v := .int .i64 0) rfl rfl (ev rfl rfl) ?_)
 refine wnil (thenN (wseq (wreg (wl rfl (omove (v := .slice pm M.length cm) rfl rfl (ev rfl rfl) ?_)))))
 refine wl rfl (omove (v := .int .u32 (p : Int)) rfl rfl (ev rfl rfl) ?_)
 refine wl rfl (ocall rfl rfl Tryd.call22 rfl ((show Calls _ _ _ _ (Ret (Is (.tuple #[.int .u32 (d : Int), .int .i64 0])) _) from by have h9 := wxdet (cm := cm) (ht.at hS) (hm.at hS) hp2 hs hp hr h0 hq; rwa [hd] at h9)) (args2 (ev rfl rfl) (ev rfl rfl)) ?_)
 rintro _ w3 ⟨_, _, rfl, ⟨rfl, rfl⟩, hN⟩
 refine ⟨_, rfl, ?_⟩
 replace hS := hS.news hN; clear hN
 refine wl rfl (omove (v := .tuple #[.int .u32 (d : Int), .int .i64 0]) rfl rfl (ev rfl rfl) ?_)
 refine wl rfl (oextract (vs := [.int .u32 (d : Int), .int .i64 0]) (v := .int .u32 (d : Int)) rfl rfl (ev rfl rfl) rfl ?_)
 refine wl rfl (oextract (vs := [.int .u32 (d : Int), .int .i64 0]) (v := .int .i64 0) rfl rfl (ev rfl rfl) rfl ?_)
 refine wl rfl (oassign (v := .int .u32 (d : Int)) rfl rfl (ev rfl rfl) ?_)
 refine wl rfl (oassign (v := .int .i64 0) rfl rfl (ev rfl rfl) ?_)
 refine wnil (thenN (wseq (wreg (wl rfl (omove (v := .int .u32 (p : Int)) rfl rfl (ev rfl rfl) ?_)))))
 refine wl rfl (omove (v := .slice pm M.length cm) rfl rfl (ev rfl rfl) ?_)
 refine wl rfl (ocall rfl rfl Tryd.call14 rfl (wlsquare0 (hm.at hS) hp2 (hp) (hr) (h0) (hq)) (args2 (ev rfl rfl) (ev rfl rfl)) ?_)
 rintro _ w4 ⟨_, _, rfl, ⟨rfl, rfl⟩, hN⟩
 refine ⟨_, rfl, ?_⟩
 replace hS := hS.news hN; clear hN
 refine wl rfl (oassign (v := .int .i64 0) rfl rfl (ev rfl rfl) ?_)
 refine wnil (thenN (wseq (wseq (wreg (wl rfl (omove (v := .int .i64 0) rfl rfl (ev rfl rfl) ?_))))))
 refine wl rfl (obin (u := .int .i64 0) (v := .int .i64 0) (z := .bool false) rfl rfl (ev rfl rfl) evc (bin_neq (by decide)) ?_)
 refine wnil (thenN ?_)
 refine wF (ev rfl rfl) ?_
 refine wskip (thenN (wseq (wreg (wl rfl (oassign (v := .int .u32 0) rfl rfl evc ?_)))))
 refine wnil (thenN (wseq (wseq (wreg (wl rfl (omove (v := .slice pm M.length cm) rfl rfl (ev rfl rfl) ?_))))))
 refine wl rfl (olen rfl rfl rfl Tryd.runUnderlying26 (p := pm) (k := M.length) (m := cm) (ev rfl rfl) ?_)
 refine wl rfl (omove (v := .int .i64 0) rfl rfl evc ?_)
 refine wnil (thenN (wblock ?_))
 refine wloop (σ := Nat) (fun i a9 w' => ∃ (fb : Nat → Value) (acc : Nat), a9 = act 99 (sets fb [(0, .slice pm M.length cm), (1, .int .u64 (e0 : Int)), (2, .int .u32 (p : Int)), (6, .bool false), (7, .slice pV W.length cV), (8, .int .i64 0), (9, .int .u32 (((trTo p M M.length : Nat) : Int))), (10, .int .i64 0), (11, .int .u32 (d : Int)), (12, .int .i64 0), (14, .int .u32 (acc : Int)), (60, .int .i64 (M.length : Int)), (61, .int .i64 (i : Int))]) ∧ Sep w [.lst 52 1 pV W.length cV (mmE QV)] w' ∧ (i ≤ M.length) ∧ (acc = trTo p M i) ∧ (acc < p)) (fun i => M.length - i) (0) ⟨_, 0, act_sets (l := [(0, .slice pm M.length cm), (1, .int .u64 (e0 : Int)), (2, .int .u32 (p : Int)), (6, .bool false), (7, .slice pV W.length cV), (8, .int .i64 0), (9, .int .u32 (((trTo p M M.length : Nat) : Int))), (10, .int .i64 0), (11, .int .u32 (d : Int)), (12, .int .i64 0), (14, .int .u32 0), (60, .int .i64 (M.length : Int)), (61, .int .i64 0)]) ⟨rfl, rfl, rfl, rfl, rfl, rfl, rfl, rfl, rfl, rfl, rfl, rfl, rfl, trivial⟩, hS, Nat.zero_le _, rfl, hp0⟩ ?_
 clear hS; rintro i _ w5 ⟨fb, acc, rfl, hS, hi, hacc, hal⟩
 refine wseq (wreg ?_)
 by_cases hlt : i < M.length
 ·
  refine wl rfl (obin (u := .int .i64 (i : Int)) (v := .int .i64 (M.length : Int)) (z := .bool true) rfl rfl (ev rfl rfl) (ev rfl rfl) (bin_lss (decide_eq_true (by omega))) ?_)
  refine wnil (thenN (wseq ?_))
  refine wT (ev rfl rfl) ?_
  refine wskip (thenN (wseq (wblock (wseq (wreg (wl rfl (omove (v := .int .i64 (i : Int)) rfl rfl (ev rfl rfl) ?_)))))))
  refine wl rfl (oassign (v := .int .i64 (i : Int)) rfl rfl (ev rfl rfl) ?_)
  refine wnil (thenN (wreg (wl rfl (omove (v := .int .u32 (acc : Int)) rfl rfl (ev rfl rfl) ?_))))
  refine wl rfl (omove (v := .slice pm M.length cm) rfl rfl (ev rfl rfl) ?_)
  refine wl rfl (omove (v := .int .i64 (i : Int)) rfl rfl (ev rfl rfl) ?_)
  obtain ⟨xr, hxr⟩ : ∃ r, (M)[i]? = some r := ⟨_, List.getElem?_eq_getElem (by have := hm.1; omega)⟩
  obtain ⟨br, ofr, pr, cr, hpr, hcr, hsr⟩ := hm.2.2 i _ hxr
  have hrl := hr xr (List.mem_of_getElem? hxr)
  have h2 := hsr.lims i (by omega)
  have hm9 := mod_lt32 (a := acc + nd xr i) hp0 hp2
  obtain ⟨bce, oce, hpce, hcce⟩ := hsr.el (show i < xr.length by omega)
  refine wl rfl (oindex (p := pm) (g := br) (off := ofr) (m := M.length) (k := i) (j := (ofr + i * 1)) rfl rfl Tryd.runUnderlying26 Tryd.sizeOf52 (ev rfl rfl) (hpr) (ev rfl rfl) (by omega) rfl ?_)
  refine wl rfl (oloadc (v := .slice pr xr.length cr) (show One Tryd.prog 52 from ⟨Tryd.isAgg52, Tryd.sizeOf52⟩) rfl rfl (ev (v := .pointer (some ⟨br, (ofr + i * 1), none⟩)) rfl rfl) (hS.cellAt (hcr 0 _ rfl)) ?_)
  refine wl rfl (omove (v := .int .i64 (i : Int)) rfl rfl (ev rfl rfl) ?_)
  refine wl rfl (oindex (p := pr) (g := bce) (off := oce) (m := xr.length) (k := i) (j := (oce + i * 1)) rfl rfl Tryd.runUnderlying52 Tryd.sizeOf27 (ev rfl rfl) (hpce) (ev rfl rfl) (by omega) rfl ?_)
  refine wl rfl (oloadc (v := .int .u32 (((nd xr i : Nat) : Int))) one32 rfl rfl (ev (v := .pointer (some ⟨bce, (oce + i * 1), none⟩)) rfl rfl) (hS.cellAt (hcce 0 _ rfl)) ?_)
  refine wl rfl (omove (v := .int .u32 (p : Int)) rfl rfl (ev rfl rfl) ?_)
  refine wl rfl (ocall rfl rfl Tryd.call28 rfl (wradd (a := acc) (b := (nd xr i)) (n := p) (by omega) (by omega) hp0 hp2) (args3 (ev rfl rfl) (ev rfl rfl) (ev rfl rfl)) ?_)
  rintro _ w6 ⟨_, _, rfl, ⟨rfl, rfl⟩, hN⟩
  refine ⟨_, rfl, ?_⟩
  replace hS := hS.news hN; clear hN
  refine wl rfl (oassign (v := .int .u32 ((((acc + (nd xr i)) % p : Nat) : Int))) rfl rfl (ev rfl rfl) ?_)
  refine wnil (blkN (thenN (wreg (wl rfl (obin (u := .int .i64 (i : Int)) (v := .int .i64 1) (z := .int .i64 (((i + 1 : Nat) : Int))) rfl rfl (ev rfl rfl) evc (bin_add (wrap_i64 (by omega) (by omega))) ?_)))))
  refine wl rfl (omove (v := .int .i64 (((i + 1 : Nat) : Int))) rfl rfl (ev rfl rfl) ?_)
  refine wnil (thenN ?_)
  exact ⟨(i + 1), ⟨_, _, act_sets (l := [(0, .slice pm M.length cm), (1, .int .u64 (e0 : Int)), (2, .int .u32 (p : Int)), (6, .bool false), (7, .slice pV W.length cV), (8, .int .i64 0), (9, .int .u32 (((trTo p M M.length : Nat) : Int))), (10, .int .i64 0), (11, .int .u32 (d : Int)), (12, .int .i64 0), (14, .int .u32 ((((acc + (nd xr i)) % p : Nat) : Int))), (60, .int .i64 (M.length : Int)), (61, .int .i64 (((i + 1 : Nat) : Int)))]) ⟨rfl, rfl, rfl, rfl, rfl, rfl, rfl, rfl, rfl, rfl, rfl, rfl, rfl, trivial⟩, hS.pick [0] (by decide) rfl, by omega, by rw [trTo, ← hacc, getD_get hxr, Nat.add_mod_mod], Nat.mod_lt _ hp0⟩, by omega⟩
 ·
  refine wl rfl (obin (u := .int .i64 (i : Int)) (v := .int .i64 (M.length : Int)) (z := .bool false) rfl rfl (ev rfl rfl) (ev rfl rfl) (bin_lss (decide_eq_false (by omega))) ?_)
  refine wnil (thenN (wseq ?_))
  refine wF (ev rfl rfl) ?_
  refine wexit ?_
  refine thenE ?_
  refine thenE ?_
  refine blkE ?_
  refine thenN (wseq (wreg (wl rfl (omove (v := .slice pV W.length cV) rfl rfl (ev rfl rfl) ?_))))
  refine wl rfl (omove (v := .int .i64 0) rfl rfl (ev rfl rfl) ?_)
  refine wl rfl (omove (v := .slice pm M.length cm) rfl rfl (ev rfl rfl) ?_)
  refine wl rfl (omove (v := .int .u64 (e0 : Int)) rfl rfl (ev rfl rfl) ?_)
  refine wl rfl (omove (v := .int .u32 (p : Int)) rfl rfl (ev rfl rfl) ?_)
  refine wl rfl (ocall rfl rfl Tryd.call29 rfl ((show Calls _ _ _ _ (Ret (MMn M.length W) _) from by have h9 := wrpow (cm := cm) (hm.at hS) hp1 hp2 hs hr hq he0; rwa [hW2] at h9)) (args3 (ev rfl rfl) (ev rfl rfl) (ev rfl rfl)) ?_)
  rintro _ w6 ⟨_, _, rfl, ⟨pI, cI, QI, hQI, rfl, rfl⟩, hN⟩
  refine ⟨_, rfl, ?_⟩
  replace hS := hS.news hN; clear hN
  obtain rfl : acc = trTo p M M.length := by rw [hacc, show i = M.length by omega]
  refine wl rfl (ocall rfl rfl Tryd.call15 rfl (wltold (show MS _ pV W.length W from by have h9 := hS.ms (n := W.length) 1 rfl (by simp only [maxLen]; omega); rwa [hQV] at h9) (show MS _ pI M.length W from by have h9 := hS.ms (n := M.length) 0 rfl (by simp only [maxLen]; omega); rwa [hQI] at h9) (hWs.small hcb)) (args4 (ev rfl rfl) (ev rfl rfl) (ev rfl rfl) evc) ?_)
  rintro _ w7 ⟨_, _, rfl, ⟨rfl, rfl⟩, hN⟩
  refine ⟨_, rfl, ?_⟩
  replace hS := hS.news hN; clear hN
  refine wl rfl (omove (v := .bool true) rfl rfl (ev rfl rfl) ?_)
  refine wlOn (e := 82) rfl rfl rfl rfl (omove (v := .int .u32 (((trTo p M M.length : Nat) : Int))) rfl rfl (ev rfl rfl) ?_)
  refine wlOn (e := 82) rfl rfl rfl rfl (omove (v := .int .i64 0) rfl rfl (ev rfl rfl) ?_)
  refine wlOn (e := 82) rfl rfl rfl rfl (omove (v := .int .u32 ((((trTo p M M.length) : Nat) : Int))) rfl rfl (ev rfl rfl) ?_)
  refine wlOn (e := 82) rfl rfl rfl rfl (ocall rfl rfl Tryd.call27 rfl (wlnumber) (args4 (ev rfl rfl) (ev rfl rfl) (ev rfl rfl) evc) ?_)
  rintro _ w8 ⟨_, _, rfl, ⟨rfl, rfl⟩, hN⟩
  refine ⟨_, rfl, ?_⟩
  replace hS := hS.news hN; clear hN
  refine wl rfl (opick (b := true) (v := .bool true) rfl rfl (ev rfl rfl) (ev rfl rfl) ?_)
  refine wl rfl (omove (v := .bool true) rfl rfl (ev rfl rfl) ?_)
  refine wlOn (e := 88) rfl rfl rfl rfl (omove (v := .int .u32 (d : Int)) rfl rfl (ev rfl rfl) ?_)
  refine wlOn (e := 88) rfl rfl rfl rfl (omove (v := .int .i64 0) rfl rfl (ev rfl rfl) ?_)
  refine wlOn (e := 88) rfl rfl rfl rfl (omove (v := .slice pm M.length cm) rfl rfl (ev rfl rfl) ?_)
  refine wlOn (e := 88) rfl rfl rfl rfl (omove (v := .int .u32 (p : Int)) rfl rfl (ev rfl rfl) ?_)
  refine wlOn (e := 88) rfl rfl rfl rfl (ocall rfl rfl Tryd.call30 rfl ((show Calls _ _ _ _ (Ret (Is (.int .u32 (d : Int))) _) from by have h9 := wrdet (cm := cm) (hm.at hS) hp hp2 hs hr h0 hq; rwa [hd2] at h9)) (args2 (ev rfl rfl) (ev rfl rfl)) ?_)
  rintro _ w9 ⟨_, _, rfl, ⟨rfl, rfl⟩, hN⟩
  refine ⟨_, rfl, ?_⟩
  replace hS := hS.news hN; clear hN
  refine wlOn (e := 88) rfl rfl rfl rfl (ocall rfl rfl Tryd.call27 rfl (wlnumber) (args4 (ev rfl rfl) (ev rfl rfl) (ev rfl rfl) evc) ?_)
  rintro _ w10 ⟨_, _, rfl, ⟨rfl, rfl⟩, hN⟩
  refine ⟨_, rfl, ?_⟩
  replace hS := hS.news hN; clear hN
  refine wl rfl (opick (b := true) (v := .bool true) rfl rfl (ev rfl rfl) (ev rfl rfl) ?_)
  refine wl rfl (omove (v := .bool true) rfl rfl (ev rfl rfl) ?_)
  refine wlOn (e := 96) rfl rfl rfl rfl (ocall rfl rfl Tryd.call12 rfl (wxawake (ht.at hS)) (args0 ) ?_)
  rintro _ w11 ⟨_, _, rfl, ⟨rfl, rfl⟩, hN⟩
  refine ⟨_, rfl, ?_⟩
  replace hS := hS.news hN; clear hN
  refine wl rfl (opick (b := true) (v := .bool true) rfl rfl (ev rfl rfl) (ev rfl rfl) ?_)
  refine wl rfl (oassign (v := .bool true) rfl rfl (ev rfl rfl) ?_)
  refine wnil (thenN ?_)
  refine wleave ?_
  refine wret1 Tryd.results8 (tellT (v := .bool true) rfl rfl) ?_
  exact ⟨_, _, rfl, isI, hS.new0⟩
theorem modmatPowers_walk {pm : Option Addr} {nm cm : Nat} {s s2 : Int} {M : List (List Nat)} {w : World} (hm : MS w pm nm M) (hs : SmallM M) (h1 : Tab w) (h2 : Bases w) (b0 : 0 ≤ s ∧ s ≤ 18446744073709551615) (b1 : 0 ≤ s2 ∧ s2 ≤ 4294967295) : Calls Tryd.prog 8 #[.slice pm nm cm, .int .u64 s, .int .u32 s2] w (RetB w true) := by
  obtain ⟨e0, rfl⟩ := Int.eq_ofNat_of_zero_le b0.1
  obtain ⟨p, rfl⟩ := Int.eq_ofNat_of_zero_le b1.1
  have he0 : e0 < 18446744073709551616 := by omega
  have hp2 : p < 4294967296 := by omega
  have ht : Tb w := ⟨h1, h2⟩
  by_cases hp : MR.Pr p
  case neg => exact Ret.bool (modmatPowers_40 ht hm hp2 hs hp)
  by_cases hr : RectM M
  case neg => exact Ret.bool (modmatPowers_2 ht hm hp2 hs hp hr)
  by_cases hq : M.length ≠ 0 ∧ M.length = colsM M
  case neg => exact Ret.bool (modmatPowers_3 ht hm hp2 hs hp hr hq)
  exact Ret.bool (modmatPowers_ok ht hm hp2 hs hp hr hq.1 hq.2 he0)
end Go.Proofs.YtndilfigdbenoaaDoor
