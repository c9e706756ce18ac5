
/-
  The walk of similelaw10.ModmatInverts.
-/
import Derived.Test.YtndilfigdbenoaaDoorMm11
import Derived.Test.YtndilfigdbenoaaDoorMmOpen
import Derived.Test.YtndilfigdbenoaaDoorLT
set_option linter.unusedVariables false
set_option linter.unusedSimpArgs false
set_option maxRecDepth 100000
set_option maxHeartbeats 16000000
namespace Go.Proofs.YtndilfigdbenoaaDoor
open Go.RowKit
theorem modmatInverts_40 {pm : Option Addr} {nm cm p : Nat} {M : List (List Nat)} {w : World} (ht : Tb w) (hm : MS w pm nm M) (hp2 : p < 4294967296) (hs : SmallM M) (hp : ¬ MR.Pr p) :
  Calls Tryd.prog 4 #[.slice pm nm cm, .int .u32 ((p : Nat) : Int)] w (Ret (Is (.bool true)) w) := by
 have hS := Sep.init w
 refine went Tryd.func4 rfl (n := 44) rfl rfl ?_
 refine wseq (wreg (wl rfl (oassign (v := .bool false) rfl rfl evc ?_)))
 refine wnil (thenN (wseq (wreg (wl rfl (omove (v := .slice pm nm cm) rfl rfl (ev rfl rfl) ?_)))))
 refine wl rfl (omove (v := .int .u32 (p : Int)) rfl rfl (ev rfl rfl) ?_)
 refine wl rfl (ocall rfl rfl Tryd.call13 rfl (wxinverse40 (ht.at hS) (hm.at hS) hp2 hs (hp)) (args2 (ev rfl rfl) (ev rfl rfl)) ?_)
 rintro _ w1 ⟨_, _, rfl, ⟨rfl, rfl⟩, hN⟩
 refine ⟨_, rfl, ?_⟩
 replace hS := hS.news hN; clear hN
 refine wl rfl (omove (v := .tuple #[.slice none 0 0, .int .i64 40]) rfl rfl (ev rfl rfl) ?_)
 refine wl rfl (oextract (vs := [.slice none 0 0, .int .i64 40]) (v := .slice none 0 0) rfl rfl (ev rfl rfl) rfl ?_)
 refine wl rfl (oextract (vs := [.slice none 0 0, .int .i64 40]) (v := .int .i64 40) rfl rfl (ev rfl rfl) rfl ?_)
 refine wl rfl (oassign (v := .slice none 0 0) rfl rfl (ev rfl rfl) ?_)
 refine wl rfl (oassign (v := .int .i64 40) rfl rfl (ev rfl rfl) ?_)
 refine wnil (thenN (wseq (wreg (wl rfl (omove (v := .int .u32 (p : Int)) rfl rfl (ev rfl rfl) ?_)))))
 refine wl rfl (omove (v := .slice pm nm cm) rfl rfl (ev rfl rfl) ?_)
 refine wl rfl (ocall rfl rfl Tryd.call14 rfl (wlsquare40 (hm.at hS) hp2 (hp)) (args2 (ev rfl rfl) (ev rfl rfl)) ?_)
 rintro _ w2 ⟨_, _, rfl, ⟨rfl, rfl⟩, hN⟩
 refine ⟨_, rfl, ?_⟩
 replace hS := hS.news hN; clear hN
 refine wl rfl (oassign (v := .int .i64 40) rfl rfl (ev rfl rfl) ?_)
 refine wnil (thenN (wseq (wseq (wreg (wl rfl (omove (v := .int .i64 40) rfl rfl (ev rfl rfl) ?_))))))
 refine wl rfl (obin (u := .int .i64 40) (v := .int .i64 0) (z := .bool true) rfl rfl (ev rfl rfl) evc (bin_neq (by decide)) ?_)
 refine wnil (thenN ?_)
 refine wT (ev rfl rfl) ?_
 refine wseq (wreg (wl rfl (omove (v := .slice none 0 0) rfl rfl (ev rfl rfl) ?_)))
 refine wl rfl (omove (v := .int .i64 40) rfl rfl (ev rfl rfl) ?_)
 refine wl rfl (omove (v := .int .i64 40) rfl rfl (ev rfl rfl) ?_)
 refine wl rfl (ocall rfl rfl Tryd.call15 rfl (wltoldE (by decide)) (args4 (ev rfl rfl) (ev rfl rfl) evc (ev rfl rfl)) ?_)
 rintro _ w3 ⟨_, _, rfl, ⟨rfl, rfl⟩, hN⟩
 refine ⟨_, rfl, ?_⟩
 replace hS := hS.news hN; clear hN
 refine wl rfl (omove (v := .bool true) rfl rfl (ev rfl rfl) ?_)
 refine wlOn (e := 25) rfl rfl rfl rfl (ocall rfl rfl Tryd.call12 rfl (wxawake (ht.at hS)) (args0 ) ?_)
 rintro _ w4 ⟨_, _, rfl, ⟨rfl, rfl⟩, hN⟩
 refine ⟨_, rfl, ?_⟩
 replace hS := hS.news hN; clear hN
 refine wl rfl (opick (b := true) (v := .bool true) rfl rfl (ev rfl rfl) (ev rfl rfl) ?_)
 refine wl rfl (oassign (v := .bool true) rfl rfl (ev rfl rfl) ?_)
 refine wnil (thenN ?_)
 refine wleave ?_
 refine thenR ?_
 refine wret1 Tryd.results4 (tellT (v := .bool true) rfl rfl) ?_
 exact ⟨_, _, rfl, isI, hS.new0⟩
theorem modmatInverts_2 {pm : Option Addr} {nm cm p : Nat} {M : List (List Nat)} {w : World} (ht : Tb w) (hm : MS w pm nm M) (hp2 : p < 4294967296) (hs : SmallM M) (hp : MR.Pr p) (hr : ¬ RectM M) :
  Calls Tryd.prog 4 #[.slice pm nm cm, .int .u32 ((p : Nat) : Int)] w (Ret (Is (.bool true)) w) := by
 have hS := Sep.init w
 refine went Tryd.func4 rfl (n := 44) rfl rfl ?_
 refine wseq (wreg (wl rfl (oassign (v := .bool false) rfl rfl evc ?_)))
 refine wnil (thenN (wseq (wreg (wl rfl (omove (v := .slice pm nm cm) rfl rfl (ev rfl rfl) ?_)))))
 refine wl rfl (omove (v := .int .u32 (p : Int)) rfl rfl (ev rfl rfl) ?_)
 refine wl rfl (ocall rfl rfl Tryd.call13 rfl (wxinverse2 (ht.at hS) (hm.at hS) hp2 hs (hp) (hr)) (args2 (ev rfl rfl) (ev rfl rfl)) ?_)
 rintro _ w1 ⟨_, _, rfl, ⟨rfl, rfl⟩, hN⟩
 refine ⟨_, rfl, ?_⟩
 replace hS := hS.news hN; clear hN
 refine wl rfl (omove (v := .tuple #[.slice none 0 0, .int .i64 2]) rfl rfl (ev rfl rfl) ?_)
 refine wl rfl (oextract (vs := [.slice none 0 0, .int .i64 2]) (v := .slice none 0 0) rfl rfl (ev rfl rfl) rfl ?_)
 refine wl rfl (oextract (vs := [.slice none 0 0, .int .i64 2]) (v := .int .i64 2) rfl rfl (ev rfl rfl) rfl ?_)
 refine wl rfl (oassign (v := .slice none 0 0) rfl rfl (ev rfl rfl) ?_)
 refine wl rfl (oassign (v := .int .i64 2) rfl rfl (ev rfl rfl) ?_)
 refine wnil (thenN (wseq (wreg (wl rfl (omove (v := .int .u32 (p : Int)) rfl rfl (ev rfl rfl) ?_)))))
 refine wl rfl (omove (v := .slice pm nm cm) rfl rfl (ev rfl rfl) ?_)
 refine wl rfl (ocall rfl rfl Tryd.call14 rfl (wlsquare2 (hm.at hS) hp2 (hp) (hr)) (args2 (ev rfl rfl) (ev rfl rfl)) ?_)
 rintro _ w2 ⟨_, _, rfl, ⟨rfl, rfl⟩, hN⟩
 refine ⟨_, rfl, ?_⟩
 replace hS := hS.news hN; clear hN
 refine wl rfl (oassign (v := .int .i64 2) rfl rfl (ev rfl rfl) ?_)
 refine wnil (thenN (wseq (wseq (wreg (wl rfl (omove (v := .int .i64 2) rfl rfl (ev rfl rfl) ?_))))))
 refine wl rfl (obin (u := .int .i64 2) (v := .int .i64 0) (z := .bool true) rfl rfl (ev rfl rfl) evc (bin_neq (by decide)) ?_)
 refine wnil (thenN ?_)
 refine wT (ev rfl rfl) ?_
 refine wseq (wreg (wl rfl (omove (v := .slice none 0 0) rfl rfl (ev rfl rfl) ?_)))
 refine wl rfl (omove (v := .int .i64 2) rfl rfl (ev rfl rfl) ?_)
 refine wl rfl (omove (v := .int .i64 2) rfl rfl (ev rfl rfl) ?_)
 refine wl rfl (ocall rfl rfl Tryd.call15 rfl (wltoldE (by decide)) (args4 (ev rfl rfl) (ev rfl rfl) evc (ev rfl rfl)) ?_)
 rintro _ w3 ⟨_, _, rfl, ⟨rfl, rfl⟩, hN⟩
 refine ⟨_, rfl, ?_⟩
 replace hS := hS.news hN; clear hN
 refine wl rfl (omove (v := .bool true) rfl rfl (ev rfl rfl) ?_)
 refine wlOn (e := 25) rfl rfl rfl rfl (ocall rfl rfl Tryd.call12 rfl (wxawake (ht.at hS)) (args0 ) ?_)
 rintro _ w4 ⟨_, _, rfl, ⟨rfl, rfl⟩, hN⟩
 refine ⟨_, rfl, ?_⟩
 replace hS := hS.news hN; clear hN
 refine wl rfl (opick (b := true) (v := .bool true) rfl rfl (ev rfl rfl) (ev rfl rfl) ?_)
 refine wl rfl (oassign (v := .bool true) rfl rfl (ev rfl rfl) ?_)
 refine wnil (thenN ?_)
 refine wleave ?_
 refine thenR ?_
 refine wret1 Tryd.results4 (tellT (v := .bool true) rfl rfl) ?_
 exact ⟨_, _, rfl, isI, hS.new0⟩
theorem modmatInverts_3 {pm : Option Addr} {nm cm p : Nat} {M : List (List Nat)} {w : World} (ht : Tb w) (hm : MS w pm nm M) (hp2 : p < 4294967296) (hs : SmallM M) (hp : MR.Pr p) (hr : RectM M) (hq : ¬ (M.length ≠ 0 ∧ M.length = colsM M)) :
  Calls Tryd.prog 4 #[.slice pm nm cm, .int .u32 ((p : Nat) : Int)] w (Ret (Is (.bool true)) w) := by
 have hS := Sep.init w
 refine went Tryd.func4 rfl (n := 44) rfl rfl ?_
 refine wseq (wreg (wl rfl (oassign (v := .bool false) rfl rfl evc ?_)))
 refine wnil (thenN (wseq (wreg (wl rfl (omove (v := .slice pm nm cm) rfl rfl (ev rfl rfl) ?_)))))
 refine wl rfl (omove (v := .int .u32 (p : Int)) rfl rfl (ev rfl rfl) ?_)
 refine wl rfl (ocall rfl rfl Tryd.call13 rfl (wxinverse3 (ht.at hS) (hm.at hS) hp2 hs (hp) (hr) (hq)) (args2 (ev rfl rfl) (ev rfl rfl)) ?_)
 rintro _ w1 ⟨_, _, rfl, ⟨rfl, rfl⟩, hN⟩
 refine ⟨_, rfl, ?_⟩
 replace hS := hS.news hN; clear hN
 refine wl rfl (omove (v := .tuple #[.slice none 0 0, .int .i64 3]) rfl rfl (ev rfl rfl) ?_)
 refine wl rfl (oextract (vs := [.slice none 0 0, .int .i64 3]) (v := .slice none 0 0) rfl rfl (ev rfl rfl) rfl ?_)
 refine wl rfl (oextract (vs := [.slice none 0 0, .int .i64 3]) (v := .int .i64 3) rfl rfl (ev rfl rfl) rfl ?_)
 refine wl rfl (oassign (v := .slice none 0 0) rfl rfl (ev rfl rfl) ?_)
 refine wl rfl (oassign (v := .int .i64 3) rfl rfl (ev rfl rfl) ?_)
 refine wnil (thenN (wseq (wreg (wl rfl (omove (v := .int .u32 (p : Int)) rfl rfl (ev rfl rfl) ?_)))))
 refine wl rfl (omove (v := .slice pm nm cm) rfl rfl (ev rfl rfl) ?_)
 refine wl rfl (ocall rfl rfl Tryd.call14 rfl (wlsquare3 (hm.at hS) hp2 (hp) (hr) (hq)) (args2 (ev rfl rfl) (ev rfl rfl)) ?_)
 rintro _ w2 ⟨_, _, rfl, ⟨rfl, rfl⟩, hN⟩
 refine ⟨_, rfl, ?_⟩
 replace hS := hS.news hN; clear hN
 refine wl rfl (oassign (v := .int .i64 3) rfl rfl (ev rfl rfl) ?_)
 refine wnil (thenN (wseq (wseq (wreg (wl rfl (omove (v := .int .i64 3) rfl rfl (ev rfl rfl) ?_))))))
 refine wl rfl (obin (u := .int .i64 3) (v := .int .i64 0) (z := .bool true) rfl rfl (ev rfl rfl) evc (bin_neq (by decide)) ?_)
 refine wnil (thenN ?_)
 refine wT (ev rfl rfl) ?_
 refine wseq (wreg (wl rfl (omove (v := .slice none 0 0) rfl rfl (ev rfl rfl) ?_)))
 refine wl rfl (omove (v := .int .i64 3) rfl rfl (ev rfl rfl) ?_)
 refine wl rfl (omove (v := .int .i64 3) rfl rfl (ev rfl rfl) ?_)
 refine wl rfl (ocall rfl rfl Tryd.call15 rfl (wltoldE (by decide)) (args4 (ev rfl rfl) (ev rfl rfl) evc (ev rfl rfl)) ?_)
 rintro _ w3 ⟨_, _, rfl, ⟨rfl, rfl⟩, hN⟩
 refine ⟨_, rfl, ?_⟩
 replace hS := hS.news hN; clear hN
 refine wl rfl (omove (v := .bool true) rfl rfl (ev rfl rfl) ?_)
 refine wlOn (e := 25) rfl rfl rfl rfl (ocall rfl rfl Tryd.call12 rfl (wxawake (ht.at hS)) (args0 ) ?_)
 rintro _ w4 ⟨_, _, rfl, ⟨rfl, rfl⟩, hN⟩
 refine ⟨_, rfl, ?_⟩
 replace hS := hS.news hN; clear hN
 refine wl rfl (opick (b := true) (v := .bool true) rfl rfl (ev rfl rfl) (ev rfl rfl) ?_)
 refine wl rfl (oassign (v := .bool true) rfl rfl (ev rfl rfl) ?_)
 refine wnil (thenN ?_)
 refine wleave ?_
 refine thenR ?_
 refine wret1 Tryd.results4 (tellT (v := .bool true) rfl rfl) ?_
 exact ⟨_, _, rfl, isI, hS.new0⟩
theorem modmatInverts_7 {pm : Option Addr} {nm cm p : Nat} {M : List (List Nat)} {w : World} (ht : Tb w) (hm : MS w pm nm M) (hp2 : p < 4294967296) (hs : SmallM M) (hp : MR.Pr p) (hr : RectM M) (h0 : M.length ≠ 0) (hq : M.length = colsM M) (hns : (redTo p (augM p M) (colsM M)).2.length < colsM M) :
  Calls Tryd.prog 4 #[.slice pm nm cm, .int .u32 ((p : Nat) : Int)] w (Ret (Is (.bool true)) w) := by
 have hS := Sep.init w
 refine went Tryd.func4 rfl (n := 44) rfl rfl ?_
 refine wseq (wreg (wl rfl (oassign (v := .bool false) rfl rfl evc ?_)))
 refine wnil (thenN (wseq (wreg (wl rfl (omove (v := .slice pm nm cm) rfl rfl (ev rfl rfl) ?_)))))
 refine wl rfl (omove (v := .int .u32 (p : Int)) rfl rfl (ev rfl rfl) ?_)
 refine wl rfl (ocall rfl rfl Tryd.call13 rfl (wxinverse7 (ht.at hS) (hm.at hS) hp2 hs hp hr h0 hq hns) (args2 (ev rfl rfl) (ev rfl rfl)) ?_)
 rintro _ w1 ⟨_, _, rfl, ⟨rfl, rfl⟩, hN⟩
 refine ⟨_, rfl, ?_⟩
 replace hS := hS.news hN; clear hN
 refine wl rfl (omove (v := .tuple #[.slice none 0 0, .int .i64 7]) rfl rfl (ev rfl rfl) ?_)
 refine wl rfl (oextract (vs := [.slice none 0 0, .int .i64 7]) (v := .slice none 0 0) rfl rfl (ev rfl rfl) rfl ?_)
 refine wl rfl (oextract (vs := [.slice none 0 0, .int .i64 7]) (v := .int .i64 7) rfl rfl (ev rfl rfl) rfl ?_)
 refine wl rfl (oassign (v := .slice none 0 0) rfl rfl (ev rfl rfl) ?_)
 refine wl rfl (oassign (v := .int .i64 7) rfl rfl (ev rfl rfl) ?_)
 refine wnil (thenN (wseq (wreg (wl rfl (omove (v := .int .u32 (p : Int)) rfl rfl (ev rfl rfl) ?_)))))
 refine wl rfl (omove (v := .slice pm nm cm) rfl rfl (ev rfl rfl) ?_)
 refine wl rfl (ocall rfl rfl Tryd.call14 rfl (wlsquare0 (hm.at hS) hp2 (hp) (hr) (h0) (hq)) (args2 (ev rfl rfl) (ev rfl rfl)) ?_)
 rintro _ w2 ⟨_, _, rfl, ⟨rfl, rfl⟩, hN⟩
 refine ⟨_, rfl, ?_⟩
 replace hS := hS.news hN; clear hN
 refine wl rfl (oassign (v := .int .i64 0) rfl rfl (ev rfl rfl) ?_)
 refine wnil (thenN (wseq (wseq (wreg (wl rfl (omove (v := .int .i64 0) rfl rfl (ev rfl rfl) ?_))))))
 refine wl rfl (obin (u := .int .i64 0) (v := .int .i64 0) (z := .bool false) rfl rfl (ev rfl rfl) evc (bin_neq (by decide)) ?_)
 refine wnil (thenN ?_)
 refine wF (ev rfl rfl) ?_
 refine wskip (thenN (wseq (wreg (wl rfl (omove (v := .slice pm nm cm) rfl rfl (ev rfl rfl) ?_)))))
 refine wl rfl (omove (v := .int .u32 (p : Int)) rfl rfl (ev rfl rfl) ?_)
 refine wl rfl (ocall rfl rfl Tryd.call16 rfl (wrinverseF (hm.at hS) hp.1 hp2 hs hr h0 hq hns) (args2 (ev rfl rfl) (ev rfl rfl)) ?_)
 rintro _ w3 ⟨_, _, rfl, ⟨rfl, rfl⟩, hN⟩
 refine ⟨_, rfl, ?_⟩
 replace hS := hS.news hN; clear hN
 refine wl rfl (omove (v := .tuple #[.slice none 0 0, .bool false]) rfl rfl (ev rfl rfl) ?_)
 refine wl rfl (oextract (vs := [.slice none 0 0, .bool false]) (v := .slice none 0 0) rfl rfl (ev rfl rfl) rfl ?_)
 refine wl rfl (oextract (vs := [.slice none 0 0, .bool false]) (v := .bool false) rfl rfl (ev rfl rfl) rfl ?_)
 refine wl rfl (oassign (v := .slice none 0 0) rfl rfl (ev rfl rfl) ?_)
 refine wl rfl (oassign (v := .bool false) rfl rfl (ev rfl rfl) ?_)
 refine wnil (thenN (wseq (wseq (wreg (wl rfl (omove (v := .bool false) rfl rfl (ev rfl rfl) ?_))))))
 refine wl rfl (onot (b := false) rfl rfl (ev rfl rfl) ?_)
 refine wnil (thenN ?_)
 refine wT (ev rfl rfl) ?_
 refine wreg (wl rfl (oassign (v := .int .i64 7) rfl rfl evc ?_))
 refine wnil (thenN (wseq (wreg (wl rfl (omove (v := .slice none 0 0) rfl rfl (ev rfl rfl) ?_)))))
 refine wl rfl (omove (v := .int .i64 7) rfl rfl (ev rfl rfl) ?_)
 refine wl rfl (omove (v := .slice none 0 0) rfl rfl (ev rfl rfl) ?_)
 refine wl rfl (omove (v := .int .i64 7) rfl rfl (ev rfl rfl) ?_)
 refine wl rfl (ocall rfl rfl Tryd.call15 rfl (wltoldE (by decide)) (args4 (ev rfl rfl) (ev rfl rfl) (ev rfl rfl) (ev rfl rfl)) ?_)
 rintro _ w4 ⟨_, _, rfl, ⟨rfl, rfl⟩, hN⟩
 refine ⟨_, rfl, ?_⟩
 replace hS := hS.news hN; clear hN
 refine wl rfl (omove (v := .bool true) rfl rfl (ev rfl rfl) ?_)
 refine wlOn (e := 41) rfl rfl rfl rfl (ocall rfl rfl Tryd.call12 rfl (wxawake (ht.at hS)) (args0 ) ?_)
 rintro _ w5 ⟨_, _, rfl, ⟨rfl, rfl⟩, hN⟩
 refine ⟨_, rfl, ?_⟩
 replace hS := hS.news hN; clear hN
 refine wl rfl (opick (b := true) (v := .bool true) rfl rfl (ev rfl rfl) (ev rfl rfl) ?_)
 refine wl rfl (oassign (v := .bool true) rfl rfl (ev rfl rfl) ?_)
 refine wnil (thenN ?_)
 refine wleave ?_
 refine wret1 Tryd.results4 (tellT (v := .bool true) rfl rfl) ?_
 exact ⟨_, _, rfl, isI, hS.new0⟩
theorem modmatInverts_ok {pm : Option Addr} {nm cm p : Nat} {M : List (List Nat)} {w : World} (ht : Tb w) (hm : MS w pm nm M) (hp2 : p < 4294967296) (hs : SmallM M) (hp : MR.Pr p) (hr : RectM M) (h0 : M.length ≠ 0) (hq : M.length = colsM M) (hns : ¬ (redTo p (augM p M) (colsM M)).2.length < colsM M) :
  Calls Tryd.prog 4 #[.slice pm nm cm, .int .u32 ((p : Nat) : Int)] w (Ret (Is (.bool true)) w) := by
 have hp1 := hp.1
 have hnm := hm.1
 have hcb := hs.cols
 have hsl := hs.1
 obtain ⟨N, hN⟩ : ∃ N, (redTo p (augM p M) (colsM M)).1.map (·.drop (colsM M)) = N := ⟨_, rfl⟩
 obtain ⟨i1, i2, _⟩ := redTo_inv (augM_shp (p := p) (by omega) hr hq) (show 0 < p by omega) (colsM M)
 rw [augM_len] at i1
 have hNl : N.length = nm := by rw [← hN, List.length_map, i1]; exact hnm
 have hsN : SmallM N := by rw [← hN]; exact map_drop_small i2 (by omega) (by omega)
 clear i1 i2
 have hS := Sep.init w
 refine went Tryd.func4 rfl (n := 44) rfl rfl ?_
 refine wseq (wreg (wl rfl (oassign (v := .bool false) rfl rfl evc ?_)))
 refine wnil (thenN (wseq (wreg (wl rfl (omove (v := .slice pm nm cm) rfl rfl (ev rfl rfl) ?_)))))
 refine wl rfl (omove (v := .int .u32 (p : Int)) rfl rfl (ev rfl rfl) ?_)
 refine wl rfl (ocall rfl rfl Tryd.call13 rfl ((show Calls _ _ _ _ (Ret (MmE N 0) _) from by have h9 := wxinverse (cm := cm) (ht.at hS) (hm.at hS) hp2 hs hp hr h0 hq hns; rwa [hN] at h9)) (args2 (ev rfl rfl) (ev rfl rfl)) ?_)
 rintro _ w1 ⟨_, _, rfl, ⟨pV, cV, QV, hQV, rfl, rfl⟩, hN⟩
 refine ⟨_, rfl, ?_⟩
 replace hS := hS.news hN; clear hN
 refine wl rfl (omove (v := .tuple #[.slice pV N.length cV, .int .i64 0]) rfl rfl (ev rfl rfl) ?_)
 refine wl rfl (oextract (vs := [.slice pV N.length cV, .int .i64 0]) (v := .slice pV N.length cV) rfl rfl (ev rfl rfl) rfl ?_)
 refine wl rfl (oextract (vs := [.slice pV N.length cV, .int .i64 0]) (v := .int .i64 0) rfl rfl (ev rfl rfl) rfl ?_)
 refine wl rfl (oassign (v := .slice pV N.length cV) rfl rfl (ev rfl rfl) ?_)
 refine wl rfl (oassign (v := .int .i64 0) rfl rfl (ev rfl rfl) ?_)
 refine wnil (thenN (wseq (wreg (wl rfl (omove (v := .int .u32 (p : Int)) rfl rfl (ev rfl rfl) ?_)))))
 refine wl rfl (omove (v := .slice pm nm cm) rfl rfl (ev rfl rfl) ?_)
 refine wl rfl (ocall rfl rfl Tryd.call14 rfl (wlsquare0 (hm.at hS) hp2 (hp) (hr) (h0) (hq)) (args2 (ev rfl rfl) (ev rfl rfl)) ?_)
 rintro _ w2 ⟨_, _, rfl, ⟨rfl, rfl⟩, hN⟩
 refine ⟨_, rfl, ?_⟩
 replace hS := hS.news hN; clear hN
 refine wl rfl (oassign (v := .int .i64 0) rfl rfl (ev rfl rfl) ?_)
 refine wnil (thenN (wseq (wseq (wreg (wl rfl (omove (v := .int .i64 0) rfl rfl (ev rfl rfl) ?_))))))
 refine wl rfl (obin (u := .int .i64 0) (v := .int .i64 0) (z := .bool false) rfl rfl (ev rfl rfl) evc (bin_neq (by decide)) ?_)
 refine wnil (thenN ?_)
 refine wF (ev rfl rfl) ?_
 refine wskip (thenN (wseq (wreg (wl rfl (omove (v := .slice pm nm cm) rfl rfl (ev rfl rfl) ?_)))))
 refine wl rfl (omove (v := .int .u32 (p : Int)) rfl rfl (ev rfl rfl) ?_)
 refine wl rfl (ocall rfl rfl Tryd.call16 rfl ((show Calls _ _ _ _ (Ret (InvR nm N) _) from by have h9 := wrinverse (cm := cm) (hm.at hS) hp.1 hp2 hs hr h0 hq hns; rwa [hN] at h9)) (args2 (ev rfl rfl) (ev rfl rfl)) ?_)
 rintro _ w3 ⟨_, _, rfl, ⟨pI, cI, pT, cT, QT, hII, hJI, rfl, rfl⟩, hN⟩
 refine ⟨_, rfl, ?_⟩
 replace hS := hS.news hN; clear hN
 refine wl rfl (omove (v := .tuple #[.slice pI nm cI, .bool true]) rfl rfl (ev rfl rfl) ?_)
 refine wl rfl (oextract (vs := [.slice pI nm cI, .bool true]) (v := .slice pI nm cI) rfl rfl (ev rfl rfl) rfl ?_)
 refine wl rfl (oextract (vs := [.slice pI nm cI, .bool true]) (v := .bool true) rfl rfl (ev rfl rfl) rfl ?_)
 refine wl rfl (oassign (v := .slice pI nm cI) rfl rfl (ev rfl rfl) ?_)
 refine wl rfl (oassign (v := .bool true) rfl rfl (ev rfl rfl) ?_)
 refine wnil (thenN (wseq (wseq (wreg (wl rfl (omove (v := .bool true) rfl rfl (ev rfl rfl) ?_))))))
 refine wl rfl (onot (b := true) rfl rfl (ev rfl rfl) ?_)
 refine wnil (thenN ?_)
 refine wF (ev rfl rfl) ?_
 refine wskip (thenN (wseq (wreg (wl rfl (omove (v := .slice pV N.length cV) rfl rfl (ev rfl rfl) ?_)))))
 refine wl rfl (omove (v := .int .i64 0) rfl rfl (ev rfl rfl) ?_)
 refine wl rfl (omove (v := .slice pI nm cI) rfl rfl (ev rfl rfl) ?_)
 refine wl rfl (omove (v := .int .i64 0) rfl rfl (ev rfl rfl) ?_)
 refine wl rfl (ocall rfl rfl Tryd.call15 rfl (wltold (M := N) (show MS _ pV N.length N from by have h9 := hS.ms (n := N.length) 2 rfl (by simp only [maxLen]; omega); rwa [hQV] at h9) (show MS _ pI nm N from by have h9 := hS.msD (n := nm) 0 1 rfl rfl (by simp only [maxLen]; omega) hJI; rwa [hII] at h9) hsN) (args4 (ev rfl rfl) (ev rfl rfl) (ev rfl rfl) (ev rfl rfl)) ?_)
 rintro _ w4 ⟨_, _, rfl, ⟨rfl, rfl⟩, hN⟩
 refine ⟨_, rfl, ?_⟩
 replace hS := hS.news hN; clear hN
 refine wl rfl (omove (v := .bool true) rfl rfl (ev rfl rfl) ?_)
 refine wlOn (e := 41) rfl rfl rfl rfl (ocall rfl rfl Tryd.call12 rfl (wxawake (ht.at hS)) (args0 ) ?_)
 rintro _ w5 ⟨_, _, rfl, ⟨rfl, rfl⟩, hN⟩
 refine ⟨_, rfl, ?_⟩
 replace hS := hS.news hN; clear hN
 refine wl rfl (opick (b := true) (v := .bool true) rfl rfl (ev rfl rfl) (ev rfl rfl) ?_)
 refine wl rfl (oassign (v := .bool true) rfl rfl (ev rfl rfl) ?_)
 refine wnil (thenN ?_)
 refine wleave ?_
 refine wret1 Tryd.results4 (tellT (v := .bool true) rfl rfl) ?_
 exact ⟨_, _, rfl, isI, hS.new0⟩
theorem modmatInverts_walk {pm : Option Addr} {nm cm : Nat} {s : Int} {M : List (List Nat)} {w : World} (hm : MS w pm nm M) (hs : SmallM M) (h1 : Tab w) (h2 : Bases w) (b1 : 0 ≤ s ∧ s ≤ 4294967295) : Calls Tryd.prog 4 #[.slice pm nm cm, .int .u32 s] w (RetB w true) := by
  obtain ⟨p, rfl⟩ := Int.eq_ofNat_of_zero_le b1.1
  have hp2 : p < 4294967296 := by omega
  have ht : Tb w := ⟨h1, h2⟩
  by_cases hp : MR.Pr p
  case neg => exact Ret.bool (modmatInverts_40 ht hm hp2 hs hp)
  by_cases hr : RectM M
  case neg => exact Ret.bool (modmatInverts_2 ht hm hp2 hs hp hr)
  by_cases hq : M.length ≠ 0 ∧ M.length = colsM M
  case neg => exact Ret.bool (modmatInverts_3 ht hm hp2 hs hp hr hq)
  by_cases hns : (redTo p (augM p M) (colsM M)).2.length < colsM M
  · exact Ret.bool (modmatInverts_7 ht hm hp2 hs hp hr hq.1 hq.2 hns)
  · exact Ret.bool (modmatInverts_ok ht hm hp2 hs hp hr hq.1 hq.2 hns)
end Go.Proofs.YtndilfigdbenoaaDoor
